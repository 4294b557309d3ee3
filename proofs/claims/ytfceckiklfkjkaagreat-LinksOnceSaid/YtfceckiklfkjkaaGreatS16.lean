import Derived.Test.YtfceckiklfkjkaaGreatS15
noncomputable section
namespace Go.Sx
open Go.RowKit
variable{P:Program}
def jy(θ:Nat->Nat):Cell->Cell
 | .ptr nm off=> .ptr (θ nm) off
 | .sl nm off len cap=> .sl (θ nm) off len cap
 | .aC nm sz a len=> .aC (θ nm) sz a len
 | .map nm=> .map (θ nm)
 | .yield nm=> .yield (θ nm)
 | .fn f fs dH=> .fn f (fs.map fun(a,b)=>(θ a,b)) (dH.map fun(a,b)=>(θ a,b))
 |c=>c
def jq(θ:Nat->Nat):AV->AV
 | .c x=> .c (jy θ x)
 | .agg l=> .agg (l.map (jy θ))
 | .ints k l n=> .ints k l n
def dB(θ:Nat->Nat):RV->RV
 | .one v=> .one (jq θ v)
 | .aF l=> .aF (l.map (jq θ))
 | .any=> .any
def mL(k:Nat):Cell->Bool
 | .ptr nm _=>Nat.blt nm k
 | .sl nm _ _ _=>Nat.blt nm k
 | .aC nm _ _ _=>Nat.blt nm k
 | .map nm=>Nat.blt nm k
 | .yield nm=>Nat.blt nm k
 | .fn _ fs dH=>fs.all (fun(a,_)=>Nat.blt a k) && dH.all (fun(a,_)=>Nat.blt a k)
 |_=>true
def qf(k:Nat):AV->Bool
 | .c x=>mL k x
 | .agg l=>l.all (mL k)
 | .ints .. =>true
def tp(k:Nat):RV->Bool
 | .one v=>qf k v
 | .aF l=>l.all (qf k)
 | .any=>true
def eU(k:Nat)(θ:Nat->Nat)(ρ:aM):aM:=⟨fun nm=>if nm<k then ρ (θ nm)else none,ρ.fz⟩
theorem cv{k:Nat}{θ:Nat->Nat}{ρ:aM}{nm:Nat}:(eU k θ ρ) nm=if nm<k then ρ (θ nm)else none:=rfl
theorem ew{a b:Nat}(h:Nat.blt a b=true):a<b:=by simpa[Nat.blt_eq]using h
section
variable{k:Nat}{θ:Nat->Nat}{ρ:aM}
theorem dF.small: ∀ {l:List (Nat×Nat)} {vs:List Value},l.all (fun(a,_)=>Nat.blt a k)=true->dF ρ (l.map fun(a,b)=>(θ a,b)) vs->dF (eU k θ ρ) l vs
 | [],_,_,h=>h
 |(a,b)::l,_,hi,⟨bl,c,vs',h1,h2,h3⟩=>by
  simp only[List.all_cons,Bool.and_eq_true]at hi;exact⟨bl,c,vs',by rw[cv,if_pos (ew hi.1)];exact h1,dF.small hi.2 h2,h3⟩
theorem CR.small {c:Cell}{v:Value}(hi:mL k c=true)(h:CR ρ (jy θ c) v):CR (eU k θ ρ) c v:=by
 cases c with
 |ptr nm off=>obtain⟨b,c,h1,h2⟩:=h;exact⟨b,c,by rw[cv,if_pos (ew hi)];exact h1,h2⟩
 |sl nm off len cap=>obtain⟨b,c,h1,h2⟩:=h;exact⟨b,c,by rw[cv,if_pos (ew hi)];exact h1,h2⟩
 |aC nm sz a len=>obtain⟨b,c,off,h1,h2⟩:=h;exact⟨b,c,off,by rw[cv,if_pos (ew hi)];exact h1,h2⟩
 |map nm=>obtain⟨b,c,h1,h2⟩:=h;exact⟨b,c,by rw[cv,if_pos (ew hi)];exact h1,h2⟩
 |yield nm=>obtain⟨b,c,h1,h2⟩:=h;exact⟨b,c,by rw[cv,if_pos (ew hi)];exact h1,h2⟩
 |fn f fs dH=>
  obtain⟨us,vs,h1,h2,h3⟩:=h;simp only[mL,Bool.and_eq_true]at hi;exact⟨us,vs,dF.small hi.1 h1,dF.small hi.2 h2,h3⟩
 |_=>exact h
theorem bt.small: ∀ {l:List Cell} {vs:List Value},l.all (mL k)=true->bt ρ (l.map (jy θ)) vs->bt (eU k θ ρ) l vs
 | [],_,_,h=>h
 |c::l,_,hi,⟨v,vs',h1,h2,h3⟩=>by
  simp only[List.all_cons,Bool.and_eq_true]at hi;exact⟨v,vs',h1.small hi.1,bt.small hi.2 h2,h3⟩
theorem bY.small {x:AV}{v:Value}(hi:qf k x=true)(h:bY ρ (jq θ x) v):bY (eU k θ ρ) x v:=by
 cases x with
 |c x=>exact CR.small hi h
 |agg l=>obtain⟨vs,h1,h2⟩:=h;exact⟨vs,bt.small hi h1,h2⟩
 |ints=>exact h
theorem eA.small: ∀ {l:List AV} {vs:List Value},l.all (qf k)=true->eA ρ (l.map (jq θ)) vs->eA (eU k θ ρ) l vs
 | [],_,_,h=>h
 |c::l,_,hi,⟨v,vs',h1,h2,h3⟩=>by
  simp only[List.all_cons,Bool.and_eq_true]at hi;exact⟨v,vs',h1.small hi.1,eA.small hi.2 h2,h3⟩
theorem bE.small {x:RV}{v:Value}(hi:tp k x=true)(h:bE ρ (dB θ x) v):bE (eU k θ ρ) x v:=by
 cases x with
 |one x=>exact bY.small hi h
 |aF l=>obtain⟨vs,h1,h2⟩:=h;exact⟨vs,eA.small hi h1,h2⟩
 |any=>trivial
theorem bo.small: ∀ {l:List RV} {vs:List Value},l.all (tp k)=true->bo ρ (l.map (dB θ)) vs->bo (eU k θ ρ) l vs
 | [],_,_,h=>h
 |c::l,_,hi,⟨v,vs',h1,h2,h3⟩=>by
  simp only[List.all_cons,Bool.and_eq_true]at hi;exact⟨v,vs',h1.small hi.1,bo.small hi.2 h2,h3⟩
end
def ft(k:Nat)(θ:Nat->Nat)(x y:ax):Prop:=x.wr=false/\∀ρ c o,cD ρ c y o->cD (eU k θ ρ) c x o
theorem ft.ints {k:Nat}{θ:Nat->Nat}{t:TypeId}{ro:Bool}{op:Option Nat}{kd:IntKind}{l:aj}{n:Nat}:ft k θ (.row t true op (.ints kd l n)) (.row t ro op (.ints kd l n)):=
 ⟨rfl,fun ρ c o ⟨vs,tail,fr,h1,h2,_,h4⟩=>⟨vs,tail,fr,h1,h2,(fun h=>by cases h),h4⟩⟩
theorem ft.aT {k:Nat}{θ:Nat->Nat}{t:TypeId}{ro:Bool}{op:Option Nat}{l:List Bool}{n:Nat}:ft k θ (.row t true op (.aT l n)) (.row t ro op (.aT l n)):=
 ⟨rfl,fun ρ c o ⟨vs,tail,fr,h1,h2,_,h4⟩=>⟨vs,tail,fr,h1,h2,(fun h=>by cases h),h4⟩⟩
theorem ft.cells {k:Nat}{θ:Nat->Nat}{t:TypeId}{ro:Bool}{op:Option Nat}{l:List Cell}(h:l.all (mL k)=true):ft k θ (.row t true op (.cells l)) (.row t ro op (.cells (l.map (jy θ)))):=
 ⟨rfl,fun ρ c o ⟨vs,tail,fr,h1,h2,_,h4⟩=>⟨vs,tail,fr,h1,bt.small h h2,(fun h=>by cases h),h4⟩⟩
theorem aU.small {f:FuncId}{args:List RV}{v:RV}{k:Nat}{hs:T ax}{θ:Nat->Nat}{s:S}(ht:cJ s)(hfn: ∃fn,P.funcs[f]? =some fn/\fn.body.isNone=false)
  (h0: ∀(ρ:aM) (w:World) (vs:List Value),bu ρ hs.get w->bW ρ k->bo ρ args vs->Calls P f vs.toArray w fun e w'=> ∃V ρ' hp' nx' L,e= .returned V/\bE ρ' v V/\dN ρ hs.get k w ρ' hp' nx' w' L)
  (hin: ∀nm x,hs.get nm=some x->nm<k/\∃y,s.hp.get (θ nm)=some y/\ft k θ x y) (ha:args.all (tp k)=true) (hv:ej v=true):
  aU P f (args.map (dB θ)) s v s []:=by
 refine aU.quiet ht hfn fun ρ w vs hr ha'=> ?_
 have hr0:bu (eU k θ ρ) hs.get w:=⟨fun nm x hx=>by
   obtain⟨aA,y,hy,_,hro⟩:=hin nm x hx;obtain⟨b,c,o,e1,e2,e3⟩:=hr.ok _ _ hy;exact⟨b,c,o,by rw[cv,if_pos aA];exact e1,e2,hro _ _ _ e3⟩,
  fun nm nm' x y b c c' hx hy hw=>by
   obtain⟨_,y,_,hro,_⟩:=hin nm x hx;rw[hro]at hw;(cases hw),
  fun b l h=>⟨(hr.fz b l h).1,fun nm x c hx hw=>by
   obtain⟨_,y,_,hro,_⟩:=hin nm x hx;rw[hro]at hw;cases hw⟩⟩
 have hf0:bW (eU k θ ρ) k:=fun nm h=>by rw[cv,if_neg (by omega)]
 refine(h0 _ w vs hr0 hf0 (ha'.small ha)).mono fun e w' ⟨V,ρ',hp',nx',L,e1,e2,st⟩=>⟨V,e1,e2.indep hv,?_⟩
 refine⟨st.os,st.tape,st.al,st.size,fun b hb=>st.frame b hb fun nm c hm aA=> ?_⟩
 obtain⟨x,h1,h2⟩:=st.aq nm hm aA;obtain⟨_,y,_,hro,_⟩:=hin nm x h1;rw[hro]at h2;cases h2
theorem Tr.small {g:FuncId}{fn:Func}{c:Code}(hf:P.funcs[g]? =some fn)(hb:fn.body=some c){args:List RV}{sl:T RV}{v:RV}{k:Nat}{hs:T ax}(htop:cJ ⟨.nil,hs,k,[]⟩)
  (hset:setArgs fn.ntmps args 0 .nil some=some sl)
  (h:Tr P fn.ntmps c ⟨sl,hs,k,[]⟩ fun x s1=>(x= .normal\/x= .ret)/\∃l,ba P fn.ntmps s1 fn.results.toList=some l/\c6 l=v)
  (ρ:aM) (w:World) (vs:List Value) (hr:bu ρ hs.get w) (hfr:bW ρ k) (ha:bo ρ args vs):Calls P g vs.toArray w fun e w'=> ∃V ρ' hp' nx' L,e= .returned V/\bE ρ' v V/\dN ρ hs.get k w ρ' hp' nx' w' L:=by
 refine(Tr.calls (s:=⟨.nil,hs,k,[]⟩) (Q:=fun v' _=>v'=v) hf hb hset htop h ρ w vs hr hfr ha).mono fun e w' hh=> ?_
 obtain⟨v',s',L,V,ρ',rfl,ab,e1,e2,e3,e4,st⟩:=hh;exact⟨V,ρ',_,_,L,e1,e2,st⟩
end Go.Sx
namespace Go.Sx
open Go.RowKit
variable{P:Program}
def xY(t:T ax):Nat->T ax->Option (T ax)
 | 0,r=>some r
 |m+1,r=>T.set depth r m (t.get m) fun r=>xY t m r
def cut(m M:Nat)(s:S):S:=match s with|⟨sl,hp,nx,_⟩=>if nx<=M/\m<=M then(match xY hp m .nil with|some t=>⟨sl,t,M,[]⟩|none=>⟨sl,hp,nx,[]⟩)else⟨sl,hp,nx,[]⟩
theorem JQ{t:T ax}: ∀ {m:Nat} {r r':T ax},xY t m r=some r'->∀j,r'.get j=if j<m then t.get j else r.get j
 | 0,r,r',h,j=>by simp only[xY,ae]at h;subst h;simp
 |m+1,r,r',h,j=>by
  unfold xY at h;obtain⟨t',h1,h2⟩:=T.bR _ _ _ _ _ _ h;rw[JQ h1,h2];by_cases e:j<m
  ·simp only[if_pos e,if_pos (show j<m+1 by omega)]
  ·by_cases e2:j=m
   ·subst e2;simp only[if_neg e,if_pos (show j<j+1 by omega)];rfl
   ·simp only[if_neg e,if_neg e2,if_neg (show¬j<m+1 by omega)]
theorem wP(c:Cell):jy id c=c:=by
 cases c with
 |fn f fs dH=>simp[jy]
 |_=>rfl
theorem Bt(x:AV):jq id x=x:=by
 cases x with
 |c x=>simp[jq,wP]
 |agg l=>simp only[jq];congr 1;exact(List.map_congr_left fun c _=>wP c).trans (List.map_id l)
 |ints=>rfl
theorem JX(x:RV):dB id x=x:=by
 cases x with
 |one x=>simp[dB,Bt]
 |aF l=>simp only[dB];congr 1;exact(List.map_congr_left fun c _=>Bt c).trans (List.map_id l)
 |any=>rfl
theorem bt.low {k:Nat}{ρ:aM}{l:List Cell}{vs:List Value}(hi:l.all (mL k)=true)(h:bt ρ l vs):bt (eU k id ρ) l vs:=by
 refine bt.small hi ?_;rw[show l.map (jy id)=l from(List.map_congr_left fun c _=>wP c).trans (List.map_id l)]
 exact h
theorem bY.low {k:Nat}{ρ:aM}{x:AV}{v:Value}(hi:qf k x=true)(h:bY ρ x v):bY (eU k id ρ) x v:=bY.small hi (by rw[Bt];exact h)
theorem CR.low {k:Nat}{ρ:aM}{x:Cell}{v:Value}(hi:mL k x=true)(h:CR ρ x v):CR (eU k id ρ) x v:=CR.small hi (by rw[wP];exact h)
theorem bE.low {k:Nat}{ρ:aM}{x:RV}{v:Value}(hi:tp k x=true)(h:bE ρ x v):bE (eU k id ρ) x v:=bE.small hi (by rw[JX];exact h)
theorem ct.low {k:Nat}{ρ:aM}: ∀ {l:List (Cell×AV)} {es:List MapEntry},l.all (fun p=>mL k p.1 && qf k p.2)=true->ct ρ l es->ct (eU k id ρ) l es
 | [],_,_,h=>h
 |(c,v)::l,_,hi,⟨e,es',h1,h2,h3,h4⟩=>by
  simp only[List.all_cons,Bool.and_eq_true]at hi;exact⟨e,es',CR.low hi.1.1 h1,bY.low hi.1.2 h2,ct.low hi.2 h3,h4⟩
theorem HR(k:Nat)(vk:Option IntKind)(l:ak):(gq vk l).all (fun p=>mL k p.1 && qf k p.2)=true:=by
 unfold gq;rw[List.all_eq_true];intro p hp;rw[List.mem_map]at hp;obtain⟨q,_,rfl⟩:=hp;cases vk<;>rfl
theorem GZ(k:Nat)(l:List (Int×List Int)):(iy l).all (fun p=>mL k p.1 && qf k p.2)=true:=by
 unfold iy;rw[List.all_eq_true];intro p hp;rw[List.mem_map]at hp;obtain⟨q,_,rfl⟩:=hp
 rfl
theorem HN(k:Nat)(l:List ByteArray):(gO l).all (fun p=>mL k p.1 && qf k p.2)=true:=by
 unfold gO;rw[List.all_eq_true];intro p hp;rw[List.mem_map]at hp;obtain⟨q,_,rfl⟩:=hp
 rfl
def yR(k:Nat):ax->Bool
 | .row _ _ _ (.cells l)=>l.all (mL k)
 | .row _ _ _ (.ints ..)=>true
 | .row _ _ _ (.aT ..)=>true
 | .map es=>es.all (fun p=>mL k p.1 && qf k p.2)
 | .dK .. =>true
 | .recs .. =>true
 | .aQ .. =>true
 | .mapR es=>es.all (fun p=>mL k p.1 && qf k p.2)
 | .loop _ sl _ _ _=>sl.all (tp k)
 | .iter .. =>true
 | .mapP es=>es.all (fun p=>mL k p.1 && qf k p.2)
 | .eE _=>true
 | .di _=>true
theorem cD.low {k:Nat}{ρ:aM}{c:Nat}{x:ax}{o:Obj}(hi:yR k x=true)(h:cD ρ c x o):cD (eU k id ρ) c x o:=by
 cases x with
 |row t ro opn b=>
  obtain⟨vs,tail,fr,h1,h2,h3⟩:=h;refine⟨vs,tail,fr,h1,?_,h3⟩;cases b with
  |cells l=>exact bt.low hi h2
  |ints=>exact h2
  |aT=>exact h2
 |map es=>obtain⟨aD,cl,h1,h2,h3⟩:=h;exact⟨aD,cl,h1,ct.low hi h2,h3⟩
 |dK=>exact h
 |recs=>exact h
 |aQ vk l=>obtain⟨aD,cl,h1,h2,h3⟩:=h;exact⟨aD,cl,h1,ct.low (HR k vk l) h2,h3⟩
 |mapR es=>obtain⟨aD,cl,h1,h2,h3⟩:=h;exact⟨aD,cl,h1,ct.low hi h2,h3⟩
 |loop=>obtain⟨r,h1,h2,h3⟩:=h;exact⟨r,h1,bo.small hi (by rw[show List.map (dB id) _=_ from(List.map_congr_left fun c _=>JX c).trans (List.map_id _)];exact h2),h3⟩
 |iter=>exact h
 |mapP es=>obtain⟨aD,cl,es',h1,h2,h3⟩:=h;exact⟨aD,cl,es',h1,ct.low hi h2,h3⟩
 |eE l=>obtain⟨aD,cl,h1,h2,h3⟩:=h;exact⟨aD,cl,h1,ct.low (GZ k l) h2,h3⟩
 |di l=>obtain⟨aD,cl,h1,h2,h3⟩:=h;exact⟨aD,cl,h1,ct.low (HN k l) h2,h3⟩
def Ob(n m:Nat)(sl:T RV)(hp:T ax):Bool:=
 (List.range n).all (fun t=>tp m ((sl.get t).getD fc)) &&(List.range m).all (fun i=>match hp.get i with|some b=>yR m b|none=>true)
def low(n m:Nat)(s:S):S:=match s with|⟨sl,hp,nx,_⟩=>bif Ob n m sl hp then(match xY hp m .nil with|some t=>⟨sl,t,m,[]⟩|none=>⟨sl,hp,nx,[]⟩)else⟨sl,hp,nx,[]⟩
theorem Tr.low {n m:Nat}{c:Code}{s:S}{Q:ag}(hm:s.nx<=m)(h:Tr P n c s fun x s'=>s'.nx>=m/\Q x (Sx.low n m s')):Tr P n c s Q:=fun ht ρ a w R=>by
 refine(h ht ρ a w R).mono fun e a w ⟨x,s',L,⟨hnx,h1⟩,h2,h3,ρ',h4,h5⟩=> ?_
 obtain⟨sl,hp,nx,lg⟩:=s';unfold Sx.low at h1;simp only at h1;cases hok:Ob n m sl hp with
 |false=>
  rw[hok]at h1;exact⟨x,_,L,h1,⟨h2.le,h2.aH,h2.top,h2.lt⟩,h3,ρ',⟨h4.sz,h4.df,h4.sl,h4.hp,h4.fresh⟩,h5⟩
 |true=>
  rw[hok]at h1;simp only[cond_true]at h1;cases hcut:xY hp m .nil with
  |none=>rw[hcut]at h1;exact⟨x,_,L,h1,⟨h2.le,h2.aH,h2.top,h2.lt⟩,h3,ρ',⟨h4.sz,h4.df,h4.sl,h4.hp,h4.fresh⟩,h5⟩
  |some t=>
   rw[hcut]at h1;have hg:=JQ hcut;have hget: ∀j x,t.get j=some x->hp.get j=some x/\j<m:=fun j x hx=>by
    rw[hg]at hx;by_cases e:j<m
    ·rw[if_pos e]at hx;exact⟨hx,e⟩
    ·rw[if_neg e,T.get_nil]at hx;cases hx
   simp only[Ob,Bool.and_eq_true,List.all_eq_true,List.mem_range]at hok;have hB: ∀j x,t.get j=some x->yR m x=true:=fun j x hx=>by
    obtain⟨g1,g2⟩:=hget j x hx;have:=hok.2 j g2;rw[g1]at this;exact this
   refine⟨x,⟨sl,t,m,[]⟩,L.filter (fun nm=>decide (nm<m)),h1,⟨hm,fun nm a b=> ?_,fun nm hn=> ?_,fun nm hn=> ?_⟩,h3,eU m id ρ',⟨h4.sz,h4.df,fun j=> ?_,⟨fun nm y hy=> ?_,fun nm nm' x y b c c' hx hy hw e1 e2=> ?_,fun b l hb=>⟨(h4.hp.fz b l hb).1,fun nm x c hx hw he=> ?_⟩⟩,fun nm hn=> ?_⟩,?_⟩
   ·show t.get nm=_;have:nm<m:=Nat.lt_of_lt_of_le a hm;rw[hg,if_pos this];exact h2.aH nm a (fun h=>b (List.mem_filter.2 ⟨h,by simpa using this⟩))
   ·show t.get nm=none;rw[hg,if_neg (by have:m<=nm:=hn;omega),T.get_nil]
   ·have:=(List.mem_filter.1 hn).2;simpa using this
   ·have:=h4.sl j;unfold slot at this ⊢;by_cases hj:j<n
    ·rw[if_pos hj]at this ⊢;exact bE.low (hok.1 j hj) this
    ·rw[if_neg hj]at this ⊢;exact bE.low (by rfl) this
   ·obtain⟨g1,g2⟩:=hget nm y hy;obtain⟨b,c,o,e1,e2,e3⟩:=h4.hp.ok nm y g1;exact⟨b,c,o,by rw[cv,if_pos g2];exact e1,e2,e3.low (hB nm y hy)⟩
   ·rw[cv,if_pos (hget _ _ hx).2]at e1;rw[cv,if_pos (hget _ _ hy).2]at e2;exact h4.hp.inj nm nm' x y b c c' (hget _ _ hx).1 (hget _ _ hy).1 hw e1 e2
   ·rw[cv,if_pos (hget _ _ hx).2]at he;exact(h4.hp.fz b l hb).2 nm x c (hget _ _ hx).1 hw he
   ·have:m<=nm:=hn;rw[cv,if_neg (by omega)]
   ·refine⟨hm,fun nm a=> ?_,fun nm a b=> ?_,h5.size,fun b hb hL=>h5.frame b hb fun nm c hmem aA=> ?_,fun nm b c hle he=> ?_,fun nm hmem aA=>h5.aq nm (List.mem_filter.1 hmem).1 aA,h5.os,h5.tape,h5.al,h5.je,fun b l h=>(h5.fzn b l h).imp id fun h=>h.imp id fun⟨nm,c,g1,g2,g3⟩=>⟨nm,c,List.mem_filter.2 ⟨g1,by simpa using Nat.lt_of_lt_of_le g2 hm⟩,g2,g3⟩⟩
    ·rw[cv,if_pos (Nat.lt_of_lt_of_le a hm)];exact h5.rho nm a
    ·have:nm<m:=Nat.lt_of_lt_of_le a hm;show t.get nm=_;rw[hg,if_pos this];exact h5.aH nm a (fun h=>b (List.mem_filter.2 ⟨h,by simpa using this⟩))
    ·exact hL nm c (List.mem_filter.2 ⟨hmem,by simpa using Nat.lt_of_lt_of_le aA hm⟩) aA
    ·rw[cv]at he;split at he
     ·rcases h5.new nm b c hle he with h|⟨bs,c0,g1,g2,g3⟩
      ·exact .inl h
      ·exact .inr ⟨bs,c0,List.mem_filter.2 ⟨g1,by simpa using Nat.lt_of_lt_of_le g2 hm⟩,g2,g3⟩
     ·cases he
theorem Tr.eG {Sg:FuncId->Option bg}(F:Fit P (fun f=>(Sg f).map bj)){fuel n:Nat}{c:Code}{s:S}{o:List (Nat×Bool)}{aH:List Nat}{m:Nat}{x:X}{s':S}{ps:List Prop}(hm:s.nx<=m)
  (h:az P Sg fuel n c s ⟨0,o,[]⟩ (fun x s Z=>some (x,Nat.ble m s.nx,Sx.low n m (Sx.aE aH n s),Z.ob))=some (x,true,s',ps)) (hp:aw ps) {Q:ag} (hq:Q x s'):Tr P n c s Q:=by
 refine Tr.low (m:=m) hm (Tr.aE (Q:=fun x s'=>s'.nx>=m/\Q x (Sx.low n m s')) aH ?_)
 intro ht ρ a w R;obtain⟨x1,s1,α',h1,h2⟩:=jA Sg fuel _ _ _ _ _ _ h;simp only[ae,af]at h1;obtain⟨rfl,hle,rfl,rfl⟩:=h1;have h3:=(h2 hp).2 (X×S) (fun x s=>some (x,s))
 obtain⟨x2,s2,L,mm,h4,ab,hw⟩:=jC F.ng F.mixed F.sums fuel _ _ _ _ _ ht h3;simp only[ae,af]at h4;obtain⟨rfl,rfl⟩:=h4;refine(hw ρ a w R).y.mono fun e a w hh=>⟨_,_,L,⟨?_,?_⟩,ab.n,hh⟩
 ·rw[(tE aH n s2).2];exact Nat.le_of_ble_eq_true hle
 ·exact hq
theorem fx{Sg:FuncId->Option bg}(F:Fit P (fun f=>(Sg f).map bj)){fuel:Nat}{g:FuncId}{args:List RV}{hs:T ax}{k:Nat}{o:List (Nat×Bool)}{v:RV}{ps:List Prop}(htop:cJ ⟨.nil,hs,k,[]⟩)
  (h:cO P Sg fuel g args ⟨.nil,hs,k,[]⟩ ⟨0,o,[]⟩ (fun v _ Z=>some (v,Z.ob))=some (v,ps)) (hp:aw ps) (ρ:aM) (w:World) (vs:List Value) (hr:bu ρ hs.get w) (hf:bW ρ k) (ha:bo ρ args vs):
  Calls P g vs.toArray w fun e w'=> ∃V ρ' hp' nx' L,e= .returned V/\bE ρ' v V/\dN ρ hs.get k w ρ' hp' nx' w' L:=by
 obtain⟨v1,s1,α',h1,h2⟩:=wo h;simp only[ae,af]at h1;obtain⟨rfl,rfl⟩:=h1;have h3:=(h2 hp).2 (RV×S) (fun v s=>some (v,s))
 obtain⟨v2,s2,L,h4,ci⟩:=jo F htop h3;simp only[ae,af]at h4;obtain⟨rfl,rfl⟩:=h4;exact(ci.run ρ w vs hr hf ha).mono fun e w' ⟨V,ρ',e1,e2,e3,e4,st⟩=>⟨V,ρ',_,_,L,e1,e2,st⟩
end Go.Sx
namespace Go.Sx
open Go.RowKit
variable{P:Program}
def pf(θ:Nat->Nat):List (Cell×AV)->List (Cell×AV):=List.map fun p=>(jy θ p.1,jq θ p.2)
def gu(θ:Nat->Nat):ax->ax
 | .row t ro o (.cells l)=> .row t ro o (.cells (l.map (jy θ)))
 | .row t ro o (.ints k l n)=> .row t ro o (.ints k l n)
 | .row t ro o (.aT l n)=> .row t ro o (.aT l n)
 | .map es=> .map (pf θ es)
 | .dK o k l=> .dK o k l
 | .recs o k l=> .recs o k l
 | .aQ vk l=> .aQ vk l
 | .mapR es=> .mapR (pf θ es)
 | .loop st sl ps aa bd=> .loop st (sl.map (dB θ)) ps aa bd
 | .iter s p=> .iter s p
 | .mapP es=> .mapP (pf θ es)
 | .eE l=> .eE l
 | .di l=> .di l
theorem fH(θ:Nat->Nat)(x:ax):(gu θ x).wr=x.wr:=by
 cases x with
 |row t ro o b=>cases b<;>rfl
 |_=>rfl
section up
variable{ρ ρ':aM}{θ:Nat->Nat}(h: ∀nm b,ρ nm=some b->ρ' (θ nm)=some b)(hz: ∀b l,ρ.fz b=some l->ρ'.fz b=some l)
include h hz
omit hz in
theorem dF.up: ∀ {l:List (Nat×Nat)} {vs:List Value},dF ρ l vs->dF ρ' (l.map fun(a,b)=>(θ a,b)) vs
 | [],_,hr=>hr
 |(_,_)::_,_,⟨b,c,vs',h1,h2,h3⟩=>⟨b,c,vs',h _ _ h1,dF.up h2,h3⟩
theorem CR.up {c:Cell}{v:Value}(hr:CR ρ c v):CR ρ' (jy θ c) v:=by
 cases c with
 |ptr nm off=>obtain⟨b,c,h1,h2⟩:=hr;exact⟨b,c,h _ _ h1,h2⟩
 |sl nm off len cap=>obtain⟨b,c,h1,h2⟩:=hr;exact⟨b,c,h _ _ h1,h2⟩
 |aC nm sz a len=>obtain⟨b,c,off,h1,h2⟩:=hr;exact⟨b,c,off,h _ _ h1,h2⟩
 |map nm=>obtain⟨b,c,h1,h2⟩:=hr;exact⟨b,c,h _ _ h1,h2⟩
 |yield nm=>obtain⟨b,c,h1,h2⟩:=hr;exact⟨b,c,h _ _ h1,h2⟩
 |fn f fs dH=>obtain⟨us,vs,h1,h2,h3⟩:=hr;exact⟨us,vs,dF.up h h1,dF.up h h2,h3⟩
 |dI l=>
  rcases hr with h0|⟨h0,b,c,h1,h2⟩
  ·exact .inl h0
  ·exact .inr ⟨h0,b,c,hz _ _ h1,h2⟩
 |vptr l i=>obtain⟨b,h1,h2⟩:=hr;exact⟨b,hz _ _ h1,h2⟩
 |_=>exact hr
theorem bt.up: ∀ {l:List Cell} {vs:List Value},bt ρ l vs->bt ρ' (l.map (jy θ)) vs
 | [],_,hr=>hr
 |_::_,_,⟨v,vs',h1,h2,h3⟩=>⟨v,vs',CR.up h hz h1,bt.up h2,h3⟩
theorem bY.up {x:AV}{v:Value}(hr:bY ρ x v):bY ρ' (jq θ x) v:=by
 cases x with
 |c x=>exact CR.up h hz hr
 |agg l=>obtain⟨vs,h1,h2⟩:=hr;exact⟨vs,bt.up h hz h1,h2⟩
 |ints=>exact hr
theorem eA.up: ∀ {l:List AV} {vs:List Value},eA ρ l vs->eA ρ' (l.map (jq θ)) vs
 | [],_,hr=>hr
 |_::_,_,⟨v,vs',h1,h2,h3⟩=>⟨v,vs',bY.up h hz h1,eA.up h2,h3⟩
theorem bE.up {x:RV}{v:Value}(hr:bE ρ x v):bE ρ' (dB θ x) v:=by
 cases x with
 |one x=>exact bY.up h hz hr
 |aF l=>obtain⟨vs,h1,h2⟩:=hr;exact⟨vs,eA.up h hz h1,h2⟩
 |any=>trivial
theorem bo.up: ∀ {l:List RV} {vs:List Value},bo ρ l vs->bo ρ' (l.map (dB θ)) vs
 | [],_,hr=>hr
 |_::_,_,⟨v,vs',h1,h2,h3⟩=>⟨v,vs',bE.up h hz h1,bo.up h2,h3⟩
theorem ct.up: ∀ {l:List (Cell×AV)} {es:List MapEntry},ct ρ l es->ct ρ' (pf θ l) es
 | [],_,hr=>hr
 |(_,_)::_,_,⟨e,es',h1,h2,h3,h4⟩=>⟨e,es',CR.up h hz h1,bY.up h hz h2,ct.up h3,h4⟩
omit h hz in
theorem Gf(vk:Option IntKind)(l:ak):pf θ (gq vk l)=gq vk l:=by
 unfold pf gq;rw[List.map_map];refine List.map_congr_left fun p _=> ?_
 cases vk<;>rfl
omit h hz in
theorem Hc(l:List (Int×List Int)):pf θ (iy l)=iy l:=by
 unfold pf iy;rw[List.map_map];exact List.map_congr_left fun p _=>rfl
omit h hz in
theorem GU(l:List ByteArray):pf θ (gO l)=gO l:=by
 unfold pf gO;rw[List.map_map];exact List.map_congr_left fun p _=>rfl
theorem cD.up {c:Nat}{x:ax}{o:Obj}(hr:cD ρ c x o):cD ρ' c (gu θ x) o:=by
 cases x with
 |row t ro opn b=>
  obtain⟨vs,tail,fr,h1,h2,h3⟩:=hr;cases b with
  |cells l=>exact⟨vs,tail,fr,h1,bt.up h hz h2,h3⟩
  |ints=>exact⟨vs,tail,fr,h1,h2,h3⟩
  |aT=>exact⟨vs,tail,fr,h1,h2,h3⟩
 |map es=>obtain⟨aD,cl,h1,h2,h3⟩:=hr;exact⟨aD,cl,h1,ct.up h hz h2,h3⟩
 |dK=>exact hr
 |recs=>exact hr
 |mapR es=>obtain⟨aD,cl,h1,h2,h3⟩:=hr;exact⟨aD,cl,h1,ct.up h hz h2,h3⟩
 |loop=>obtain⟨r,h1,h2,h3⟩:=hr;exact⟨r,h1,bo.up h hz h2,h3⟩
 |iter=>exact hr
 |mapP es=>obtain⟨aD,cl,es',h1,h2,h3⟩:=hr;exact⟨aD,cl,es',h1,ct.up h hz h2,h3⟩
 |aQ vk l=>
  obtain⟨aD,cl,h1,h2,h3⟩:=hr;refine⟨aD,cl,h1,?_,h3⟩;have:=ct.up h hz h2;rw[Gf]at this;exact this
 |eE l=>
  obtain⟨aD,cl,h1,h2,h3⟩:=hr;refine⟨aD,cl,h1,?_,h3⟩;have:=ct.up h hz h2;rw[Hc]at this;exact this
 |di l=>
  obtain⟨aD,cl,h1,h2,h3⟩:=hr;refine⟨aD,cl,h1,?_,h3⟩;have:=ct.up h hz h2;rw[GU]at this;exact this
end up
section down
variable{k:Nat}{θ:Nat->Nat}{ρ:aM}
theorem ct.small: ∀ {l:List (Cell×AV)} {es:List MapEntry},l.all (fun p=>mL k p.1 && qf k p.2)=true->ct ρ (pf θ l) es->ct (eU k θ ρ) l es
 | [],_,_,h=>h
 |(c,v)::l,_,hi,⟨e,es',h1,h2,h3,h4⟩=>by
  simp only[List.all_cons,Bool.and_eq_true]at hi;exact⟨e,es',CR.small hi.1.1 h1,bY.small hi.1.2 h2,ct.small hi.2 h3,h4⟩
theorem cD.small {c:Nat}{x:ax}{o:Obj}(hi:yR k x=true)(h:cD ρ c (gu θ x) o):cD (eU k θ ρ) c x o:=by
 cases x with
 |row t ro opn b=>
  cases b with
  |cells l=>obtain⟨vs,tail,fr,h1,h2,h3⟩:=h;exact⟨vs,tail,fr,h1,bt.small hi h2,h3⟩
  |ints=>exact h
  |aT=>exact h
 |map es=>obtain⟨aD,cl,h1,h2,h3⟩:=h;exact⟨aD,cl,h1,ct.small hi h2,h3⟩
 |dK=>exact h
 |recs=>exact h
 |mapR es=>obtain⟨aD,cl,h1,h2,h3⟩:=h;exact⟨aD,cl,h1,ct.small hi h2,h3⟩
 |loop=>obtain⟨r,h1,h2,h3⟩:=h;exact⟨r,h1,bo.small hi h2,h3⟩
 |iter=>exact h
 |mapP es=>obtain⟨aD,cl,es',h1,h2,h3⟩:=h;exact⟨aD,cl,es',h1,ct.small hi h2,h3⟩
 |aQ vk l=>
  obtain⟨aD,cl,h1,h2,h3⟩:=h;refine⟨aD,cl,h1,ct.small (HR k vk l) ?_,h3⟩;rw[Gf];exact h2
 |eE l=>
  obtain⟨aD,cl,h1,h2,h3⟩:=h;refine⟨aD,cl,h1,ct.small (GZ k l) ?_,h3⟩;rw[Hc];exact h2
 |di l=>
  obtain⟨aD,cl,h1,h2,h3⟩:=h;refine⟨aD,cl,h1,ct.small (HN k l) ?_,h3⟩;rw[GU];exact h2
end down
def fC(P:Program)(f:FuncId)(args:List RV)(k:Nat)(hs hs':T ax)(v:RV):Prop:=
 ∀(ρ:aM) (w:World) (vs:List Value),bu ρ hs.get w->bW ρ k->bo ρ args vs->Calls P f vs.toArray w fun e w'=>
  ∃V ρ' L,e= .returned V/\bE ρ' v V/\bu ρ' hs'.get w'/\bW ρ' k/\dN ρ hs.get k w ρ' hs'.get k w' L
theorem aU.frame {f:FuncId}{args:List RV}{v:RV}{k:Nat}{hs hs':T ax}{θ:Nat->Nat}{s:S}{hp':T ax}{Lw:List Nat}(ht:cJ s)(hfn: ∃fn,P.funcs[f]? =some fn/\fn.body.isNone=false)
  (hC:fC P f args k hs hs' v) (ha:args.all (tp k)=true)
  (hin: ∀i x,hs.get i=some x->i<k/\yR k x=true/\x.wr=true/\θ i<s.nx/\s.hp.get (θ i)=some (gu θ x))
  (hinj: ∀i j x y,hs.get i=some x->hs.get j=some y->θ i=θ j->i=j)
  (hout: ∀nm,(∀i x,hs.get i=some x->θ i≠nm)->hp'.get nm=s.hp.get nm)
  (hall: ∀i x,hs.get i=some x->hp'.get (θ i)=(hs'.get i).map (gu θ))
  (hL: ∀nm,nm∈Lw↔∃i x,hs.get i=some x/\θ i=nm):
  aU P f (args.map (dB θ)) s (dB θ v) {s with hp:=hp',lg:=Lw++s.lg} Lw:=by
 have aA: ∀nm,nm∈Lw->nm<s.nx:=fun nm h=>by
  obtain⟨i,x,h1,rfl⟩:=(hL nm).1 h;exact(hin i x h1).2.2.2.1
 have hkeep: ∀nm,nm∉Lw->hp'.get nm=s.hp.get nm:=fun nm h=>hout nm fun i x h1 h2=>h ((hL nm).2 ⟨i,x,h1,h2⟩)
 refine⟨hfn,rfl,⟨rfl,Nat.le_refl _,fun nm _ h2=>hkeep nm h2,fun nm hn=> ?_,aA⟩,fun ρ w vs hr hf ha'=> ?_⟩
 ·have hn':s.nx<=nm:=hn;show hp'.get nm=none;rw[hkeep nm (fun h=>by have:=aA nm h;omega)]
  exact ht nm hn
 have hr0:bu (eU k θ ρ) hs.get w:=⟨fun i x hx=>by
   obtain⟨g1,g2,_,_,g5⟩:=hin i x hx;obtain⟨b,c,o,e1,e2,e3⟩:=hr.ok _ _ g5;exact⟨b,c,o,by rw[cv,if_pos g1];exact e1,e2,e3.small g2⟩,
  fun i j x y b c c' hx hy hw e1 e2=>by
   obtain⟨g1,_,_,_,g5⟩:=hin i x hx;obtain⟨j1,_,_,_,j5⟩:=hin j y hy;rw[cv,if_pos g1]at e1;rw[cv,if_pos j1]at e2;exact hinj i j x y hx hy (hr.inj _ _ _ _ b c c' g5 j5 (by rw[fH];exact hw) e1 e2),
  fun b l hb=>⟨(hr.fz b l hb).1,fun i x c hx hw he=>by
   obtain⟨g1,_,_,_,g5⟩:=hin i x hx;rw[cv,if_pos g1]at he;exact(hr.fz b l hb).2 _ _ c g5 (by rw[fH];exact hw) he⟩⟩
 have hf0:bW (eU k θ ρ) k:=fun nm h=>by rw[cv,if_neg (by omega)]
 refine(hC _ w vs hr0 hf0 (ha'.small ha)).mono fun e w' ⟨V,ρ',L,e1,e2,e3,e4,st⟩=> ?_
 have hup: ∀nm b,ρ' nm=some b->(⟨ρ.nm,ρ'.fz⟩:aM) (θ nm)=some b:=fun nm b hb=>by
  by_cases hk:nm<k
  ·have:=st.rho nm hk;rw[cv,if_pos hk]at this;rw[<-this];exact hb
  ·rw[e4 nm (by omega)]at hb;cases hb
 have hz: ∀b l,ρ'.fz b=some l->(⟨ρ.nm,ρ'.fz⟩:aM).fz b=some l:=fun _ _ h=>h
 have hdn: ∀i x,hs.get i=some x->∀b,ρ (θ i)=some b->ρ' i=some b:=fun i x hx b hb=>by
  obtain⟨g1,_⟩:=hin i x hx;rw[st.rho i g1,cv,if_pos g1];exact hb
 have hold: ∀nm x,(∀i x,hs.get i=some x->θ i≠nm)->s.hp.get nm=some x->∀b c,ρ nm=some (b,c)->∀bs c0,bs∈L->bs<k->eU k θ ρ bs≠some (b,c0):=fun nm x hno hx b c hb bs c0 hm hlt0 he=>by
  obtain⟨x0,o1,o2⟩:=st.aq bs hm hlt0;obtain⟨_,_,_,_,g5⟩:=hin bs x0 o1;rw[cv,if_pos hlt0]at he;exact hno bs x0 o1 (hr.inj _ _ _ _ b c0 c g5 hx (by rw[fH];exact o2) he hb)
 refine⟨V,⟨ρ.nm,ρ'.fz⟩,e1,bE.up hup hz e2,⟨fun nm x hx=> ?_,fun nm nm' x y b c c' hx hy hw h1 h2=> ?_,fun b l hb=>⟨(e3.fz b l hb).1,fun nm x c hx hw he=> ?_⟩⟩,hf,⟨Nat.le_refl _,fun _ _=>rfl,fun nm _ h2=>hkeep nm h2,st.size,fun b hb hLb=>st.frame b hb fun bs c0 hm hlt0 he=> ?_,(fun nm b c h1 h2=>by rw[hf nm h1]at h2;cases h2),fun nm h1 _=> ?_,st.os,st.tape,st.al,st.je,fun b l h=>(st.fzn b l h).imp id fun h=>h.imp id fun⟨bs,c0,hm,hlt0,he⟩=> ?_⟩⟩
 ·by_cases hc: ∃i x0,hs.get i=some x0/\θ i=nm
  ·obtain⟨i,x0,g1,rfl⟩:=hc;have hx':hp'.get (θ i)=some x:=hx;rw[hall i x0 g1]at hx';cases hh:hs'.get i with
   |none=>rw[hh]at hx';cases hx'
   |some x1=>
    rw[hh]at hx';cases hx';obtain⟨b,c,o,q1,q2,q3⟩:=e3.ok i x1 hh;exact⟨b,c,o,hup _ _ q1,q2,cD.up hup hz q3⟩
  ·have hno: ∀i x,hs.get i=some x->θ i≠nm:=fun i x h1 h2=>hc ⟨i,x,h1,h2⟩
   have hx':hp'.get nm=some x:=hx;rw[hout nm hno]at hx';obtain⟨b,c,o,q1,q2,q3⟩:=hr.ok nm x hx';exact⟨b,c,o,q1,by rw[st.frame b (bS q2) (hold nm x hno hx' b c q1)];exact q2,q3.mono (show Sub ρ ⟨ρ.nm,ρ'.fz⟩from⟨fun _ _ h=>h,st.je⟩)⟩
 ·have hx':hp'.get nm=some x:=hx;have hy':hp'.get nm'=some y:=hy;by_cases hc: ∃i x0,hs.get i=some x0/\θ i=nm<;>by_cases hd: ∃i x0,hs.get i=some x0/\θ i=nm'
  ·obtain⟨i,x0,g1,rfl⟩:=hc;obtain⟨j,y0,j1,rfl⟩:=hd;rw[hall i x0 g1]at hx';rw[hall j y0 j1]at hy';cases hh:hs'.get i with
   |none=>rw[hh]at hx';cases hx'
   |some x1=>
    cases hg:hs'.get j with
    |none=>rw[hg]at hy';cases hy'
    |some y1=>
     rw[hh]at hx';rw[hg]at hy';cases hx';cases hy';rw[e3.inj i j x1 y1 b c c' hh hg (by rw[fH]at hw;exact hw) (hdn i x0 g1 _ h1) (hdn j y0 j1 _ h2)]
  ·obtain⟨i,x0,g1,rfl⟩:=hc;have hno: ∀i x,hs.get i=some x->θ i≠nm':=fun i x h1 h2=>hd ⟨i,x,h1,h2⟩
   rw[hout nm' hno]at hy';obtain⟨_,_,g3,_,g5⟩:=hin i x0 g1;exact hr.inj _ _ _ _ b c c' g5 hy' (by rw[fH];exact g3) h1 h2
  ·obtain⟨j,y0,j1,rfl⟩:=hd;have hno: ∀i x,hs.get i=some x->θ i≠nm:=fun i x h1 h2=>hc ⟨i,x,h1,h2⟩
   rw[hout nm hno]at hx';obtain⟨_,_,_,_,g5⟩:=hin j y0 j1;exact hr.inj _ _ _ _ b c c' hx' g5 hw h1 h2
  ·have hno: ∀i x,hs.get i=some x->θ i≠nm:=fun i x h1 h2=>hc ⟨i,x,h1,h2⟩
   have hno': ∀i x,hs.get i=some x->θ i≠nm':=fun i x h1 h2=>hd ⟨i,x,h1,h2⟩
   rw[hout nm hno]at hx';rw[hout nm' hno']at hy';exact hr.inj _ _ _ _ b c c' hx' hy' hw h1 h2
 ·have hx':hp'.get nm=some x:=hx;have he':ρ nm=some (b,c):=he;by_cases hc: ∃i x0,hs.get i=some x0/\θ i=nm
  ·obtain⟨i,x0,g1,rfl⟩:=hc;rw[hall i x0 g1]at hx';cases hh:hs'.get i with
   |none=>rw[hh]at hx';cases hx'
   |some x1=>
    rw[hh]at hx';cases hx';exact(e3.fz b l hb).2 i x1 c hh (by rw[fH]at hw;exact hw) (hdn i x0 g1 _ he')
  ·have hno: ∀i x,hs.get i=some x->θ i≠nm:=fun i x h1 h2=>hc ⟨i,x,h1,h2⟩
   rw[hout nm hno]at hx';rcases st.fzn b l hb with h|h|⟨bs,c0,m1,m2,m3⟩
   ·exact(hr.fz b l h).2 nm x c hx' hw he'
   ·obtain⟨b',c',o,q1,q2,_⟩:=hr.ok nm x hx';rw[he']at q1;simp only[ae,af]at q1;obtain⟨rfl,_⟩:=q1;have:=bS q2;omega
   ·exact hold nm x hno hx' b c he' bs c0 m1 m2 m3
 ·obtain⟨x0,o1,o2⟩:=st.aq bs hm hlt0;obtain⟨_,_,_,g4,_⟩:=hin bs x0 o1;rw[cv,if_pos hlt0]at he;exact hLb (θ bs) c0 ((hL _).2 ⟨bs,x0,o1,rfl⟩) g4 he
 ·obtain⟨i,x,g1,rfl⟩:=(hL nm).1 h1;obtain⟨_,_,g3,_,g5⟩:=hin i x g1;exact⟨_,g5,by rw[fH];exact g3⟩
 ·obtain⟨x0,o1,o2⟩:=st.aq bs hm hlt0;obtain⟨_,_,_,g4,_⟩:=hin bs x0 o1;rw[cv,if_pos hlt0]at he;exact⟨θ bs,c0,(hL _).2 ⟨bs,x0,o1,rfl⟩,g4,he⟩
theorem Tr.mZ {g:FuncId}{fn:Func}{c:Code}(hf:P.funcs[g]? =some fn)(hb:fn.body=some c){args:List RV}{sl:T RV}{v:RV}{k:Nat}{hs hs':T ax}(htop:cJ ⟨.nil,hs,k,[]⟩)
  (hset:setArgs fn.ntmps args 0 .nil some=some sl)
  (h:Tr P fn.ntmps c ⟨sl,hs,k,[]⟩ fun x s1=>(x= .normal\/x= .ret)/\∃l,ba P fn.ntmps s1 fn.results.toList=some l/\(c6 l=v/\s1.hp=hs'/\s1.nx=k)):fC P g args k hs hs' v:=by
 intro ρ w vs hr hfr ha;refine(Tr.calls (s:=⟨.nil,hs,k,[]⟩) (Q:=fun v' s1=>v'=v/\s1.hp=hs'/\s1.nx=k) hf hb hset htop h ρ w vs hr hfr ha).mono fun e w' hh=> ?_
 obtain⟨v',s',L,V,ρ',⟨rfl,rfl,hk⟩,ab,e1,e2,e3,e4,st⟩:=hh;refine⟨V,ρ',L,e1,e2,e3,?_,?_⟩
 ·rw[<-hk];exact e4
 ·have:=st;rw[hk]at this;exact this
end Go.Sx
