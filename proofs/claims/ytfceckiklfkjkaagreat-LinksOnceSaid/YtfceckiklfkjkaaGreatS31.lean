import Derived.Test.YtfceckiklfkjkaaGreatS30
import Derived.Test.YtfceckiklfkjkaaGreatS17
noncomputable section
namespace Go.Sx
open Go.RowKit
variable{P:Program}
def TO(P:Program)(n:Nat)(K pn:List Nat)(s0:S)(c:Code)(s:S)(Q:ag):Prop:= ∀(ρ0:aM) (w0:World),bu ρ0 s0.hp.get w0->bW ρ0 s0.nx->∀(pins:List HH),pins.map HH.nm=pn->∀(a:Act) (w:World),tg n K pins ρ0 s0 w0 s a w->
 vt P c (fun e a' w'=> ∃x s',XR x e/\Q x s'/\tg n K pins ρ0 s0 w0 s' a' w') a w
theorem TO.gc {n:Nat}{K pn:List Nat}{s0:S}{c:Code}{s:S}{Q:ag}(aH ord:List Nat)(h:TO P n K pn s0 c s fun x s1=> ∃s2,nr s0.nx K pn aH n ord s1=some s2/\Q x s2):TO P n K pn s0 c s Q:=fun ρ0 w0 hr hf pins hpn a w C=>
 (h ρ0 w0 hr hf pins hpn a w C).mono fun _ _ _ ⟨x,_,h1,⟨s2,h2,h3⟩,h4⟩=>⟨x,s2,h1,h3,h4.gc hr hf hpn h2⟩
def fS(P:Program)(n:Nat)(K pn:List Nat)(s0:S)(Q:ag)(c:Code):X->S->Prop:=fun x s1=>match x with
 | .normal=>TO P n K pn s0 c s1 Q
 |x=>Q x s1
theorem TO.seq {n:Nat}{K pn:List Nat}{s0:S}{c d:Code}{s:S}{Q:ag}(h:TO P n K pn s0 c s (fS P n K pn s0 Q d)):TO P n K pn s0 (.seq c d) s Q:=fun ρ0 w0 hr hf pins hpn a w C=>by
 refine wp_seq (wp_mono (h ρ0 w0 hr hf pins hpn a w C).wp fun e a' w' ⟨x,s',h1,h2,h3⟩=> ?_)
 cases x with
 |normal=>cases e<;>simp only[XR]at h1;exact(h2 ρ0 w0 hr hf pins hpn a' w' h3).wp
 |exit id=>cases e<;>simp only[XR]at h1;subst h1;exact⟨X.exit _,s',rfl,h2,h3⟩
 |ret=>cases e<;>simp only[XR]at h1;exact⟨.ret,s',trivial,h2,h3⟩
theorem TO.block {n id:Nat}{K pn:List Nat}{s0:S}{c:Code}{s:S}{Q:ag}(h:TO P n K pn s0 c s fun x s'=>match x with| .exit j=>if j=id then Q .normal s' else Q (.exit j) s'|x=>Q x s'):TO P n K pn s0 (.block id c) s Q:=fun ρ0 w0 hr hf pins hpn a w C=>by
 refine wp_block (wp_mono (h ρ0 w0 hr hf pins hpn a w C).wp fun e a' w' ⟨x,s',h1,h2,h3⟩=> ?_)
 cases x with
 |normal=>cases e<;>simp only[XR]at h1;exact⟨.normal,s',trivial,h2,h3⟩
 |ret=>cases e<;>simp only[XR]at h1;exact⟨.ret,s',trivial,h2,h3⟩
 |exit j=>
  cases e<;>simp only[XR]at h1
  subst h1;simp only at h2;by_cases hj:j=id
  ·rw[if_pos hj]at h2;simp only[Exit.inBlock,hj,if_true];exact⟨.normal,s',trivial,h2,h3⟩
  ·rw[if_neg hj]at h2;simp only[Exit.inBlock,hj,if_false];exact⟨.exit j,s',rfl,h2,h3⟩
theorem TO.cond {n:Nat}{K pn:List Nat}{s0:S}{o:Operand}{c d:Code}{s:S}{t:Bool}{Q:ag}(he:eval n s.sl o=some (.one (.c (.bool t))))(h1:t=true->TO P n K pn s0 c s Q)(h2:t=false->TO P n K pn s0 d s Q):TO P n K pn s0 (.cond o c d) s Q:=fun ρ0 w0 hr hf pins hpn a w C=>by
 obtain⟨ρ,_,_,_,R,_,_⟩:=C.it;have e:a.eval o= .bool t:=ml (ρ:=ρ) (n:=n) (sl:=s.sl) (a:=a) (x:=o) (fun t _=>R.sl t) _ he
 cases t with
 |true=>exact wp_cond_true e (h1 rfl ρ0 w0 hr hf pins hpn a w C).wp
 |false=>exact wp_cond_false e (h2 rfl ρ0 w0 hr hf pins hpn a w C).wp
theorem TO.loop {n:Nat}{K pn:List Nat}{s0:S}{c:Code}{s:S}{Q:ag}(h:TO P n K pn s0 c s (fS P n K pn s0 Q (.loop c))):TO P n K pn s0 (.loop c) s Q:=fun ρ0 w0 hr hf pins hpn a w C=>by
 refine eW.open (wp_mono (h ρ0 w0 hr hf pins hpn a w C).wp fun e a' w' ⟨x,s',h1,h2,h3⟩=> ?_)
 cases x with
 |normal=>cases e<;>simp only[XR]at h1;exact h2 ρ0 w0 hr hf pins hpn a' w' h3
 |exit id=>cases e<;>simp only[XR]at h1;subst h1;exact⟨X.exit _,s',rfl,h2,h3⟩
 |ret=>cases e<;>simp only[XR]at h1;exact⟨.ret,s',trivial,h2,h3⟩
def cd(P:Program)(f:FuncId)(args:List RV)(k:Nat)(hs:T ax)(k':Nat)(hs':T ax)(v:RV):Prop:=
 ∀(ρ:aM) (w:World) (vs:List Value),bu ρ hs.get w->bW ρ k->bo ρ args vs->Calls P f vs.toArray w fun e w'=>
  ∃V ρ' L,e= .returned V/\bE ρ' v V/\bu ρ' hs'.get w'/\bW ρ' k'/\dN ρ hs.get k w ρ' hs'.get k' w' L
theorem TO.c8 {g:FuncId}{fn:Func}{c:Code}(hf:P.funcs[g]? =some fn)(hb:fn.body=some c){args:List RV}{sl:T RV}{v:RV}{k k':Nat}{hs hs':T ax}(K:List Nat)(htop:cJ ⟨.nil,hs,k,[]⟩)
  (hset:setArgs fn.ntmps args 0 .nil some=some sl)
  (h:TO P fn.ntmps K [] ⟨sl,hs,k,[]⟩ c ⟨sl,hs,k,[]⟩ fun x s1=>(x= .normal\/x= .ret)/\∃l,ba P fn.ntmps s1 fn.results.toList=some l/\(c6 l=v/\s1.hp=hs'/\s1.nx=k')):cd P g args k hs k' hs' v:=by
 intro ρ w vs hr hfr ha;obtain⟨sl',h1,h2,h3⟩:=lC hset;cases h1;obtain⟨len,hget⟩:=ha.get;have R0:Rel fn.ntmps ρ ⟨sl,hs,k,[]⟩ {tmps:=vs.toArray++Array.replicate (fn.ntmps - vs.toArray.size) undef,defers:= []} w:=by
  have hle:vs.length<=fn.ntmps:=by
   rcases h3 with rfl|h3
   ·simp at len;rw[len];simp
   ·omega
  refine⟨by simp;omega,rfl,fun t=> ?_,hr,hfr⟩
  unfold slot;simp only;rw[h2];simp only[Nat.zero_le,true_and,Nat.zero_add,Nat.sub_zero,T.get_nil];by_cases aA:t<args.length
  ·have hlt':t<vs.length:=by omega
   rw[if_pos (show t<fn.ntmps by omega),if_pos aA]
   obtain⟨V,e1,e2⟩:=hget t args[t] (List.getElem?_eq_getElem aA);rw[List.getElem?_eq_getElem aA];have:(vs.toArray++Array.replicate (fn.ntmps - vs.toArray.size) undef).getD t undef=V:=by
    rw[Array.getD_eq_getD_getElem?,Array.getElem?_append_left (by simpa using hlt')]
    simp[e1]
   rw[this];exact e2
  ·rw[if_neg aA];have:(vs.toArray++Array.replicate (fn.ntmps - vs.toArray.size) undef).getD t undef=undef:=by
    rw[Array.getD_eq_getD_getElem?,Array.getElem?_append_right (by simp;omega)]
    rw[Array.getElem?_replicate];split<;>rfl
   rw[this];simp only[ite_self,Option.getD_none];exact pv
 refine calls_of_wp hf hb ?_;have C0:tg fn.ntmps K [] ρ ⟨sl,hs,k,[]⟩ w ⟨sl,hs,k,[]⟩ {tmps:=vs.toArray++Array.replicate (fn.ntmps - vs.toArray.size) undef,defers:= []} w:=
  ⟨ρ,[],⟨Nat.le_refl _,fun _ _ _=>rfl,htop,fun _ h=>absurd h List.not_mem_nil⟩,fun _ _=>List.not_mem_nil,R0,dN.refl hfr,fun _ hp=>absurd hp List.not_mem_nil⟩
 refine wp_mono (h ρ w hr hfr [] rfl _ w C0).wp fun e a' w' ⟨x,s1,hx,⟨hx2,l,hl,hv,hh,hk⟩,C⟩=> ?_
 obtain⟨ρ',L,ab,_,R',st,_⟩:=C.it;obtain⟨V,v1,v2⟩:=zZ R' hl;have fin:a'.defers= []/\∃v',(results fn a'.tmps).run P w'= .ok v' w'/\∃V ρ' L,Ending.returned v'= .returned V/\bE ρ' v V/\bu ρ' hs'.get w'/\bW ρ' k'/\dN ρ hs.get k w ρ' hs'.get k' w' L:=by
  subst hh hk hv;exact⟨R'.df,V,v2,V,ρ',L,rfl,v1,R'.hp,R'.fresh,st⟩
 rcases hx2 with rfl|rfl
 ·cases e<;>simp only[XR]at hx
  exact fin
 ·cases e<;>simp only[XR]at hx
  exact fin
theorem aU.Ra {f:FuncId}{args:List RV}{v:RV}{k k':Nat}{hs hs':T ax}{θ:Nat->Nat}{s:S}{hp':T ax}{Lw:List Nat}(ht:cJ s)(hfn: ∃fn,P.funcs[f]? =some fn/\fn.body.isNone=false)
  (hC:cd P f args k hs k' hs' v) (hkk:k<=k') (ha:args.all (tp k)=true)
  (hin: ∀i x,hs.get i=some x->i<k/\θ i<s.nx/\((x.wr=true/\yR k x=true/\s.hp.get (θ i)=some (gu θ x))\/(x.wr=false/\∃y,s.hp.get (θ i)=some y/\ft k θ x y)))
  (hinj: ∀i j x y,hs.get i=some x->hs.get j=some y->x.wr=true->θ i=θ j->i=j)
  (hθ: ∀i,k<=i->θ i=s.nx+(i - k))
  (hout: ∀nm,nm<s.nx->(∀i x,hs.get i=some x->x.wr=true->θ i≠nm)->hp'.get nm=s.hp.get nm)
  (hall: ∀i x,hs.get i=some x->x.wr=true->hp'.get (θ i)=(hs'.get i).map (gu θ))
  (hnew: ∀nm,s.nx<=nm->hp'.get nm=if nm<s.nx+(k' - k)then(hs'.get (nm - s.nx+k)).map (gu θ)else none)
  (hL: ∀nm,nm∈Lw↔∃i x,hs.get i=some x/\x.wr=true/\θ i=nm):
  aU P f (args.map (dB θ)) s (dB θ v) {s with hp:=hp',nx:=s.nx+(k' - k),lg:=Lw++s.lg} Lw:=by
 have aA: ∀nm,nm∈Lw->nm<s.nx:=fun nm h=>by
  obtain⟨i,x,h1,_,rfl⟩:=(hL nm).1 h;exact(hin i x h1).2.1
 have hkeep: ∀nm,nm<s.nx->nm∉Lw->hp'.get nm=s.hp.get nm:=fun nm h1 h=>hout nm h1 fun i x h2 h3 h4=>h ((hL nm).2 ⟨i,x,h2,h3,h4⟩)
 refine⟨hfn,rfl,⟨rfl,Nat.le_add_right _ _,hkeep,fun nm hn=> ?_,fun nm h=>Nat.lt_of_lt_of_le (aA nm h) (Nat.le_add_right _ _)⟩,fun ρ w vs hr hf ha'=> ?_⟩
 ·have hn':s.nx+(k' - k)<=nm:=hn;show hp'.get nm=none;rw[hnew nm (by omega),if_neg (by omega)]
 have hr0:bu (eU k θ ρ) hs.get w:=⟨fun i x hx=>by
   obtain⟨g1,_,g2⟩:=hin i x hx;rcases g2 with⟨_,g3,g5⟩|⟨_,y,g5,_,g6⟩
   ·obtain⟨b,c,o,e1,e2,e3⟩:=hr.ok _ _ g5;exact⟨b,c,o,by rw[cv,if_pos g1];exact e1,e2,e3.small g3⟩
   ·obtain⟨b,c,o,e1,e2,e3⟩:=hr.ok _ _ g5;exact⟨b,c,o,by rw[cv,if_pos g1];exact e1,e2,g6 _ _ _ e3⟩,
  fun i j x y b c c' hx hy hw e1 e2=>by
   obtain⟨g1,_,g2⟩:=hin i x hx;obtain⟨j1,_,j2⟩:=hin j y hy;rw[cv,if_pos g1]at e1;rw[cv,if_pos j1]at e2;rcases g2 with⟨g3,_,g5⟩|⟨g3,_⟩
   ·rcases j2 with⟨_,_,j5⟩|⟨_,y',j5,_⟩
    ·exact hinj i j x y hx hy hw (hr.inj _ _ _ _ b c c' g5 j5 (by rw[fH];exact hw) e1 e2)
    ·exact hinj i j x y hx hy hw (hr.inj _ _ _ _ b c c' g5 j5 (by rw[fH];exact hw) e1 e2)
   ·rw[g3]at hw;(cases hw),
  fun b l hb=>⟨(hr.fz b l hb).1,fun i x c hx hw he=>by
   obtain⟨g1,_,g2⟩:=hin i x hx;rw[cv,if_pos g1]at he;rcases g2 with⟨g3,_,g5⟩|⟨g3,_⟩
   ·exact(hr.fz b l hb).2 _ _ c g5 (by rw[fH];exact hw) he
   ·rw[g3]at hw;cases hw⟩⟩
 have hf0:bW (eU k θ ρ) k:=fun nm h=>by rw[cv,if_neg (by omega)]
 refine(hC _ w vs hr0 hf0 (ha'.small ha)).mono fun e w' ⟨V,ρ',L,e1,e2,e3,e4,st⟩=> ?_
 let ρF:aM:=⟨fun nm=>if nm<s.nx then ρ nm else if nm<s.nx+(k' - k)then ρ' (nm - s.nx+k)else none,ρ'.fz⟩
 have hz: ∀b l,ρ'.fz b=some l->ρF.fz b=some l:=fun _ _ h=>h
 have hFlt: ∀nm,nm<s.nx->ρF nm=ρ nm:=fun nm h=>by show(if nm<s.nx then ρ nm else _)=ρ nm;rw[if_pos h]
 have hFge: ∀nm,s.nx<=nm->nm<s.nx+(k' - k)->ρF nm=ρ' (nm - s.nx+k):=fun nm h h2=>by
  show(if nm<s.nx then ρ nm else if nm<s.nx+(k' - k)then ρ' (nm - s.nx+k)else none)=_
  rw[if_neg (by omega),if_pos h2]
 have hFtop: ∀nm,s.nx+(k' - k)<=nm->ρF nm=none:=fun nm h=>by
  show(if nm<s.nx then ρ nm else if nm<s.nx+(k' - k)then ρ' (nm - s.nx+k)else none)=_
  rw[if_neg (by omega),if_neg (by omega)]
 have hlow: ∀i,i<k->ρ' i=ρ (θ i):=fun i hi=>by rw[st.rho i hi,cv,if_pos hi]
 have hup: ∀nm b,ρ' nm=some b->ρF (θ nm)=some b:=fun nm b hb=>by
  rcases Nat.lt_or_ge nm k with h|h
  ·rw[hlow nm h]at hb;have:θ nm<s.nx:=by
    rcases Nat.lt_or_ge (θ nm) s.nx with h'|h'
    ·exact h'
    ·rw[hf _ h']at hb;cases hb
   rw[hFlt _ this];exact hb
  ·have hk':nm<k':=by
    rcases Nat.lt_or_ge nm k' with h'|h'
    ·exact h'
    ·rw[e4 nm h']at hb;cases hb
   rw[hθ nm h,hFge _ (by omega) (by omega),show s.nx+(nm - k) - s.nx+k=nm by omega];exact hb
 have hsm: ∀i x,hs'.get i=some x->i<k->∃x0,hs.get i=some x0:=fun i x hx hi=>by
  by_cases hm:i∈L
  ·obtain⟨x0,o1,_⟩:=st.aq i hm hi;exact⟨x0,o1⟩
  ·exact⟨x,by rw[<-st.aH i hi hm];exact hx⟩
 have hwr': ∀i x0 x,i<k->hs.get i=some x0->hs'.get i=some x->x0.wr=false->x=x0/\i∉L:=fun i x0 x hi h0 h1 hw=>by
  by_cases hm:i∈L
  ·obtain⟨x2,o1,o2⟩:=st.aq i hm hi;rw[h0]at o1;cases o1;rw[hw]at o2;cases o2
  ·rw[st.aH i hi hm,h0]at h1;exact⟨by cases h1;rfl,hm⟩
 have hold: ∀nm y,nm<s.nx->(∀i x,hs.get i=some x->x.wr=true->θ i≠nm)->s.hp.get nm=some y->∀b c,ρ nm=some (b,c)->∀bs c0,bs∈L->bs<k->eU k θ ρ bs≠some (b,c0):=fun nm y _ hno hy b c hb bs c0 hm hlt0 he=>by
  obtain⟨x0,o1,o2⟩:=st.aq bs hm hlt0;obtain⟨_,_,g2⟩:=hin bs x0 o1;rw[cv,if_pos hlt0]at he;rcases g2 with⟨_,_,g5⟩|⟨g3,_⟩
  ·exact hno bs x0 o1 o2 (hr.inj _ _ _ _ b c0 c g5 hy (by rw[fH];exact o2) he hb)
  ·rw[g3]at o2;cases o2
 have hcl: ∀nm x,hp'.get nm=some x->(nm<s.nx/\(∀i x,hs.get i=some x->x.wr=true->θ i≠nm)/\s.hp.get nm=some x)\/∃i y,hs'.get i=some y/\x=gu θ y/\θ i=nm/\(i<k->∃x0,hs.get i=some x0/\x0.wr=true)/\(∀b,ρF nm=some b->ρ' i=some b):=fun nm x hx=>by
  rcases Nat.lt_or_ge nm s.nx with h|h
  ·by_cases hc: ∃i x0,hs.get i=some x0/\x0.wr=true/\θ i=nm
   ·obtain⟨i,x0,g1,g2,rfl⟩:=hc;rw[hall i x0 g1 g2]at hx;cases hh:hs'.get i with
    |none=>rw[hh]at hx;cases hx
    |some y=>
     rw[hh]at hx;simp only[Option.map_some,ae]at hx;have hik:=(hin i x0 g1).1;exact .inr ⟨i,y,hh,hx.symm,rfl,fun _=>⟨x0,g1,g2⟩,fun b hb=>by rw[hlow i hik, <-hFlt _ h];exact hb⟩
   ·have hno: ∀i x,hs.get i=some x->x.wr=true->θ i≠nm:=fun i x h1 h2 h3=>hc ⟨i,x,h1,h2,h3⟩
    rw[hout nm h hno]at hx;exact .inl ⟨h,hno,hx⟩
  ·rw[hnew nm h]at hx;split at hx
   ·rename_i h2;cases hh:hs'.get (nm - s.nx+k)with
    |none=>rw[hh]at hx;cases hx
    |some y=>
     rw[hh]at hx;simp only[Option.map_some,ae]at hx;exact .inr ⟨nm - s.nx+k,y,hh,hx.symm,by rw[hθ _ (by omega)];omega,fun h=>by omega,fun b hb=>by rw[<-hFge nm h h2];exact hb⟩
   ·cases hx
 have hap: ∀nm y b c,nm<s.nx->(∀i x,hs.get i=some x->x.wr=true->θ i≠nm)->s.hp.get nm=some y->ρ nm=some (b,c)->∀i c',(i<k->∃x0,hs.get i=some x0/\x0.wr=true)->ρ' i=some (b,c')->False:=fun nm y b c hnm hno hy hb i c' hik hi=>by
  rcases Nat.lt_or_ge i k with h|h
  ·obtain⟨x0,g1,g2⟩:=hik h;rw[hlow i h]at hi;obtain⟨_,_,g⟩:=hin i x0 g1;rcases g with⟨_,_,g5⟩|⟨g3,_⟩
   ·exact hno i x0 g1 g2 (hr.inj _ _ _ _ b c' c g5 hy (by rw[fH];exact g2) hi hb)
   ·rw[g3]at g2;cases g2
  ·obtain⟨b2,c2,o2,q1,q2,_⟩:=hr.ok nm y hy;rw[hb]at q1;simp only[ae,af]at q1;obtain⟨rfl,rfl⟩:=q1;rcases st.new i b c' h hi with h1|⟨bs,c0,p1,p2,p3⟩
   ·have:=bS q2;omega
   ·exact hold nm y hnm hno hy b c hb bs c0 p1 p2 p3
 refine⟨V,ρF,e1,bE.up hup hz e2,⟨fun nm x hx=> ?_,fun nm nm' x y b c c' hx hy hw h1 h2=> ?_,fun b l hb=>⟨(e3.fz b l hb).1,fun nm x c hx hw he=> ?_⟩⟩,fun nm h=>hFtop nm h,⟨Nat.le_add_right _ _,fun nm h=>hFlt nm h,hkeep,st.size,fun b hb hLb=>st.frame b hb fun bs c0 hm hlt0 he=> ?_,fun nm b c h1 h2=> ?_,fun nm h1 _=> ?_,st.os,st.tape,st.al,st.je,fun b l h=>(st.fzn b l h).imp id fun h=>h.imp id fun⟨bs,c0,hm,hlt0,he⟩=> ?_⟩⟩
 ·rcases hcl nm x hx with⟨h,hno,bP⟩|⟨i,y,hy,rfl,rfl,_,_⟩
  ·obtain⟨b,c,o,q1,q2,q3⟩:=hr.ok nm x bP;refine⟨b,c,o,by rw[hFlt nm h];exact q1,by rw[st.frame b (bS q2) (hold nm x h hno bP b c q1)];exact q2,q3.mono (show Sub ρ ρF from⟨fun m b' hb'=> ?_,st.je⟩)⟩
   rcases Nat.lt_or_ge m s.nx with h'|h'
   ·rw[hFlt m h'];exact hb'
   ·rw[hf m h']at hb';cases hb'
  ·obtain⟨b,c,o,q1,q2,q3⟩:=e3.ok i y hy;exact⟨b,c,o,hup _ _ q1,q2,cD.up hup hz q3⟩
 ·have hx':hp'.get nm=some x:=hx;have hy':hp'.get nm'=some y:=hy;rcases hcl nm x hx' with⟨a1,a2,a3⟩|⟨i,x1,a1,rfl,a3,a4,a5⟩<;>rcases hcl nm' y hy' with⟨b1,b2,b3⟩|⟨j,y1,b1,rfl,b3,b4,b5⟩
  ·rw[hFlt nm a1]at h1;rw[hFlt nm' b1]at h2;exact hr.inj _ _ _ _ b c c' a3 b3 hw h1 h2
  ·rw[hFlt nm a1]at h1;exact(hap nm _ b c a1 a2 a3 h1 j c' b4 (b5 _ h2)).elim
  ·rw[hFlt nm' b1]at h2;exact(hap nm' _ b c' b1 b2 b3 h2 i c a4 (a5 _ h1)).elim
  ·have:=e3.inj i j x1 y1 b c c' a1 b1 (by rw[fH]at hw;exact hw) (a5 _ h1) (b5 _ h2)
   subst this;rw[<-a3, <-b3]
 ·rcases hcl nm x hx with⟨a1,a2,a3⟩|⟨i,y,hy,rfl,rfl,_,a5⟩
  ·have he':ρ nm=some (b,c):=by rw[<-hFlt nm a1];exact he
   rcases st.fzn b l hb with h|h|⟨bs,c0,m1,m2,m3⟩
   ·exact(hr.fz b l h).2 nm x c a3 hw he'
   ·obtain⟨b',c',o,q1,q2,_⟩:=hr.ok nm x a3;rw[he']at q1;simp only[ae,af]at q1;obtain⟨rfl,_⟩:=q1;have:=bS q2;omega
   ·exact hold nm x a1 a2 a3 b c he' bs c0 m1 m2 m3
  ·exact(e3.fz b l hb).2 i y c hy (by rw[fH]at hw;exact hw) (a5 _ he)
 ·obtain⟨x0,o1,o2⟩:=st.aq bs hm hlt0;obtain⟨_,g4,_⟩:=hin bs x0 o1;rw[cv,if_pos hlt0]at he;exact hLb (θ bs) c0 ((hL _).2 ⟨bs,x0,o1,o2,rfl⟩) g4 he
 ·rcases Nat.lt_or_ge nm (s.nx+(k' - k))with h|h
  ·rw[hFge nm h1 h]at h2;rcases st.new _ b c (by omega) h2 with h3|⟨bs,c0,p1,p2,p3⟩
   ·exact .inl h3
   ·obtain⟨x0,o1,o2⟩:=st.aq bs p1 p2;rw[cv,if_pos p2]at p3;exact .inr ⟨θ bs,c0,(hL _).2 ⟨bs,x0,o1,o2,rfl⟩,(hin bs x0 o1).2.1,p3⟩
  ·rw[hFtop nm h]at h2;cases h2
 ·obtain⟨i,x,g1,g2,rfl⟩:=(hL nm).1 h1;obtain⟨_,_,g⟩:=hin i x g1;rcases g with⟨_,_,g5⟩|⟨g3,_⟩
  ·exact⟨_,g5,by rw[fH];exact g2⟩
  ·rw[g3]at g2;cases g2
 ·obtain⟨x0,o1,o2⟩:=st.aq bs hm hlt0;obtain⟨_,g4,_⟩:=hin bs x0 o1;rw[cv,if_pos hlt0]at he;exact⟨θ bs,c0,(hL _).2 ⟨bs,x0,o1,o2,rfl⟩,g4,he⟩
end Go.Sx
namespace Go.Sx
open Go.RowKit
variable{P:Program}
def Fb(k0:Nat)(K pn aH:List Nat)(n:Nat)(ord:List Nat)(Q:ag)(x:X)(s':S)(Z:A):ai:=
 match nr k0 K pn aH n ord s' with|some g=>some (aw Z.ob/\(K.all (fun nm=> !s'.lg.contains nm)=true/\Q x g))|none=>none
theorem TO.tree {Sg:FuncId->Option bg}(F:Fit P (fun f=>(Sg f).map bj)){fuel n:Nat}{K pn:List Nat}{s0:S}{c:Code}{s:S}{aH ord:List Nat}{k0:Nat}(hk0:s0.nx=k0){Q:ag}
  (hT:dG (az P Sg fuel n c s aO (Fb k0 K pn aH n ord Q))):TO P n K pn s0 c s Q:=fun ρ0 w0 hr hf pins hpn a w C=>by
 obtain⟨ρ,L0,ab0,hK0,R,st0,hp0⟩:=C.it;subst hk0;cases he:az P Sg fuel n c s aO (Fb s0.nx K pn aH n ord Q)with
 |none=>rw[he]at hT;exact hT.elim
 |some p=>
  rw[he]at hT;obtain⟨x1,s1,α',h1,h2⟩:=jA Sg fuel _ _ _ _ _ _ he;unfold Fb at h1;split at h1<;>try(cases h1;done)
  rename_i g' hg;simp only[ae]at h1;subst h1;obtain⟨hp,hk,hq⟩:aw α'.ob/\(K.all (fun nm=> !s1.lg.contains nm)=true/\Q x1 g'):=hT
  have h3:=(h2 hp).2 (X×S) (fun x s=>some (x,s))
  obtain⟨x2,s2,L,m,h4,ab,hw⟩:=jC F.ng F.mixed F.sums fuel _ _ _ _ _ ab0.top h3;simp only[ae,af]at h4;obtain⟨rfl,rfl⟩:=h4;refine(hw ρ a w R).y.mono fun e a' w' ⟨hx,ρ',R',st⟩=>⟨_,g',hx,hq,tg.gc hr hf (s:=s2) ⟨ρ',L++L0,ab0.trans ab.n,fun nm hn hm=> ?_,R',st0.trans st,hp0.step R.hp R.fresh st⟩ hpn hg⟩
  rcases List.mem_append.1 hm with hm|hm
  ·have:=List.all_eq_true.1 hk nm hn;rw[ab.lg]at this;simp only[List.contains_eq_mem,List.mem_append,hm,true_or,decide_true,Bool.not_true]at this;cases this
  ·exact hK0 nm hn hm
abbrev yU(P:Program)(n:Nat)(res:List ResultVar)(v:RV)(hs':T ax)(k:Nat):X->S->Prop:=fun x s1=>(x= .normal\/x= .ret)/\∃l,ba P n s1 res=some l/\(c6 l=v/\s1.hp=hs'/\s1.nx=k)
abbrev AU(v:RV)(hs':T ax)(k:Nat)(x:X)(q:Option (List AV))(hp:T ax)(nx:Nat):Prop:=x=X.ret/\∃l,q=some l/\(c6 l=v/\hp=hs'/\nx=k)
theorem Tr.Ze {Sg:FuncId->Option bg}(F:Fit P (fun f=>(Sg f).map bj)){fuel n m:Nat}{c:Code}{s:S}{aH:List Nat}{res:List ResultVar}{v:RV}{hs':T ax}{k:Nat}
  (hT:dG (dk P Sg fuel n m c s aO (fun x s Z=>some (aw Z.ob/\match x with| .normal=>Tr P n (aG m c) (Sx.aE aH n s) (yU P n res v hs' k)|x=>AU v hs' k x (ba P n s res) s.hp s.nx)))):
  Tr P n c s (yU P n res v hs' k):=
 (Tr.mX F (Q:=yU P n res v hs' k) m c s aO hT fun x s1 α' h=>by
  cases x with
  |normal=>exact⟨h.1,Tr.pre aH h.2⟩
  |exit id=>exact absurd h.2.1 (by simp)
  |ret=>exact⟨h.1,.inr rfl,h.2.2⟩).2
theorem Tr.afs {Sg:FuncId->Option bg}(F:Fit P (fun f=>(Sg f).map bj)){fuel n:Nat}{c:Code}{s:S}{res:List ResultVar}{v:RV}{hs':T ax}{k:Nat}
  (hT:dG (az P Sg fuel n c s aO (fun x s Z=>some (aw Z.ob/\AU v hs' k x (ba P n s res) s.hp s.nx)))):Tr P n c s (yU P n res v hs' k):=
 (Tr.r6 F (Q:=fun x s=>AU v hs' k x (ba P n s res) s.hp s.nx) hT).mono fun x s' h=>by
  obtain⟨rfl,h2⟩:=h;exact⟨.inr rfl,h2⟩
theorem Tr.abq {n:Nat}{c:Code}{s:S}{Q:ag}(h:TO P n [] [] s c s Q):Tr P n c s Q:=fun ht ρ a w R=>by
 have C0:tg n [] [] ρ s w s a w:=
  ⟨ρ,[],⟨Nat.le_refl _,fun _ _ _=>rfl,ht,fun _ h=>absurd h List.not_mem_nil⟩,fun _ _=>List.not_mem_nil,R,dN.refl R.fresh,fun _ hp=>absurd hp List.not_mem_nil⟩
 refine(h ρ w R.hp R.fresh [] rfl a w C0).mono fun e a' w' ⟨x,s',hx,hq,C⟩=> ?_
 obtain⟨ρ',L,ab,_,R',st,_⟩:=C.it;exact⟨x,s',L,hq,ab,hx,ρ',R',st⟩
theorem TO.Bf {n:Nat}{s0:S}{c:Code}{s:S}{Q:ag}(h:Tr P n c s Q):TO P n [] [] s0 c s Q:=fun ρ0 w0 hr hf pins hpn a w C=>by
 obtain⟨ρ,L0,ab0,hK0,R,st0,hp0⟩:=C.it;refine(h ab0.top ρ a w R).mono fun e a' w' ⟨x,s',L,hq,ab,hx,ρ',R',st⟩=>⟨x,s',hx,hq,⟨ρ',L++L0,ab0.trans ab,fun _ h=>absurd h List.not_mem_nil,R',st0.trans st,hp0.step R.hp R.fresh st⟩⟩
end Go.Sx
namespace Go.Sx
open Go.RowKit
variable{P:Program}
structure dJ(n:Nat)(s s1:S):Prop where
 it:cJ s->∃L1,o9 s s1 L1/\∀ρ a w,Rel n ρ s a w->∃ρ1,Rel n ρ1 s1 a w/\nG ρ s w ρ1 s1 w L1
theorem dJ.step {n:Nat}{s s1:S}{L1:List Nat}(ab:cJ s->o9 s s1 L1)(hs:cJ s->∀ρ a w,Rel n ρ s a w->∃ρ1,Rel n ρ1 s1 a w/\nG ρ s w ρ1 s1 w L1):dJ n s s1:=⟨fun ht=>⟨L1,ab ht,hs ht⟩⟩
theorem TO.nT {n:Nat}{s0 s s1:S}{c:Code}{Q:ag}(hs:dJ n s s1)(h:TO P n [] [] s0 c s1 Q):TO P n [] [] s0 c s Q:=fun ρ0 w0 hr hf pins hpn a w C=>by
 obtain⟨ρ,L,ab0,hK,R,st,hp⟩:=C.it;obtain⟨L1,ab,hs⟩:=hs.it ab0.top;obtain⟨ρ1,R1,mW⟩:=hs ρ a w R;exact h ρ0 w0 hr hf pins hpn a w ⟨ρ1,L1++L,ab0.trans ab,fun _ h=>absurd h List.not_mem_nil,R1,st.trans mW,hp.step R.hp R.fresh mW⟩
theorem dJ.nil {n:Nat}{sl:T RV}{hp:T ax}{nx:Nat}{lg:List Nat}:dJ n ⟨sl,hp,nx,lg⟩ ⟨sl,hp,nx,[]⟩:=
 dJ.step (L1:= []) (fun ht=>⟨Nat.le_refl _,fun _ _ _=>rfl,ht,fun _ h=>absurd h List.not_mem_nil⟩) (fun _ ρ a w R=>⟨ρ,⟨R.sz,R.df,R.sl,R.hp,R.fresh⟩,dN.refl R.fresh⟩)
def afQ(l:List (Nat×Option ax))(t:T ax):T ax:=match l with
 | []=>t
 |(i,x)::l=>match T.set (β:=T ax) depth t i x some with|some t=>afQ l t|none=>t
def rm(nw:Nat)(y:ax)(s:S):S:=match s with|⟨sl,hp,nx,_⟩=>match T.set (β:=T ax) depth hp nw (some y) some with|some t=>⟨sl,t,nx,[]⟩|none=>⟨sl,hp,nx,[]⟩
theorem dJ.aa {n:Nat}{s:S}(nw:Nat){x:ax}(y:ax)(hx:s.hp.get nw=some x)(hw:x.wr=true)(hw2:y.wr=true)(hxy: ∀ρ c o,cD ρ c x o->cD ρ c y o):dJ n s (rm nw y s):=by
 obtain⟨sl,hp,nx,lg⟩:=s;unfold rm;simp only;cases hset:T.set (β:=T ax) depth hp nw (some y) some with
 |none=>exact dJ.nil
 |some t=>
 simp only;obtain⟨t',e,hg⟩:=T.bR _ _ _ _ _ _ hset;simp only[ae]at e;subst e;refine dJ.step (L1:= [nw]) (fun ht=>⟨Nat.le_refl _,fun nm _ hn=> ?_,fun nm hn=> ?_,fun nm hn=> ?_⟩) (fun ht ρ a w R=> ?_)
 ·show t'.get nm=hp.get nm;rw[hg,if_neg (by simpa using hn)]
 ·have hn':nx<=nm:=hn;show t'.get nm=none;rw[hg];split
  ·rename_i e;subst e;rw[ht nm hn']at hx;cases hx
  ·exact ht nm hn'
 ·rw[List.mem_singleton.1 hn];rcases Nat.lt_or_ge nw nx with h'|h'
  ·exact h'
  ·have:hp.get nw=none:=ht nw h';have hx':hp.get nw=some x:=hx;rw[this]at hx';cases hx'
 ·obtain⟨b0,c0,o0,k1,k2,k3⟩:=R.hp.ok nw x hx;have hr:bu ρ t'.get w:=by
   refine⟨fun nm z hz=> ?_,fun nm nm' z z' b c c' hz hz' hzw e1 e2=> ?_,R.hp.fz.of (fun _ _ h=>h) (fun _ _ _=>rfl) fun nm z b c hz hzw e1=> .inl ?_⟩
   ·rw[hg]at hz;split at hz
    ·rename_i e;subst e;cases hz;exact⟨b0,c0,o0,k1,k2,hxy _ _ _ k3⟩
    ·exact R.hp.ok nm z hz
   ·have q: ∀m z,t'.get m=some z->∃z0,hp.get m=some z0/\z0.wr=z.wr:=fun m z hz=>by
     rw[hg]at hz;split at hz
     ·rename_i e;subst e;cases hz;exact⟨x,hx,by rw[hw,hw2]⟩
     ·exact⟨z,hz,rfl⟩
    obtain⟨z0,g1,g2⟩:=q _ _ hz;obtain⟨z1,g3,_⟩:=q _ _ hz';exact R.hp.inj nm nm' z0 z1 b c c' g1 g3 (by rw[g2];exact hzw) e1 e2
   ·rw[hg]at hz;split at hz
    ·rename_i e;subst e;exact⟨nm,x,c,hx,hw,e1⟩
    ·exact⟨nm,z,c,hz,hzw,e1⟩
  refine⟨ρ,⟨R.sz,R.df,R.sl,hr,R.fresh⟩,?_⟩;exact⟨Nat.le_refl _,fun _ _=>rfl,fun nm _ hn=>by show t'.get nm=hp.get nm;rw[hg,if_neg (by simpa using hn)],Nat.le_refl _,fun _ _ _=>rfl,(fun nm b c h1 h2=>by rw[R.fresh nm h1]at h2;cases h2),(fun nm h1 _=>by rw[List.mem_singleton.1 h1];exact⟨x,hx,hw⟩),rfl,rfl,rfl,fun _ _ h=>h,fun _ _ h=> .inl h⟩
theorem Kw{vk:Option IntKind}(ρ:aM)(c:Nat)(o:Obj)(h:cD ρ c (.map []) o):cD ρ c (.aQ vk []) o:=h
theorem ZA(ρ:aM)(c:Nat)(o:Obj)(h:cD ρ c (.map []) o):cD ρ c (.eE []) o:=h
theorem YZ(ρ:aM)(c:Nat)(o:Obj)(h:cD ρ c (.map []) o):cD ρ c (.di []) o:=h
def NF(nm cn:Nat)(y:ax)(s:S):S:=match s with|⟨sl,hp,nx,_⟩=>match T.set (β:=T ax) depth hp nm none some with
 |some t=>(match T.set (β:=T ax) depth t cn (some y) some with|some t=>⟨sl,t,nx,[]⟩|none=>⟨sl,hp,nx,[]⟩)
 |none=>⟨sl,hp,nx,[]⟩
theorem bt.set {ρ:aM}: ∀ {l:List Cell} {vs:List Value} {j:Nat} {c c':Cell},bt ρ l vs->l[j]? =some c->(∀v,CR ρ c v->CR ρ c' v)->bt ρ (l.set j c') vs
 | [],_,_,_,_,_,h,_=>by cases h
 |x::l,_,0,c,c',⟨v,vs',h1,h2,h3⟩,h,hc=>by
  simp only[List.getElem?_cons_zero,ae]at h;subst h;exact⟨v,vs',hc v h1,h2,h3⟩
 |x::l,_,j+1,c,c',⟨v,vs',h1,h2,h3⟩,h,hc=>⟨v,vs',h1,h2.set (by simpa using h) hc,h3⟩
theorem dJ.frz {n:Nat}{s:S}(nm cn:Nat){t t2:TypeId}{o2:Option Nat}{o:Option Nat}{l:aj}{k j:Nat}{cs:List Cell}(bT:nm≠cn)(hx:s.hp.get nm=some (.row t false o (.ints .i64 l k)))(hc:s.hp.get cn=some (.row t2 false o2 (.cells cs)))(hj:cs[j]? =some (.aC nm 1 0 k))(hk:k≠0):dJ n s (NF nm cn (.row t2 false o2 (.cells (cs.set j (.dI l)))) s):=by
 obtain⟨sl,hp,nx,lg⟩:=s;unfold NF;simp only;cases hs1:T.set (β:=T ax) depth hp nm none some with
 |none=>exact dJ.nil
 |some t1=>
 simp only;cases hs2:T.set (β:=T ax) depth t1 cn (some (.row t2 false o2 (.cells (cs.set j (.dI l))))) some with
 |none=>exact dJ.nil
 |some t'=>
 simp only;obtain⟨t1,e,hg1⟩:=T.bR _ _ _ _ _ _ hs1;simp only[ae]at e;subst e;obtain⟨t',e,hg2⟩:=T.bR _ _ _ _ _ _ hs2;simp only[ae]at e;subst e;have hg: ∀i,t'.get i=if i=cn then some (.row t2 false o2 (.cells (cs.set j (.dI l))))else if i=nm then none else hp.get i:=fun i=>by rw[hg2,hg1]
 have hx':hp.get nm=some (.row t false o (.ints .i64 l k)):=hx;have hc':hp.get cn=some (.row t2 false o2 (.cells cs)):=hc;have lt:cJ ⟨sl,hp,nx,lg⟩->nm<nx/\cn<nx:=fun ht=>by
  constructor
  ·rcases Nat.lt_or_ge nm nx with h'|h'
   ·exact h'
   ·have:hp.get nm=none:=ht nm h';rw[this]at hx';cases hx'
  ·rcases Nat.lt_or_ge cn nx with h'|h'
   ·exact h'
   ·have:hp.get cn=none:=ht cn h';rw[this]at hc';cases hc'
 refine dJ.step (L1:= [nm,cn]) (fun ht=>⟨Nat.le_refl _,fun i _ hn=> ?_,fun i hn=> ?_,fun i hn=> ?_⟩) (fun ht ρ a w R=> ?_)
 ·simp only[List.mem_cons,List.not_mem_nil,or_false,not_or]at hn;show t'.get i=hp.get i;rw[hg,if_neg hn.2,if_neg hn.1]
 ·have hn':nx<=i:=hn;have:=lt ht;show t'.get i=none;rw[hg,if_neg (by omega),if_neg (by omega)]
  exact ht i hn'
 ·have:=lt ht;simp only[List.mem_cons,List.not_mem_nil,or_false]at hn;rcases hn with rfl|rfl
  ·exact this.1
  ·exact this.2
 ·obtain⟨b,cp,ob,k1,k2,vs,tail,fr,rfl,⟨k3,k4⟩,k5,k6⟩:=R.hp.ok nm _ hx';obtain⟨b2,cp2,ob2,j1,j2,j3⟩:=R.hp.ok cn _ hc';subst k4
  let ρ1:aM:=⟨ρ.nm,fun b'=>if b'=b then some (l.map (Value.int .i64))else ρ.fz b'⟩
  have hno:ρ.fz b=none:=by
   cases hz:ρ.fz b with
   |none=>rfl
   |some l0=>exact absurd k1 ((R.hp.fz b l0 hz).2 nm _ cp hx' rfl)
  have hsub:Sub ρ ρ1:=⟨fun _ _ h=>h,fun b' l' h=>by
   show(if b'=b then _ else ρ.fz b')=_
   split
   ·rename_i e;subst e;rw[hno]at h;cases h
   ·exact h⟩
  have hl:l≠ []:=fun e=>by subst e;simp at k3;omega
  have hcell: ∀v,CR ρ1 (.aC nm 1 0 k) v->CR ρ1 (.dI l) v:=fun v hv=>by
   obtain⟨b',c',off,e1,e2,e3,e4⟩:=hv;have e1':ρ nm=some (b',c'):=e1;rw[k1]at e1';simp only[ae,af]at e1';obtain⟨rfl,rfl⟩:=e1';refine .inr ⟨hl,b,cp,by show(if b=b then _ else _)=_;rw[if_pos rfl],?_⟩
   rw[e4,k3];rcases e3 with rfl|⟨_,h0⟩
   ·rfl
   ·omega
  have hr:bu ρ1 t'.get w:=by
   refine⟨fun i z hz=> ?_,fun i i' z z' b0 c0 c0' hz hz' hzw e1 e2=> ?_,fun b' l' hb'=>⟨?_,fun i z c0 hz hzw e1=> ?_⟩⟩
   ·rw[hg]at hz;split at hz
    ·rename_i e;subst e;cases hz;obtain⟨vs2,tail2,fr2,rfl,q1,q2,q3⟩:=j3;exact⟨b2,cp2,_,j1,j2,vs2,tail2,fr2,rfl,(q1.mono hsub).set hj hcell,q2,q3⟩
    ·split at hz
     ·cases hz
     ·obtain⟨b0,c0,o0,q1,q2,q3⟩:=R.hp.ok i z hz;exact⟨b0,c0,o0,q1,q2,q3.mono hsub⟩
   ·have q: ∀m z,t'.get m=some z->∃z0,hp.get m=some z0/\z0.wr=z.wr:=fun m z hz=>by
     rw[hg]at hz;split at hz
     ·rename_i e;subst e;cases hz;exact⟨_,hc',rfl⟩
     ·split at hz
      ·cases hz
      ·exact⟨z,hz,rfl⟩
    obtain⟨z0,g1,g2⟩:=q _ _ hz;obtain⟨z1,g3,_⟩:=q _ _ hz';exact R.hp.inj i i' z0 z1 b0 c0 c0' g1 g3 (by rw[g2];exact hzw) e1 e2
   ·have hb2:(if b'=b then some (l.map (Value.int .i64))else ρ.fz b')=some l':=hb'
    split at hb2
    ·rename_i e;subst e;simp only[ae]at hb2;subst hb2;exact⟨_,_,_,k2,by simp⟩
    ·exact(R.hp.fz b' l' hb2).1
   ·have hb2:(if b'=b then some (l.map (Value.int .i64))else ρ.fz b')=some l':=hb'
    have e1':ρ i=some (b',c0):=e1;have hz0:i≠nm/\∃z0,hp.get i=some z0/\z0.wr=true:=by
     rw[hg]at hz;split at hz
     ·rename_i e;subst e;exact⟨fun e=>bT e.symm,_,hc',rfl⟩
     ·split at hz
      ·cases hz
      ·rename_i e;exact⟨e,z,hz,hzw⟩
    obtain⟨hin,z0,g1,g2⟩:=hz0;split at hb2
    ·rename_i e;subst e;exact hin (R.hp.inj i nm z0 _ b' c0 cp g1 hx' g2 e1' k1)
    ·exact(R.hp.fz b' l' hb2).2 i z0 c0 g1 g2 e1'
  refine⟨ρ1,⟨R.sz,R.df,fun i=>(R.sl i).mono hsub,hr,R.fresh⟩,?_⟩
  refine⟨Nat.le_refl _,fun _ _=>rfl,fun i _ hn=> ?_,Nat.le_refl _,fun _ _ _=>rfl,(fun i b c h1 h2=>by have:=R.fresh i h1;rw[show ρ i=some (b,c)from h2]at this;cases this),(fun i h1 _=> ?_),rfl,rfl,rfl,hsub.fz,fun b' l' h=> ?_⟩
  ·simp only[List.mem_cons,List.not_mem_nil,or_false,not_or]at hn;show t'.get i=hp.get i;rw[hg,if_neg hn.2,if_neg hn.1]
  ·simp only[List.mem_cons,List.not_mem_nil,or_false]at h1;rcases h1 with rfl|rfl
   ·exact⟨_,hx',rfl⟩
   ·exact⟨_,hc',rfl⟩
  ·have hb2:(if b'=b then some (l.map (Value.int .i64))else ρ.fz b')=some l':=h
   split at hb2
   ·rename_i e;subst e;exact .inr (.inr ⟨nm,cp,by simp,(lt ht).1,k1⟩)
   ·exact .inl hb2
end Go.Sx
namespace Go.Sx
open Go.RowKit
variable{P:Program}
theorem TO.we {n:Nat}{K pn:List Nat}{s0:S}{c:Code}{s g:S}{k0:Nat}{aH ord:List Nat}{Q:ag}(hk0:s0.nx=k0)(hg:nr k0 K pn aH n ord s=some g)(h:TO P n K pn s0 c g Q):TO P n K pn s0 c s Q:=fun ρ0 w0 hr hf pins hpn a w C=>by
 subst hk0;exact h ρ0 w0 hr hf pins hpn a w (C.gc hr hf hpn hg)
theorem TO.mX {Sg:FuncId->Option bg}(F:Fit P (fun f=>(Sg f).map bj)){fuel n:Nat}{s0:S}{K:X->S->A->Option Prop}{Q:ag}: ∀(m:Nat) (c:Code) (s:S) (Z:A),dG (dk P Sg fuel n m c s Z K)->
  (∀x s α',dG (K x s α')->aw α'.ob/\fS P n [] [] s0 Q (aG m c) x s)->aw Z.ob/\TO P n [] [] s0 c s Q
 | 0,c,s,Z,hT,hK=>hK .normal s Z hT
 |m+1,c,s,Z,hT,hK=>by
  cases c with
  |seq a b=>
   simp only[dk]at hT;have:=Tr.Xu F (Q:=fS P n [] [] s0 Q b) (fun x s1 α' h=>by
    cases x with
    |normal=>
     obtain⟨h1,h2⟩:=TO.mX F m b s1 α' h hK;exact⟨h1,h2⟩
    |exit id=>exact hK (.exit id) s1 α' h
    |ret=>exact hK .ret s1 α' h) hT
   exact⟨this.1,TO.seq (TO.Bf this.2)⟩
  |_=>exact hT.elim
def iR(k0:Nat)(aH:List Nat)(n:Nat)(ord:List Nat)(res:List ResultVar)(P:Program)(M:S->Prop)(R:ah)(x:X)(s:S)(Z:A):ai:=
 match x with
 | .normal=>(match nr k0 [] [] aH n ord s with|some g=>some (aw Z.ob/\M g)|none=>none)
 |x=>some (aw Z.ob/\R x (ba P n s res))
abbrev NK(v:RV):X->Option (List AV)->Prop:=fun x q=>x=X.ret/\∃L,q=some L/\c6 L=v
theorem TO.pieces {Sg:FuncId->Option bg}(F:Fit P (fun f=>(Sg f).map bj)){fuel n m:Nat}{c:Code}{s s0:S}{k0:Nat}(hk0:s0.nx=k0){aH ord:List Nat}{res:List ResultVar}{v:RV}
  (hT:dG (dk P Sg fuel n m c s aO (iR k0 aH n ord res P (fun g=>TO P n [] [] s0 (aG m c) g (pt P n res v)) (NK v)))):TO P n [] [] s0 c s (pt P n res v):=
 (TO.mX F (Q:=pt P n res v) m c s aO hT fun x s1 α' h=>by
  cases x with
  |normal=>
   unfold iR at h;simp only at h;split at h
   ·rename_i g hg;exact⟨h.1,TO.we hk0 hg h.2⟩
   ·exact h.elim
  |exit id=>exact absurd h.2.1 (by simp)
  |ret=>exact⟨h.1,.inr rfl,h.2.2⟩).2
theorem TO.eZ {Sg:FuncId->Option bg}(F:Fit P (fun f=>(Sg f).map bj)){fuel n m:Nat}{c:Code}{s s0:S}{k0:Nat}(hk0:s0.nx=k0){aH ord:List Nat}{Q:ag}(res:List ResultVar)
  (hT:dG (dk P Sg fuel n m c s aO (iR k0 aH n ord res P (fun g=>TO P n [] [] s0 (aG m c) g Q) (fun _ _=>False)))):TO P n [] [] s0 c s Q:=
 (TO.mX F (Q:=Q) m c s aO hT fun x s1 α' h=>by
  cases x with
  |normal=>
   unfold iR at h;simp only at h;split at h
   ·rename_i g hg;exact⟨h.1,TO.we hk0 hg h.2⟩
   ·exact h.elim
  |exit id=>exact h.2.elim
  |ret=>exact h.2.elim).2
end Go.Sx
namespace Go.Sx
open Go.RowKit
variable{P:Program}
def Jj(nm nx:Nat):Nat->Nat:=fun i=>if i=0 then nm else nx+(i - 1)
theorem acL(x:ax):(aN [(0,x)]:T ax)=T.node .nil (some x) .nil:=by kernel_rfl
theorem uR(x y:ax):(aN [(0,x),(1,y)]:T ax)=T.node (.node .nil (some y) .nil) (some x) .nil:=by kernel_rfl
theorem l7{x:ax}{i:Nat}{y:ax}(h:(aN [(0,x)]:T ax).get i=some y):i=0/\y=x:=by
 rw[acL,T.dq]at h;by_cases e:i=0
 ·rw[if_pos e]at h;cases h;exact⟨e,rfl⟩
 ·rw[if_neg e]at h;split at h<;>(rw[T.get_nil]at h;cases h)
theorem aU.Hx {f:FuncId}{args:List RV}{v:RV}{x y z:ax}{nm:Nat}{s:S}{hp':T ax}(ht:cJ s)(hfn: ∃fn,P.funcs[f]? =some fn/\fn.body.isNone=false)
  (hC:cd P f args 1 (aN [(0,x)]) 2 (aN [(0,x),(1,y)]) v) (ha:args.all (tp 1)=true) (hz:s.hp.get nm=some z) (hro:ft 1 (Jj nm s.nx) x z)
  (hg: ∀i,hp'.get i=if i=s.nx then some (gu (Jj nm s.nx) y)else s.hp.get i):
  aU P f (args.map (dB (Jj nm s.nx))) s (dB (Jj nm s.nx) v) {s with hp:=hp',nx:=s.nx+1,lg:= []++s.lg} []:=by
 have aA:nm<s.nx:=by
  rcases Nat.lt_or_ge nm s.nx with h'|h'
  ·exact h'
  ·rw[ht nm h']at hz;cases hz
 refine aU.Ra (k:=1) (k':=2) (θ:=Jj nm s.nx) ht hfn hC (by omega) ha (fun i w hw=> ?_) (fun i j w w' hw hw' _ _=> ?_) (fun i hi=> ?_) (fun m hm _=> ?_) (fun i w hw hwr=> ?_) (fun m hm=> ?_) (fun m=>⟨fun h=>absurd h List.not_mem_nil,fun⟨i,w,hw,hwr,_⟩=> ?_⟩)
 ·obtain⟨rfl,rfl⟩:=l7 hw;exact⟨by omega,aA,.inr ⟨hro.1,z,hz,hro⟩⟩
 ·obtain⟨rfl,_⟩:=l7 hw;obtain⟨rfl,_⟩:=l7 hw'
  rfl
 ·unfold Jj;rw[if_neg (by omega)]
 ·rw[hg,if_neg (by omega)]
 ·obtain⟨rfl,rfl⟩:=l7 hw;rw[hro.1]at hwr;cases hwr
 ·rw[hg];by_cases e:m=s.nx
  ·subst e;rw[if_pos rfl,if_pos (by omega),Nat.sub_self,Nat.zero_add,uR]
   rfl
  ·rw[if_neg e,if_neg (by omega)]
   exact ht m hm
 ·obtain⟨rfl,rfl⟩:=l7 hw;rw[hro.1]at hwr;cases hwr
theorem ft.dK {k:Nat}{θ:Nat->Nat}{o:Nat}{kd:IntKind}{l:aj}:ft k θ (.dK o kd l) (.dK o kd l):=⟨rfl,fun _ _ _ h=>h⟩
end Go.Sx
