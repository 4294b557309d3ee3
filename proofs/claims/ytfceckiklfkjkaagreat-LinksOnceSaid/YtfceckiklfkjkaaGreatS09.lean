import Derived.Test.YtfceckiklfkjkaaGreatS08
noncomputable section
namespace Go.Sx
def cJ(s:S):Prop:= ∀nm,s.nx<=nm->s.hp.get nm=none
structure gU(s s':S)(L:List Nat):Prop where
 lg:s'.lg=L++s.lg
 le:s.nx<=s'.nx
 aH: ∀nm,nm<s.nx->nm∉L->s'.hp.get nm=s.hp.get nm
 top:cJ s'
 lt: ∀nm,nm∈L->nm<s'.nx
theorem gU.refl {s:S}(h:cJ s):gU s s []:=⟨rfl,Nat.le_refl _,fun _ _ _=>rfl,h,fun _ h=>by cases h⟩
theorem gU.trans {s1 s2 s3:S}{L1 L2:List Nat}(a:gU s1 s2 L1)(b:gU s2 s3 L2):gU s1 s3 (L2++L1) where
 lg:=by rw[b.lg,a.lg,List.append_assoc]
 le:=Nat.le_trans a.le b.le
 aH:=fun nm h hn=>by
  rw[List.mem_append,not_or]at hn;rw[b.aH nm (Nat.lt_of_lt_of_le h a.le) hn.1,a.aH nm h hn.2]
 top:=b.top
 lt:=fun nm h=>by
  rcases List.mem_append.1 h with h|h
  ·exact b.lt nm h
  ·exact Nat.lt_of_lt_of_le (a.lt nm h) b.le
def slot(n:Nat)(sl:T RV)(t:Nat):RV:=(if t<n then sl.get t else none).getD fc
theorem sS(n:Nat)(sl:T RV)(t:Nat):eval n sl (.tmp t)=some (slot n sl t):=by
 show(if t<n then(match sl.get t with|some v=>some v|none=>some fc)else some fc)=_
 unfold slot;split
 ·cases sl.get t<;>rfl
 ·rfl
variable{P:Program}{ρ:aM}{w:World}
theorem pv:bE ρ fc undef:=⟨[],rfl,rfl⟩
theorem ml{n:Nat}{sl:T RV}{a:Act}{x:Operand}(h: ∀t,x= .tmp t->bE ρ (slot n sl t) (a.tmps.getD t undef)):dx ρ (eval n sl) a.eval x:=by
 intro v hv;cases x with
 |tmp t=>
  rw[sS,ae]at hv;subst hv;exact h t rfl
 |const c=>
  simp only[eval]at hv;split at hv
  ·rename_i l;split at hv<;>try(cases hv;done)
   rename_i hl;simp only[ae]at hv;subst hv;have:l= #[]:=by cases l;simp_all
   subst this;exact pv
  ·split at hv<;>try(cases hv;done)
   rename_i c' hc;simp only[ae]at hv;subst hv;exact pU (ρ:=ρ) hc
 |global g=>simp[eval]at hv
 |func f=>
  simp only[eval,ae]at hv;subst hv;exact⟨[],[],rfl,rfl,rfl⟩
section mS
variable{β:Type}
theorem QZ{z:Bool}{u:cf}{s:S}{k:S->Option β}{r:β}(h:iQ z u s k=some r):
  ∃s',k s'=some r/\s'.sl=s.sl/\s'.hp.get=u.hp s.hp.get s.nx/\s'.nx=u.nx s.nx/\s'.lg=u.log++s.lg/\(∀nm,nm∈u.log->nm<s.nx):=by
 cases u with
 |none=>exact⟨s,h,rfl,rfl,rfl,rfl,by simp[cf.log]⟩
 |new b=>
  simp only[iQ,mn]at h;obtain⟨t,h1,h2⟩:=T.bR _ _ _ _ _ _ h;rw[fy]at h1;exact⟨_,h1,rfl,funext fun j=>by rw[h2];rfl,rfl,rfl,by simp[cf.log]⟩
 |wr nm b=>
  simp only[iQ,mn]at h;cases hb:Nat.blt nm s.nx with
  |false=>rw[hb]at h;cases h
  |true=>
   rw[hb]at h;obtain⟨t,h1,h2⟩:=T.bR _ _ _ _ _ _ h;refine⟨_,h1,rfl,funext fun j=>by rw[h2];rfl,rfl,rfl,?_⟩
   intro nm' e;simp only[cf.log,List.mem_singleton]at e;rw[e];exact Nat.le_of_ble_eq_true hb
 |mv nm b=>
  simp only[iQ,mn]at h;cases hb:Nat.blt nm s.nx with
  |false=>rw[hb]at h;cases h
  |true=>
   rw[hb]at h;obtain⟨t,h1,h2⟩:=T.bR _ _ _ _ _ _ h;obtain⟨t',h3,h4⟩:=T.bR _ _ _ _ _ _ h1;rw[fy]at h3;refine⟨_,h3,rfl,funext fun j=> ?_,rfl,rfl,?_⟩
   ·rw[h4];simp only[cf.hp,mS,h2]
   ·intro nm' e;simp only[cf.log,List.mem_singleton]at e;rw[e];exact Nat.le_of_ble_eq_true hb
theorem pO{n:Nat}{d:Option Tmp}{v:RV}{s:S}{k:S->Option β}{r:β}(h:putDst n d v s k=some r):
  ∃s',k s'=some r/\s'.hp=s.hp/\s'.nx=s.nx/\s'.lg=s.lg/\(∀i,s'.sl.get i=if d=some i then some v else s.sl.get i)/\(∀d',d=some d'->d'<n):=by
 cases d with
 |none=>exact⟨s,h,rfl,rfl,rfl,by simp,by simp⟩
 |some d=>
  simp only[putDst]at h;split at h<;>try(cases h;done)
  rename_i aA;obtain⟨t,h1,h2⟩:=T.bR _ _ _ _ _ _ h;refine⟨_,h1,rfl,rfl,rfl,fun i=> ?_,?_⟩
  ·rw[h2];by_cases e:i=d
   ·subst e;simp
   ·have: ¬(some d=some i):=by intro h;cases h;exact e rfl
    simp[e,this]
  ·intro d' hd;cases hd;exact aA
end mS
theorem bu.none {h:Hp}{nx i:Nat}(hr:bu ρ h w)(hf:bW ρ nx)(hi:nx<=i):h i=none:=by
 cases hx:h i with
 |none=>rfl
 |some x=>
  obtain⟨b,c,o,g1,_⟩:=hr.ok i x hx;rw[hf i hi]at g1;cases g1
theorem dN.lift {h sub sub':Hp}{nx nx':Nat}{w':World}{ρ':aM}{L:List Nat}(hr:bu ρ h w)(hf:bW ρ nx)(hs: ∀i x,sub i=some x->h i=some x)
  (st:dN ρ sub nx w ρ' sub' nx' w' L) (hr':bu ρ' sub' w'):
  ∃h',bu ρ' h' w'/\dN ρ h nx w ρ' h' nx' w' L/\(∀nm,nm∈L\/nx<=nm->h' nm=sub' nm):=by
 let inn:Nat->Bool:=fun nm=>decide (nm∈L)||decide (nx<=nm)
 let h':Hp:=fun nm=>if inn nm=true then sub' nm else h nm
 have hin: ∀nm,nm∈L\/nx<=nm->h' nm=sub' nm:=by
  intro nm hm;show(if inn nm=true then sub' nm else h nm)=sub' nm
  rw[if_pos];simpa[inn]using hm
 have hout: ∀nm,nm∉L->nm<nx->h' nm=h nm:=by
  intro nm h1 h2;show(if inn nm=true then sub' nm else h nm)=h nm
  rw[if_neg];simp[inn,h1];exact h2
 have noW: ∀nm b c x,nm∉L->nm<nx->h nm=some x->ρ nm=some (b,c)->∀bs c0,bs∈L->bs<nx->ρ bs≠some (b,c0):=by
  intro nm b c x h1 h2 h3 h4 bs c0 h5 h6 h7;obtain⟨x0,o1,o2⟩:=st.aq bs h5 h6;have:=hr.inj bs nm x0 x b c0 c (hs _ _ o1) h3 o2 h7 h4;subst this;exact h1 h5
 have mixed: ∀i j p q b c c',(i∈L\/nx<=i)->j∉L->j<nx->sub' i=some p->h j=some q->ρ' i=some (b,c)->ρ j=some (b,c')->False:=by
  intro i j p q b c c' hi hj1 hj2 h1 h2 h3 h4;by_cases aA:i<nx
  ·have hi:i∈L:=hi.resolve_right (by omega)
   rw[st.rho i aA]at h3;exact noW j b c' q hj1 hj2 h2 h4 i c hi aA h3
  ·rcases st.new i b c (by omega) h3 with h|⟨bs,c0,m1,m2,m3⟩
   ·obtain⟨b',c'',o,g1,g2,_⟩:=hr.ok j q h2;rw[h4]at g1;simp only[ae,af]at g1;obtain⟨rfl,_⟩:=g1;have:=bS g2;omega
   ·exact noW j b c' q hj1 hj2 h2 h4 bs c0 m1 m2 m3
 refine⟨h',⟨?_,?_,?_⟩,?_,hin⟩
 ·intro nm x hx;by_cases hc:nm∈L\/nx<=nm
  ·rw[hin nm hc]at hx;exact hr'.ok nm x hx
  ·rw[not_or]at hc;have aA:nm<nx:=by omega
   rw[hout nm hc.1 aA]at hx;obtain⟨b,c,o,g1,g2,g3⟩:=hr.ok nm x hx;refine⟨b,c,o,by rw[st.rho nm aA];exact g1,?_,g3.mono (st.sub hf)⟩
   rw[st.frame b (bS g2) fun bs c0 m1 m2=>noW nm b c x hc.1 aA hx g1 bs c0 m1 m2]
   exact g2
 ·intro i j p q b c c' hp1 hq1 hw h1 h2;by_cases hi:i∈L\/nx<=i<;>by_cases hj:j∈L\/nx<=j
  ·rw[hin i hi]at hp1;rw[hin j hj]at hq1;exact hr'.inj _ _ _ _ _ _ _ hp1 hq1 hw h1 h2
  ·rw[not_or]at hj;have aA:j<nx:=by omega
   rw[hin i hi]at hp1;rw[hout j hj.1 aA]at hq1;rw[st.rho j aA]at h2;exact(mixed i j p q b c c' hi hj.1 aA hp1 hq1 h1 h2).elim
  ·rw[not_or]at hi;have aA:i<nx:=by omega
   rw[hin j hj]at hq1;rw[hout i hi.1 aA]at hp1;rw[st.rho i aA]at h1;exact(mixed j i q p b c' c hj hi.1 aA hq1 hp1 h2 h1).elim
  ·rw[not_or]at hi hj;rw[hout i hi.1 (by omega)]at hp1
   rw[hout j hj.1 (by omega)]at hq1
   rw[st.rho i (by omega)]at h1
   rw[st.rho j (by omega)]at h2
   exact hr.inj _ _ _ _ _ _ _ hp1 hq1 hw h1 h2
 ·intro b l hb;refine⟨(hr'.fz b l hb).1,fun nm x c hx hw he=> ?_⟩
  by_cases hc:nm∈L\/nx<=nm
  ·rw[hin nm hc]at hx;exact(hr'.fz b l hb).2 nm x c hx hw he
  ·rw[not_or]at hc;have aA:nm<nx:=by omega
   rw[hout nm hc.1 aA]at hx;rw[st.rho nm aA]at he;rcases st.fzn b l hb with h|h|⟨bs,c0,m1,m2,m3⟩
   ·exact(hr.fz b l h).2 nm x c hx hw he
   ·obtain⟨b',c'',o,g1,g2,_⟩:=hr.ok nm x hx;rw[he]at g1;simp only[ae,af]at g1;obtain⟨rfl,_⟩:=g1;have:=bS g2;omega
   ·exact noW nm b c x hc.1 aA hx he bs c0 m1 m2 m3
 ·exact⟨st.le,st.rho,fun nm h1 h2=>hout nm h2 h1,st.size,st.frame,st.new,fun nm h1 h2=>by
   obtain⟨x,o1,o2⟩:=st.aq nm h1 h2;exact⟨x,hs _ _ o1,o2⟩,st.os,st.tape,st.al,st.je,st.fzn⟩
structure aU(P:Program)(f:FuncId)(args:List RV)(s:S)(v:RV)(s':S)(L:List Nat):Prop where
 fn: ∃fn,P.funcs[f]? =some fn/\fn.body.isNone=false
 sl:s'.sl=s.sl
 abs:gU s s' L
 run: ∀(ρ:aM) (w:World) (vs:List Value),bu ρ s.hp.get w->bW ρ s.nx->bo ρ args vs->Calls P f vs.toArray w fun e w'=>
  ∃V ρ',e= .returned V/\bE ρ' v V/\bu ρ' s'.hp.get w'/\bW ρ' s'.nx/\dN ρ s.hp.get s.nx w ρ' s'.hp.get s'.nx w' L
structure Nz(P:Program)(nm:Nat)(args:List RV)(s:S)(v:RV)(s':S)(L:List Nat):Prop where
 sl:s'.sl=s.sl
 abs:gU s s' L
 run: ∀(ρ:aM) (w:World) (vs:List Value) (b c:Nat),bu ρ s.hp.get w->bW ρ s.nx->bo ρ args vs->ρ nm=some (b,c)->∃(f:FuncId) (tmps:Array Value) (aa bd:Code),
  (Instr.yield b vs.toArray).run P w= .ok (.round b f tmps aa bd) w/\RoundIn Fence.wide 0 P b f tmps aa bd w fun e w'=>
   ∃V ρ',e= .returned V/\bE ρ' v V/\bu ρ' s'.hp.get w'/\bW ρ' s'.nx/\dN ρ s.hp.get s.nx w ρ' s'.hp.get s'.nx w' L
def rX(P:Program)(f:FuncId)(args:List RV)(s:S)(v:RV)(s':S)(L:List Nat):Prop:=
 (f<YB/\aU P f args s v s' L)\/(YB<=f/\Nz P (f - YB) args s v s' L)
theorem rX.sl {f:FuncId}{args:List RV}{s:S}{v:RV}{s':S}{L:List Nat}(h:rX P f args s v s' L):s'.sl=s.sl:=by rcases h with⟨_,h⟩|⟨_,h⟩<;>exact h.sl
theorem rX.abs {f:FuncId}{args:List RV}{s:S}{v:RV}{s':S}{L:List Nat}(h:rX P f args s v s' L):gU s s' L:=by rcases h with⟨_,h⟩|⟨_,h⟩<;>exact h.abs
def mR(P:Program){β:Type}(call:fJ β):Prop:= ∀f args s k r,cJ s->call f args s k=some r->∃v s' L,k v s'=some r/\rX P f args s v s' L
def Dy(nd:fG)(s:S)(h:Hp):Prop:=
 match nd with
 |some l=> ∀nm∈l,h nm=s.hp.get nm
 |none=> ∀nm x,s.hp.get nm=some x->h nm=some x
structure la(P:Program)(n:Nat)(ops:Array Oper)(o:Oper)(s:S)(nd:fG)(s':S)(L:List Nat):Prop where
 abs:gU s s' L
 other: ∀i,o.dst≠some i->s'.sl.get i=s.sl.get i
 dst: ∀d,o.dst=some d->d<n
 run: ∀(ro:Option Nat) (ρ:aM) (w:World) (a:Act) (h:Hp),a.tmps.size=n->(∀t∈tmpsOf o.op.operands.toList++oO ops.toList o,bE ρ (slot n s.sl t) (a.tmps.getD t undef))->
  bu ρ h w->bW ρ s.nx->Dy nd s h->
  ∀(next:Act->World->Prop) (Q:Exit->Act->World->Prop),
   (∀V w' ρ' h',(∀d,o.dst=some d->bE ρ' (slot n s'.sl d) V)->bu ρ' h' w'->bW ρ' s'.nx->dN ρ h s.nx w ρ' h' s'.nx w' L->(∀nm,nm∈L\/s.nx<=nm->h' nm=s'.hp.get nm)->next (a.put o.dst V) w')->
   if Region.wanted o (yielded ops a.tmps)then o.wpIn (FR ro) 0 P a w next Q else next (a.put o.dst undef) w
theorem n8{x:Operand}{t:Tmp}: ∀ {l:List Operand},x∈l->x= .tmp t->t∈tmpsOf l
 |y::l,h,e=>by
  subst e;rcases List.mem_cons.1 h with rfl|h
  ·simp[tmpsOf]
  ·have:=n8 (t:=t) h rfl;cases y<;>simp[tmpsOf,this]
theorem sR{n:Nat}{ops:Array Oper}{sl:T RV}{o:Oper}{g:Bool}(hg:guardOf n ops.toList sl o=some g){a:Act}(hsz:a.tmps.size=n)
  (h: ∀t∈oO ops.toList o,bE ρ (slot n sl t) (a.tmps.getD t undef)):Region.wanted o (yielded ops a.tmps)=g:=by
 unfold guardOf at hg;unfold Region.wanted;split at hg
 ·rename_i h0;simp only[ae]at hg;rw[h0, <-hg]
 ·rename_i j want h0;split at hg<;>try(cases hg;done)
  rename_i oj hoj;split at hg<;>try(cases hg;done)
  rename_i d hd;rw[h0];have ho':ops[j]? =some oj:=by simpa using hoj
  have hmem:d∈oO ops.toList o:=by simp[oO,h0,hoj,hd]
  have hR:=h d hmem;have hy:yielded ops a.tmps j=(match a.tmps[d]? with|some (.bool b)=>some b|_=>none):=by
   simp[yielded,ho',hd]
   rfl
  rw[sS]at hg;by_cases aA:d<n
  ·have hget:a.tmps[d]? =some (a.tmps.getD d undef):=by
    rw[Array.getElem?_eq_getElem (show d<a.tmps.size from by rw[hsz];exact aA)]
    simp[Array.getD,hsz,aA]
   split at hg<;>try(cases hg;done)
   ·rename_i b hb;simp only[ae]at hb hg;rw[hb]at hR;simp only[bE,bY,CR]at hR;rw[hR]at hget;simp only[hy,hget, <-hg];cases b<;>cases want<;>rfl
   ·rename_i hb;simp only[ae]at hb hg;rw[hb]at hR;obtain⟨vs,h1,h2⟩:=hR;simp only[eA]at h1;subst h1;rw[h2]at hget;simp only[hy,hget, <-hg]
    rfl
  ·have hget:a.tmps[d]? =none:=Array.getElem?_eq_none (by rw[hsz];exact Nat.le_of_not_lt aA)
   have:slot n sl d=fc:=by simp[slot,aA]
   rw[this]at hg;simp only[ae]at hg;simp only[hy,hget, <-hg]
   rfl
theorem H9{o:Oper}{a:Act}{hp:Hp}{nx:Nat}{r:br}{next:Act->World->Prop}{Q:Exit->Act->World->Prop}(h:Jv P ρ hp nx w (execOp a.eval o) r)
  {ro:Option Nat} (hd: ∀c,o.op≠ .defer c) (hn: ∀V w' ρ',Out ρ hp nx w r.u r.v V ρ' w'->next (a.put o.dst V) w'):o.wpIn (FR ro) 0 P a w next Q:=by
 obtain⟨V,w',ρ',h1,h2⟩:=h;refine⟨fun _ _=>trivial,?_⟩
 rw[Oper.semAt_eq _ _ _ hd];rcases h1 with h1|⟨h1,rfl⟩
 ·rw[h1];exact hn _ _ _ h2
 ·rw[h1];exact hn _ _ _ h2
section op
variable{β:Type}{z:Bool}{call:fJ β}(hcall:mR P call)
 (hng: ∀(g:Nat) (fn:Func),P.funcs[g]? =some fn->(fn.name== "runtime.NumGoroutine")=false)
include hcall hng
omit hcall hng in
theorem xF{n:Nat}{sl:T RV}{a:Act}: ∀ {l:List Operand} {vs:List RV},lS (eval n sl) l=some vs->(∀x∈l,dx ρ (eval n sl) a.eval x)->bo ρ vs (l.map a.eval)
 | [],vs,h,_=>by simp[lS]at h;subst h;rfl
 |x::l,vs,h,hx=>by
  simp only[lS]at h;split at h<;>try(cases h;done)
  rename_i v vs' h1 h2;simp only[ae]at h;subst h;exact⟨_,_,hx x (by simp) _ h1,xF h2 fun y hy=>hx y (List.mem_cons_of_mem _ hy),rfl⟩
omit hcall hng in
theorem bo.append: ∀ {l m:List RV} {vs us:List Value},bo ρ l vs->bo ρ m us->bo ρ (l++m) (vs++us)
 | [],_,_,_,h,g=>by simp only[bo]at h;subst h;simpa using g
 |_::_,_,_,_,⟨v,vs',h1,h2,h3⟩,g=>by subst h3;exact⟨v,_,h1,h2.append g,rfl⟩
omit hcall hng in
theorem mO: ∀ {l:List (Nat×Nat)} {vs:List Value},dF ρ l vs->bo ρ (l.map fun(nm,off)=> .one (.c (.ptr nm off))) vs
 | [],_,h=>h
 |(_,_)::_,_,⟨b,c,vs',h1,h2,h3⟩=>⟨_,vs',⟨b,c,h1,rfl⟩,mO h2,h3⟩
omit hcall in
theorem z6{n:Nat}{o:Oper}{c:Call}{fo:Operand}{fid:FuncId}{fsv dH l:List RV}{s s1:S}{v:RV}{L:List Nat}{a:Act}{ro:Option Nat}(hop:o.op= .call c)(hcal:c.callee= .value fo)
  (hcallee:me n s.sl fo=some (fid,fsv,dH)) {sx:S} (hi:rX P fid (fsv++(l++dH)) sx v s1 L) (hsub:bu ρ sx.hp.get w) (hf:bW ρ sx.nx)
  (hev: ∀x∈o.op.operands.toList,dx ρ (eval n s.sl) a.eval x) (hfo:fo∈o.op.operands.toList) (hargs:bo ρ l (c.args.toList.map a.eval)) {next:Act->World->Prop} {Q:Exit->Act->World->Prop}
  (hn: ∀V w' ρ',bE ρ' v V->bu ρ' s1.hp.get w'->bW ρ' s1.nx->dN ρ sx.hp.get sx.nx w ρ' s1.hp.get s1.nx w' L->next (a.put o.dst V) w'):o.wpIn (FR ro) 0 P a w next Q:=by
 unfold me at hcallee;refine⟨fun _ _=>trivial,?_⟩
 rw[Oper.semAt_eq _ _ _ (fun c' h'=>by rw[hop]at h';cases h')]
 split at hcallee<;>try(cases hcallee;done)
 ·rename_i f' fs' caps' hf';split at hcallee<;>try(cases hcallee;done)
  rename_i hYB;simp only[ae,af]at hcallee;obtain⟨rfl,rfl,rfl⟩:=hcallee;have hYB:f'<YB:=by simpa[Nat.blt_eq]using hYB
  have hi:=hi.resolve_right (fun h=>absurd h.1 (Nat.not_le_of_lt hYB))
  have hi:=hi.2;obtain⟨fvs,cvs,c0,c1,c2⟩:=hev fo hfo _ hf';have hC:=hi.run ρ w _ hsub hf (bo.append (mO c0) (bo.append hargs (mO c1)));obtain⟨fn,f1,f2⟩:=hi.fn;have hexec:(execOp a.eval o).run P w= .ok (.enter f' (fvs++(c.args.toList.map a.eval++cvs)).toArray) w:=by
   have ha:fvs.toArray++(c.args.map a.eval)++cvs.toArray=(fvs++(c.args.toList.map a.eval++cvs)).toArray:=by
    apply Array.toList_inj.1;simp
   simp only[execOp,hop,resolve,hcal,Deferred.ofValue,c2,Sem.run_bind,Sem.run_pure,Result.andThen_ok,invoke,callFunc,run_program,f1,hng _ _ f1,f2,Bool.false_eq_true,if_false];rw[<-ha]
  rw[hexec,Oper.uponIn_enter];refine⟨xE,(GA hC).mono fun e w' ⟨V,ρ',he,g1,g2,g3,g4⟩=> ?_⟩
  subst he;exact hn V w' ρ' g1 g2 g3 g4
 ·rename_i nm hf';simp only[ae,af]at hcallee;obtain⟨rfl,rfl,rfl⟩:=hcallee;have hi:Nz P nm l sx v s1 L:=by
   have h:=(hi.resolve_left (fun h=>absurd h.1 (Nat.not_lt_of_le (Nat.le_add_right YB nm)))).2
   rw[show YB+nm - YB=nm by omega]at h
   simpa using h
  obtain⟨b,cc,c1,c2⟩:=hev fo hfo _ hf';obtain⟨f,tmps,aa,bd,y1,y2⟩:=hi.run ρ w _ b cc hsub hf hargs c1;have hexec:(execOp a.eval o).run P w= .ok (.round b f tmps aa bd) w:=by
   have ha:(#[]:Array Value)++(c.args.map a.eval)=(c.args.toList.map a.eval).toArray:=by
    apply Array.toList_inj.1;simp
   simp only[execOp,hop,resolve,hcal,Deferred.ofValue,c2,Sem.run_bind,Sem.run_pure,Result.andThen_ok,invoke];rw[ha,y1]
  rw[hexec,Oper.uponIn_round];refine⟨xE,(Vp y2).mono fun e w' ⟨V,ρ',he,g1,g2,g3,g4⟩=> ?_⟩
  subst he;exact hn V w' ρ' g1 g2 g3 g4
theorem xG{n:Nat}{ops:Array Oper}{o:Oper}{s:S}{k:fG->S->Option β}{r:β}(htop:cJ s)(h:mG P z call n ops.toList o s k=some r):
  ∃nd s' L,k nd s'=some r/\la P n ops o s nd s' L:=by
 unfold mG at h;split at h<;>try(cases h;done)
 rename_i g hg;split at h
 ·
  split at h
  ·
   rename_i f args hic;unfold rH at hic;split at hic<;>try(cases hic;done)
   rename_i c hop;split at hic<;>try(cases hic;done)
   rename_i fo hcal;simp only[ae,af]at hic;obtain⟨rfl,rfl⟩:=hic;unfold q9 at h;split at h<;>try(cases h;done)
   rename_i fid fsv dH hcallee;split at h<;>try(cases h;done)
   rename_i l hl;obtain⟨v,s1,L,h1,hi⟩:=hcall _ _ _ _ _ htop h;obtain⟨s2,h2,e1,e2,e3,e4,e5⟩:=pO h1;refine⟨none,s2,L,h2,⟨⟨by rw[e3,hi.abs.lg],by rw[e2];exact hi.abs.le,fun nm q1 q2=>by rw[e1];exact hi.abs.aH nm q1 q2,fun nm q=>by rw[e1];exact hi.abs.top nm (by omega),fun nm q=>by rw[e2];exact hi.abs.lt nm q⟩,?_,e5,?_⟩⟩
   ·intro i bT;rw[e4,if_neg bT,hi.sl]
   ·intro ro ρ w a hh hsz hop' hr hf hnd next Q hn
    have hgd:=sR (ρ:=ρ) hg hsz fun t ht=>hop' t (List.mem_append.2 (.inr ht))
    rw[hgd,if_pos rfl];have hev: ∀x∈o.op.operands.toList,dx ρ (eval n s.sl) a.eval x:=fun x hx=>ml fun t ht=>hop' t (List.mem_append.2 (.inl (n8 hx ht)))
    have hmem: ∀x∈c.args.toList,x∈o.op.operands.toList:=fun x hx=>by
     rw[hop];simp only[Op.operands,Call.operands,Array.toList_append,List.mem_append];exact .inr hx
    have hfo:fo∈o.op.operands.toList:=by rw[hop];simp[Op.operands,Call.operands,hcal]
    have hargs:=xF hl fun x hx=>hev x (hmem x hx)
    have hsub:bu ρ s.hp.get w:=hr.sub hnd;have key:=z6 (P:=P) hng (ro:=ro) hop hcal hcallee hi hsub hf hev hfo hargs (next:=next) (Q:=Q) (fun V w' ρ' g1 g2 g3 g4=>by
     obtain⟨h',l1,l2,l3⟩:=g4.lift hr hf hnd g2;refine hn V w' ρ' h' ?_ l1 (by rw[e2];exact g3) (by rw[e2];exact l2) (fun nm hm=>by rw[l3 nm hm,e1])
     intro d hd;have aA:=e5 d hd;simp only[slot,aA,if_true,e4,hd,Option.getD_some];exact g1)
    exact key
  ·
   unfold oF at h;split at h<;>try(cases h;done)
   rename_i res hres;rw[Ph]at h;obtain⟨s1,h1,u1,u2,u3,u4,u5⟩:=QZ h;obtain⟨s2,h2,e1,e2,e3,e4,e5⟩:=pO h1;have hkeep: ∀nm,nm<s.nx->nm∉res.u.log->s2.hp.get nm=s.hp.get nm:=by
    intro nm q1 q2;rw[e1,u2];cases hu:res.u<;>rw[hu]at q2<;>simp only[cf.hp,cf.log,List.mem_singleton]at q2 ⊢
    ·rw[cu _ _ (by omega)]
    ·rw[cu _ _ q2]
    ·rw[cu _ _ (by omega),cu _ _ q2]
   have htop':cJ s2:=by
    intro nm q;rw[e2,u3]at q;rw[e1,u2];cases hu:res.u<;>rw[hu]at q<;>simp only[cf.nx]at q<;>simp only[cf.hp]
    ·exact htop nm q
    ·rw[cu _ _ (by omega)];exact htop nm (by omega)
    ·rename_i nm' b;by_cases e:nm=nm'
     ·subst e;have:=u5 nm (by rw[hu];simp[cf.log])
      omega
     ·rw[cu _ _ e];exact htop nm (by omega)
    ·rename_i nm' b;rw[cu _ _ (by omega)]
     by_cases e:nm=nm'
     ·subst e;rw[kF]
     ·rw[cu _ _ e];exact htop nm (by omega)
   refine⟨some res.ar,s2,res.u.log,h2,⟨⟨by rw[e3,u4],?_,hkeep,htop',fun nm q=> ?_⟩,?_,e5,?_⟩⟩
   ·rw[e2,u3];cases res.u<;>simp[cf.nx]
   ·have:=u5 nm q;have:s.nx<=s2.nx:=by rw[e2,u3];cases res.u<;>simp[cf.nx]
    omega
   ·intro i bT;rw[e4,if_neg bT,u1]
   ·intro ro ρ w a hh hsz hop' hr hf hnd next Q hn
    have hgd:=sR (ρ:=ρ) hg hsz fun t ht=>hop' t (List.mem_append.2 (.inr ht))
    rw[hgd,if_pos rfl];have hev: ∀x∈o.op.operands.toList,dx ρ (eval n s.sl) a.eval x:=fun x hx=>ml fun t ht=>hop' t (List.mem_append.2 (.inl (n8 hx ht)))
    have hres':=LZ (h':=hh) hres hnd;refine H9 (OD hr hf hres' hev) (fun c hc=>by rw[hc]at hres;cases hres) fun V w' ρ' hO=> ?_
    refine hn V w' ρ' _ ?_ hO.rel (by rw[e2,u3];exact hO.fresh) (by rw[e2,u3];exact hO.ff) ?_
    ·intro d hd;have aA:=e5 d hd;simp only[slot,aA,if_true,e4,hd,Option.getD_some];exact hO.val
    ·intro nm hm;rw[e1,u2];have hnone: ∀i,s.nx<=i->hh i=s.hp.get i:=fun i hi=>by rw[htop i hi,hr.none hf hi]
     cases hu:res.u<;>rw[hu]at hm<;>simp only[cf.log,List.not_mem_nil,List.mem_singleton,false_or]at hm<;>simp only[cf.hp,mS]
     ·exact hnone nm hm
     ·split
      ·rfl
      ·exact hnone nm hm
     ·split
      ·rfl
      ·rename_i bT;exact hnone nm (hm.resolve_left bT)
     ·split
      ·rfl
      ·split
       ·rfl
       ·rename_i bT;exact hnone nm (hm.resolve_left bT)
 ·
  obtain⟨s2,h2,e1,e2,e3,e4,e5⟩:=pO h;refine⟨some [],s2,[],h2,⟨⟨by rw[e3];rfl,by rw[e2];exact Nat.le_refl _,fun _ _ _=>by rw[e1],fun nm q=>by rw[e1];exact htop nm (by omega),fun nm q=>by cases q⟩,fun i bT=>by rw[e4,if_neg bT],e5,?_⟩⟩
  intro ro ρ w a hh hsz hop' hr hf hnd next Q hn
  have hgd:=sR (ρ:=ρ) hg hsz fun t ht=>hop' t (List.mem_append.2 (.inr ht))
  rw[hgd,if_neg (by simp)]
  refine hn undef w ρ hh ?_ hr (by rw[e2];exact hf) (by rw[e2];exact dN.refl hf) ?_
  ·intro d hd;have aA:=e5 d hd;simp only[slot,aA,if_true,e4,hd,Option.getD_some];exact pv
  ·intro nm hm;have hm:s.nx<=nm:=by simpa using hm
   rw[e1,htop nm hm,hr.none hf hm]
end op
end Go.Sx
namespace Go.Sx
variable{P:Program}
structure Rel(n:Nat)(ρ:aM)(s:S)(a:Act)(w:World):Prop where
 sz:a.tmps.size=n
 df:a.defers= []
 sl: ∀t,bE ρ (slot n s.sl t) (a.tmps.getD t undef)
 hp:bu ρ s.hp.get w
 fresh:bW ρ s.nx
abbrev tr(r:Nat):Deferred:= {target:= .collected r,args:= #[]}
def Marks(ds:List Deferred)(w:World):Prop:= ∃rs:List Nat,ds=rs.map tr/\rs.Nodup/\∀r∈rs,w.heap[r]? =some (.deferred (some []))
theorem Marks.nil {w:World}:Marks [] w:=⟨[],rfl,List.Pairwise.nil,fun _ h=>by cases h⟩
theorem cD.WW {ρ:aM}{c:Nat}{x:ax}{d:Option (List Deferred)}(h:cD ρ c x (.deferred d)):False:=by
 cases x with
 |row=>obtain⟨_,_,_,h,_⟩:=h;cases h
 |map=>obtain⟨_,_,h,_⟩:=h;cases h
 |dK=>obtain⟨_,_,_,h,_⟩:=h;cases h
 |recs=>obtain⟨_,_,_,h,_⟩:=h;cases h
 |aQ=>obtain⟨_,_,h,_⟩:=h;cases h
 |mapR=>obtain⟨_,_,h,_⟩:=h;cases h
 |loop=>obtain⟨_,h,_⟩:=h;cases h
 |iter=>cases h
 |mapP=>obtain⟨_,_,_,h,_⟩:=h;cases h
 |eE=>obtain⟨_,_,h,_⟩:=h;cases h
 |di=>obtain⟨_,_,h,_⟩:=h;cases h
theorem Marks.ff {ρ ρ':aM}{hp hp':Hp}{nx nx':Nat}{w w':World}{L:List Nat}{ds:List Deferred}(h:Marks ds w)(hr:bu ρ hp w)(st:dN ρ hp nx w ρ' hp' nx' w' L):Marks ds w':=by
 obtain⟨rs,h1,h2,h3⟩:=h;refine⟨rs,h1,h2,fun r hm=> ?_⟩
 have g1:=h3 r hm;have aA:=bS g1;rw[st.frame r aA fun nm c h4 h5 h6=> ?_]
 ·exact g1
 ·obtain⟨x,hx,_⟩:=st.aq nm h4 h5;obtain⟨b,c',o,e1,e2,e3⟩:=hr.ok nm x hx;rw[h6]at e1;simp only[ae,af]at e1;obtain⟨rfl,rfl⟩:=e1;rw[g1]at e2;cases e2;exact e3.WW
def Grown(g:Bool)(w0:World)(ds ds':List Deferred):Prop:= ∃rs:List Nat,ds'=rs.map tr++ds/\(∀r∈rs,w0.heap.size<=r)/\(g=false->rs= [])
theorem Grown.refl {g:Bool}{w:World}{ds:List Deferred}:Grown g w ds ds:=⟨[],rfl,(fun _ h=>by cases h),fun _=>rfl⟩
theorem Grown.trans {g:Bool}{w w1:World}{ds ds1 ds2:List Deferred}(h:Grown g w ds ds1)(h1:Grown g w1 ds1 ds2)(hs:w.heap.size<=w1.heap.size):Grown g w ds ds2:=by
 obtain⟨rs,a1,a2,a3⟩:=h;obtain⟨qs,b1,b2,b3⟩:=h1;refine⟨qs++rs,by rw[b1,a1];simp,fun r hr=> ?_,fun e=>by rw[a3 e,b3 e];rfl⟩
 rcases List.mem_append.1 hr with hr|hr
 ·exact Nat.le_trans hs (b2 r hr)
 ·exact a2 r hr
theorem Grown.eq {w:World}{ds ds':List Deferred}(h:Grown false w ds ds'):ds'=ds:=by
 obtain⟨rs,a1,_,a3⟩:=h;rw[a1,a3 rfl];rfl
structure jv(n:Nat)(ρ:aM)(s:S)(a:Act)(w:World):Prop where
 sz:a.tmps.size=n
 df:Marks a.defers w
 sl: ∀t,bE ρ (slot n s.sl t) (a.tmps.getD t undef)
 hp:bu ρ s.hp.get w
 fresh:bW ρ s.nx
theorem Rel.m {n:Nat}{ρ:aM}{s:S}{a:Act}{w:World}(R:Rel n ρ s a w):jv n ρ s a w:=⟨R.sz,by rw[R.df];exact Marks.nil,R.sl,R.hp,R.fresh⟩
theorem jv.rel {n:Nat}{ρ:aM}{s:S}{a:Act}{w:World}(R:jv n ρ s a w)(h:a.defers= []):Rel n ρ s a w:=⟨R.sz,h,R.sl,R.hp,R.fresh⟩
abbrev nG(ρ:aM)(s:S)(w:World)(ρ':aM)(s':S)(w':World)(L:List Nat):Prop:=dN ρ s.hp.get s.nx w ρ' s'.hp.get s'.nx w' L
theorem F0(a:Act)(d:Option Tmp)(v:Value):(a.put d v).tmps.size=a.tmps.size:=by cases d<;>simp[Act.put]
theorem put_defers(a:Act)(d:Option Tmp)(v:Value):(a.put d v).defers=a.defers:=by cases d<;>rfl
theorem xS(a:Act)(d:Option Tmp)(v:Value)(t:Nat):(a.put d v).tmps.getD t undef=if d=some t/\t<a.tmps.size then v else a.tmps.getD t undef:=by
 cases d with
 |none=>simp[Act.put]
 |some d=>
  simp only[Act.put,Array.getD_eq_getD_getElem?,Array.getElem?_setIfInBounds,ae];by_cases h:d=t
  ·subst h;by_cases h2:d<a.tmps.size
   ·simp[h2]
   ·simp[h2]
  ·simp[h]
theorem la.seq {n:Nat}{ops:Array Oper}{o:Oper}{s s':S}{nd:fG}{L:List Nat}(h:la P n ops o s nd s' L)(ro:Option Nat){ρ:aM}{a:Act}{w:World}(R:jv n ρ s a w)
  {next:Act->World->Prop} {Q:Exit->Act->World->Prop} (hn: ∀V w' ρ',jv n ρ' s' (a.put o.dst V) w'->nG ρ s w ρ' s' w' L->next (a.put o.dst V) w'):
  if Region.wanted o (yielded ops a.tmps)then o.wpIn (FR ro) 0 P a w next Q else next (a.put o.dst undef) w:=by
 refine h.run ro ρ w a s.hp.get R.sz (fun t _=>R.sl t) R.hp R.fresh (by cases nd<;>simp[Dy]) next Q fun V w' ρ' h' hv hr hf st hh=> ?_
 have e:h'=s'.hp.get:=by
  funext nm
  by_cases hc:nm∈L\/s.nx<=nm
  ·exact hh nm hc
  ·rw[not_or]at hc;rw[st.aH nm (by omega) hc.1,h.abs.aH nm (by omega) hc.1]
 subst e;refine hn V w' ρ' ⟨by rw[F0];exact R.sz,by rw[put_defers];exact R.df.ff R.hp st,fun t=> ?_,hr,hf⟩ st
 rw[xS];by_cases hd:o.dst=some t
 ·have aA:=h.dst t hd;rw[if_pos ⟨hd,by rw[R.sz];exact aA⟩]
  exact hv t hd
 ·rw[if_neg (fun hc=>hd hc.1)]
  have:slot n s'.sl t=slot n s.sl t:=by unfold slot;rw[h.other t hd]
  rw[this];exact(R.sl t).mono (st.sub R.fresh)
def N4{β:Type}(n:Nat)(s:S)(k:S->Option β)(r:β)(wp:Option Nat->(Exit->Act->World->Prop)->Act->World->Prop):Prop:=
 ∃s' L,k s'=some r/\gU s s' L/\∀(ro:Option Nat) (ρ:aM) (a:Act) (w:World),jv n ρ s a w->∀Q:Exit->Act->World->Prop,(∀a' w' ρ',jv n ρ' s' a' w'->nG ρ s w ρ' s' w' L->a'.defers=a.defers->Q .normal a' w')->wp ro Q a w
section
variable{β:Type}{z:Bool}{call:fJ β}(hcall:mR P call)
 (hng: ∀(g:Nat) (fn:Func),P.funcs[g]? =some fn->(fn.name== "runtime.NumGoroutine")=false)
include hcall hng
theorem vx{n:Nat}{ops:Array Oper}{r:β}: ∀ {rest:List Oper} {s:S} {k:S->Option β},cJ s->qZ P z call n ops.toList rest s k=some r->
  N4 n s k r (fun ro Q=>wpListIn (FR ro) 0 P ops Q rest)
 | [],s,k,ht,h=>⟨s,[],h,gU.refl ht,fun ro ρ a w R Q hQ=>hQ a w ρ R (dN.refl R.fresh) rfl⟩
 |o::rest,s,k,ht,h=>by
  simp only[qZ]at h;obtain⟨nd,s1,L1,h1,hl⟩:=xG hcall hng ht h;obtain⟨s2,L2,h2,ab,hw⟩:=vx hl.abs.top h1;refine⟨s2,L2++L1,h2,hl.abs.trans ab,fun ro ρ a w R Q hQ=> ?_⟩
  have:=hl.seq ro (next:=wpListIn (FR ro) 0 P ops Q rest) (Q:=Q) R fun V w' ρ' R' st=>hw ro ρ' _ w' R' Q fun a' w'' ρ'' R'' st' hd=>hQ a' w'' ρ'' R'' (st.trans st') (hd.trans (put_defers _ _ _))
  show wpListIn (FR ro) 0 P ops Q (o::rest) a w;unfold wpListIn;split
  ·rename_i hc;rw[if_pos hc]at this;exact this
  ·rename_i hc;rw[if_neg hc]at this;exact⟨fun _ _=>trivial,this⟩
end
def XR:X->Exit->Prop
 | .normal,.normal=>True
 | .exit i,.exit j=>i=j
 | .ret,.ret=>True
 |_,_=>False
def V7(P:Program)(m:Nat)(c:Code)(Q:Exit->Act->World->Prop)(a:Act)(w:World):Prop:=
 match c with
 | .loop c=>Code.rounds P c Q m a w
 |c=>c.wp P Q a w
def wB(n:Nat)(ρ:aM)(s:S)(w:World)(x:X)(s':S)(L:List Nat):Exit->Act->World->Prop:=fun e a' w'=>XR x e/\∃ρ',Rel n ρ' s' a' w'/\nG ρ s w ρ' s' w' L
def Sh(P:Program){β:Type}(ex:fU β):Prop:= ∀n c s k r,cJ s->ex n c s k=some r->∃x s' L m,k x s'=some r/\gU s s' L/\
 ∀(ρ:aM) (a:Act) (w:World),Rel n ρ s a w->V7 P m c (wB n ρ s w x s' L) a w
def Ek(ro:Option Nat)(P:Program)(m:Nat)(c:Code)(Q:Exit->Act->World->Prop)(a:Act)(w:World):Prop:=
 match c with
 | .loop c=>Code.roundsIn (FR ro) 0 P c Q m a w
 |c=>c.wpIn (FR ro) 0 P Q a w
theorem Ek.wp {ro:Option Nat}{m:Nat}{c:Code}{Q:Exit->Act->World->Prop}{a:Act}{w:World}(h:Ek ro P m c Q a w):c.wpIn (FR ro) 0 P Q a w:=by
 unfold Ek at h;split at h
 ·exact wpIn_loop_rounds m h
 ·exact h
def pV(g:Bool)(n:Nat)(ρ:aM)(s:S)(w:World)(ds:List Deferred)(x:X)(s':S)(L:List Nat):Exit->Act->World->Prop:=
 fun e a' w'=>XR x e/\∃ρ',jv n ρ' s' a' w'/\nG ρ s w ρ' s' w' L/\Grown g w ds a'.defers
def kB(P:Program)(z:Bool){β:Type}(ex:fU β):Prop:= ∀n c s k r,cJ s->ex n c s k=some r->∃x s' L m,k x s'=some r/\gU s s' L/\
 ∀(ro:Option Nat),(ro=none\/iK c=true)->∀(ρ:aM) (a:Act) (w:World),jv n ρ s a w->Ek ro P m c (pV (z && ro.isNone) n ρ s w a.defers x s' L) a w
def su(P:Program)(Sg:FuncId->Option Sum):Prop:= ∀g sm,Sg g=some sm->∀args s v hp nx lg,cJ s->sm args s.hp s.nx=some (v,hp,nx,lg)->
 aU P g args s v {s with hp:=hp,nx:=nx,lg:=lg++s.lg} lg
theorem lC{β:Type}{n:Nat}: ∀ {args:List RV} {i:Nat} {sl:T RV} {k:T RV->Option β} {r:β},setArgs n args i sl k=some r->
  ∃sl',k sl'=some r/\(∀j,sl'.get j=if i<=j/\j<i+args.length then args[j - i]? else sl.get j)/\(args= []\/i+args.length<=n)
 | [],i,sl,k,r,h=>⟨sl,h,fun j=>by rw[if_neg (by simp)],.inl rfl⟩
 |v::vs,i,sl,k,r,h=>by
  simp only[setArgs]at h;split at h<;>try(cases h;done)
  rename_i aA;obtain⟨t,h1,h2⟩:=T.bR _ _ _ _ _ _ h;obtain⟨sl',h3,h4,h5⟩:=lC h1;refine⟨sl',h3,fun j=> ?_,.inr ?_⟩
  ·rw[h4,h2];simp only[List.length_cons];by_cases e:j=i
   ·subst e;rw[if_neg (by omega),if_pos rfl,if_pos (by omega)]
    simp
   ·rw[if_neg e];by_cases hc:i+1<=j/\j<i+1+vs.length
    ·rw[if_pos hc,if_pos (by omega),show j - i=(j - (i+1))+1 by omega]
     rfl
    ·rw[if_neg hc,if_neg (by omega)]
  ·rcases h5 with rfl|h5
   ·simp;omega
   ·simp;omega
theorem bo.get {ρ:aM}: ∀ {l:List RV} {vs:List Value},bo ρ l vs->vs.length=l.length/\∀(i:Nat) (x:RV),l[i]? =some x->∃V,vs[i]? =some V/\bE ρ x V
 | [],_,h=>by simp only[bo]at h;subst h;simp
 |_::_,_,⟨v,vs',h1,h2,h3⟩=>by
  subst h3;obtain⟨e1,e2⟩:=h2.get;refine⟨by simp[e1],fun i x hx=> ?_⟩
  cases i with
  |zero=>simp at hx;subst hx;exact⟨v,rfl,h1⟩
  |succ i=>simp at hx;simpa using e2 i x hx
def yX(tmps:Array Value):ResultVar->Sem Value
 | .tmp t=>pure (tmps.getD t undef)
 | .cell a t=>do loadVar t (<-asAddr (tmps.getD a undef))
theorem Nr(fn:Func)(tmps:Array Value):results fn tmps=(do
  let vs <-fn.results.mapM (yX tmps)
  pure (if h:vs.size=1 then vs[0]else .tuple vs)):=by
 unfold results;congr 1
theorem FO{n:Nat}{s:S}{ρ:aM}{a:Act}{w:World}(R:jv n ρ s a w): ∀ {rs:List ResultVar} {l:List AV},ba P n s rs=some l->
  ∃vs,eA ρ l vs/\vs.length=l.length/\(rs.mapM (yX a.tmps)).run P w=Result.ok vs w
 | [],l,h=>by simp[ba]at h;subst h;exact⟨[],rfl,rfl,rfl⟩
 |rv::rs,l,h=>by
  simp only[ba]at h;split at h<;>try(cases h;done)
  rename_i v l' h1 h2;simp only[ae]at h;subst h;obtain⟨vs,g1,g2,g3⟩:=FO R h2;have key: ∃V,bY ρ v V/\(yX a.tmps rv).run P w=Result.ok V w:=by
   cases rv with
   |tmp t=>
    simp only[sS]at h1;split at h1<;>try(cases h1;done)
    rename_i v' hv';simp only[ae]at h1 hv';subst h1;have:=R.sl t;rw[hv']at this;exact⟨_,this,rfl⟩
   |cell p t=>
    simp only[sS]at h1;split at h1<;>try(cases h1;done)
    rename_i nm off k hs hk;simp only[ae]at hs;split at h1<;>try(cases h1;done)
    rename_i t' ro opn b bU;have:=R.sl p;rw[hs]at this;obtain⟨bl,c,e1,e2⟩:=this;obtain⟨_,bl',c',vs',tail,fr,q1,q2,q3,_,_⟩:=m6 R.hp bU;rw[e1]at q1;simp only[ae,af]at q1;obtain⟨rfl,rfl⟩:=q1;obtain⟨V,p1,p2⟩:=oM (P:=P) q2 hk h1 rfl q3;refine⟨V,p1,?_⟩;simp only[yX,e2,asAddr,Sem.run_bind,Sem.run_pure,Result.andThen_ok,p2]
  obtain⟨V,k1,k2⟩:=key;refine⟨V::vs,⟨V,vs,k1,g1,rfl⟩,by simp[g2],?_⟩
  simp only[List.mapM_cons,Sem.run_bind,k2,Result.andThen_ok,g3,Sem.run_pure]
theorem xf{n:Nat}{s:S}{ρ:aM}{a:Act}{w:World}(R:jv n ρ s a w){fn:Func}{l:List AV}(h:ba P n s fn.results.toList=some l):
  ∃V,bE ρ (c6 l) V/\(results fn a.tmps).run P w= .ok V w:=by
 obtain⟨vs,g1,g2,g3⟩:=FO R h;have hm:(results fn a.tmps).run P w= .ok (if h:vs.toArray.size=1 then vs.toArray[0]else .tuple vs.toArray) w:=by
  rw[Nr,Array.mapM_eq_mapM_toList];simp only[Sem.run_bind,Sem.run_map,g3,Result.andThen_ok,Sem.run_pure]
 rw[hm]
 match l,vs,g1,g2 with
 | [v],[V],g1,_=>
  obtain⟨V',_,k1,k2,k3⟩:=g1;simp only[eA]at k2;subst k2;simp only[List.cons.injEq,and_true]at k3;subst k3;exact⟨V,k1,by simp⟩
 | [],[],_,_=>exact⟨_,⟨[],rfl,rfl⟩,by simp⟩
 |x::y::l,u::v::vs,g1,_=>
  refine⟨_,⟨_,g1,rfl⟩,?_⟩;simp
theorem zZ{n:Nat}{s:S}{ρ:aM}{a:Act}{w:World}(R:Rel n ρ s a w){fn:Func}{l:List AV}(h:ba P n s fn.results.toList=some l):
  ∃V,bE ρ (c6 l) V/\(results fn a.tmps).run P w= .ok V w:=xf R.m h
end Go.Sx
