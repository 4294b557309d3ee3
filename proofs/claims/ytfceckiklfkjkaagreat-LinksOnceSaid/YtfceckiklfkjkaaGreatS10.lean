import Derived.Test.YtfceckiklfkjkaaGreatS09
import Derived.RangeFuncRecord
noncomputable section
namespace Go.Sx
variable{P:Program}
theorem pT{w:World}{b:Nat}{x o:Obj}(h:w.heap[b]? =some x):Jq w b o (w.putObj b o) where
 size:=by simp[World.putObj]
 at_:=by
  have:=bS h;simp[World.putObj,this]
 other:=fun i hi=>by simp[World.putObj,Ne.symm hi]
 os:=rfl
 tape:=rfl
 al:=rfl
theorem gU.ZV {s:S}{nm:Nat}{y:ax}{hp':T ax}(ht:cJ s)(hn:nm<s.nx)(q: ∀i,hp'.get i=if i=nm then some y else s.hp.get i)(sl:T RV):gU s ⟨sl,hp',s.nx,nm::s.lg⟩ [nm] where
 lg:=rfl
 le:=Nat.le_refl _
 aH:=fun i _ h=>by show hp'.get i=_;rw[q,if_neg (by simpa using h)]
 top:=fun i h=>by have h':s.nx<=i:=h;show hp'.get i=none;rw[q,if_neg (by omega)];exact ht i h'
 lt:=fun i h=>by rw[List.mem_singleton.1 h];exact hn
theorem cJ.ltN {s:S}(ht:cJ s){nm:Nat}{x:ax}(h:s.hp.get nm=some x):nm<s.nx:=by
 rcases Nat.lt_or_ge nm s.nx with h'|h'
 ·exact h'
 ·rw[ht nm h']at h;cases h
theorem bo.set {ρ:aM}: ∀ {l:List RV} {vs:List Value} {p:Nat} {v:RV} {V:Value},bo ρ l vs->bE ρ v V->bo ρ (l.set p v) (vs.set p V)
 | [],vs,p,v,V,h,_=>by simp only[bo]at h;subst h;simp[bo]
 |x::l,_,0,v,V,⟨X,vs',h1,h2,h3⟩,hv=>by subst h3;exact⟨V,vs',hv,h2,rfl⟩
 |x::l,_,p+1,v,V,⟨X,vs',h1,h2,h3⟩,hv=>by subst h3;exact⟨X,_,h1,h2.set hv,rfl⟩
theorem DW{ρ:aM}: ∀ {ps:List Nat} {args sl sl1:List RV} {vs tmps:List Value},zH ps args sl=some sl1->bo ρ args vs->bo ρ sl tmps->
  vs.length=ps.length/\bo ρ sl1 ((ps.zip vs).foldl (fun t p=>t.set p.1 p.2) tmps)
 | [],[],sl,sl1,vs,tmps,h,ha,hs=>by
  simp only[zH,ae]at h;subst h;simp only[bo]at ha;subst ha;exact⟨rfl,hs⟩
 |p::ps,v::args,sl,sl1,_,tmps,h,⟨V,vs',h1,h2,h3⟩,hs=>by
  subst h3;simp only[zH]at h;obtain⟨e1,e2⟩:=DW h h2 (hs.set (p:=p) h1);exact⟨by simp[e1],by simpa using e2⟩
 | [],_::_,_,_,_,_,h,_,_=>by cases h
 |_::_,[],_,_,_,_,h,_,_=>by cases h
theorem Qo(ps:List Nat): ∀(vs:List Value) (tmps:Array Value),((ps.zip vs).foldl (fun(t:Array Value) p=>t.setIfInBounds p.1 p.2) tmps).toList=(ps.zip vs).foldl (fun(t:List Value) p=>t.set p.1 p.2) tmps.toList:=by
 induction ps with
 |nil=>intro vs tmps;rfl
 |cons p ps ih=>
  intro vs tmps;cases vs with
  |nil=>rfl
  |cons v vs=>simp only[List.zip_cons_cons,List.foldl_cons];rw[ih];simp
theorem Rz{ρ:aM}{sl1:List RV}{tmps:Array Value}{t:T RV}{s:S}{w:World}(ha:bo ρ sl1 tmps.toList)(hr:bu ρ s.hp.get w)(hf:bW ρ s.nx)
  (h2: ∀j,t.get j=if 0<=j/\j<0+sl1.length then sl1[j - 0]? else(T.nil:T RV).get j):jv sl1.length ρ ⟨t,s.hp,s.nx,s.lg⟩ {tmps:=tmps,defers:= []} w:=by
 obtain⟨len,hget⟩:=ha.get;have hl:tmps.size=sl1.length:=by simpa using len
 refine⟨hl,Marks.nil,fun j=> ?_,hr,hf⟩
 unfold slot;simp only;rw[h2];simp only[Nat.zero_le,true_and,Nat.zero_add,Nat.sub_zero,T.get_nil];by_cases aA:j<sl1.length
 ·rw[if_pos aA,if_pos aA];obtain⟨V,e1,e2⟩:=hget j sl1[j] (List.getElem?_eq_getElem aA);rw[List.getElem?_eq_getElem aA];have:tmps.getD j undef=V:=by
   rw[Array.getD_eq_getD_getElem?, <-Array.getElem?_toList,e1];rfl
  rw[this];exact e2
 ·rw[if_neg aA];have:tmps.getD j undef=undef:=by
   rw[Array.getD_eq_getD_getElem?,Array.getElem?_eq_none (by omega)];rfl
  rw[this];exact pv
theorem IJ{β:Type}{z:Bool}{ex:fU β}(hex:kB P z ex){nm:Nat}{args:List RV}{s:S}{k:RV->S->Option β}{r:β}(ht:cJ s)(h:xy ex nm args s k=some r):
  ∃v s' L,k v s'=some r/\Nz P nm args s v s' L:=by
 unfold xy at h;split at h<;>try(cases h;done)
 rename_i sl ps aa bd hloop;split at h<;>try(cases h;done)
 rename_i hno;rw[Bool.and_eq_true]at hno;split at h<;>try(cases h;done)
 rename_i sl1 bB;obtain⟨t,h1,ht2,_⟩:=lC h;obtain⟨x,s1,L1,m1,h2,ab1,hw1⟩:=hex _ _ _ _ _ (show cJ ⟨t,s.hp,s.nx,s.lg⟩from ht) h1
 have ab1':gU s s1 L1:=⟨ab1.lg,ab1.le,ab1.aH,ab1.top,ab1.lt⟩;unfold Kv at h2;split at h2<;>try(cases h2;done)
 split at h2<;>try(cases h2;done)
 rename_i sl' ps' as' bd' hloop1;obtain⟨hp1,h3,q1⟩:=T.bR _ _ _ _ _ _ h2;have abS1:=gU.ZV ab1.top (ab1.top.ltN hloop1) q1 s1.sl;obtain⟨x2,s2,L2,m2,h4,ab2,hw2⟩:=hex _ _ _ _ _ abS1.top h3;unfold IY at h4;split at h4<;>try(cases h4;done)
 rename_i sl2 ps2 as2 bd2 hloop2;have fin: ∃(st:LSt) (bb:Bool) (rD:T ax),(∀i,rD.get i=if i=nm then some (.loop st sl2 ps2 as2 bd2)else s2.hp.get i)/\k (.one (.c (.bool bb))) ⟨s.sl,rD,s2.nx,nm::s2.lg⟩=some r/\
   (∀(e:Exit),XR x2 e->∃jump:Option Code,(match e with| .normal=>jump=none| .ret=>jump=some .ret| .exit id=>jump=some (.exit id)|_=>False)/\bb=jump.isNone/\Tx st (if jump.isNone then .ready else .done) jump):=by
  cases x2 with
  |normal=>
   obtain⟨rD,h5,q3⟩:=T.bR _ _ _ _ _ _ h4;refine⟨_,_,rD,q3,h5,fun e hx=> ?_⟩
   cases e<;>simp only[XR]at hx
   exact⟨none,rfl,rfl,rfl,rfl⟩
  |ret=>
   obtain⟨rD,h5,q3⟩:=T.bR _ _ _ _ _ _ h4;refine⟨_,_,rD,q3,h5,fun e hx=> ?_⟩
   cases e<;>simp only[XR]at hx
   exact⟨some .ret,rfl,rfl,rfl,rfl⟩
  |exit id=>
   obtain⟨rD,h5,q3⟩:=T.bR _ _ _ _ _ _ h4;refine⟨_,_,rD,q3,h5,fun e hx=> ?_⟩
   cases e<;>simp only[XR]at hx
   subst hx;exact⟨some (.exit id),rfl,rfl,rfl,rfl⟩
 obtain⟨st,bb,rD,q3,h5,hj⟩:=fin;have abS2:=gU.ZV ab2.top (ab2.top.ltN hloop2) q3 s.sl;have abF:=((ab1'.trans abS1).trans ab2).trans abS2;refine⟨_,_,_,h5,⟨rfl,abF,?_⟩⟩;intro ρ w vs b c hr hf ha hb;have aA:nm<s.nx:=ht.ltN hloop;obtain⟨b',c',o,e1,e2,r0,rfl,g1,g2,g3,g4,g5⟩:=hr.ok _ _ hloop;rw[hb]at e1;simp only[ae,af]at e1;obtain⟨rfl,rfl⟩:=e1;obtain⟨p1,p2⟩:=DW bB ha g1;rw[<-g2]at p1 p2;refine⟨r0.fn,_,r0.assign,r0.body,run_yield e2 (by simpa using p1),?_⟩
 have htm:bo ρ sl1 ((r0.params.zip vs.toArray).foldl (fun tmps (t,a)=>tmps.setIfInBounds t a) r0.tmps).toList:=by
  have:=Qo r0.params.toList vs r0.tmps;rw[<-this]at p2;have e:(r0.params.zip vs.toArray)=(r0.params.toList.zip vs).toArray:=by
   apply Array.toList_inj.1;simp
  rw[e, <-Array.foldl_toList];exact p2
 have R0:=Rz (s:=s) htm hr hf ht2;refine roundIn_of_wpIn trivial ?_;rw[g3,g4];refine wpIn_mono (hw1 (some b) (.inr hno.1) ρ _ w R0).wp fun e a1 w1 hq=> ?_
 obtain⟨hx,ρ1,R1,mW,_⟩:=hq;cases e<;>simp only[XR]at hx
 obtain⟨b1,c1,o1,f1,f2,r1,rfl,k1,k2,k3,k4,k5⟩:=R1.hp.ok _ _ hloop1;rw[mW.rho nm aA,hb]at f1;simp only[ae,af]at f1;obtain⟨rfl,rfl⟩:=f1;have hb1:ρ1 nm=some (b,c):=(mW.rho nm aA).trans hb;refine⟨_,run_beginRound f2 k5.1,?_⟩;have W1:=pT (o:= .loop {r1 with state:= .busy}) f2
 have O1:=bu.jH (v:=fc) (V:=undef) R1.hp R1.fresh hloop1 rfl hb1 (y:= .loop .busy sl' ps' as' bd') ⟨{r1 with state:= .busy},rfl,k1,k2,k3,k4,rfl⟩ W1 pv
 have eh1:hp1.get=cf.hp (.wr nm (.loop .busy sl' ps' as' bd')) s1.hp.get s1.nx:=funext fun i=>by rw[q1];rfl
 have R1':jv sl1.length ρ1 ⟨s1.sl,hp1,s1.nx,nm::s1.lg⟩ a1 (w1.putObj b (.loop {r1 with state:= .busy})):=
  ⟨R1.sz,R1.df.ff R1.hp O1.ff,R1.sl,by show bu ρ1 hp1.get _;rw[eh1];exact O1.rel,R1.fresh⟩
 have stp1:dN ρ1 s1.hp.get s1.nx w1 ρ1 hp1.get s1.nx (w1.putObj b (.loop {r1 with state:= .busy})) [nm]:=by rw[eh1];exact O1.ff
 refine wpIn_mono (hw2 (some b) (.inr hno.2) ρ1 a1 _ R1').wp fun e a2 w2 hq=> ?_
 obtain⟨hx2,ρ2,R2,I5,_⟩:=hq;obtain⟨b2,c2,o2,f3,f4,r2,rfl,m1',m2',m3',m4',m5'⟩:=R2.hp.ok _ _ hloop2;have hlt1:nm<s1.nx:=Nat.lt_of_lt_of_le aA ab1.le;rw[I5.rho nm hlt1,hb1]at f3;simp only[ae,af]at f3;obtain⟨rfl,rfl⟩:=f3;have hb2:ρ2 nm=some (b,c):=(I5.rho nm hlt1).trans hb1;obtain⟨jump,j1,j2,j3⟩:=hj e hx2;have W2:=pT (o:= .loop {r2 with state:=if jump.isNone then .ready else .done,pending:=jump}) f4
 have O2:=bu.jH (v:= .one (.c (.bool bb))) (V:= .bool jump.isNone) R2.hp R2.fresh hloop2 rfl hb2 (y:= .loop st sl2 ps2 as2 bd2) ⟨{r2 with state:=if jump.isNone then .ready else .done,pending:=jump},rfl,m1',m2',m3',m4',j3⟩ W2 (by rw[j2];rfl)
 have eh3:rD.get=cf.hp (.wr nm (.loop st sl2 ps2 as2 bd2)) s2.hp.get s2.nx:=funext fun i=>by rw[q3];rfl
 have res: ∃v w',(Instr.endRound b jump).run P w2= .ok v w'/\∃V ρ',Ending.returned v= .returned V/\bE ρ' (.one (.c (.bool bb))) V/\bu ρ' rD.get w'/\bW ρ' s2.nx/\dN ρ s.hp.get s.nx w ρ' rD.get s2.nx w' _:=
  ⟨_,_,run_endRound jump f4,_,ρ2,rfl,O2.val,by rw[eh3];exact O2.rel,R2.fresh,((mW.trans stp1).trans I5).trans (by rw[eh3];exact O2.ff)⟩
 cases e<;>simp only at j1
 all_goals first
  |(subst j1;exact res)
  |exact j1.elim
theorem bu.same {ρ:aM}{hp:Hp}{w w':World}(hr:bu ρ hp w)(h: ∀nm x b c,hp nm=some x->ρ nm=some (b,c)->w'.heap[b]? =w.heap[b]?)(hz: ∀b l,ρ.fz b=some l->w'.heap[b]? =w.heap[b]?):bu ρ hp w' where
 ok:=fun nm x hx=>by
  obtain⟨b,c,o,h1,h2,h3⟩:=hr.ok nm x hx;exact⟨b,c,o,h1,(h nm x b c hx h1).trans h2,h3⟩
 inj:=hr.inj
 fz:=hr.fz.of (fun _ _ h=>h) hz fun nm x b c hx hw he=> .inl ⟨nm,x,c,hx,hw,he⟩
structure Yt(rs:List Nat)(w w':World):Prop where
 size:w'.heap.size=w.heap.size
 other: ∀b,b∉rs->w'.heap[b]? =w.heap[b]?
 os:w'.os=w.os
 tape:w'.tape=w.tape
 al:w'.output=w.output
theorem uZ{fn:Func}{tmps:Array Value}{R:Ending->World->Prop}: ∀(rs:List Nat) (w:World),rs.Nodup->(∀r∈rs,w.heap[r]? =some (.deferred (some [])))->
  (∀w',Yt rs w w'->∃v,(results fn tmps).run P w'= .ok v w'/\R (.returned v) w')->LeavesInM (FR none) 0 P fn tmps R (rs.map tr) .returning w
 | [],w,_,_,h=>h w ⟨rfl,fun _ _=>rfl,rfl,rfl,rfl⟩
 |r::rs,w,hn,hm,h=>by
  rw[List.nodup_cons]at hn;have h1:=hm r (by simp)
  have W:=pT (o:= .deferred none) h1;refine⟨by simp,.inl ⟨r,_,rfl,run_takeDeferred h1,?_⟩⟩
  refine uZ rs _ hn.2 (fun r' hr'=> ?_) fun w' hw'=>h w' ⟨hw'.size.trans W.size,fun b hb=> ?_,hw'.os.trans W.os,hw'.tape.trans W.tape,hw'.al.trans W.al⟩
  ·rw[W.other r' (fun e=>hn.1 (e▸hr'))];exact hm r' (by simp[hr'])
  ·simp only[List.mem_cons,not_or]at hb;rw[hw'.other b hb.2,W.other b hb.1]
theorem Yo{rs qs:List Nat}(h:rs.map tr=qs.map tr):rs=qs:=by
 induction rs generalizing qs with
 |nil=>cases qs with
  |nil=>rfl
  |cons=>simp at h
 |cons r rs ih=>cases qs with
  |nil=>simp at h
  |cons q qs=>
   simp only[List.map_cons,List.cons.injEq]at h;obtain⟨h1,h2⟩:=h;rw[ih h2];simp only[tr,Deferred.mk.injEq,Target.collected.injEq,and_true]at h1;rw[h1]
end Go.Sx
namespace Go.Sx
variable{P:Program}
def Ma(P:Program)(z:Bool):Prop:= ∀ {β:Type} (call:fJ β),mR P call->∀(n id:Nat) (ops:Array Oper) (s:S) (k:S->Option β) (r:β),cJ s->wq P z call n ops.toList s k=some r->
 N4 n s k r (fun ro Q=>(Code.region id ops true).wpIn (FR ro) 0 P Q)
section
variable{β:Type}{z:Bool}{Sg:FuncId->Option Sum}(hng: ∀(g:Nat) (fn:Func),P.funcs[g]? =some fn->(fn.name== "runtime.NumGoroutine")=false)
 (hS:su P Sg) (hdraw:Ma P z)
include hng hS hdraw
omit hng hS hdraw in
theorem rT{ex:fU β}(hex:kB P z ex){g:FuncId}{fn:Func}{c:Code}(hf:P.funcs[g]? =some fn)(hb:fn.body=some c){args:List RV}{s:S}{k:RV->S->Option β}{r:β}(ht:cJ s)
  (h:jW P ex fn c args s k=some r): ∃v s' L,k v s'=some r/\aU P g args s v s' L:=by
 unfold jW at h;obtain⟨sl,h1,h2,h3⟩:=lC h;obtain⟨x,s1,L,m,h4,ab,hw⟩:=hex _ _ _ _ _ (by exact ht) h1
 have hx:(x= .normal\/x= .ret)/\∃l,ba P fn.ntmps s1 fn.results.toList=some l/\k (c6 l) {s1 with sl:=s.sl}=some r:=by
  cases x with
  |exit id=>simp[oC]at h4
  |normal=>
   simp only[oC]at h4;split at h4<;>try(cases h4;done)
   rename_i l hl;exact⟨.inl rfl,l,hl,h4⟩
  |ret=>
   simp only[oC]at h4;split at h4<;>try(cases h4;done)
   rename_i l hl;exact⟨.inr rfl,l,hl,h4⟩
 obtain⟨hx,l,hl,hk⟩:=hx;refine⟨c6 l,{s1 with sl:=s.sl},L,hk,⟨⟨fn,hf,by rw[hb];rfl⟩,rfl,⟨ab.lg,ab.le,ab.aH,ab.top,ab.lt⟩,?_⟩⟩
 intro ρ w vs hr hfr hargs;obtain⟨len,hget⟩:=hargs.get;have R0:jv fn.ntmps ρ {s with sl:=sl} {tmps:=vs.toArray++Array.replicate (fn.ntmps - vs.toArray.size) undef,defers:= []} w:=by
  have hle:vs.length<=fn.ntmps:=by
   rcases h3 with rfl|h3
   ·simp at len;rw[len];simp
   ·omega
  refine⟨by simp;omega,Marks.nil,fun t=> ?_,hr,hfr⟩
  unfold slot;simp only;rw[h2];simp only[Nat.zero_le,true_and,Nat.zero_add,Nat.sub_zero,T.get_nil];by_cases aA:t<args.length
  ·have hlt':t<vs.length:=by omega
   rw[if_pos (show t<fn.ntmps by omega),if_pos aA]
   obtain⟨V,e1,e2⟩:=hget t args[t] (List.getElem?_eq_getElem aA);rw[List.getElem?_eq_getElem aA];have:(vs.toArray++Array.replicate (fn.ntmps - vs.toArray.size) undef).getD t undef=V:=by
    rw[Array.getD_eq_getD_getElem?,Array.getElem?_append_left (by simpa using hlt')]
    simp[e1]
   rw[this];exact e2
  ·rw[if_neg aA];have:(vs.toArray++Array.replicate (fn.ntmps - vs.toArray.size) undef).getD t undef=undef:=by
    rw[Array.getD_eq_getD_getElem?,Array.getElem?_append_right (by simp;omega)]
    rw[Array.getElem?_replicate];split<;>rfl
   rw[this];simp only[ite_self,Option.getD_none];exact pv
 refine(callsIn_wide (n:=0)).1 (callsIn_of_wp_marks (F:=FR none) hf hb trivial ?_);refine wpIn_mono (hw none (.inl rfl) ρ _ w R0).wp fun e a' w' hq=> ?_
 obtain⟨hxr,ρ',R',st,gr⟩:=hq;have fin:LeavesInM (FR none) 0 P fn a'.tmps (fun e w'=> ∃V ρ',e= .returned V/\bE ρ' (c6 l) V/\bu ρ' s1.hp.get w'/\bW ρ' s1.nx/\dN ρ s.hp.get s.nx w ρ' s1.hp.get s1.nx w' L) a'.defers .returning w':=by
  obtain⟨rs,d1,d2,_⟩:=gr;obtain⟨qs,d3,d4,d5⟩:=R'.df;rw[List.append_nil]at d1;obtain rfl:=Yo (d1.symm.trans d3);rw[d1];refine uZ rs w' d4 d5 fun w2 hb2=> ?_
  have hr2:=R'.hp.same (w':=w2) (fun nm x b c hx hnm=>hb2.other b fun hm=>by
   obtain⟨b2,c2,o2,e1,e2,e3⟩:=R'.hp.ok nm x hx;rw[hnm]at e1;simp only[ae,af]at e1;obtain⟨rfl,rfl⟩:=e1;rw[d5 b hm]at e2;cases e2;exact e3.WW) (fun b l h=>hb2.other b fun hm=>by
   obtain⟨cs,t,fr,e2,_⟩:=(R'.hp.fz b l h).1;rw[d5 b hm]at e2;cases e2)
  obtain⟨V,v1,v2⟩:=xf (a:= {tmps:=a'.tmps,defers:= []}) ⟨R'.sz,Marks.nil,R'.sl,hr2,R'.fresh⟩ hl;refine⟨V,v2,V,ρ',rfl,v1,hr2,R'.fresh,⟨st.le,st.rho,st.aH,by rw[hb2.size];exact st.size,fun b hb hn=> ?_,st.new,st.aq,hb2.os.trans st.os,hb2.tape.trans st.tape,hb2.al.trans st.al,st.je,st.fzn⟩⟩
  rw[hb2.other b fun hm=>absurd (d2 b hm) (Nat.not_le_of_lt hb)]
  exact st.frame b hb hn
 rcases hx with rfl|rfl
 ·cases e<;>simp only[XR]at hxr
  exact fin
 ·cases e<;>simp only[XR]at hxr
  exact fin
omit hng hdraw in
theorem na{ex:fU β}(hex:kB P z ex):mR P (pr P Sg ex):=by
 intro g args s k r ht h;unfold pr at h;split at h
 ·split at h<;>try(cases h;done)
  rename_i hg;obtain⟨v,s',L,h1,h2⟩:=IJ hex ht h;exact⟨v,s',L,h1,.inr ⟨Nat.le_of_ble_eq_true hg,h2⟩⟩
 ·rename_i fn hf;split at h<;>try(cases h;done)
  rename_i hg;have aA:g<YB:=by simpa[Nat.blt_eq]using hg
  split at h<;>try(cases h;done)
  rename_i c hb;have body: ∀ {h:jW P ex fn c args s k=some r},∃v s' L,k v s'=some r/\rX P g args s v s' L:=fun {h}=>by
   obtain⟨v,s',L,h1,h2⟩:=rT hex hf hb ht h;exact⟨v,s',L,h1,.inl ⟨aA,h2⟩⟩
  split at h
  ·rename_i sm hsm;split at h
   ·rename_i v hp nx lg hsum;exact⟨v,_,lg,h,.inl ⟨aA,hS g sm hsm args s v hp nx lg ht hsum⟩⟩
   ·exact body (h:=h)
  ·exact body (h:=h)
omit hng hS hdraw in
theorem wB.trans {n:Nat}{ρ ρ1:aM}{s s1 s2:S}{w w1:World}{x:X}{L1 L2:List Nat}(st:nG ρ s w ρ1 s1 w1 L1){e:Exit}{a':Act}{w':World}(h:wB n ρ1 s1 w1 x s2 L2 e a' w'):wB n ρ s w x s2 (L2++L1) e a' w':=by
 obtain⟨h1,ρ',h2,h3⟩:=h;exact⟨h1,ρ',h2,st.trans h3⟩
omit hng hS hdraw in
theorem pV.trans {g:Bool}{n:Nat}{ρ ρ1:aM}{s s1 s2:S}{w w1:World}{ds ds1:List Deferred}{x:X}{L1 L2:List Nat}(st:nG ρ s w ρ1 s1 w1 L1)(hd:Grown g w ds ds1){e:Exit}{a':Act}{w':World}
  (h:pV g n ρ1 s1 w1 ds1 x s2 L2 e a' w'):pV g n ρ s w ds x s2 (L2++L1) e a' w':=by
 obtain⟨h1,ρ',h2,h3,h4⟩:=h;exact⟨h1,ρ',h2,st.trans h3,hd.trans h4 st.size⟩
omit hng hS hdraw in
theorem uv{ro:Option Nat}{c:Code}{Q Q':Exit->Act->World->Prop}(h: ∀e a w,Q e a w->Q' e a w): ∀m a w,Code.roundsIn (FR ro) 0 P c Q m a w->Code.roundsIn (FR ro) 0 P c Q' m a w
 | 0,_,_,hr=>hr
 |m+1,a,w,hr=>by
  rw[roundsIn_succ]at hr ⊢;refine wpIn_mono hr fun e a' w' hq=> ?_
  cases e with
  |normal=>exact uv h m a' w' hq
  |_=>exact h _ _ _ hq
omit hng hS hdraw in
theorem tz{c:Code}{Q Q':Exit->Act->World->Prop}(h: ∀e a w,Q e a w->Q' e a w): ∀m a w,Code.rounds P c Q m a w->Code.rounds P c Q' m a w
 | 0,_,_,hr=>hr
 |m+1,a,w,hr=>by
  rw[rounds_succ]at hr ⊢;refine wp_mono hr fun e a' w' hq=> ?_
  cases e with
  |normal=>exact tz h m a' w' hq
  |_=>exact h _ _ _ hq
omit hng hS hdraw in
theorem Cb{sl:T RV}: ∀ {m:Nat} {acc:List RV} {k:List RV->Option β} {r:β},rJ sl m acc k=some r->∃l:List RV,k (l++acc)=some r/\l.length=m/\∀i,i<m->l[i]? =some ((sl.get i).getD fc)
 | 0,acc,k,r,h=>⟨[],h,rfl,fun i hi=>by omega⟩
 |m+1,acc,k,r,h=>by
  have h': ∃x,x=(sl.get m).getD fc/\rJ sl m (x::acc) k=some r:=by
   simp only[rJ]at h;split at h
   ·rename_i v hv;exact⟨v,by rw[hv];rfl,h⟩
   ·rename_i hv;exact⟨fc,by rw[hv];rfl,h⟩
  obtain⟨x,hx,h'⟩:=h';obtain⟨l,h1,h2,h3⟩:=Cb h';refine⟨l++ [x],by rw[List.append_assoc];exact h1,by simp[h2],fun i hi=> ?_⟩
  by_cases e:i<m
  ·rw[List.getElem?_append_left (by omega)];exact h3 i e
  ·have:i=m:=by omega
   subst this;rw[List.getElem?_append_right (by omega),h2,Nat.sub_self,hx];rfl
omit hng hS hdraw in
theorem FF{ρ:aM}: ∀ {l:List RV} {vs:List Value},l.length=vs.length->(∀(i:Nat) (x:RV) (V:Value),l[i]? =some x->vs[i]? =some V->bE ρ x V)->bo ρ l vs
 | [],[],_,_=>rfl
 |x::l,V::vs,hl,h=>⟨V,vs,h 0 x V rfl rfl,FF (by simpa using hl) (fun i x V h1 h2=>h (i+1) x V (by simpa using h1) (by simpa using h2)),rfl⟩
 | [],_::_,hl,_=>by simp at hl
 |_::_,[],hl,_=>by simp at hl
omit hS hdraw in
theorem Ib{call:fJ β}(hcall:mR P call){n:Nat}{g:Operand}{ps:Array Tmp}{aa bd:Code}{s:S}{k:X->S->Option β}{r:β}(ht:cJ s)(h:xZ call n g ps aa bd s k=some r):
  ∃x s' L m,k x s'=some r/\gU s s' L/\∀(ro:Option Nat),(ro=none\/iK (.rangeFunc g ps aa bd)=true)->∀(ρ:aM) (a:Act) (w:World),jv n ρ s a w->
   Ek ro P m (.rangeFunc g ps aa bd) (pV (true && ro.isNone) n ρ s w a.defers x s' L) a w:=by
 unfold xZ at h;split at h<;>try(cases h;done)
 rename_i f fs dH hg;split at h<;>try(cases h;done)
 rename_i hYB;have hYB:f<YB:=by simpa[Nat.blt_eq]using hYB
 obtain⟨l,h,hl1,hl2⟩:=Cb h;rw[List.append_nil]at h;obtain⟨hp1,h,q1⟩:=T.bR _ _ _ _ _ _ h;rw[fy]at h;have topx:cJ ⟨s.sl,hp1,s.nx+1,s.lg⟩:=fun i hi=>by
  have hi:s.nx+1<=i:=hi;show hp1.get i=none;rw[q1,if_neg (by omega)];exact ht i (by omega)
 obtain⟨v,s1,L,h1,hi⟩:=hcall _ _ _ _ _ topx h;have hi:=(hi.resolve_right (fun h=>absurd h.1 (Nat.not_le_of_lt hYB))).2
 unfold PD at h1;split at h1<;>try(cases h1;done)
 rename_i st sl1 ps1 as1 bd1 hloop;obtain⟨hp2,h2,q2⟩:=T.bR _ _ _ _ _ _ h1;have hsl:s1.sl=s.sl:=hi.sl;have abx:=hi.abs;have ab:gU s ⟨s1.sl,hp2,s1.nx,s1.lg⟩ L:=⟨abx.lg,Nat.le_trans (Nat.le_succ _) abx.le,fun nm h1 h2=>by
   show hp2.get nm=_;rw[q2,if_neg (by omega),abx.aH nm (show nm<s.nx+1 by omega) h2]
   show hp1.get nm=_;rw[q1,if_neg (by omega)],fun nm hn=>by
   show hp2.get nm=none;rw[q2];split
   ·rfl
   ·exact abx.top nm hn,abx.lt⟩
 have fin: ∃x,k x ⟨s1.sl,hp2,s1.nx,s1.lg⟩=some r/\∀(state:LoopState) (pending:Option Code),Tx st state pending->state≠ .busy/\(match pending with|none=>x= .normal|some .ret=>x= .ret|some (.exit id)=>x= .exit id|_=>False):=by
  cases st with
  |ready=>exact⟨_,h2,fun state pending hst=>by obtain⟨e1,e2⟩:=hst;subst e1 e2;exact⟨by simp,rfl⟩⟩
  |busy=>cases h2
  |done id=>
   cases id with
   |none=>exact⟨_,h2,fun state pending hst=>by obtain⟨e1,e2⟩:=hst;subst e1 e2;exact⟨by simp,rfl⟩⟩
   |some id=>exact⟨_,h2,fun state pending hst=>by obtain⟨e1,e2⟩:=hst;subst e1 e2;exact⟨by simp,rfl⟩⟩
 obtain⟨x,hk,hx⟩:=fin;refine⟨x,_,L,0,hk,ab,fun ro hro ρ a w R=> ?_⟩
 obtain rfl:ro=none:=hro.resolve_right (by simp[iK])
 show(Code.rangeFunc g ps aa bd).wpIn (FR none) 0 P _ a w;refine wpIn_rangeFunc fun fnid _=> ?_
 obtain⟨fvs,cvs,c0,c1,c2⟩:=ml (ρ:=ρ) (n:=n) (sl:=s.sl) (a:=a) (x:=g) (fun t _=>R.sl t) _ hg
 obtain⟨rec,hrec⟩: ∃rec:Loop,rec= {state:= .ready,pending:=none,fn:=fnid,tmps:=a.tmps,params:=ps,assign:=aa,body:=bd,defers:=w.heap.size}:=⟨_,rfl⟩;obtain⟨W1,hW1⟩: ∃W1,(w.alloc (.deferred (some []))).alloc (.loop rec)=W1:=⟨_,rfl⟩;have hL1:W1.heap[w.heap.size+1]? =some (.loop rec):=by
  rw[<-hW1];have:=World.alloc_heap_new (w.alloc (.deferred (some []))) (.loop rec);rwa [World.size_alloc]at this
 have hK1:W1.heap[w.heap.size]? =some (.deferred (some [])):=by
  rw[<-hW1];exact(RowKit.Below.heap_alloc _ _ _ (by simp)).trans (World.alloc_heap_new w _)
 have hold: ∀b,b<w.heap.size->W1.heap[b]? =w.heap[b]? :=fun b hb=>by
  rw[<-hW1];exact(RowKit.Below.heap_alloc _ _ _ (by simp;omega)).trans (RowKit.Below.heap_alloc _ _ _ hb)
 have hsz:W1.heap.size=w.heap.size+2:=by rw[<-hW1];simp
 let ρ1:=ext ρ s.nx (w.heap.size+1) 0
 have hargl:bo ρ1 l a.tmps.toList:=by
  refine FF (by rw[hl1];simpa using R.sz.symm) fun i y V h3 h4=> ?_
  have hi':i<n:=by
   have:=(List.getElem?_eq_some_iff.1 h3).1;omega
  rw[hl2 i hi',ae]at h3;subst h3;have:=R.sl i;unfold slot at this;rw[if_pos hi']at this;have e:a.tmps.getD i undef=V:=by rw[Array.getD_eq_getD_getElem?, <-Array.getElem?_toList,h4];rfl
  rw[e]at this;exact this.mono (fW R.fresh _ _)
 have hr1:bu ρ1 hp1.get W1:=by
  constructor
  ·intro i z hz;rw[q1]at hz;split at hz
   ·rename_i e;subst e;cases hz;exact⟨w.heap.size+1,0,_,by simp[ρ1,ext],hL1,rec,rfl,by rw[hrec];exact hargl,by rw[hrec],by rw[hrec],by rw[hrec],by rw[hrec];exact⟨rfl,rfl⟩⟩
   ·rename_i e;obtain⟨b',c',o',g1,g2,g3⟩:=R.hp.ok i z hz;exact⟨b',c',o',by simp[ρ1,ext,e,g1],(hold b' (bS g2)).trans g2,g3.mono (fW R.fresh _ _)⟩
  ·intro i j p q b1 c1 c2 hp hq hpw h1 h2;rw[q1]at hp hq;have old: ∀i b' c',i≠s.nx->ρ1 i=some (b',c')->ρ i=some (b',c'):=fun i b' c' h e=>by simpa[ρ1,ext,h]using e
   by_cases hi:i=s.nx<;>by_cases hj:j=s.nx
   ·rw[hi,hj]
   ·rw[if_neg hj]at hq;obtain⟨b',c',o',g1,g2,_⟩:=R.hp.ok j q hq;rw[old j _ _ hj h2]at g1;simp only[ae,af]at g1;have:=bS g2;simp[ρ1,ext,hi]at h1;omega
   ·rw[if_neg hi]at hp;obtain⟨b',c',o',g1,g2,_⟩:=R.hp.ok i p hp;rw[old i _ _ hi h1]at g1;simp only[ae,af]at g1;have:=bS g2;simp[ρ1,ext,hj]at h2;omega
   ·rw[if_neg hi]at hp;rw[if_neg hj]at hq;exact R.hp.inj _ _ _ _ _ _ _ hp hq hpw (old i _ _ hi h1) (old j _ _ hj h2)
  ·refine R.hp.fz.of (fun _ _ h=>h) (fun b l h=>hold b (R.hp.fz b l h).1.lt) fun i z b c hz hzw he=> ?_
   rw[q1]at hz;by_cases e:i=s.nx
   ·subst e;simp[ρ1,ext]at he;right;omega
   ·rw[if_neg e]at hz;exact .inl ⟨i,z,c,hz,hzw,by simpa[ρ1,ext,e]using he⟩
 have hf1:bW ρ1 (s.nx+1):=fun i hi=>by
  have:i≠s.nx:=by omega
  simp[ρ1,ext,this,R.fresh i (by omega)]
 have hargs:bo ρ1 (fs.map (fun(nm,off)=> .one (.c (.ptr nm off)))++(.one (.c (.yield s.nx))::dH.map fun(nm,off)=> .one (.c (.ptr nm off)))) (fvs++(.func (.yield (w.heap.size+1)) #[] #[]::cvs)):=
  bo.append (mO (c0.mono (fW R.fresh _ _))) ⟨_,_,⟨w.heap.size+1,0,by simp[ρ1,ext],rfl⟩,mO (c1.mono (fW R.fresh _ _)),rfl⟩
 have hC:=hi.run ρ1 W1 _ hr1 hf1 hargs;obtain⟨fn,f1,f2⟩:=hi.fn;refine⟨w.heap.size+1,[tr w.heap.size],W1,{target:= .fn (.func f) cvs.toArray,args:=fvs.toArray++ #[.func (.yield (w.heap.size+1)) #[] #[]]},W1,f,(fvs++(.func (.yield (w.heap.size+1)) #[] #[]::cvs)).toArray,W1,?_,?_,fun _ _=>trivial,?_,xE,?_⟩
 ·rw[<-hW1,hrec];exact run_enterLoop_outer _ _ _ _ _
 ·simp only[resolve,c2,Deferred.ofValue];simp[Act.eval]
 ·have ha:fvs.toArray++ #[Value.func (.yield (w.heap.size+1)) #[] #[]]++cvs.toArray=(fvs++(.func (.yield (w.heap.size+1)) #[] #[]::cvs)).toArray:=by
   apply Array.toList_inj.1;simp
  simp only[invoke,callFunc,Sem.run_bind,run_program,Result.andThen_ok,f1,hng _ _ f1,f2,Bool.false_eq_true,if_false,Sem.run_pure];rw[<-ha]
 refine(GA hC).mono fun e w3 ⟨V,ρ',he,g1,g2,g3,g4⟩=> ?_
 subst he;have g4:dN ρ1 hp1.get (s.nx+1) W1 ρ' s1.hp.get s1.nx w3 L:=g4;have hnm:ρ' s.nx=some (w.heap.size+1,0):=by rw[g4.rho s.nx (Nat.lt_succ_self _)];simp[ρ1,ext]
 obtain⟨b',c',o',y1,y2,r3,rfl,_,_,_,_,y7⟩:=g2.ok _ _ hloop;rw[hnm]at y1;simp only[ae,af]at y1;obtain⟨rfl,rfl⟩:=y1;obtain⟨z1,z2⟩:=hx _ _ y7;refine⟨r3.pending,_,run_endLoop y2 z1,?_⟩;have W4:=pT (o:= .loop {r3 with state:= .exhausted}) y2
 obtain⟨w4,hw4⟩: ∃w4,w4=w3.putObj (w.heap.size+1) (.loop {r3 with state:= .exhausted}):=⟨_,rfl⟩
 rw[<-hw4]at W4 ⊢;have hold4: ∀b,b<w.heap.size->(∀nm c,nm∈L->nm<s.nx->ρ nm≠some (b,c))->w4.heap[b]? =w.heap[b]? :=fun b hb hn=>by
  rw[W4.other b (by omega),g4.frame b (by omega) fun nm c h1 h2 h3=> ?_,hold b hb]
  by_cases e:nm=s.nx
  ·subst e;simp[ρ1,ext]at h3;omega
  ·have h3:ρ nm=some (b,c):=by simpa[ρ1,ext,e]using h3
   exact hn nm c h1 (by omega) h3
 have mk4:Marks (tr w.heap.size::a.defers) w4:=by
  obtain⟨rs,m1,m2,m3⟩:=R.df;have hM1:Marks (tr w.heap.size::a.defers) W1:=⟨w.heap.size::rs,by rw[m1];rfl,List.nodup_cons.2 ⟨fun hm=>by have:=bS (m3 _ hm);omega,m2⟩,fun r hr=>by
   rcases List.mem_cons.1 hr with rfl|hr
   ·exact hK1
   ·rw[hold r (bS (m3 r hr))];exact m3 r hr⟩
  obtain⟨qs,n1,n2,n3⟩:=hM1.ff hr1 g4;refine⟨qs,n1,n2,fun r hr=> ?_⟩
  rw[W4.other r (fun e=>by have:=n3 r hr;rw[e,y2]at this;cases this)]
  exact n3 r hr
 have hr4:bu ρ' hp2.get w4:=by
  constructor
  ·intro i z hz;rw[q2]at hz;split at hz
   ·cases hz
   ·rename_i e;obtain⟨b',c',o',k1,k2,k3⟩:=g2.ok i z hz;refine⟨b',c',o',k1,?_,k3⟩;rw[W4.other b' (fun e2=>e (g2.inj _ _ _ _ _ _ _ hloop hz rfl hnm (by rw[k1,e2])).symm)]
    exact k2
  ·intro i j p q b1 c1 c2 hp hq hpw h1 h2;rw[q2]at hp hq;split at hp
   ·cases hp
   ·split at hq
    ·cases hq
    ·exact g2.inj _ _ _ _ _ _ _ hp hq hpw h1 h2
  ·refine g2.fz.of (fun _ _ h=>h) (fun b l h=>W4.other b (g2.T0 hloop rfl hnm h)) fun i z b c hz hzw he=> .inl ?_
   rw[q2]at hz;split at hz
   ·cases hz
   ·exact⟨i,z,c,hz,hzw,he⟩
 have R4:jv n ρ' ⟨s1.sl,hp2,s1.nx,s1.lg⟩ {a with defers:=tr w.heap.size::a.defers} w4:=
  ⟨R.sz,mk4,fun t=>by show bE ρ' (slot n s1.sl t) _;rw[hsl];exact((R.sl t).mono (fW R.fresh _ _)).mono (g4.sub hf1),hr4,g3⟩
 have st4:dN ρ s.hp.get s.nx w ρ' hp2.get s1.nx w4 L:=by
  refine⟨ab.le,fun nm hn=> ?_,ab.aH,by rw[W4.size];exact Nat.le_trans (by omega) g4.size,hold4,fun nm b c hn e=> ?_,fun nm hm hn=> ?_,?_,?_,?_,fun b l h=>g4.je b l h,fun b l h=> ?_⟩
  ·rw[g4.rho nm (by omega)]
   have:nm≠s.nx:=by omega
   simp[ρ1,ext,this]
  ·by_cases e2:nm=s.nx
   ·subst e2;rw[hnm]at e;simp only[ae,af]at e;left;omega
   ·rcases g4.new nm b c (by omega) e with h|⟨bs,c0,m1,m2,m3⟩
    ·left;omega
    ·by_cases e3:bs=s.nx
     ·subst e3;simp[ρ1,ext]at m3;left;omega
     ·exact .inr ⟨bs,c0,m1,by omega,by simpa[ρ1,ext,e3]using m3⟩
  ·obtain⟨x,x1,x2⟩:=g4.aq nm hm (by omega)
   rw[q1,if_neg (by omega)]at x1
   exact⟨x,x1,x2⟩
  ·rw[W4.os,g4.os, <-hW1];rfl
  ·rw[W4.tape,g4.tape, <-hW1];rfl
  ·rw[W4.al,g4.al, <-hW1];rfl
  ·rcases g4.fzn b l h with h|h|⟨nm,c,m1,m2,m3⟩
   ·exact .inl h
   ·exact .inr (.inl (by omega))
   ·by_cases e3:nm=s.nx
    ·subst e3;simp[ρ1,ext]at m3;exact .inr (.inl (by omega))
    ·exact .inr (.inr ⟨nm,c,m1,by omega,by simpa[ρ1,ext,e3]using m3⟩)
 have gr4:Grown (true &&(none:Option Nat).isNone) w a.defers (tr w.heap.size::a.defers):=⟨[w.heap.size],rfl,fun r hr=>by rw[List.mem_singleton.1 hr];exact Nat.le_refl _,fun e=>by cases e⟩
 have post: ∀e,XR x e->pV (true &&(none:Option Nat).isNone) n ρ s w a.defers x ⟨s1.sl,hp2,s1.nx,s1.lg⟩ L e {a with defers:=tr w.heap.size::a.defers} w4:=fun e hx=>⟨hx,ρ',R4,st4,gr4⟩
 cases hpd:r3.pending with
 |none=>rw[hpd]at z2;simp only at z2;subst z2;exact post .normal trivial
 |some c=>
  rw[hpd]at z2;cases c<;>simp only at z2
  ·subst z2;exact wpIn_exit (post _ rfl)
  ·subst z2;exact wpIn_ret (post _ trivial)
theorem zt{ex:fU β}(hex:kB P z ex):kB P z (du P Sg z ex):=by
 intro n c s k r ht h;cases c with
 |skip=>exact⟨.normal,s,[],0,h,gU.refl ht,fun ro _ ρ a w R=>wpIn_skip ⟨trivial,ρ,R,dN.refl R.fresh,Grown.refl⟩⟩
 |ret=>exact⟨.ret,s,[],0,h,gU.refl ht,fun ro _ ρ a w R=>wpIn_ret ⟨trivial,ρ,R,dN.refl R.fresh,Grown.refl⟩⟩
 |exit id=>exact⟨.exit id,s,[],0,h,gU.refl ht,fun ro _ ρ a w R=>wpIn_exit ⟨rfl,ρ,R,dN.refl R.fresh,Grown.refl⟩⟩
 |seq x y=>
  simp only[du]at h;obtain⟨e1,s1,L1,m1,h1,ab1,w1⟩:=hex _ _ _ _ _ ht h;have no: ∀ro:Option Nat,(ro=none\/iK (.seq x y)=true)->(ro=none\/iK x=true)/\(ro=none\/iK y=true):=fun ro h=>by
   rcases h with h|h
   ·exact⟨.inl h,.inl h⟩
   ·simp only[iK,Bool.and_eq_true]at h;exact⟨.inr h.1,.inr h.2⟩
  cases e1 with
  |normal=>
   simp only[AF]at h1;obtain⟨e2,s2,L2,m2,h2,ab2,w2⟩:=hex _ _ _ _ _ ab1.top h1;refine⟨e2,s2,L2++L1,0,h2,ab1.trans ab2,fun ro hro ρ a w R=>wpIn_seq (wpIn_mono (w1 ro (no ro hro).1 ρ a w R).wp fun e a' w' hq=> ?_)⟩
   obtain⟨hx,ρ',R',st,gr⟩:=hq;cases e<;>simp only[XR]at hx
   exact wpIn_mono (w2 ro (no ro hro).2 ρ' a' w' R').wp fun e a'' w'' hq=>hq.trans st gr
  |exit id=>
   refine⟨.exit id,s1,L1,0,h1,ab1,fun ro hro ρ a w R=>wpIn_seq (wpIn_mono (w1 ro (no ro hro).1 ρ a w R).wp fun e a' w' hq=> ?_)⟩
   obtain⟨hx,hq⟩:=hq;cases e<;>simp only[XR]at hx
   subst hx;exact⟨rfl,hq⟩
  |ret=>
   refine⟨.ret,s1,L1,0,h1,ab1,fun ro hro ρ a w R=>wpIn_seq (wpIn_mono (w1 ro (no ro hro).1 ρ a w R).wp fun e a' w' hq=> ?_)⟩
   obtain⟨hx,hq⟩:=hq;cases e<;>simp only[XR]at hx
   exact⟨trivial,hq⟩
 |cond c x y=>
  simp only[du]at h;unfold vL at h;split at h<;>try(cases h;done)
  rename_i t hc;have no: ∀ro:Option Nat,(ro=none\/iK (.cond c x y)=true)->(ro=none\/iK x=true)/\(ro=none\/iK y=true):=fun ro h=>by
   rcases h with h|h
   ·exact⟨.inl h,.inl h⟩
   ·simp only[iK,Bool.and_eq_true]at h;exact⟨.inr h.1,.inr h.2⟩
  have hev: ∀(ρ:aM) (a:Act) (w:World),jv n ρ s a w->a.eval c= .bool t:=fun ρ a w R=>by
   have:=ml (ρ:=ρ) (n:=n) (sl:=s.sl) (a:=a) (x:=c) (fun t _=>R.sl t) _ hc
   exact this
  cases t with
  |true=>
   obtain⟨e1,s1,L1,m1,h1,ab1,w1⟩:=hex _ _ _ _ _ ht h;exact⟨e1,s1,L1,0,h1,ab1,fun ro hro ρ a w R=>wpIn_cond_true (hev ρ a w R) (w1 ro (no ro hro).1 ρ a w R).wp⟩
  |false=>
   obtain⟨e1,s1,L1,m1,h1,ab1,w1⟩:=hex _ _ _ _ _ ht h;exact⟨e1,s1,L1,0,h1,ab1,fun ro hro ρ a w R=>wpIn_cond_false (hev ρ a w R) (w1 ro (no ro hro).2 ρ a w R).wp⟩
 |block id c=>
  simp only[du]at h;obtain⟨e1,s1,L1,m1,h1,ab1,w1⟩:=hex _ _ _ _ _ ht h;cases e1 with
  |normal=>
   refine⟨.normal,s1,L1,0,h1,ab1,fun ro hro ρ a w R=>wpIn_block (wpIn_mono (w1 ro hro ρ a w R).wp fun e a' w' hq=> ?_)⟩
   obtain⟨hx,hq⟩:=hq;cases e<;>simp only[XR]at hx
   exact⟨trivial,hq⟩
  |ret=>
   refine⟨.ret,s1,L1,0,h1,ab1,fun ro hro ρ a w R=>wpIn_block (wpIn_mono (w1 ro hro ρ a w R).wp fun e a' w' hq=> ?_)⟩
   obtain⟨hx,hq⟩:=hq;cases e<;>simp only[XR]at hx
   exact⟨trivial,hq⟩
  |exit j=>
   simp only[yY]at h1;by_cases hj:j=id
   ·rw[if_pos hj]at h1;refine⟨.normal,s1,L1,0,h1,ab1,fun ro hro ρ a w R=>wpIn_block (wpIn_mono (w1 ro hro ρ a w R).wp fun e a' w' hq=> ?_)⟩
    obtain⟨hx,hq⟩:=hq;cases e<;>simp only[XR]at hx
    subst hx;simp only[Exit.inBlock,hj,if_true];exact⟨trivial,hq⟩
   ·rw[if_neg hj]at h1;refine⟨.exit j,s1,L1,0,h1,ab1,fun ro hro ρ a w R=>wpIn_block (wpIn_mono (w1 ro hro ρ a w R).wp fun e a' w' hq=> ?_)⟩
    obtain⟨hx,hq⟩:=hq;cases e<;>simp only[XR]at hx
    subst hx;simp only[Exit.inBlock,hj,if_false];exact⟨rfl,hq⟩
 |loop c=>
  simp only[du]at h;obtain⟨e1,s1,L1,m1,h1,ab1,w1⟩:=hex _ _ _ _ _ ht h;cases e1 with
  |normal=>
   simp only[AF]at h1;obtain⟨e2,s2,L2,m2,h2,ab2,w2⟩:=hex _ _ _ _ _ ab1.top h1;refine⟨e2,s2,L2++L1,m2+1,h2,ab1.trans ab2,fun ro hro ρ a w R=> ?_⟩
   show c.wpIn (FR ro) 0 P (Exit.then (Code.roundsIn (FR ro) 0 P c _ m2) _) a w;refine wpIn_mono (w1 ro hro ρ a w R).wp fun e a' w' hq=> ?_
   obtain⟨hx,ρ',R',st,gr⟩:=hq;cases e<;>simp only[XR]at hx
   have:=w2 ro hro ρ' a' w' R';exact uv (fun e a w hq=>pV.trans st gr hq) m2 a' w' this
  |exit id=>
   refine⟨.exit id,s1,L1,1,h1,ab1,fun ro hro ρ a w R=> ?_⟩
   show c.wpIn (FR ro) 0 P (Exit.then (Code.roundsIn (FR ro) 0 P c _ 0) _) a w;refine wpIn_mono (w1 ro hro ρ a w R).wp fun e a' w' hq=> ?_
   obtain⟨hx,hq⟩:=hq;cases e<;>simp only[XR]at hx
   subst hx;exact⟨rfl,hq⟩
  |ret=>
   refine⟨.ret,s1,L1,1,h1,ab1,fun ro hro ρ a w R=> ?_⟩
   show c.wpIn (FR ro) 0 P (Exit.then (Code.roundsIn (FR ro) 0 P c _ 0) _) a w;refine wpIn_mono (w1 ro hro ρ a w R).wp fun e a' w' hq=> ?_
   obtain⟨hx,hq⟩:=hq;cases e<;>simp only[XR]at hx
   exact⟨trivial,hq⟩
 |region id ops draw=>
  simp only[du]at h;cases draw with
  |false=>
   simp only[ik]at h;obtain⟨s',L,h1,ab,hw⟩:=vx (na hS hex) hng ht h;exact⟨.normal,s',L,0,h1,ab,fun ro _ ρ a w R=>wpIn_region_list (hw ro ρ a w R _ fun a' w' ρ' R' st hd=>⟨trivial,ρ',R',st,by rw[hd];exact Grown.refl⟩)⟩
  |true=>
   simp only[ik]at h;obtain⟨s',L,h1,ab,hw⟩:=hdraw _ (na hS hex) n id ops s _ r ht h;exact⟨.normal,s',L,0,h1,ab,fun ro _ ρ a w R=>hw ro ρ a w R _ fun a' w' ρ' R' st hd=>⟨trivial,ρ',R',st,by rw[hd];exact Grown.refl⟩⟩
 |rangeFunc g ps aa bd=>
  simp only[du]at h;cases z with
  |false=>cases h
  |true=>exact Ib hng (na hS hex) ht h
 |_=>simp[du]at h
theorem D8: ∀f,kB P z (exec (β:=β) P Sg z f)
 | 0=>fun n c s k r _ h=>by cases h
 |f+1=>zt hng hS hdraw (D8 f)
end
theorem kB.ok {β:Type}{ex:fU β}(h:kB P false ex):Sh P ex:=by
 intro n c s k r ht hr;obtain⟨x,s',L,m,h1,h2,h3⟩:=h n c s k r ht hr;refine⟨x,s',L,m,h1,h2,fun ρ a w R=> ?_⟩
 have h4:=h3 none (.inl rfl) ρ a w R.m;have post: ∀e a' w',pV (false &&(none:Option Nat).isNone) n ρ s w a.defers x s' L e a' w'->wB n ρ s w x s' L e a' w':=fun e a' w' ⟨q1,ρ',q2,q3,q4⟩=>⟨q1,ρ',q2.rel (by rw[Grown.eq q4,R.df]),q3⟩
 cases c with
 |loop c=>exact tz post _ _ _ (Cx h4)
 |_=>exact wp_mono (wpIn_wide.1 h4) post
end Go.Sx
