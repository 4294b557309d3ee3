import Derived.Test.YtfceckiklfkjkaaGreatS10
noncomputable section
namespace Go.Sx
variable{P:Program}
def nN(f:Nat->Bool):Nat->Nat
 | 0=>0
 |n+1=>nN f n+(if f n=true then 1 else 0)
theorem RP(f:Nat->Bool): ∀n,nN f n<=n
 | 0=>Nat.le_refl _
 |n+1=>by have:=RP f n;simp only[nN];split<;>omega
theorem J9(f:Nat->Bool): ∀n,n<=nN f n->∀i,i<n->f i=true
 | 0,_,i,h=>by omega
 |n+1,h,i,hi=>by
  have h1:=RP f n;simp only[nN]at h;by_cases hn:f n=true
  ·rw[if_pos hn]at h;by_cases e:i=n
   ·subst e;exact hn
   ·exact J9 f n (by omega) i (by omega)
  ·rw[if_neg hn]at h;omega
theorem Cd{f g:Nat->Bool}: ∀ {n:Nat},(∀i,i<n->f i=g i)->nN f n=nN g n
 | 0,_=>rfl
 |n+1,h=>by simp only[nN];rw[Cd fun i hi=>h i (by omega),h n (by omega)]
theorem IV{f g:Nat->Bool}{j:Nat}(hg: ∀i,g i=if i=j then true else f i): ∀ {n:Nat},j<n->f j=false->nN g n=nN f n+1
 |n+1,h,h0=>by
  simp only[nN];by_cases e:j=n
  ·subst e;rw[Cd (g:=f) fun i hi=>by rw[hg,if_neg (by omega)],hg,if_pos rfl,h0]
   simp
  ·have bT: ¬(n=j):=fun h'=>e h'.symm
   rw[IV hg (by omega) h0,hg,if_neg bT]
   omega
theorem CF{β:Type}{z:Bool}{call:fJ β}(hcall:mR P call)(hng: ∀(g:Nat) (fn:Func),P.funcs[g]? =some fn->(fn.name== "runtime.NumGoroutine")=false){n:Nat}{ops:Array Oper}{r:β}:
  ∀ {rest:List Oper} {fps:List FP} {s:S} {k:List FP->S->Option β},cJ s->pK P z call n ops.toList rest fps s k=some r->
   ∃(St:Nat->S) (nd:Nat->fG),St 0=s/\(∀i o,rest[i]? =some o->la P n ops o {St i with lg:= []} (nd i) (St (i+1)) (St (i+1)).lg)/\
    k (fps++(List.range rest.length).map fun i=>⟨nd i,(St (i+1)).lg,(St i).nx,(St (i+1)).nx⟩) (St rest.length)=some r
 | [],fps,s,k,_,h=>⟨fun _=>s,fun _=>none,rfl,by simp,by simpa[pK]using h⟩
 |o::rest,fps,s,k,ht,h=>by
  simp only[pK]at h;obtain⟨nd0,s1,L,h1,hl⟩:=xG hcall hng (s:= {s with lg:= []}) (by exact ht) h
  obtain⟨St,nd,e0,h2,h3⟩:=CF hcall hng hl.abs.top h1;have hL:s1.lg=L:=by rw[hl.abs.lg];simp
  refine⟨fun i=>match i with| 0=>s|i+1=>St i,fun i=>match i with| 0=>nd0|i+1=>nd i,rfl,?_,?_⟩
  ·intro i o' ho;cases i with
   |zero=>
    simp at ho;subst ho;show la P n ops o {s with lg:= []} nd0 (St 0) (St 0).lg
    rw[e0,hL];exact hl
   |succ i=>
    exact h2 i o' (by simpa using ho)
  ·simp only[List.length_cons];rw[List.range_succ_eq_map,List.map_cons,List.map_map];rw[List.append_assoc]at h3;rw[e0];exact h3
theorem BY{β:Type}{lo:Nat}{src:T ax}: ∀ {m:Nat} {t:T ax} {k:T ax->Option β} {r:β},E7 lo src m t k=some r->
  ∃t',k t'=some r/\∀j,t'.get j=if lo<=j/\j<lo+m/\(src.get j).isSome=true then src.get j else t.get j
 | 0,t,k,r,h=>⟨t,h,fun j=>by rw[if_neg (by omega)]⟩
 |m+1,t,k,r,h=>by
  simp only[E7]at h;split at h
  ·rename_i b hb;obtain⟨t1,h1,q1⟩:=T.bR _ _ _ _ _ _ h;obtain⟨t2,h2,q2⟩:=BY h1;refine⟨t2,h2,fun j=> ?_⟩
   rw[q2,q1];by_cases e:j=lo+m
   ·subst e;rw[if_neg (by omega),if_pos rfl,if_pos ⟨by omega,by omega,by rw[hb];rfl⟩,hb]
   ·rw[if_neg e];by_cases h3:lo<=j/\j<lo+m/\(src.get j).isSome=true
    ·rw[if_pos h3,if_pos ⟨h3.1,by omega,h3.2.2⟩]
    ·rw[if_neg h3,if_neg (fun h4=>h3 ⟨h4.1,by omega,h4.2.2⟩)]
  ·rename_i hb;obtain⟨t2,h2,q2⟩:=BY h;refine⟨t2,h2,fun j=> ?_⟩
   rw[q2];by_cases e:j=lo+m
   ·subst e;rw[if_neg (by omega),if_neg (fun h=>by rw[hb]at h;simp at h)]
   ·by_cases h3:lo<=j/\j<lo+m/\(src.get j).isSome=true
    ·rw[if_pos h3,if_pos ⟨h3.1,by omega,h3.2.2⟩]
    ·rw[if_neg h3,if_neg (fun h4=>h3 ⟨h4.1,by omega,h4.2.2⟩)]
theorem Rt{β:Type}{z:Bool}{call:fJ β}(hcall:mR P call)(hng: ∀(g:Nat) (fn:Func),P.funcs[g]? =some fn->(fn.name== "runtime.NumGoroutine")=false){n:Nat}{ops:Array Oper}{o:Oper}{s:S}{k:fG->S->Option β}{r:β}(htop:cJ s)
  (h:Fs P z call n ops.toList o s k=some r): ∃nd s' L,k nd s'=some r/\la P n ops o s nd s' L:=by
 have base: ∀(_:mG P z call n ops.toList o s k=some r),∃nd s' L,k nd s'=some r/\la P n ops o s nd s' L:=fun h=>xG hcall hng htop h
 unfold Fs at h;unfold mG at base;cases hg:guardOf n ops.toList s.sl o with
 |none=>rw[hg]at h;cases h
 |some g=>
  rw[hg]at h base;cases g with
  |false=>exact base h
  |true=>
   simp only at h base;cases hic:rH o.op with
   |none=>rw[hic]at h base;exact base h
   |some fa=>
    obtain⟨fo,args⟩:=fa;rw[hic]at h base;simp only at h base;unfold El at h;unfold q9 at base;cases hcl:me n s.sl fo with
    |none=>rw[hcl]at h;cases h
    |some q=>
     obtain⟨fid,fsv,dH⟩:=q;rw[hcl]at h base;simp only at h base;cases hl:lS (eval n s.sl) args.toList with
     |none=>rw[hl]at h;cases h
     |some l=>
      rw[hl]at h base;simp only at h base;cases hfl:(fsv++(l++dH)).all WG with
      |false=>rw[hfl]at h;exact base h
      |true=>
       rw[hfl]at h;simp only at h;clear base;unfold rH at hic;split at hic<;>try(cases hic;done)
       rename_i c hop;split at hic<;>try(cases hic;done)
       rename_i fo' hcal;simp only[ae,af]at hic;obtain⟨rfl,rfl⟩:=hic;have top0:cJ ⟨s.sl,.nil,s.nx,s.lg⟩:=fun i _=>T.get_nil i
       obtain⟨v,s1,L,h1,hi⟩:=hcall _ _ _ _ _ top0 h;obtain⟨hp1,h1,q1⟩:=BY h1;obtain⟨s2,h2,e1,e2,e3,e4,e5⟩:=pO h1;have hsl:s1.sl=s.sl:=hi.sl;have hle:s.nx<=s1.nx:=hi.abs.le;have hget: ∀nm,s.nx<=nm->s2.hp.get nm=s1.hp.get nm:=fun nm hn=>by
        rw[e1];show hp1.get nm=_;rw[q1];by_cases aA:nm<s1.nx
        ·cases hs:s1.hp.get nm with
         |none=>rw[if_neg (fun h=>by simp at h)];exact htop nm hn
         |some x=>rw[if_pos ⟨hn,by omega,rfl⟩]
        ·rw[if_neg (by omega),htop nm hn,hi.abs.top nm (by omega)]
       have hlow: ∀nm,nm<s.nx->s2.hp.get nm=s.hp.get nm:=fun nm hn=>by
        rw[e1];show hp1.get nm=_;rw[q1,if_neg (by omega)]
       refine⟨some [],s2,L,h2,⟨⟨by rw[e3];exact hi.abs.lg,by rw[e2];exact hle,fun nm h1 _=>hlow nm h1,fun nm hn=> ?_,fun nm hm=>by rw[e2];exact hi.abs.lt nm hm⟩,fun i bT=>by rw[e4,if_neg bT];show s1.sl.get i=_;rw[hsl],e5,?_⟩⟩
       ·rw[e2]at hn;have hn:s1.nx<=nm:=hn;rw[hget nm (by omega)];exact hi.abs.top nm hn
       ·intro ro ρ w a hh hsz hop' hr hf hnd next Q hn
        have hgd:=sR (ρ:=ρ) hg hsz fun t ht=>hop' t (List.mem_append.2 (.inr ht))
        rw[hgd,if_pos rfl];have hev: ∀x∈o.op.operands.toList,dx ρ (eval n s.sl) a.eval x:=fun x hx=>ml fun t ht=>hop' t (List.mem_append.2 (.inl (n8 hx ht)))
        have hmem: ∀x∈c.args.toList,x∈o.op.operands.toList:=fun x hx=>by
         rw[hop];simp only[Op.operands,Call.operands,Array.toList_append,List.mem_append];exact .inr hx
        have hfo:fo'∈o.op.operands.toList:=by rw[hop];simp[Op.operands,Call.operands,hcal]
        have hargs:=xF hl fun x hx=>hev x (hmem x hx)
        have hsub:bu ρ (T.nil:T ax).get w:=hr.sub (fun i x hx=>by rw[T.get_nil]at hx;cases hx)
        exact z6 (P:=P) hng (ro:=ro) hop hcal hcl hi hsub hf hev hfo hargs (next:=next) (Q:=Q) (fun V w' ρ' g1 g2 g3 g4=>by
         have g4:dN ρ (T.nil:T ax).get s.nx w ρ' s1.hp.get s1.nx w' L:=g4;obtain⟨h',l1,l2,l3⟩:=g4.lift hr hf (fun i x hx=>by rw[T.get_nil]at hx;cases hx) g2
         refine hn V w' ρ' h' ?_ l1 (by rw[e2];exact g3) (by rw[e2];exact l2) (fun nm hm=> ?_)
         ·intro d hd;have aA:=e5 d hd;simp only[slot,aA,if_true,e4,hd,Option.getD_some];exact g1
         ·rcases Nat.lt_or_ge nm s.nx with h3|h3
          ·have hm:=hm.resolve_right (by omega)
           obtain⟨x,x1,_⟩:=g4.aq nm hm h3;rw[T.get_nil]at x1;cases x1
          ·rw[l3 nm (.inr h3),hget nm h3])
theorem zF{β:Type}{z:Bool}{call:fJ β}(hcall:mR P call)(hng: ∀(g:Nat) (fn:Func),P.funcs[g]? =some fn->(fn.name== "runtime.NumGoroutine")=false){n:Nat}{ops:Array Oper}{r:β}:
  ∀ {rest:List Oper} {fps:List FP} {s:S} {k:List FP->S->Option β},cJ s->ry P z call n ops.toList rest fps s k=some r->
   ∃(St:Nat->S) (nd:Nat->fG),St 0=s/\(∀i o,rest[i]? =some o->la P n ops o {St i with lg:= []} (nd i) (St (i+1)) (St (i+1)).lg)/\
    k (fps++(List.range rest.length).map fun i=>⟨nd i,(St (i+1)).lg,(St i).nx,(St (i+1)).nx⟩) (St rest.length)=some r
 | [],fps,s,k,_,h=>⟨fun _=>s,fun _=>none,rfl,by simp,by simpa[ry]using h⟩
 |o::rest,fps,s,k,ht,h=>by
  simp only[ry]at h;obtain⟨nd0,s1,L,h1,hl⟩:=Rt hcall hng (s:= {s with lg:= []}) (by exact ht) h
  obtain⟨St,nd,e0,h2,h3⟩:=zF hcall hng hl.abs.top h1;have hL:s1.lg=L:=by rw[hl.abs.lg];simp
  refine⟨fun i=>match i with| 0=>s|i+1=>St i,fun i=>match i with| 0=>nd0|i+1=>nd i,rfl,?_,?_⟩
  ·intro i o' ho;cases i with
   |zero=>
    simp at ho;subst ho;show la P n ops o {s with lg:= []} nd0 (St 0) (St 0).lg
    rw[e0,hL];exact hl
   |succ i=>
    exact h2 i o' (by simpa using ho)
  ·simp only[List.length_cons];rw[List.range_succ_eq_map,List.map_cons,List.map_map];rw[List.append_assoc]at h3;rw[e0];exact h3
def agW(ops:Array Oper)(D:Nat->Prop)(j:Nat):Prop:= ∀o,ops[j]? =some o->∀e∈o.after,Region.binds .any e=true->D e.on
theorem uK{acc:List Nat}{D:Nat->Prop}(hacc: ∀j i,D j->(acc.getD j 0).testBit i=true->D i): ∀ {es:List Edge},(∀e∈es,Region.binds .any e=true->D e.on)->
  ∀i,(ko acc es).testBit i=true->D i
 | [],_,i,h=>by simp[ko]at h
 |e::es,he,i,h=>by
  simp only[ko]at h;split at h
  ·rename_i hb;have hD:=he e (by simp) hb
   have h':((2 ^ e.on|||acc.getD e.on 0)|||ko acc es).testBit i=true:=h
   rw[Nat.testBit_or,Nat.testBit_or,Bool.or_eq_true,Bool.or_eq_true]at h';rcases h' with(h'|h')|h'
   ·rw[Nat.testBit_two_pow]at h';have:e.on=i:=by simpa using h'
    rw[<-this];exact hD
   ·exact hacc _ _ hD h'
   ·exact uK hacc (fun e' h''=>he e' (List.mem_cons_of_mem _ h'')) i h'
  ·exact uK hacc (fun e' h''=>he e' (List.mem_cons_of_mem _ h'')) i h
theorem HS: ∀(l:List Oper) (acc:List Nat),(kf l acc).length=acc.length+l.length
 | [],acc=>by simp[kf]
 |o::l,acc=>by simp[kf,HS l];omega
theorem GG: ∀(l:List Oper) (acc:List Nat) (j:Nat),j<acc.length->(kf l acc)[j]? =acc[j]?
 | [],acc,j,_=>rfl
 |o::l,acc,j,h=>by
  simp only[kf];rw[GG l _ j (by simp;omega),List.getElem?_append_left h]
theorem JE{D:Nat->Prop}: ∀(l:List Oper) (acc:List Nat),(∀j i,D j->(acc.getD j 0).testBit i=true->D i)->
  (∀j o,l[j]? =some o->D (acc.length+j)->∀e∈o.after,Region.binds .any e=true->D e.on)->
  (∀j i,D j->((kf l acc).getD j 0).testBit i=true->D i)/\
  ∀j o,l[j]? =some o->(∀e∈o.after,Region.binds .any e=true->D e.on)->∀i,((kf l acc).getD (acc.length+j) 0).testBit i=true->D i
 | [],acc,hacc,_=>⟨hacc,by simp⟩
 |o::l,acc,hacc,hl=>by
  have hnew: ∀i,(∀e∈o.after,Region.binds .any e=true->D e.on)->(ko acc o.after.toList).testBit i=true->D i:=fun i he h=>
   uK hacc (fun e h'=>he e (by simpa using h')) i h
  have hacc': ∀j i,D j->((acc++ [ko acc o.after.toList]).getD j 0).testBit i=true->D i:=by
   intro j i hj h;by_cases h1:j<acc.length
   ·rw[List.getD_eq_getElem?_getD,List.getElem?_append_left h1, <-List.getD_eq_getElem?_getD]at h;exact hacc j i hj h
   ·by_cases h2:j=acc.length
    ·subst h2;simp at h;exact hnew i (hl 0 o rfl (by simpa using hj)) h
    ·rw[List.getD_eq_getElem?_getD,List.getElem?_eq_none (by simp;omega)]at h
     simp at h
  obtain⟨g1,g2⟩:=JE l (acc++ [ko acc o.after.toList]) hacc' (fun j o' ho hD=>hl (j+1) o' (by simpa using ho) (by simpa[Nat.add_assoc,Nat.add_comm 1]using hD))
  refine⟨g1,fun j o' ho he i h=> ?_⟩
  cases j with
  |zero=>
   simp at ho;subst ho;simp only[kf,Nat.add_zero,List.getD_eq_getElem?_getD]at h;rw[GG _ _ _ (by simp)]at h
   simp at h;exact hnew i he h
  |succ j=>
   have:=g2 j o' (by simpa using ho) he i
   simp only[List.length_append,List.length_cons,List.length_nil]at this;rw[show acc.length+(0+1)+j=acc.length+(j+1)by omega]at this
   exact this h
structure qN(ops:List Oper)(oi oj:Oper)(fi fj:FP):Prop where
 a1: ∀d,oi.dst=some d->d∉looks ops oj
 a2: ∀d,oj.dst=some d->d∉looks ops oi
 n1:match fj.ar with
  |none=>fi.wr= []/\fi.lo=fi.hi
  |some l=> ∀x∈l,x∉fi.wr/\¬(fi.lo<=x/\x<fi.hi)
 n2:match fi.ar with
  |none=> ∀x∈fj.wr,fi.lo<=x
  |some l=> ∀x∈l,x∉fj.wr
 w1: ∀x∈fi.wr,x∉fj.wr
 w2: ∀x∈fj.wr,¬(fi.lo<=x/\x<fi.hi)
theorem oU{l:List Nat}{x:Nat}(h:rM l x=true):x∉l:=by
 simp[rM]at h;exact h
theorem DZ{lo hi x:Nat}(h:(!(Nat.ble lo x && Nat.blt x hi))=true): ¬(lo<=x/\x<hi):=by
 intro⟨h1,h2⟩;have e1:Nat.ble lo x=true:=Nat.ble_eq_true_of_le h1;have e2:Nat.blt x hi=true:=Nat.ble_eq_true_of_le h2;rw[e1,e2]at h;simp at h
theorem Zf{ops:List Oper}{oi oj:Oper}{fi fj:FP}(h1:apart ops oi oj=true)(h2:indep fi fj=true):qN ops oi oj fi fj:=by
 unfold apart at h1;rw[Bool.and_eq_true]at h1;unfold indep at h2;simp only[Bool.and_eq_true]at h2;obtain⟨⟨⟨i1,i2⟩,i3⟩,i4⟩:=h2;refine⟨?_,?_,?_,?_,?_,?_⟩
 ·intro d hd;have:=h1.1;rw[hd]at this;exact oU this
 ·intro d hd;have:=h1.2;rw[hd]at this;exact oU this
 ·split
  ·rename_i hn;rw[hn]at i1;simp only[Bool.and_eq_true,List.isEmpty_iff]at i1;exact⟨i1.1,Nat.eq_of_beq_eq_true i1.2⟩
  ·rename_i l hn;rw[hn]at i1;intro x hx;have:=List.all_eq_true.1 i1 x hx;rw[Bool.and_eq_true]at this;exact⟨oU this.1,DZ this.2⟩
 ·split
  ·rename_i hn;rw[hn]at i2;intro x hx;exact Nat.le_of_ble_eq_true (List.all_eq_true.1 i2 x hx)
  ·rename_i l hn;rw[hn]at i2;intro x hx;exact oU (List.all_eq_true.1 i2 x hx)
 ·intro x hx;exact oU (List.all_eq_true.1 i3 x hx)
 ·intro x hx;exact DZ (List.all_eq_true.1 i4 x hx)
theorem CC{ops:List Oper}{m:Nat}{oj:Oper}{fj:FP}: ∀ {os:List Oper} {fs:List FP} {b:Nat},Ad ops m oj fj os fs b=true->
  ∀i oi fi,os[i]? =some oi->fs[i]? =some fi->m.testBit (b+i)=true\/qN ops oi oj fi fj
 | [],_,_,_,i,_,_,h,_=>by simp at h
 |_::_,[],_,_,i,_,_,_,h=>by simp at h
 |o::os,f::fs,b,h,i,oi,fi,ho,hf=>by
  simp only[Ad,Bool.and_eq_true,Bool.or_eq_true]at h;cases i with
  |zero=>
   simp at ho hf;subst ho hf;rcases h.1 with h|h
   ·exact .inl h
   ·exact .inr (Zf h.1 h.2)
  |succ i=>
   have:=CC h.2 i oi fi (by simpa using ho) (by simpa using hf)
   rwa [show b+1+i=b+(i+1)by omega]at this
theorem xh{ops:List Oper}: ∀ {os:List Oper} {ms:List Nat} {fs:List FP} {pre:List Oper} {pfs:List FP},kH ops os ms fs pre pfs=true->pre.length=pfs.length->
  ∀j oj m fj,os[j]? =some oj->ms[j]? =some m->fs[j]? =some fj->∀i oi fi,i<pre.length+j->(pre++os)[i]? =some oi->(pfs++fs)[i]? =some fi->m.testBit i=true\/qN ops oi oj fi fj
 | [],_,_,_,_,_,_=>fun j _ _ _ h=>by simp at h
 |_::_,[],_,_,_,_,_=>fun j _ _ _ _ h=>by simp at h
 |_::_,_::_,[],_,_,_,_=>fun j _ _ _ _ _ h=>by simp at h
 |o::os,m0::ms,f::fs,pre,pfs,h,hl=>by
  intro j oj m fj ho hm hf i oi fi hi hoi hfi;simp only[kH,Bool.and_eq_true]at h;cases j with
  |zero=>
   simp at ho hm hf;subst ho hm hf;have h1:i<pre.length:=by omega
   rw[List.getElem?_append_left h1]at hoi;rw[List.getElem?_append_left (by omega)]at hfi
   have:=CC h.1 i oi fi hoi hfi;rwa [Nat.zero_add]at this
  |succ j=>
   refine xh h.2 (by simp[hl]) j oj m fj (by simpa using ho) (by simpa using hm) (by simpa using hf) i oi fi (by simp;omega) ?_ ?_
   ·simpa using hoi
   ·simpa using hfi
theorem Ch{ops:List Oper}: ∀ {os:List Oper} {b:Nat},qA ops os b=true->∀i o,os[i]? =some o->(∀e∈o.after,Region.binds .any e=true->e.on<b+i)
 | [],_,_=>fun i _ h=>by simp at h
 |o::os,b,h=>by
  intro i o' ho e he hb;simp only[qA,Bool.and_eq_true]at h;cases i with
  |zero=>
   simp at ho;subst ho;have:=List.all_eq_true.1 h.1.1.1 e (by simpa using he)
   rw[hb]at this;simpa using this
  |succ i=>
   have:=Ch h.2 i o' (by simpa using ho) e he hb
   omega
end Go.Sx
namespace Go.Sx
variable{P:Program}
def qj(ρ:aM)(m:Nat):aM:=⟨fun i=>if i<m then ρ i else none,ρ.fz⟩
theorem o4{ρ:aM}{m i:Nat}:(qj ρ m) i=if i<m then ρ i else none:=rfl
theorem jO{ρ:aM}{m:Nat}:Sub (qj ρ m) ρ:=by
 refine⟨?_,fun _ _ h=>h⟩
 intro i b h;rw[o4]at h;split at h
 ·exact h
 ·cases h
theorem rN{ρ ρ':aM}{m m':Nat}(h:Sub ρ ρ')(hm:m<=m'):Sub (qj ρ m) (qj ρ' m'):=by
 refine⟨?_,h.fz⟩;intro i b hb;rw[o4]at hb ⊢;split at hb
 ·rw[if_pos (by omega)];exact h _ _ hb
 ·cases hb
structure DR(P:Program)(n:Nat)(ops:Array Oper)(St:Nat->S)(nd:Nat->fG):Prop where
 top:cJ (St 0)
 loc: ∀i o,ops[i]? =some o->la P n ops o {St i with lg:= []} (nd i) (St (i+1)) (St (i+1)).lg
 back: ∀i o,ops[i]? =some o->∀e∈o.after,Region.binds .any e=true->e.on<i
 pair: ∀i j oi oj,i<j->ops[i]? =some oi->ops[j]? =some oj->
  (∀D:Nat->Prop,(∀x o,D x->ops[x]? =some o->∀e∈o.after,Region.binds .any e=true->D e.on)->(∀e∈oj.after,Region.binds .any e=true->D e.on)->D i)\/
  qN ops.toList oi oj ⟨nd i,(St (i+1)).lg,(St i).nx,(St (i+1)).nx⟩ ⟨nd j,(St (j+1)).lg,(St j).nx,(St (j+1)).nx⟩
section
variable{n:Nat}{ops:Array Oper}{St:Nat->S}{nd:Nat->fG}(H:DR P n ops St nd)
include H
theorem DR.abs {i:Nat}(hi:i<ops.size):gU {St i with lg:= []} (St (i+1)) (St (i+1)).lg:=(H.loc i ops[i] (Array.getElem?_eq_getElem hi)).abs
theorem DR.le: ∀ {i j:Nat},i<=j->j<=ops.size->(St i).nx<=(St j).nx
  | i, 0, h, _ => by have:i=0:=by omega
                     subst this;exact Nat.le_refl _
  | i,j+1,h,hj=>by
    by_cases e:i=j+1
    · subst e;exact Nat.le_refl _
    · exact Nat.le_trans (DR.le (by omega) (by omega)) (H.abs (show j<ops.size by omega)).le
theorem DR.Gu: ∀ {i:Nat},i<=ops.size->cJ (St i)
 | 0,_=>H.top
 |i+1,h=>(H.abs (show i<ops.size by omega)).top
def yO(ops:Array Oper)(j t:Nat):Prop:= ∃o,ops[j]? =some o/\o.dst=some t
def nX(St:Nat->S)(j nm:Nat):Prop:=nm∈(St (j+1)).lg\/((St j).nx<=nm/\nm<(St (j+1)).nx)
theorem DR.mN {t m:Nat}: ∀ {i:Nat},m<=i->i<=ops.size->(∀j,m<=j->j<i->¬yO ops j t)->(St i).sl.get t=(St m).sl.get t
  | 0, h, _, _ => by have:m=0:=by omega
                     subst this;rfl
  | i+1,h,hi,hw=>by
    by_cases e:m=i+1
    · subst e;rfl
    · rw[<-DR.mN (m:=m) (i:=i) (by omega) (by omega) fun j h1 h2=>hw j h1 (by omega)]
      have aA:i<ops.size:=by omega
      refine(H.loc i ops[i] (Array.getElem?_eq_getElem aA)).other t fun hd=> ?_
      exact hw i (by omega) (by omega) ⟨_,Array.getElem?_eq_getElem aA,hd⟩
theorem DR.wu {nm m:Nat}: ∀ {i:Nat},m<=i->i<=ops.size->nm<(St m).nx->(∀j,m<=j->j<i->¬nX St j nm)->(St i).hp.get nm=(St m).hp.get nm
  | 0, h, _, _, _ => by have:m=0:=by omega
                        subst this;rfl
  | i+1,h,hi,hn,hw=>by
    by_cases e:m=i+1
    · subst e;rfl
    · rw[<-DR.wu (m:=m) (i:=i) (by omega) (by omega) hn fun j h1 h2=>hw j h1 (by omega)]
      have aA:i<ops.size:=by omega
      have:=H.le (show m<=i by omega) (by omega)
      exact(H.abs aA).aH nm (by show nm<(St i).nx;omega) fun hm=>hw i (by omega) (by omega) (.inl hm)
structure Inv(ds:List Deferred)(ops:Array Oper)(n:Nat)(St:Nat->S)(ρ0:aM)(w0:World)(D:Nat->Bool)(ρ:aM)(Hh:Hp)(a:Act)(w:World):Prop where
 closed: ∀j o,D j=true->ops[j]? =some o->∀e∈o.after,Region.binds .any e=true->D e.on=true
 inside: ∀j,D j=true->j<ops.size
 sz:a.tmps.size=n
 df:a.defers=ds
 slots: ∀t,∃m,m<=ops.size/\bE (qj ρ (St m).nx) (slot n (St m).sl t) (a.tmps.getD t undef)/\(∀j,D j=true->yO ops j t->j<m)/\(m=0\/∃m',m=m'+1/\D m'=true/\yO ops m' t)
 heap: ∀nm,∃m,m<=ops.size/\Hh nm=(St m).hp.get nm/\(∀j,D j=true->nX St j nm->j<m)/\(m=0\/∃m',m=m'+1/\D m'=true/\nX St m' nm)/\
  ∀x,Hh nm=some x->∃b c o,ρ nm=some (b,c)/\w.heap[b]? =some o/\cD (qj ρ (St m).nx) c x o
 inj: ∀nm nm' x y b c c',Hh nm=some x->Hh nm'=some y->x.wr=true->ρ nm=some (b,c)->ρ nm'=some (b,c')->nm=nm'
 dom: ∀nm b,ρ nm=some b->nm<(St 0).nx\/∃j,D j=true/\(St j).nx<=nm/\nm<(St (j+1)).nx
 eU: ∀nm,nm<(St 0).nx->ρ nm=ρ0 nm
 size:w0.heap.size<=w.heap.size
 frame: ∀b,b<w0.heap.size->(∀j nm c,D j=true->nm∈(St (j+1)).lg->nm<(St 0).nx->ρ0 nm≠some (b,c))->w.heap[b]? =w0.heap[b]?
 new: ∀nm b c,(St 0).nx<=nm->ρ nm=some (b,c)->w0.heap.size<=b\/∃j bs c0,D j=true/\bs∈(St (j+1)).lg/\bs<(St 0).nx/\ρ0 bs=some (b,c0)
 aq: ∀j nm,D j=true->nm∈(St (j+1)).lg->nm<(St 0).nx->∃x,(St 0).hp.get nm=some x/\x.wr=true
 os:w.os=w0.os
 tape:w.tape=w0.tape
 al:w.output=w0.output
 fz:FQ ρ Hh w
 je: ∀b l,ρ0.fz b=some l->ρ.fz b=some l
 fzn: ∀b l,ρ.fz b=some l->ρ0.fz b=some l\/w0.heap.size<=b\/∃j bs c0,D j=true/\bs∈(St (j+1)).lg/\bs<(St 0).nx/\ρ0 bs=some (b,c0)
structure Next(ops:Array Oper)(D:Nat->Bool)(i:Nat)(o:Oper):Prop where
 at_:ops[i]? =some o
 not:D i=false
 ready: ∀e∈o.after,Region.binds .any e=true->D e.on=true
theorem DR.later {ds:List Deferred}{ρ0 ρ:aM}{w0 w:World}{D:Nat->Bool}{Hh:Hp}{a:Act}(I:Inv ds ops n St ρ0 w0 D ρ Hh a w){i:Nat}{o:Oper}(N:Next ops D i o){j:Nat}{oj:Oper}(hj:D j=true)(ho:ops[j]? =some oj)(aA:i<j):
  qN ops.toList o oj ⟨nd i,(St (i+1)).lg,(St i).nx,(St (i+1)).nx⟩ ⟨nd j,(St (j+1)).lg,(St j).nx,(St (j+1)).nx⟩:=by
 rcases H.pair i j o oj aA N.at_ ho with h|h
 ·have:=h (fun x=>D x=true) (fun x o' hx hox e he hb=>I.closed x o' hx hox e he hb) (fun e he hb=>I.closed j oj hj ho e he hb)
  rw[N.not]at this;cases this
 ·exact h
theorem DR.JZ {ds:List Deferred}{ρ0 ρ:aM}{w0 w:World}{D:Nat->Bool}{Hh:Hp}{a:Act}(I:Inv ds ops n St ρ0 w0 D ρ Hh a w){i:Nat}{o:Oper}(N:Next ops D i o){j:Nat}{oj:Oper}(hj:D j=false)(ho:ops[j]? =some oj)(aA:j<i):
  qN ops.toList oj o ⟨nd j,(St (j+1)).lg,(St j).nx,(St (j+1)).nx⟩ ⟨nd i,(St (i+1)).lg,(St i).nx,(St (i+1)).nx⟩:=by
 rcases H.pair j i oj o aA ho N.at_ with h|h
 ·have:=h (fun x=>D x=true) (fun x o' hx hox e he hb=>I.closed x o' hx hox e he hb) N.ready
  rw[hj]at this;cases this
 ·exact h
theorem DR.Y5 {ds:List Deferred}{ρ0 ρ:aM}{w0 w:World}{D:Nat->Bool}{Hh:Hp}{a:Act}(I:Inv ds ops n St ρ0 w0 D ρ Hh a w){i:Nat}{o:Oper}(N:Next ops D i o){t:Nat}(ht:t∈looks ops.toList o):
  bE (qj ρ (St i).nx) (slot n (St i).sl t) (a.tmps.getD t undef):=by
 have hi:i<ops.size:=bS N.at_;obtain⟨m,m1,m2,m3,m4⟩:=I.slots t;have hmi:m<=i:=by
  rcases m4 with rfl|⟨m',rfl,d1,oj,d2,d3⟩
  ·omega
  ·rcases Nat.lt_trichotomy m' i with h|h|h
   ·omega
   ·subst h;rw[N.not]at d1;cases d1
   ·exact absurd ht ((H.later I N d1 d2 h).a2 t d3)
 have hsame:=H.mN (t:=t) hmi (by omega) fun j h1 h2 ⟨oj,d2,d3⟩=>by
  cases hj:D j with
  |true=>have:=m3 j hj ⟨oj,d2,d3⟩;omega
  |false=>exact(H.JZ I N hj d2 h2).a1 t d3 ht
 have e:slot n (St i).sl t=slot n (St m).sl t:=by unfold slot;rw[hsame]
 rw[e];exact m2.mono (rN (Sub.refl _) (H.le hmi (by omega)))
theorem DR.BG {ds:List Deferred}{ρ0 ρ:aM}{w0 w:World}{D:Nat->Bool}{Hh:Hp}{a:Act}(I:Inv ds ops n St ρ0 w0 D ρ Hh a w){i:Nat}{o:Oper}(N:Next ops D i o){nm:Nat}(aA:nm<(St i).nx)
  (hneed:match nd i with|some l=>nm∈l|none=>True):
  Hh nm=(St i).hp.get nm/\∀x,Hh nm=some x->∃b c o,ρ nm=some (b,c)/\w.heap[b]? =some o/\cD (qj ρ (St i).nx) c x o:=by
 have hi:i<ops.size:=bS N.at_;obtain⟨m,m1,m2,m3,m4,m5⟩:=I.heap nm;have lat: ∀j,D j=true->i<j->¬nX St j nm:=by
  intro j hj hij ht;have hjs:=I.inside j hj;have p:=H.later I N hj (Array.getElem?_eq_getElem hjs) hij;have hle:=H.le (show i<=j by omega) (by omega)
  rcases ht with ht|⟨ht,_⟩
  ·have:=p.n2;cases hn:nd i with
   |none=>rw[hn]at this;have:=this nm ht;simp only at this;omega
   |some l=>rw[hn]at this hneed;exact this nm hneed ht
  ·omega
 have ear: ∀j,j<i->nX St j nm->D j=true:=by
  intro j hji ht;cases hj:D j with
  |true=>rfl
  |false=>
   exfalso;have hjs:j<ops.size:=by omega
   have p:=H.JZ I N hj (Array.getElem?_eq_getElem hjs) hji;have:=p.n1;cases hn:nd i with
   |none=>
    rw[hn]at this;simp only at this;rcases ht with ht|ht
    ·rw[this.1]at ht;cases ht
    ·omega
   |some l=>
    rw[hn]at this hneed;have:=this nm hneed;rcases ht with ht|ht
    ·exact this.1 ht
    ·exact this.2 ht
 have hmi:m<=i:=by
  rcases m4 with rfl|⟨m',rfl,d1,d2⟩
  ·omega
  ·rcases Nat.lt_trichotomy m' i with h|h|h
   ·omega
   ·subst h;rw[N.not]at d1;cases d1
   ·exact absurd d2 (lat m' d1 h)
 have hnow: ∀j,m<=j->j<i->¬nX St j nm:=fun j h1 h2 ht=>by
  have:=m3 j (ear j h2 ht) ht;omega
 have hm0:(St i).hp.get nm=(St m).hp.get nm:=by
  by_cases hnm:nm<(St m).nx
  ·exact H.wu hmi (by omega) hnm hnow
  ·
   exfalso;have key: ∀k,m+k<=i->nm<(St (m+k)).nx->∃j,m<=j/\j<i/\nX St j nm:=by
    intro k
    induction k with
    |zero=>intro _ h;exact absurd h hnm
    |succ k ih=>
     intro h1 h2;by_cases h3:nm<(St (m+k)).nx
     ·exact ih (by omega) h3
     ·exact⟨m+k,by omega,by omega,.inr ⟨by omega,h2⟩⟩
   obtain⟨j,j1,j2,j3⟩:=key (i - m) (by omega) (by rw[show m+(i - m)=i by omega];exact aA)
   exact hnow j j1 j2 j3
 refine⟨by rw[m2,hm0],fun x hx=> ?_⟩
 obtain⟨b,c,o,g1,g2,g3⟩:=m5 x hx;exact⟨b,c,o,g1,g2,g3.mono (rN (Sub.refl _) (H.le hmi (by omega)))⟩
end
end Go.Sx
