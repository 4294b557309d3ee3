import Derived.Test.YtfceckiklfkjkaaGreatS33
noncomputable section
open Go.Proofs Go.RowKit
set_option maxRecDepth 100000
open Go.IntKind(i64 u8 u64 u32 u16)
open Go.Proofs.Tryz
namespace Go.Sx
section
variable(a b c:Int)(n:Nat)(sc:Int)(L:aj)(al:Int)(lm:ak)(au ar kd:Int)(aq:ak)(first s:Int)(bl:aj)
def Yk(Q:ag):ai:=bif decide (first>=ar)then some (aw []/\Q .ret (eS a b c n sc L al lm au ar kd aq false .bf [] 7))else bif !dE a b c n L aq s 5 then some (aw [s=s,(5:Int)=5,lm=lm,aq=aq,L=L,64*n=64*n,a=a,b=b,c=c,n=n,sc=sc,al=al,au=au,L.length=64*n,Fi.bh s]/\Q .ret (eS a b c n sc L al lm au ar kd (cw a b c n L au aq s 5) false .bf [] 7))else some (aw [s=s,[first]= [first],(1:Nat)=1,lm=lm,(cw a b c n L au aq s 5)=(cw a b c n L au aq s 5),L=L,64*n=64*n,a=a,b=b,c=c,n=n,sc=sc,al=al,au=au,ar=ar,kd=kd,L.length=64*n,Fi.bh s,0<=first/\first<=1000,(bZ a b c n sc (L,lm,al) au ar kd first s (cw a b c n L au aq s 5) []).2.2= [],s=s,(5:Int)=5,lm=lm,aq=aq,L=L,64*n=64*n,a=a,b=b,c=c,n=n,sc=sc,al=al,au=au,L.length=64*n,Fi.bh s]/\Q .ret (eS a b c n sc (bZ a b c n sc (L,lm,al) au ar kd first s (cw a b c n L au aq s 5) []).1.1 (bZ a b c n sc (L,lm,al) au ar kd first s (cw a b c n L au aq s 5) []).1.2.2 (bZ a b c n sc (L,lm,al) au ar kd first s (cw a b c n L au aq s 5) []).1.2.1 au ar kd (bZ a b c n sc (L,lm,al) au ar kd first s (cw a b c n L au aq s 5) []).2.1 true .bf [] 7))
theorem MJ(Q:ag):aeB a b c n sc L al lm au ar kd aq first s Q=Yk a b c n sc L al lm au ar kd aq first s Q:=by kernel_rfl
def Y8(Q:ag):ai:=bif decide (first>=ar)then some (aw []/\Q .ret (eS a b c n sc L al lm au ar kd aq false .bf [] 7))else bif !dE a b c n L aq s 5 then some (aw [s=s,(5:Int)=5,lm=lm,aq=aq,L=L,64*n=64*n,a=a,b=b,c=c,n=n,sc=sc,al=al,au=au,L.length=64*n,Fi.bh s]/\Q .ret (eS a b c n sc L al lm au ar kd (cw a b c n L au aq s 5) false .bf [] 7))else some (aw [s=s,[first]= [first],(1:Nat)=1,lm=lm,(cw a b c n L au aq s 5)=(cw a b c n L au aq s 5),L=L,64*n=64*n,a=a,b=b,c=c,n=n,sc=sc,al=al,au=au,ar=ar,kd=kd,L.length=64*n,Fi.bh s,0<=first/\first<=1000,(bZ a b c n sc (L,lm,al) au ar kd first s (cw a b c n L au aq s 5) []).2.2≠ [],s=s,(5:Int)=5,lm=lm,aq=aq,L=L,64*n=64*n,a=a,b=b,c=c,n=n,sc=sc,al=al,au=au,L.length=64*n,Fi.bh s]/\Q .ret (eS a b c n sc (bZ a b c n sc (L,lm,al) au ar kd first s (cw a b c n L au aq s 5) []).1.1 (bZ a b c n sc (L,lm,al) au ar kd first s (cw a b c n L au aq s 5) []).1.2.2 (bZ a b c n sc (L,lm,al) au ar kd first s (cw a b c n L au aq s 5) []).1.2.1 au ar kd (bZ a b c n sc (L,lm,al) au ar kd first s (cw a b c n L au aq s 5) []).2.1 true (.aC 7 1 0 (bZ a b c n sc (L,lm,al) au ar kd first s (cw a b c n L au aq s 5) []).2.2.length) [(7,cj (bZ a b c n sc (L,lm,al) au ar kd first s (cw a b c n L au aq s 5) []).2.2)] 8))
theorem Ls(Q:ag):aed a b c n sc L al lm au ar kd aq first s Q=Y8 a b c n sc L al lm au ar kd aq first s Q:=by kernel_rfl
def ZK(Q:ag):ai:=bif decide (first>=ar)then some (aw []/\Q .ret (eS a b c n sc L al lm au ar kd aq false (.aC 7 1 0 bl.length) [(7,cj bl)] 8))else bif !dE a b c n L aq s 5 then some (aw [s=s,(5:Int)=5,lm=lm,aq=aq,L=L,64*n=64*n,a=a,b=b,c=c,n=n,sc=sc,al=al,au=au,L.length=64*n,Fi.bh s]/\Q .ret (eS a b c n sc L al lm au ar kd (cw a b c n L au aq s 5) false (.aC 7 1 0 bl.length) [(7,cj bl)] 8))else some (aw [s=s,bl=bl,bl.length=bl.length,[first]= [first],(1:Nat)=1,lm=lm,(cw a b c n L au aq s 5)=(cw a b c n L au aq s 5),L=L,64*n=64*n,a=a,b=b,c=c,n=n,sc=sc,al=al,au=au,ar=ar,kd=kd,bl.length=bl.length,L.length=64*n,Fi.bh s,0<=first/\first<=1000,bl≠ [],bl.length<=1900,s=s,(5:Int)=5,lm=lm,aq=aq,L=L,64*n=64*n,a=a,b=b,c=c,n=n,sc=sc,al=al,au=au,L.length=64*n,Fi.bh s]/\Q .ret (eS a b c n sc (bZ a b c n sc (L,lm,al) au ar kd first s (cw a b c n L au aq s 5) bl).1.1 (bZ a b c n sc (L,lm,al) au ar kd first s (cw a b c n L au aq s 5) bl).1.2.2 (bZ a b c n sc (L,lm,al) au ar kd first s (cw a b c n L au aq s 5) bl).1.2.1 au ar kd (bZ a b c n sc (L,lm,al) au ar kd first s (cw a b c n L au aq s 5) bl).2.1 true (.aC 7 1 0 (bZ a b c n sc (L,lm,al) au ar kd first s (cw a b c n L au aq s 5) bl).2.2.length) [(7,cj (bZ a b c n sc (L,lm,al) au ar kd first s (cw a b c n L au aq s 5) bl).2.2)] 8))
theorem PE(Q:ag):agU a b c n sc L al lm au ar kd aq first s bl Q=ZK a b c n sc L al lm au ar kd aq first s bl Q:=by kernel_rfl
theorem abR:(C6 a b c n sc L al lm au ar kd aq first s (.aC 6 1 0 bl.length) [(6,cj bl)] 7).hp.get 6=some (cj bl)/\(C6 a b c n sc L al lm au ar kd aq first s (.aC 6 1 0 bl.length) [(6,cj bl)] 7).hp.get 0=some (.row 229 false none (.cells [.ptr 1 0,.ptr 3 0,.int .i64 au,.int .i64 ar,.int .i64 kd,.aC 6 1 0 bl.length])):=⟨by kernel_rfl,by kernel_rfl⟩
theorem abE(t:Bool)(bc:Cell)(xs:List (Nat×ax))(nx:Nat):ba prog 25 (eS a b c n sc L al lm au ar kd aq t bc xs nx) f225.results.toList=some [.c (.bool t)]/\(eS a b c n sc L al lm au ar kd aq t bc xs nx).hp=cY a b c n sc L al lm au ar kd aq bc xs/\(eS a b c n sc L al lm au ar kd aq t bc xs nx).nx=nx:=⟨by kernel_rfl,by kernel_rfl,by kernel_rfl⟩
def kg(m:Nat):T ax:=match bl with| []=>cY a b c n sc L al lm au ar kd aq .bf []|z::l=>cY a b c n sc L al lm au ar kd aq (.aC m 1 0 (z::l).length) [(m,cj (z::l))]
end
def bm(a b c:Int)(n:Nat)(sc:Int)(st:St)(au ar kd first s:Int)(aq:ak)(bl:aj):Bool×St×List (Int×Int)×List Int:=
 if first>=ar then(false,st,aq,bl)else if dE a b c n st.1 aq s 5=true then(true,bZ a b c n sc st au ar kd first s (bC aq s au) bl)else(false,st,aq,bl)
section
variable{a b c:Int}{n:Nat}{sc:Int}{L:aj}{al:Int}{lm:ak}{au ar kd:Int}{aq:ak}{first s:Int}{bl:aj}
theorem fZ{m:Nat}(h:bl≠ []):kg a b c n sc L al lm au ar kd aq bl m=cY a b c n sc L al lm au ar kd aq (.aC m 1 0 bl.length) [(m,cj bl)]:=by
 cases bl with
 |nil=>exact absurd rfl h
 |cons z l=>rfl
theorem fM{bc:Cell}{xs:List (Nat×ax)}{k:Nat}(hk:6<=k)(hx: ∀p∈xs,p.1<k): ∀p∈([(0,Af au ar kd bc),(1,WR a b c n sc al),(2,.row 95 false (some 64) (.ints .u8 L (64*n))),(3,clF),(4,.aQ (some .i64) aq),(5,.aQ none lm)]++xs:List (Nat×ax)),p.1<k:=by
 intro p hp;rcases List.mem_append.1 hp with hp|hp
 ·simp only[List.mem_cons,List.not_mem_nil,or_false]at hp;rcases hp with rfl|rfl|rfl|rfl|rfl|rfl<;>simp only<;>omega
 ·exact hx p hp
abbrev tV(v:Bool)(hs':T ax)(k':Nat):X->S->Prop:=fun x s1=>(x= .normal\/x= .ret)/\∃l,ba prog 25 s1 f225.results.toList=some l/\(c6 l= .one (.c (.bool v))/\s1.hp=hs'/\s1.nx=k')
theorem vc{t:Bool}{bc:Cell}{xs:List (Nat×ax)}{nx:Nat}:tV t (cY a b c n sc L al lm au ar kd aq bc xs) nx .ret (eS a b c n sc L al lm au ar kd aq t bc xs nx):=by
 obtain⟨e1,e2,e3⟩:=abE a b c n sc L al lm au ar kd aq t bc xs nx;exact⟨.inr rfl,_,e1,rfl,e2,e3⟩
theorem yr(hl:L.length=64*n)(hs:Fi.bh s)(hf:0<=first/\first<=1000)(hb:bl.length<=1900){ok:Bool}{st':St}{own':ak}{bl':aj}(hX:bm a b c n sc (L,lm,al) au ar kd first s aq bl=(ok,st',own',bl')):
  cd prog 225 (jY first s) 7 (kg a b c n sc L al lm au ar kd aq bl 6) (nS 7 bl') (kg a b c n sc st'.1 st'.2.2 st'.2.1 au ar kd own' bl' 7) (.one (.c (.bool ok))):=by
 have tk0:dE a b c n L aq s 5=false->cw a b c n L au aq s 5=aq:=fun h=>by unfold cw;rw[h];rfl
 have tk1:dE a b c n L aq s 5=true->cw a b c n L au aq s 5=bC aq s au:=fun h=>by unfold cw;rw[h];rfl
 unfold bm at hX;cases bl with
 |nil=>
  refine TO.c8 (fn:=f225) (c:=uD) func225 zD [] (iZ (fM (by omega) (fun p hp=>absurd hp List.not_mem_nil))) (EI first s) ?_
  show TO prog 25 [] [] (C6 a b c n sc L al lm au ar kd aq first s .bf [] 7) uD (C6 a b c n sc L al lm au ar kd aq first s .bf [] 7) (tV ok (kg a b c n sc st'.1 st'.2.2 st'.2.1 au ar kd own' bl' 7) (nS 7 bl'))
  have no:ok=false->st'=(L,lm,al)->own'=aq->bl'= []->tV ok (kg a b c n sc st'.1 st'.2.2 st'.2.1 au ar kd own' bl' 7) (nS 7 bl') .ret (eS a b c n sc L al lm au ar kd aq false .bf [] 7):=fun e1 e2 e3 e4=>by subst e1 e2 e3 e4;exact vc
  by_cases h0:(bZ a b c n sc (L,lm,al) au ar kd first s (cw a b c n L au aq s 5) []).2.2= []
  ·refine TO.aP (NW false) (k0:=7) rfl (.of_eq (MJ a b c n sc L al lm au ar kd aq first s _) ?_)
   refine .fork (fun h1=>⟨trivial,?_⟩) (fun h1=> .fork (fun h2=>⟨⟨rfl,rfl,rfl,rfl,rfl,rfl,rfl,rfl,rfl,rfl,rfl,rfl,rfl,hl,hs,trivial⟩,?_⟩) (fun h2=>⟨⟨rfl,rfl,rfl,rfl,rfl,rfl,rfl,rfl,rfl,rfl,rfl,rfl,rfl,rfl,rfl,rfl,hl,hs,hf,h0,rfl,rfl,rfl,rfl,rfl,rfl,rfl,rfl,rfl,rfl,rfl,rfl,rfl,hl,hs,trivial⟩,?_⟩))
   ·rw[if_pos (by simpa using h1)]at hX;cases hX;exact no rfl rfl rfl rfl
   ·have h2':dE a b c n L aq s 5=false:=by simpa using h2
    rw[if_neg (by simpa using h1),if_neg (by rw[h2'];simp)]at hX;cases hX
    rw[tk0 h2'];exact no rfl rfl rfl rfl
   ·have h2':dE a b c n L aq s 5=true:=by simpa using h2
    rw[if_neg (by simpa using h1),if_pos h2']at hX
    rw[tk1 h2']at h0 ⊢;have hX1:true=ok:=congrArg Prod.fst hX;have hX2:bZ a b c n sc (L,lm,al) au ar kd first s (bC aq s au) []=(st',own',bl'):=congrArg Prod.snd hX
    rw[hX2]at h0 ⊢;simp only at h0 ⊢;subst hX1 h0;exact vc
  ·refine TO.aP (NW true) (k0:=7) rfl (.of_eq (Ls a b c n sc L al lm au ar kd aq first s _) ?_)
   refine .fork (fun h1=>⟨trivial,?_⟩) (fun h1=> .fork (fun h2=>⟨⟨rfl,rfl,rfl,rfl,rfl,rfl,rfl,rfl,rfl,rfl,rfl,rfl,rfl,hl,hs,trivial⟩,?_⟩) (fun h2=>⟨⟨rfl,rfl,rfl,rfl,rfl,rfl,rfl,rfl,rfl,rfl,rfl,rfl,rfl,rfl,rfl,rfl,hl,hs,hf,h0,rfl,rfl,rfl,rfl,rfl,rfl,rfl,rfl,rfl,rfl,rfl,rfl,rfl,hl,hs,trivial⟩,?_⟩))
   ·rw[if_pos (by simpa using h1)]at hX;cases hX;exact no rfl rfl rfl rfl
   ·have h2':dE a b c n L aq s 5=false:=by simpa using h2
    rw[if_neg (by simpa using h1),if_neg (by rw[h2'];simp)]at hX;cases hX
    rw[tk0 h2'];exact no rfl rfl rfl rfl
   ·have h2':dE a b c n L aq s 5=true:=by simpa using h2
    rw[if_neg (by simpa using h1),if_pos h2']at hX
    rw[tk1 h2']at h0 ⊢;have hX1:true=ok:=congrArg Prod.fst hX;have hX2:bZ a b c n sc (L,lm,al) au ar kd first s (bC aq s au) []=(st',own',bl'):=congrArg Prod.snd hX
    rw[hX2]at h0 ⊢;simp only at h0 ⊢;subst hX1;rw[fZ h0,iG h0];exact vc
 |cons z l=>
  have bT:z::l≠ []:=by simp
  rw[fZ bT];refine TO.c8 (fn:=f225) (c:=uD) func225 zD [] (iZ (fM (by omega) (fun p hp=>by rw[List.mem_singleton.1 hp];show(6:Nat)<7;omega))) (EI first s) ?_
  have g:=abR a b c n sc L al lm au ar kd aq first s (z::l)
  refine TO.nT (dJ.mv 6 0 (by omega) g.1 rfl g.2 (j:=5) rfl) ?_
  show TO prog 25 [] [] (C6 a b c n sc L al lm au ar kd aq first s (.aC 6 1 0 (z::l).length) [(6,cj (z::l))] 7) uD (W6 a b c n sc L al lm au ar kd aq first s (z::l)) (tV ok (kg a b c n sc st'.1 st'.2.2 st'.2.1 au ar kd own' bl' 7) (nS 7 bl'))
  have no:ok=false->st'=(L,lm,al)->own'=aq->bl'=z::l->tV ok (kg a b c n sc st'.1 st'.2.2 st'.2.1 au ar kd own' bl' 7) (nS 7 bl') .ret (eS a b c n sc L al lm au ar kd aq false (.aC 7 1 0 (z::l).length) [(7,cj (z::l))] 8):=fun e1 e2 e3 e4=>by subst e1 e2 e3 e4;exact vc
  refine TO.aP (NW true) (k0:=7) rfl (.of_eq (PE a b c n sc L al lm au ar kd aq first s (z::l) _) ?_)
  refine .fork (fun h1=>⟨trivial,?_⟩) (fun h1=> .fork (fun h2=>⟨⟨rfl,rfl,rfl,rfl,rfl,rfl,rfl,rfl,rfl,rfl,rfl,rfl,rfl,hl,hs,trivial⟩,?_⟩) (fun h2=>⟨⟨rfl,rfl,rfl,rfl,rfl,rfl,rfl,rfl,rfl,rfl,rfl,rfl,rfl,rfl,rfl,rfl,rfl,rfl,rfl,hl,hs,hf,bT,hb,rfl,rfl,rfl,rfl,rfl,rfl,rfl,rfl,rfl,rfl,rfl,rfl,rfl,hl,hs,trivial⟩,?_⟩))
  ·rw[if_pos (by simpa using h1)]at hX;cases hX;exact no rfl rfl rfl rfl
  ·have h2':dE a b c n L aq s 5=false:=by simpa using h2
   rw[if_neg (by simpa using h1),if_neg (by rw[h2'];simp)]at hX;cases hX
   rw[tk0 h2'];exact no rfl rfl rfl rfl
  ·have h2':dE a b c n L aq s 5=true:=by simpa using h2
   rw[if_neg (by simpa using h1),if_pos h2']at hX
   rw[tk1 h2'];have hX1:true=ok:=congrArg Prod.fst hX;have hX2:bZ a b c n sc (L,lm,al) au ar kd first s (bC aq s au) (z::l)=(st',own',bl'):=congrArg Prod.snd hX
   have h0:=wD (a:=a) (b:=b) (c:=c) (n:=n) (sc:=sc) (st:=(L,lm,al)) (au:=au) (ar:=ar) (kd:=kd) (first:=first) (s:=s) (aq:=bC aq s au) bT
   rw[hX2]at h0 ⊢;simp only at h0 ⊢;subst hX1;rw[fZ h0,iG h0];exact vc
end
def ND(v:Bool):List RV->T ax->Nat->Option GS:=fun args hp _=>match args with
 | [.one (.c (.ptr nc 0)),.one (.c (.int .i64 first)),.one (.c (.int .u16 s))]=>match BR hp nc,bn hp.get nc with
  |some ((a,b,c,L,_,n,sc,al,lm),(ni,nl,nw,nf,no),au,aq),some (_,_,_,.cells [_,_,_,.int .i64 ar,.int .i64 kd,bc])=>match bc with
   | .bf=>match v with
    |false=>some ⟨7,[nc,ni,nl,nf,no,nw,1000000000],jY first s,(cY a b c n sc L al lm au ar kd aq .bf []),7,(cY a b c n sc (bm a b c n sc (L,lm,al) au ar kd first s aq []).2.1.1 (bm a b c n sc (L,lm,al) au ar kd first s aq []).2.1.2.2 (bm a b c n sc (L,lm,al) au ar kd first s aq []).2.1.2.1 au ar kd (bm a b c n sc (L,lm,al) au ar kd first s aq []).2.2.1 .bf []),.one (.c (.bool (bm a b c n sc (L,lm,al) au ar kd first s aq []).1)),[L.length=64*n,Fi.bh s,0<=first/\first<=1000,(bm a b c n sc (L,lm,al) au ar kd first s aq []).2.2.2= []]⟩
    |true=>some ⟨7,[nc,ni,nl,nf,no,nw,1000000000],jY first s,(cY a b c n sc L al lm au ar kd aq .bf []),8,(cY a b c n sc (bm a b c n sc (L,lm,al) au ar kd first s aq []).2.1.1 (bm a b c n sc (L,lm,al) au ar kd first s aq []).2.1.2.2 (bm a b c n sc (L,lm,al) au ar kd first s aq []).2.1.2.1 au ar kd (bm a b c n sc (L,lm,al) au ar kd first s aq []).2.2.1 (.aC 7 1 0 (bm a b c n sc (L,lm,al) au ar kd first s aq []).2.2.2.length) [(7,cj (bm a b c n sc (L,lm,al) au ar kd first s aq []).2.2.2)]),.one (.c (.bool (bm a b c n sc (L,lm,al) au ar kd first s aq []).1)),[L.length=64*n,Fi.bh s,0<=first/\first<=1000,(bm a b c n sc (L,lm,al) au ar kd first s aq []).2.2.2≠ []]⟩
   | .aC nb 1 0 _=>match bn hp.get nb with
    |some (_,_,_,.ints .i64 bl _)=>some ⟨7,[nc,ni,nl,nf,no,nw,nb],jY first s,(cY a b c n sc L al lm au ar kd aq (.aC 6 1 0 bl.length) [(6,cj bl)]),8,(cY a b c n sc (bm a b c n sc (L,lm,al) au ar kd first s aq bl).2.1.1 (bm a b c n sc (L,lm,al) au ar kd first s aq bl).2.1.2.2 (bm a b c n sc (L,lm,al) au ar kd first s aq bl).2.1.2.1 au ar kd (bm a b c n sc (L,lm,al) au ar kd first s aq bl).2.2.1 (.aC 7 1 0 (bm a b c n sc (L,lm,al) au ar kd first s aq bl).2.2.2.length) [(7,cj (bm a b c n sc (L,lm,al) au ar kd first s aq bl).2.2.2)]),.one (.c (.bool (bm a b c n sc (L,lm,al) au ar kd first s aq bl).1)),[L.length=64*n,Fi.bh s,0<=first/\first<=1000,bl≠ [],bl.length<=1900]⟩
    |_=>none
   |_=>none
  |_,_=>none
 |_=>none
section
variable{a b c:Int}{n:Nat}{sc:Int}{L:aj}{al:Int}{lm:ak}{au ar kd:Int}{aq:ak}{first s:Int}{bl:aj}
theorem ui{st:St}(h:bl≠ []):(bm a b c n sc st au ar kd first s aq bl).2.2.2≠ []:=by
 unfold bm;split
 ·exact h
 ·split
  ·exact wD h
  ·exact h
theorem PA(h1:L.length=64*n)(h2:Fi.bh s)(h3:0<=first/\first<=1000)(h5:(bm a b c n sc (L,lm,al) au ar kd first s aq []).2.2.2= []):cd prog 225 (jY first s) 7 (cY a b c n sc L al lm au ar kd aq .bf []) 7 (cY a b c n sc (bm a b c n sc (L,lm,al) au ar kd first s aq []).2.1.1 (bm a b c n sc (L,lm,al) au ar kd first s aq []).2.1.2.2 (bm a b c n sc (L,lm,al) au ar kd first s aq []).2.1.2.1 au ar kd (bm a b c n sc (L,lm,al) au ar kd first s aq []).2.2.1 .bf []) (.one (.c (.bool (bm a b c n sc (L,lm,al) au ar kd first s aq []).1))):=by
 have:=yr (sc:=sc) (al:=al) (lm:=lm) (au:=au) (ar:=ar) (kd:=kd) (aq:=aq) (a:=a) (b:=b) (c:=c) (bl:= []) h1 h2 h3 (by simp) (ok:=(bm a b c n sc (L,lm,al) au ar kd first s aq []).1) (st':=(bm a b c n sc (L,lm,al) au ar kd first s aq []).2.1) (own':=(bm a b c n sc (L,lm,al) au ar kd first s aq []).2.2.1) (bl':=(bm a b c n sc (L,lm,al) au ar kd first s aq []).2.2.2) rfl
 rw[h5]at this;exact this
theorem ON(h1:L.length=64*n)(h2:Fi.bh s)(h3:0<=first/\first<=1000)(h5:(bm a b c n sc (L,lm,al) au ar kd first s aq []).2.2.2≠ []):cd prog 225 (jY first s) 7 (cY a b c n sc L al lm au ar kd aq .bf []) 8 (cY a b c n sc (bm a b c n sc (L,lm,al) au ar kd first s aq []).2.1.1 (bm a b c n sc (L,lm,al) au ar kd first s aq []).2.1.2.2 (bm a b c n sc (L,lm,al) au ar kd first s aq []).2.1.2.1 au ar kd (bm a b c n sc (L,lm,al) au ar kd first s aq []).2.2.1 (.aC 7 1 0 (bm a b c n sc (L,lm,al) au ar kd first s aq []).2.2.2.length) [(7,cj (bm a b c n sc (L,lm,al) au ar kd first s aq []).2.2.2)]) (.one (.c (.bool (bm a b c n sc (L,lm,al) au ar kd first s aq []).1))):=by
 have:=yr (sc:=sc) (al:=al) (lm:=lm) (au:=au) (ar:=ar) (kd:=kd) (aq:=aq) (a:=a) (b:=b) (c:=c) (bl:= []) h1 h2 h3 (by simp) (ok:=(bm a b c n sc (L,lm,al) au ar kd first s aq []).1) (st':=(bm a b c n sc (L,lm,al) au ar kd first s aq []).2.1) (own':=(bm a b c n sc (L,lm,al) au ar kd first s aq []).2.2.1) (bl':=(bm a b c n sc (L,lm,al) au ar kd first s aq []).2.2.2) rfl
 rw[fZ (m:=7) h5,iG h5]at this;exact this
theorem P3(h1:L.length=64*n)(h2:Fi.bh s)(h3:0<=first/\first<=1000)(h5:bl≠ [])(h6:bl.length<=1900):cd prog 225 (jY first s) 7 (cY a b c n sc L al lm au ar kd aq (.aC 6 1 0 bl.length) [(6,cj bl)]) 8 (cY a b c n sc (bm a b c n sc (L,lm,al) au ar kd first s aq bl).2.1.1 (bm a b c n sc (L,lm,al) au ar kd first s aq bl).2.1.2.2 (bm a b c n sc (L,lm,al) au ar kd first s aq bl).2.1.2.1 au ar kd (bm a b c n sc (L,lm,al) au ar kd first s aq bl).2.2.1 (.aC 7 1 0 (bm a b c n sc (L,lm,al) au ar kd first s aq bl).2.2.2.length) [(7,cj (bm a b c n sc (L,lm,al) au ar kd first s aq bl).2.2.2)]) (.one (.c (.bool (bm a b c n sc (L,lm,al) au ar kd first s aq bl).1))):=by
 have:=yr (sc:=sc) (al:=al) (lm:=lm) (au:=au) (ar:=ar) (kd:=kd) (aq:=aq) (a:=a) (b:=b) (c:=c) h1 h2 h3 h6 (ok:=(bm a b c n sc (L,lm,al) au ar kd first s aq bl).1) (st':=(bm a b c n sc (L,lm,al) au ar kd first s aq bl).2.1) (own':=(bm a b c n sc (L,lm,al) au ar kd first s aq bl).2.2.1) (bl':=(bm a b c n sc (L,lm,al) au ar kd first s aq bl).2.2.2) rfl
 rw[fZ (m:=6) h5,fZ (m:=7) (ui h5),iG (ui h5)]at this;exact this
end
theorem RJ(v:Bool):aI prog 225 (cC (ND v)):=dT ⟨_,func225,rfl⟩ fun args hp nx g h bB=>by
 unfold ND at h;split at h<;>try(cases h;done)
 split at h<;>try(cases h;done)
 split at h<;>try(cases h;done)
 ·cases v with
  |false=>
   cases h;obtain⟨h1,h2,h3,h5,_⟩:=bB;exact⟨PA h1 h2 h3 h5,fun i x hx=>fv (k:=7) (fM (by omega) (fun p hp=>absurd hp List.not_mem_nil)) hx⟩
  |true=>
   cases h;obtain⟨h1,h2,h3,h5,_⟩:=bB;exact⟨ON h1 h2 h3 h5,fun i x hx=>fv (k:=7) (fM (by omega) (fun p hp=>absurd hp List.not_mem_nil)) hx⟩
 ·split at h<;>try(cases h;done)
  cases h;obtain⟨h1,h2,h3,h5,h6,_⟩:=bB;refine⟨P3 h1 h2 h3 h5 h6,fun i x hx=> ?_⟩
  have hx':=qW hx;rcases List.mem_append.1 hx' with h|h
  ·exact fM (k:=7) (xs:= []) (by omega) (fun p hp=>absurd hp List.not_mem_nil) _ (List.mem_append_left _ h)
  ·rw[(af .. ▸List.mem_singleton.1 h:i=6/\_).1];exact Nat.lt_succ_self 6
def pq(v:Bool):FuncId->Option bg:=fun f=>match f with| 47=>some mB| 244=>some (cC MR)| 225=>some (cC (ND v))| 281=>some (aL Lq)| 78=>some p8|_=>none
theorem lL(v:Bool):Fit prog (fun f=>(pq v f).map bj):=⟨bM,aV,aI.sum fun f sm h=>by
 unfold pq at h;split at h
 ·cases h;exact jx
 ·cases h;exact QP
 ·cases h;exact RJ v
 ·cases h;exact JG.sum ⟨_,func281,rfl⟩
 ·cases h;exact mi
 ·cases h⟩
def iC(s:Int):List RV:= [.one (.c (.ptr 0 0)),.one (.c (.int .u16 s)),.one (.c (.fn 259 [(0,0)] []))]
def QT(s:Int):T RV:=match setArgs 54 (iC s) 0 .nil some with|some t=>t|none=> .nil
theorem Cf(s:Int):setArgs 54 (iC s) 0 .nil some=some (QT s):=by kernel_rfl
section
variable(a b c:Int)(n:Nat)(sc:Int)(L:aj)(al:Int)(lm:ak)(au ar kd:Int)(aq:ak)(s:Int)(bl p q bq:aj)(i:Int)
def aan(s i:Int):List (Nat×RV):= [(0,.one (.c (.ptr 0 0))),(1,.one (.c (.int .u16 s))),(2,.one (.c (.fn 259 [(0,0)] []))),(8,.one (.c (.ptr 7 0))),(23,.one (.c (.aC 8 1 0 27))),(24,.one (.c (.int .i64 27))),(25,.one (.c (.int .i64 i)))]
def uU:S:=aE [0,1,2,8,23,24,25] 54 ⟨aN (aan s i),cY a b c n sc L al lm au ar kd aq .bf [(7,qB q),(8,tB bq)],9,[]⟩
def uX:S:=aE [0,1,2,8,23,24,25] 54 ⟨aN (aan s i),cY a b c n sc L al lm au ar kd aq (.aC 9 1 0 bl.length) [(7,qB q),(8,tB bq),(9,cj bl)],10,[]⟩
def abX(Q:ag):ai:=az prog (pq false) 300 54 jN (uU a b c n sc L al lm au ar kd aq s q bq i) aO (bN 7 [0,1,2,8,23,24,25] 54 iv Q)
def aa6(Q:ag):ai:=az prog (pq true) 300 54 jN (uU a b c n sc L al lm au ar kd aq s q bq i) aO (bN 7 [0,1,2,8,23,24,25] 54 iv Q)
def adH(Q:ag):ai:=az prog (pq true) 300 54 jN (uX a b c n sc L al lm au ar kd aq s bl q bq i) aO (bN 7 [0,1,2,8,23,24,25] 54 iv Q)
end
section
variable(a b c:Int)(n:Nat)(sc:Int)(L:aj)(al:Int)(lm:ak)(au ar kd:Int)(aq:ak)(s:Int)(bl p q bq:aj)(i:Int)
def FK(Q:ag):ai:=bif decide (i<27)then bif decide (0<=i/\i<27)then bif decide (0+i.toNat*1<27)then bif bq.getD (0+i.toNat*1) 0 !=0 then bif !(bm a b c n sc (L,lm,al) au ar kd (i64.wrap (31+i64.wrap (27*i))) (bq.getD (0+i.toNat*1) 0) aq []).1 then some (aw [0<=i/\i<27,(0:Int)=0,(i64.wrap (31+i64.wrap (27*i)):Int)=i64.wrap (31+i64.wrap (27*i)),(bq.getD (0+i.toNat*1) 0:Int)=bq.getD (0+i.toNat*1) 0,lm=lm,aq=aq,L=L,64*n=64*n,a=a,b=b,c=c,n=n,sc=sc,al=al,au=au,ar=ar,kd=kd,L.length=64*n,Fi.bh (bq.getD (0+i.toNat*1) 0),0<=i64.wrap (31+i64.wrap (27*i))/\i64.wrap (31+i64.wrap (27*i))<=1000,(bm a b c n sc (L,lm,al) au ar kd (i64.wrap (31+i64.wrap (27*i))) (bq.getD (0+i.toNat*1) 0) aq []).2.2.2= []]/\Q .normal (uU a b c n sc (bm a b c n sc (L,lm,al) au ar kd (i64.wrap (31+i64.wrap (27*i))) (bq.getD (0+i.toNat*1) 0) aq []).2.1.1 (bm a b c n sc (L,lm,al) au ar kd (i64.wrap (31+i64.wrap (27*i))) (bq.getD (0+i.toNat*1) 0) aq []).2.1.2.2 (bm a b c n sc (L,lm,al) au ar kd (i64.wrap (31+i64.wrap (27*i))) (bq.getD (0+i.toNat*1) 0) aq []).2.1.2.1 au ar kd (bm a b c n sc (L,lm,al) au ar kd (i64.wrap (31+i64.wrap (27*i))) (bq.getD (0+i.toNat*1) 0) aq []).2.2.1 s (aB q 0 (gy (t54 q) i)) bq (i64.wrap (i+1))))else some (aw [(i64.wrap (31+i64.wrap (27*i)):Int)=i64.wrap (31+i64.wrap (27*i)),(bq.getD (0+i.toNat*1) 0:Int)=bq.getD (0+i.toNat*1) 0,lm=lm,aq=aq,L=L,64*n=64*n,a=a,b=b,c=c,n=n,sc=sc,al=al,au=au,ar=ar,kd=kd,L.length=64*n,Fi.bh (bq.getD (0+i.toNat*1) 0),0<=i64.wrap (31+i64.wrap (27*i))/\i64.wrap (31+i64.wrap (27*i))<=1000,(bm a b c n sc (L,lm,al) au ar kd (i64.wrap (31+i64.wrap (27*i))) (bq.getD (0+i.toNat*1) 0) aq []).2.2.2= []]/\Q .normal (uU a b c n sc (bm a b c n sc (L,lm,al) au ar kd (i64.wrap (31+i64.wrap (27*i))) (bq.getD (0+i.toNat*1) 0) aq []).2.1.1 (bm a b c n sc (L,lm,al) au ar kd (i64.wrap (31+i64.wrap (27*i))) (bq.getD (0+i.toNat*1) 0) aq []).2.1.2.2 (bm a b c n sc (L,lm,al) au ar kd (i64.wrap (31+i64.wrap (27*i))) (bq.getD (0+i.toNat*1) 0) aq []).2.1.2.1 au ar kd (bm a b c n sc (L,lm,al) au ar kd (i64.wrap (31+i64.wrap (27*i))) (bq.getD (0+i.toNat*1) 0) aq []).2.2.1 s q bq (i64.wrap (i+1))))else some (aw []/\Q .normal (uU a b c n sc L al lm au ar kd aq s q bq (i64.wrap (i+1))))else none else none else some (aw []/\Q (.exit 0) (uU a b c n sc L al lm au ar kd aq s q bq i))
theorem w7(Q:ag):abX a b c n sc L al lm au ar kd aq s q bq i Q=FK a b c n sc L al lm au ar kd aq s q bq i Q:=by kernel_rfl
def HJ(Q:ag):ai:=bif decide (i<27)then bif decide (0<=i/\i<27)then bif decide (0+i.toNat*1<27)then bif bq.getD (0+i.toNat*1) 0 !=0 then bif !(bm a b c n sc (L,lm,al) au ar kd (i64.wrap (31+i64.wrap (27*i))) (bq.getD (0+i.toNat*1) 0) aq []).1 then some (aw [0<=i/\i<27,(0:Int)=0,(i64.wrap (31+i64.wrap (27*i)):Int)=i64.wrap (31+i64.wrap (27*i)),(bq.getD (0+i.toNat*1) 0:Int)=bq.getD (0+i.toNat*1) 0,lm=lm,aq=aq,L=L,64*n=64*n,a=a,b=b,c=c,n=n,sc=sc,al=al,au=au,ar=ar,kd=kd,L.length=64*n,Fi.bh (bq.getD (0+i.toNat*1) 0),0<=i64.wrap (31+i64.wrap (27*i))/\i64.wrap (31+i64.wrap (27*i))<=1000,(bm a b c n sc (L,lm,al) au ar kd (i64.wrap (31+i64.wrap (27*i))) (bq.getD (0+i.toNat*1) 0) aq []).2.2.2≠ []]/\Q .normal (uX a b c n sc (bm a b c n sc (L,lm,al) au ar kd (i64.wrap (31+i64.wrap (27*i))) (bq.getD (0+i.toNat*1) 0) aq []).2.1.1 (bm a b c n sc (L,lm,al) au ar kd (i64.wrap (31+i64.wrap (27*i))) (bq.getD (0+i.toNat*1) 0) aq []).2.1.2.2 (bm a b c n sc (L,lm,al) au ar kd (i64.wrap (31+i64.wrap (27*i))) (bq.getD (0+i.toNat*1) 0) aq []).2.1.2.1 au ar kd (bm a b c n sc (L,lm,al) au ar kd (i64.wrap (31+i64.wrap (27*i))) (bq.getD (0+i.toNat*1) 0) aq []).2.2.1 s (bm a b c n sc (L,lm,al) au ar kd (i64.wrap (31+i64.wrap (27*i))) (bq.getD (0+i.toNat*1) 0) aq []).2.2.2 (aB q 0 (gy (t54 q) i)) bq (i64.wrap (i+1))))else some (aw [(i64.wrap (31+i64.wrap (27*i)):Int)=i64.wrap (31+i64.wrap (27*i)),(bq.getD (0+i.toNat*1) 0:Int)=bq.getD (0+i.toNat*1) 0,lm=lm,aq=aq,L=L,64*n=64*n,a=a,b=b,c=c,n=n,sc=sc,al=al,au=au,ar=ar,kd=kd,L.length=64*n,Fi.bh (bq.getD (0+i.toNat*1) 0),0<=i64.wrap (31+i64.wrap (27*i))/\i64.wrap (31+i64.wrap (27*i))<=1000,(bm a b c n sc (L,lm,al) au ar kd (i64.wrap (31+i64.wrap (27*i))) (bq.getD (0+i.toNat*1) 0) aq []).2.2.2≠ []]/\Q .normal (uX a b c n sc (bm a b c n sc (L,lm,al) au ar kd (i64.wrap (31+i64.wrap (27*i))) (bq.getD (0+i.toNat*1) 0) aq []).2.1.1 (bm a b c n sc (L,lm,al) au ar kd (i64.wrap (31+i64.wrap (27*i))) (bq.getD (0+i.toNat*1) 0) aq []).2.1.2.2 (bm a b c n sc (L,lm,al) au ar kd (i64.wrap (31+i64.wrap (27*i))) (bq.getD (0+i.toNat*1) 0) aq []).2.1.2.1 au ar kd (bm a b c n sc (L,lm,al) au ar kd (i64.wrap (31+i64.wrap (27*i))) (bq.getD (0+i.toNat*1) 0) aq []).2.2.1 s (bm a b c n sc (L,lm,al) au ar kd (i64.wrap (31+i64.wrap (27*i))) (bq.getD (0+i.toNat*1) 0) aq []).2.2.2 q bq (i64.wrap (i+1))))else some (aw []/\Q .normal (uU a b c n sc L al lm au ar kd aq s q bq (i64.wrap (i+1))))else none else none else some (aw []/\Q (.exit 0) (uU a b c n sc L al lm au ar kd aq s q bq i))
theorem Iz(Q:ag):aa6 a b c n sc L al lm au ar kd aq s q bq i Q=HJ a b c n sc L al lm au ar kd aq s q bq i Q:=by kernel_rfl
def JJ(Q:ag):ai:=bif decide (i<27)then bif decide (0<=i/\i<27)then bif decide (0+i.toNat*1<27)then bif bq.getD (0+i.toNat*1) 0 !=0 then bif !(bm a b c n sc (L,lm,al) au ar kd (i64.wrap (31+i64.wrap (27*i))) (bq.getD (0+i.toNat*1) 0) aq bl).1 then some (aw [0<=i/\i<27,(0:Int)=0,(i64.wrap (31+i64.wrap (27*i)):Int)=i64.wrap (31+i64.wrap (27*i)),(bq.getD (0+i.toNat*1) 0:Int)=bq.getD (0+i.toNat*1) 0,bl=bl,bl.length=bl.length,lm=lm,aq=aq,L=L,64*n=64*n,a=a,b=b,c=c,n=n,sc=sc,al=al,au=au,ar=ar,kd=kd,bl.length=bl.length,L.length=64*n,Fi.bh (bq.getD (0+i.toNat*1) 0),0<=i64.wrap (31+i64.wrap (27*i))/\i64.wrap (31+i64.wrap (27*i))<=1000,bl≠ [],bl.length<=1900]/\Q .normal (uX a b c n sc (bm a b c n sc (L,lm,al) au ar kd (i64.wrap (31+i64.wrap (27*i))) (bq.getD (0+i.toNat*1) 0) aq bl).2.1.1 (bm a b c n sc (L,lm,al) au ar kd (i64.wrap (31+i64.wrap (27*i))) (bq.getD (0+i.toNat*1) 0) aq bl).2.1.2.2 (bm a b c n sc (L,lm,al) au ar kd (i64.wrap (31+i64.wrap (27*i))) (bq.getD (0+i.toNat*1) 0) aq bl).2.1.2.1 au ar kd (bm a b c n sc (L,lm,al) au ar kd (i64.wrap (31+i64.wrap (27*i))) (bq.getD (0+i.toNat*1) 0) aq bl).2.2.1 s (bm a b c n sc (L,lm,al) au ar kd (i64.wrap (31+i64.wrap (27*i))) (bq.getD (0+i.toNat*1) 0) aq bl).2.2.2 (aB q 0 (gy (t54 q) i)) bq (i64.wrap (i+1))))else some (aw [(i64.wrap (31+i64.wrap (27*i)):Int)=i64.wrap (31+i64.wrap (27*i)),(bq.getD (0+i.toNat*1) 0:Int)=bq.getD (0+i.toNat*1) 0,bl=bl,bl.length=bl.length,lm=lm,aq=aq,L=L,64*n=64*n,a=a,b=b,c=c,n=n,sc=sc,al=al,au=au,ar=ar,kd=kd,bl.length=bl.length,L.length=64*n,Fi.bh (bq.getD (0+i.toNat*1) 0),0<=i64.wrap (31+i64.wrap (27*i))/\i64.wrap (31+i64.wrap (27*i))<=1000,bl≠ [],bl.length<=1900]/\Q .normal (uX a b c n sc (bm a b c n sc (L,lm,al) au ar kd (i64.wrap (31+i64.wrap (27*i))) (bq.getD (0+i.toNat*1) 0) aq bl).2.1.1 (bm a b c n sc (L,lm,al) au ar kd (i64.wrap (31+i64.wrap (27*i))) (bq.getD (0+i.toNat*1) 0) aq bl).2.1.2.2 (bm a b c n sc (L,lm,al) au ar kd (i64.wrap (31+i64.wrap (27*i))) (bq.getD (0+i.toNat*1) 0) aq bl).2.1.2.1 au ar kd (bm a b c n sc (L,lm,al) au ar kd (i64.wrap (31+i64.wrap (27*i))) (bq.getD (0+i.toNat*1) 0) aq bl).2.2.1 s (bm a b c n sc (L,lm,al) au ar kd (i64.wrap (31+i64.wrap (27*i))) (bq.getD (0+i.toNat*1) 0) aq bl).2.2.2 q bq (i64.wrap (i+1))))else some (aw []/\Q .normal (uX a b c n sc L al lm au ar kd aq s bl q bq (i64.wrap (i+1))))else none else none else some (aw []/\Q (.exit 0) (uX a b c n sc L al lm au ar kd aq s bl q bq i))
theorem zm(Q:ag):adH a b c n sc L al lm au ar kd aq s bl q bq i Q=JJ a b c n sc L al lm au ar kd aq s bl q bq i Q:=by kernel_rfl
end
abbrev Md:Type:=St×List (Int×Int)×List Int×List Int
section
variable(a b c:Int)(n:Nat)(sc:Int)(au ar kd:Int)(p:aj)
def nu(i:Nat)(x:Md):Md:=
 if dM p i=0 then x
 else((bm a b c n sc x.1 au ar kd (31+27*i) (dM p i) x.2.1 x.2.2.1).2.1,(bm a b c n sc x.1 au ar kd (31+27*i) (dM p i) x.2.1 x.2.2.1).2.2.1,(bm a b c n sc x.1 au ar kd (31+27*i) (dM p i) x.2.1 x.2.2.1).2.2.2,if(bm a b c n sc x.1 au ar kd (31+27*i) (dM p i) x.2.1 x.2.2.1).1=true then x.2.2.2 else gy x.2.2.2 i)
def kL:Nat->Nat->Md->Md
 | 0,_,x=>x
 |m+1,i,x=>kL m (i+1) (nu a b c n sc au ar kd p i x)
end
section
variable{a b c:Int}{n:Nat}{sc:Int}{au ar kd:Int}{s:Int}{p:aj}
theorem QC{L:aj}{first:Int}: ∀(m i:Nat) (x:Tb),(pj a b c n L au ar kd first p m i x).2.1.length<=x.2.1.length+m
 | 0,_,_=>Nat.le_refl _
 |m+1,i,x=>by
  have h1:=QC (L:=L) (first:=first) m (i+1) (lu a b c n L au ar kd first p i x)
  have h2:=Xf (a:=a) (b:=b) (c:=c) (n:=n) (L:=L) (au:=au) (ar:=ar) (kd:=kd) (first:=first) (p:=p) (i:=i) (x:=x)
  show(pj a b c n L au ar kd first p m (i+1) (lu a b c n L au ar kd first p i x)).2.1.length<=_
  omega
theorem Ec{st:St}{first:Int}{aq:ak}{bl:aj}(hl:st.1.length=64*n):(bm a b c n sc st au ar kd first s aq bl).2.1.1.length=64*n/\(bm a b c n sc st au ar kd first s aq bl).2.2.2.length<=bl.length+27:=by
 unfold bm;split
 ·exact⟨hl,by simp⟩
 ·split
  ·refine⟨?_,?_⟩
   ·exact fR hl (DF (p:=aR st.1 n s 5) 27 0 _ rfl (eH hl))
   ·exact QC (p:=aR st.1 n s 5) (L:=st.1) (first:=first) 27 0 _
  ·exact⟨hl,by simp⟩
theorem yy{i:Nat}{x:Md}(hi:i<27)(hl:x.1.1.length=64*n)(hq:x.2.2.2.length=54):(nu a b c n sc au ar kd p i x).1.1.length=64*n/\(nu a b c n sc au ar kd p i x).2.2.2.length=54/\(nu a b c n sc au ar kd p i x).2.2.1.length<=x.2.2.1.length+27:=by
 unfold nu;split
 ·exact⟨hl,hq,by omega⟩
 ·have:=Ec (a:=a) (b:=b) (c:=c) (sc:=sc) (au:=au) (ar:=ar) (kd:=kd) (s:=dM p i) (first:=31+27*i) (aq:=x.2.1) (bl:=x.2.2.1) hl
  refine⟨this.1,?_,this.2⟩;show(if _ then _ else _:aj).length=54
  split
  ·exact hq
  ·exact px hq (by omega)
def stM(a b c:Int)(n:Nat)(sc:Int)(au ar kd s:Int)(bq:aj)(i:Int)(x:Md):S:=match x with
 |(st,aq,[],q)=>uU a b c n sc st.1 st.2.2 st.2.1 au ar kd aq s q bq i
 |(st,aq,z::bl,q)=>uX a b c n sc st.1 st.2.2 st.2.1 au ar kd aq s (z::bl) q bq i
theorem zo{st:St}{aq:ak}{bl q bq:aj}{i:Int}(h:bl≠ []):stM a b c n sc au ar kd s bq i (st,aq,bl,q)=uX a b c n sc st.1 st.2.2 st.2.1 au ar kd aq s bl q bq i:=by
 cases bl with
 |nil=>exact absurd rfl h
 |cons z l=>rfl
theorem RE{s0:S}(bP:s0.nx=7){Q:ag}: ∀(m i:Nat) (x:Md),i+m=27->x.1.1.length=64*n->x.2.2.2.length=54->x.2.2.1.length+27*m<=1900->
  Q (.exit 0) (stM a b c n sc au ar kd s (gI p) 27 (kL a b c n sc au ar kd p m i x))->TO prog 54 [] [] s0 (.loop jN) (stM a b c n sc au ar kd s (gI p) i x) Q:=by
 intro m
 induction m with
 |zero=>
  intro i x hi hl hq hb hQ;obtain rfl:i=27:=by omega
  obtain⟨⟨L,lm,al⟩,aq,bl,q⟩:=x;cases bl with
  |nil=>exact TO.loop (TO.aP (lL false) (k0:=7) bP (.of_eq (w7 ..) (.no (by rfl) ⟨trivial,hQ⟩)))
  |cons z bl=>exact TO.loop (TO.aP (lL true) (k0:=7) bP (.of_eq (zm ..) (.no (by rfl) ⟨trivial,hQ⟩)))
 |succ m ih=>
  intro i x hi hl hq hb hQ;have hi27:i<27:=by omega
  have g1:(gI p).getD (0+((i:Int)).toNat*1) 0=dM p i:=by rw[Nat.zero_add,Nat.mul_one,Int.toNat_natCast];exact Cp p hi27
  have hw:i64.wrap ((i:Int)+1)=((i+1:Nat):Int):=by rw[IntWalk.i64_in _ (by omega)];rfl
  have hfi:i64.wrap (31+i64.wrap (27*(i:Int)))=31+27*i:=by
   rw[IntWalk.i64_in (27*(i:Int)) (by omega),IntWalk.i64_in _ (by omega)]
  have hU:Fi.bh (dM p i):=eY _ _;have hov:aB x.2.2.2 0 (gy (t54 x.2.2.2) i)=gy x.2.2.2 i:=by
   rw[show t54 x.2.2.2=x.2.2.2 from aJ hq,ij,px hq (by omega),List.drop_of_length_le (by omega),List.append_nil]
  obtain⟨k1,k2,k3⟩:=yy (a:=a) (b:=b) (c:=c) (sc:=sc) (au:=au) (ar:=ar) (kd:=kd) (p:=p) hi27 hl hq;have next:=ih (i+1) (nu a b c n sc au ar kd p i x) (by omega) k1 k2 (by omega) hQ
  obtain⟨⟨L,lm,al⟩,aq,bl,q⟩:=x;simp only at hov hq hl hb;have c1:decide ((i:Int)<27)=true:=by simp;omega
  have c2:decide (0<=(i:Int)/\(i:Int)<27)=true:=by simp;omega
  have c3:decide (0+(i:Int).toNat*1<27)=true:=by simp;omega
  have pi:0<=(i:Int)/\(i:Int)<27:=by omega
  have hf:0<=(31+27*i:Int)/\(31+27*i:Int)<=1000:=by omega
  have none':dM p i=0->nu a b c n sc au ar kd p i ((L,lm,al),aq,bl,q)=((L,lm,al),aq,bl,q):=fun h0=>by unfold nu;rw[if_pos h0]
  have did:dM p i≠0->∀(t:Bool),(bm a b c n sc (L,lm,al) au ar kd (31+27*i) (dM p i) aq bl).1=t->nu a b c n sc au ar kd p i ((L,lm,al),aq,bl,q)=((bm a b c n sc (L,lm,al) au ar kd (31+27*i) (dM p i) aq bl).2.1,(bm a b c n sc (L,lm,al) au ar kd (31+27*i) (dM p i) aq bl).2.2.1,(bm a b c n sc (L,lm,al) au ar kd (31+27*i) (dM p i) aq bl).2.2.2,if t=true then q else gy q i):=fun h0 t ht=>by
   unfold nu;rw[if_neg h0, <-ht]
  cases bl with
  |nil=>
   by_cases hn:(bm a b c n sc (L,lm,al) au ar kd (31+27*i) (dM p i) aq []).2.2.2= []
   ·refine TO.loop (TO.aP (lL false) (k0:=7) bP (.of_eq (w7 ..) ?_));unfold FK;rw[g1,hw,hfi,hov,c1,c2,c3];refine .yes rfl (.aZ rfl (.aZ rfl (.fork (fun h0=> ?_) (fun h0=> ?_))))
    ·have h0':dM p i≠0:=by simpa using h0
     refine .fork (fun h1=>⟨⟨pi,rfl,rfl,rfl,rfl,rfl,rfl,rfl,rfl,rfl,rfl,rfl,rfl,rfl,rfl,rfl,rfl,hl,hU,hf,hn,trivial⟩,?_⟩) (fun h1=>⟨⟨rfl,rfl,rfl,rfl,rfl,rfl,rfl,rfl,rfl,rfl,rfl,rfl,rfl,rfl,rfl,hl,hU,hf,hn,trivial⟩,?_⟩)
     ·rw[did h0' false (by simpa using h1),hn]at next;exact next
     ·rw[did h0' true (by simpa using h1),hn]at next;exact next
    ·rw[none' (by simpa using h0)]at next
     exact⟨trivial,next⟩
   ·refine TO.loop (TO.aP (lL true) (k0:=7) bP (.of_eq (Iz ..) ?_));unfold HJ;rw[g1,hw,hfi,hov,c1,c2,c3];refine .yes rfl (.aZ rfl (.aZ rfl (.fork (fun h0=> ?_) (fun h0=> ?_))))
    ·have h0':dM p i≠0:=by simpa using h0
     refine .fork (fun h1=>⟨⟨pi,rfl,rfl,rfl,rfl,rfl,rfl,rfl,rfl,rfl,rfl,rfl,rfl,rfl,rfl,rfl,rfl,hl,hU,hf,hn,trivial⟩,?_⟩) (fun h1=>⟨⟨rfl,rfl,rfl,rfl,rfl,rfl,rfl,rfl,rfl,rfl,rfl,rfl,rfl,rfl,rfl,hl,hU,hf,hn,trivial⟩,?_⟩)
     ·rw[did h0' false (by simpa using h1),zo hn]at next;exact next
     ·rw[did h0' true (by simpa using h1),zo hn]at next;exact next
    ·rw[none' (by simpa using h0)]at next
     exact⟨trivial,next⟩
  |cons z bl=>
   have bT:z::bl≠ []:=by simp
   have hn:=ui (a:=a) (b:=b) (c:=c) (n:=n) (sc:=sc) (st:=(L,lm,al)) (au:=au) (ar:=ar) (kd:=kd) (first:=31+27*i) (s:=dM p i) (aq:=aq) bT
   have hb':(z::bl).length<=1900:=by omega
   refine TO.loop (TO.aP (lL true) (k0:=7) bP (.of_eq (zm ..) ?_));unfold JJ;rw[g1,hw,hfi,hov,c1,c2,c3];refine .yes rfl (.aZ rfl (.aZ rfl (.fork (fun h0=> ?_) (fun h0=> ?_))))
   ·have h0':dM p i≠0:=by simpa using h0
    refine .fork (fun h1=>⟨⟨pi,rfl,rfl,rfl,rfl,rfl,rfl,rfl,rfl,rfl,rfl,rfl,rfl,rfl,rfl,rfl,rfl,rfl,rfl,rfl,hl,hU,hf,bT,hb',trivial⟩,?_⟩) (fun h1=>⟨⟨rfl,rfl,rfl,rfl,rfl,rfl,rfl,rfl,rfl,rfl,rfl,rfl,rfl,rfl,rfl,rfl,rfl,rfl,hl,hU,hf,bT,hb',trivial⟩,?_⟩)
    ·rw[did h0' false (by simpa using h1),zo hn]at next;exact next
    ·rw[did h0' true (by simpa using h1),zo hn]at next;exact next
   ·rw[none' (by simpa using h0)]at next
    exact⟨trivial,next⟩
end
end Go.Sx
