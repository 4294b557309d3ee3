import Derived.Test.YtfceckiklfkjkaaGreatS34
noncomputable section
open Go.Proofs Go.RowKit
set_option maxRecDepth 100000
open Go.IntKind(i64 u8 u64 u32 u16)
open Go.Proofs.Tryz
namespace Go.Sx
section
variable(a b c:Int)(n:Nat)(sc:Int)(L:aj)(al:Int)(lm:ak)(au ar kd:Int)(aq:ak)(s:Int)(bl p q bq:aj)
def Wt(bc:Cell)(xs:List (Nat×ax))(nx:Nat):S:=⟨QT s,cY a b c n sc L al lm au ar kd aq bc xs,nx,[]⟩
def Qx:S:=zB 6 0 (cj bl) (.row 229 false none (.cells ([.ptr 1 0,.ptr 3 0,.int .i64 au,.int .i64 ar,.int .i64 kd,.aC 6 1 0 bl.length].set 5 (.aC 7 1 0 bl.length)))) (Wt a b c n sc L al lm au ar kd aq s (.aC 6 1 0 bl.length) [(6,cj bl)] 7)
def sQn:S:=aE [0,1,2,6,8] 54 ⟨aN [(0,.one (.c (.ptr 0 0))),(1,.one (.c (.int .u16 s))),(2,.one (.c (.fn 259 [(0,0)] []))),(6,.one (.c (.ptr 7 0))),(8,.one (.c (.ptr 8 0)))],cY a b c n sc L al lm au ar kd aq .bf [(7,qB p),(8,qB q)],9,[]⟩
def sQr:S:=aE [0,1,2,6,8] 54 ⟨aN [(0,.one (.c (.ptr 0 0))),(1,.one (.c (.int .u16 s))),(2,.one (.c (.fn 259 [(0,0)] []))),(6,.one (.c (.ptr 7 0))),(8,.one (.c (.ptr 8 0)))],cY a b c n sc L al lm au ar kd aq (.aC 9 1 0 bl.length) [(7,qB p),(8,qB q),(9,cj bl)],10,[]⟩
def abZ(M:S->Prop)(R:ah):ai:=dk prog (pq true) 300 54 2 dm (Wt a b c n sc L al lm au ar kd aq s .bf [] 7) aO (iR 7 [0,1,2,6,8] 54 [7,8] f257.results.toList prog M R)
def abM(M:S->Prop)(R:ah):ai:=dk prog (pq true) 300 54 2 dm (Qx a b c n sc L al lm au ar kd aq s bl) aO (iR 7 [0,1,2,6,8] 54 [8,9,7] f257.results.toList prog M R)
def acf(Q:ag):ai:=az prog (pq true) 300 54 (gL (gL (aG 2 dm))) (sQn a b c n sc L al lm au ar kd aq s p q) aO (bN 7 [0,1,2,8,23,24,25] 54 iv Q)
def aau(Q:ag):ai:=az prog (pq true) 300 54 (gL (gL (aG 2 dm))) (sQr a b c n sc L al lm au ar kd aq s bl p q) aO (bN 7 [0,1,2,8,23,24,25] 54 iv Q)
def aaI(Q:ag):ai:=az prog (pq true) 300 54 (gR (aG 2 dm)) (uU a b c n sc L al lm au ar kd aq s q bq 27) aO (bN 7 [] 54 (fun s=>ny s.hp) Q)
def aaz(Q:ag):ai:=az prog (pq true) 300 54 (gR (aG 2 dm)) (uX a b c n sc L al lm au ar kd aq s bl q bq 27) aO (bN 7 [] 54 (fun s=>ny s.hp) Q)
theorem IG(M:S->Prop)(R:ah):abZ a b c n sc L al lm au ar kd aq s M R=some (aw [L.length=64*n,64*n=64*n]/\M (sQn a b c n sc L al lm au ar kd aq s (aB bA 0 (aR L n (i64.wrap s) 5)) (aB bA 0 (t54 (aB bA 0 (aR L n (i64.wrap s) 5)))))):=by kernel_rfl
theorem IE(M:S->Prop)(R:ah):abM a b c n sc L al lm au ar kd aq s bl M R=some (aw [L.length=64*n,64*n=64*n]/\M (sQr a b c n sc L al lm au ar kd aq s bl (aB bA 0 (aR L n (i64.wrap s) 5)) (aB bA 0 (t54 (aB bA 0 (aR L n (i64.wrap s) 5)))))):=by kernel_rfl
theorem H8(Q:ag):acf a b c n sc L al lm au ar kd aq s p q Q=some (aw [t54 p=t54 p,(54:Nat)=54,(t54 p).length=54]/\Q .normal (uU a b c n sc L al lm au ar kd aq s q (gI (t54 p)) 0)):=by kernel_rfl
theorem HZ(Q:ag):aau a b c n sc L al lm au ar kd aq s bl p q Q=some (aw [t54 p=t54 p,(54:Nat)=54,(t54 p).length=54]/\Q .normal (uX a b c n sc L al lm au ar kd aq s bl q (gI (t54 p)) 0)):=by kernel_rfl
def Rg(bc:Cell)(xs:List (Nat×ax))(nx:Nat):S:=aE [] 54 ⟨.nil,cY a b c n sc L al lm au ar kd aq bc xs,nx,[]⟩
theorem Ie(Q:ag):aaI a b c n sc L al lm au ar kd aq s q bq Q=some (aw [L.length=64*n,64*n=64*n,(t54 q).length=54]/\Q .normal (Rg a b c n sc (bF a b c n sc al L lm (i64.wrap s) 5 (t54 q)).2.1 (bF a b c n sc al L lm (i64.wrap s) 5 (t54 q)).2.2.2 (bF a b c n sc al L lm (i64.wrap s) 5 (t54 q)).2.2.1 au ar kd aq .bf [] 7)):=by kernel_rfl
theorem Iu(Q:ag):aaz a b c n sc L al lm au ar kd aq s bl q bq Q=some (aw [L.length=64*n,64*n=64*n,(t54 q).length=54]/\Q .normal (Rg a b c n sc (bF a b c n sc al L lm (i64.wrap s) 5 (t54 q)).2.1 (bF a b c n sc al L lm (i64.wrap s) 5 (t54 q)).2.2.2 (bF a b c n sc al L lm (i64.wrap s) 5 (t54 q)).2.2.1 au ar kd aq (.aC 7 1 0 bl.length) [(7,cj bl)] 8)):=by kernel_rfl
theorem Jg(bc:Cell)(xs:List (Nat×ax))(nx:Nat):ba prog 54 (Rg a b c n sc L al lm au ar kd aq bc xs nx) f257.results.toList=some []/\(Rg a b c n sc L al lm au ar kd aq bc xs nx).hp=cY a b c n sc L al lm au ar kd aq bc xs/\(Rg a b c n sc L al lm au ar kd aq bc xs nx).nx=nx:=⟨by kernel_rfl,by kernel_rfl,by kernel_rfl⟩
theorem ZD:(Wt a b c n sc L al lm au ar kd aq s (.aC 6 1 0 bl.length) [(6,cj bl)] 7).hp.get 6=some (cj bl)/\(Wt a b c n sc L al lm au ar kd aq s (.aC 6 1 0 bl.length) [(6,cj bl)] 7).hp.get 0=some (.row 229 false none (.cells [.ptr 1 0,.ptr 3 0,.int .i64 au,.int .i64 ar,.int .i64 kd,.aC 6 1 0 bl.length])):=⟨by kernel_rfl,by kernel_rfl⟩
end
def cE(a b c:Int)(n:Nat)(sc:Int)(st:St)(au ar kd s:Int)(aq:ak)(bl:aj):St×List (Int×Int)×List Int:=
 (fP a b c n sc (kL a b c n sc au ar kd (aR st.1 n s 5) 27 0 (st,aq,bl,aR st.1 n s 5)).1 s 5 (kL a b c n sc au ar kd (aR st.1 n s 5) 27 0 (st,aq,bl,aR st.1 n s 5)).2.2.2,(kL a b c n sc au ar kd (aR st.1 n s 5) 27 0 (st,aq,bl,aR st.1 n s 5)).2.1,(kL a b c n sc au ar kd (aR st.1 n s 5) 27 0 (st,aq,bl,aR st.1 n s 5)).2.2.1)
section
variable{a b c:Int}{n:Nat}{sc:Int}{au ar kd:Int}{s:Int}{p:aj}
theorem sj: ∀(m i:Nat) (x:Md),i+m=27->x.1.1.length=64*n->x.2.2.2.length=54->(kL a b c n sc au ar kd p m i x).1.1.length=64*n/\(kL a b c n sc au ar kd p m i x).2.2.2.length=54
 | 0,_,_,_,h,g=>⟨h,g⟩
 |m+1,i,x,hi,h,g=>by
  obtain⟨k1,k2,_⟩:=yy (a:=a) (b:=b) (c:=c) (sc:=sc) (au:=au) (ar:=ar) (kd:=kd) (p:=p) (i:=i) (by omega) h g
  exact sj m (i+1) _ (by omega) k1 k2
end
section
variable{a b c:Int}{n:Nat}{sc:Int}{L:aj}{al:Int}{lm:ak}{au ar kd:Int}{aq:ak}{s:Int}{bl:aj}
theorem Ej(hl:L.length=64*n)(hs:Fi.bh s)(hb:bl.length<=1100){s0:S}(bP:s0.nx=7){hs':T ax}{k':Nat}(he:hs'=(kg a b c n sc (cE a b c n sc (L,lm,al) au ar kd s aq bl).1.1 (cE a b c n sc (L,lm,al) au ar kd s aq bl).1.2.2 (cE a b c n sc (L,lm,al) au ar kd s aq bl).1.2.1 au ar kd (cE a b c n sc (L,lm,al) au ar kd s aq bl).2.1 (cE a b c n sc (L,lm,al) au ar kd s aq bl).2.2 7))(hk:k'=nS 7 (cE a b c n sc (L,lm,al) au ar kd s aq bl).2.2):
  (bl= []->TO prog 54 [] [] s0 (aG 2 dm) (sQn a b c n sc L al lm au ar kd aq s (aR L n s 5) (aR L n s 5)) (iS hs' k'))/\(bl≠ []->TO prog 54 [] [] s0 (aG 2 dm) (sQr a b c n sc L al lm au ar kd aq s bl (aR L n s 5) (aR L n s 5)) (iS hs' k')):=by
 have hp:(aR L n s 5).length=54:=eH hl;have ht:t54 (aR L n s 5)=aR L n s 5:=aJ hp;have hw:i64.wrap s=s:=Fi.wrap_u16 hs;have fin:TO prog 54 [] [] s0 (.block 0 (.loop jN)) (stM a b c n sc au ar kd s (gI (aR L n s 5)) 0 ((L,lm,al),aq,bl,aR L n s 5)) (fS prog 54 [] [] s0 (iS hs' k') (gR (aG 2 dm))):=by
  refine TO.block (RE (Q:=fun x s'=>match x with| .exit j=>if j=0 then fS prog 54 [] [] s0 (iS hs' k') (gR (aG 2 dm)) .normal s' else fS prog 54 [] [] s0 (iS hs' k') (gR (aG 2 dm)) (.exit j) s'|x=>fS prog 54 [] [] s0 (iS hs' k') (gR (aG 2 dm)) x s') bP 27 0 ((L,lm,al),aq,bl,aR L n s 5) rfl hl hp (by simp only;omega) ?_)
  simp only[if_true];obtain⟨hL,hq⟩:=sj (a:=a) (b:=b) (c:=c) (n:=n) (sc:=sc) (au:=au) (ar:=ar) (kd:=kd) (p:=aR L n s 5) 27 0 ((L,lm,al),aq,bl,aR L n s 5) rfl hl hp;have hX:(cE a b c n sc (L,lm,al) au ar kd s aq bl)=(fP a b c n sc (kL a b c n sc au ar kd (aR L n s 5) 27 0 ((L,lm,al),aq,bl,aR L n s 5)).1 s 5 (kL a b c n sc au ar kd (aR L n s 5) 27 0 ((L,lm,al),aq,bl,aR L n s 5)).2.2.2,(kL a b c n sc au ar kd (aR L n s 5) 27 0 ((L,lm,al),aq,bl,aR L n s 5)).2.1,(kL a b c n sc au ar kd (aR L n s 5) 27 0 ((L,lm,al),aq,bl,aR L n s 5)).2.2.1):=rfl;rw[hX]at he hk;generalize kL a b c n sc au ar kd (aR L n s 5) 27 0 ((L,lm,al),aq,bl,aR L n s 5)=x at hq hL he hk ⊢;obtain⟨⟨L1,lm1,out1⟩,o',b',q'⟩:=x;have hq':t54 q'=q':=aJ hq;cases b' with
  |nil=>
   refine TO.aP (lL true) (k0:=7) bP (.of_eq (Ie ..) ⟨⟨hL,rfl,by rw[hq'];exact hq,trivial⟩,.inl rfl,?_⟩)
   rw[hq',hw];obtain⟨e1,e2,e3⟩:=Jg a b c n sc (bF a b c n sc out1 L1 lm1 s 5 q').2.1 (bF a b c n sc out1 L1 lm1 s 5 q').2.2.2 (bF a b c n sc out1 L1 lm1 s 5 q').2.2.1 au ar kd o' .bf [] 7;exact⟨_,e1,rfl,by rw[e2,he];rfl,by rw[e3,hk];rfl⟩
  |cons z b'=>
   refine TO.aP (lL true) (k0:=7) bP (.of_eq (Iu ..) ⟨⟨hL,rfl,by rw[hq'];exact hq,trivial⟩,.inl rfl,?_⟩)
   rw[hq',hw];obtain⟨e1,e2,e3⟩:=Jg a b c n sc (bF a b c n sc out1 L1 lm1 s 5 q').2.1 (bF a b c n sc out1 L1 lm1 s 5 q').2.2.2 (bF a b c n sc out1 L1 lm1 s 5 q').2.2.1 au ar kd o' (.aC 7 1 0 (z::b').length) [(7,cj (z::b'))] 8;exact⟨_,e1,rfl,by rw[e2,he];rfl,by rw[e3,hk];rfl⟩
 constructor
 ·rintro rfl;refine TO.seq (c:=gL (aG 2 dm)) (d:=gR (aG 2 dm)) (TO.seq (c:=gL (gL (aG 2 dm))) (d:= .block 0 (.loop jN)) (TO.aP (lL true) (k0:=7) bP (.of_eq (H8 ..) ⟨⟨rfl,rfl,by rw[ht];exact hp,trivial⟩,?_⟩)))
  rw[ht];exact fin
 ·intro bT;refine TO.seq (c:=gL (aG 2 dm)) (d:=gR (aG 2 dm)) (TO.seq (c:=gL (gL (aG 2 dm))) (d:= .block 0 (.loop jN)) (TO.aP (lL true) (k0:=7) bP (.of_eq (HZ ..) ⟨⟨rfl,rfl,by rw[ht];exact hp,trivial⟩,?_⟩)))
  rw[ht];rw[zo bT]at fin;exact fin
theorem uY(hl:L.length=64*n)(hs:Fi.bh s)(hb:bl.length<=1100):cd prog 257 (iC s) 7 (kg a b c n sc L al lm au ar kd aq bl 6) (nS 7 (cE a b c n sc (L,lm,al) au ar kd s aq bl).2.2) (kg a b c n sc (cE a b c n sc (L,lm,al) au ar kd s aq bl).1.1 (cE a b c n sc (L,lm,al) au ar kd s aq bl).1.2.2 (cE a b c n sc (L,lm,al) au ar kd s aq bl).1.2.1 au ar kd (cE a b c n sc (L,lm,al) au ar kd s aq bl).2.1 (cE a b c n sc (L,lm,al) au ar kd s aq bl).2.2 7) (.aF []):=by
 have hp:(aR L n s 5).length=54:=eH hl;have ho:aB bA 0 (aR L n s 5)=aR L n s 5:=ck hp;have ht:t54 (aR L n s 5)=aR L n s 5:=aJ hp;have hw:i64.wrap s=s:=Fi.wrap_u16 hs;cases bl with
 |nil=>
  refine TO.c8 (fn:=f257) (c:=dm) func257 oc [] (iZ (fM (by omega) (fun p hp=>absurd hp List.not_mem_nil))) (Cf s) ?_
  refine TO.eZ (lL true) (m:=2) (k0:=7) rfl (aH:= [0,1,2,6,8]) (ord:= [7,8]) f257.results.toList (.of_eq (IG a b c n sc L al lm au ar kd aq s _ _) ⟨⟨hl,rfl,trivial⟩,?_⟩);rw[hw,ho,ht,ho];exact(Ej (bl:= []) hl hs (by simp) rfl rfl rfl).1 rfl
 |cons z l=>
  have bT:z::l≠ []:=by simp
  rw[fZ (m:=6) bT];refine TO.c8 (fn:=f257) (c:=dm) func257 oc [] (iZ (fM (by omega) (fun p hp=>by rw[List.mem_singleton.1 hp];show(6:Nat)<7;omega))) (Cf s) ?_
  have g:=ZD a b c n sc L al lm au ar kd aq s (z::l);refine TO.nT (dJ.mv 6 0 (by omega) g.1 rfl g.2 (j:=5) rfl) ?_
  show TO prog 54 [] [] _ dm (Qx a b c n sc L al lm au ar kd aq s (z::l)) _;refine TO.eZ (lL true) (m:=2) (k0:=7) rfl (aH:= [0,1,2,6,8]) (ord:= [8,9,7]) f257.results.toList (.of_eq (IE a b c n sc L al lm au ar kd aq s (z::l) _ _) ⟨⟨hl,rfl,trivial⟩,?_⟩);rw[hw,ho,ht,ho];exact(Ej (bl:=z::l) hl hs hb rfl rfl rfl).2 bT
end
def Np(v:Bool):List RV->T ax->Nat->Option GS:=fun args hp _=>match args with
 | [.one (.c (.ptr nc 0)),.one (.c (.int .u16 s)),.one (.c (.fn _ [_] []))]=>match BR hp nc,bn hp.get nc with
  |some ((a,b,c,L,_,n,sc,al,lm),(ni,nl,nw,nf,no),au,aq),some (_,_,_,.cells [_,_,_,.int .i64 ar,.int .i64 kd,bc])=>match bc with
   | .bf=>match v with
    |false=>some ⟨7,[nc,ni,nl,nf,no,nw,1000000000],iC s,(cY a b c n sc L al lm au ar kd aq .bf []),7,(cY a b c n sc (cE a b c n sc (L,lm,al) au ar kd s aq []).1.1 (cE a b c n sc (L,lm,al) au ar kd s aq []).1.2.2 (cE a b c n sc (L,lm,al) au ar kd s aq []).1.2.1 au ar kd (cE a b c n sc (L,lm,al) au ar kd s aq []).2.1 .bf []),.aF [],[L.length=64*n,Fi.bh s,(cE a b c n sc (L,lm,al) au ar kd s aq []).2.2= []]⟩
    |true=>some ⟨7,[nc,ni,nl,nf,no,nw,1000000000],iC s,(cY a b c n sc L al lm au ar kd aq .bf []),8,(cY a b c n sc (cE a b c n sc (L,lm,al) au ar kd s aq []).1.1 (cE a b c n sc (L,lm,al) au ar kd s aq []).1.2.2 (cE a b c n sc (L,lm,al) au ar kd s aq []).1.2.1 au ar kd (cE a b c n sc (L,lm,al) au ar kd s aq []).2.1 (.aC 7 1 0 (cE a b c n sc (L,lm,al) au ar kd s aq []).2.2.length) [(7,cj (cE a b c n sc (L,lm,al) au ar kd s aq []).2.2)]),.aF [],[L.length=64*n,Fi.bh s,(cE a b c n sc (L,lm,al) au ar kd s aq []).2.2≠ []]⟩
   | .aC nb 1 0 _=>match bn hp.get nb with
    |some (_,_,_,.ints .i64 bl _)=>some ⟨7,[nc,ni,nl,nf,no,nw,nb],iC s,(cY a b c n sc L al lm au ar kd aq (.aC 6 1 0 bl.length) [(6,cj bl)]),8,(cY a b c n sc (cE a b c n sc (L,lm,al) au ar kd s aq bl).1.1 (cE a b c n sc (L,lm,al) au ar kd s aq bl).1.2.2 (cE a b c n sc (L,lm,al) au ar kd s aq bl).1.2.1 au ar kd (cE a b c n sc (L,lm,al) au ar kd s aq bl).2.1 (.aC 7 1 0 (cE a b c n sc (L,lm,al) au ar kd s aq bl).2.2.length) [(7,cj (cE a b c n sc (L,lm,al) au ar kd s aq bl).2.2)]),.aF [],[L.length=64*n,Fi.bh s,bl≠ [],bl.length<=1100]⟩
    |_=>none
   |_=>none
  |_,_=>none
 |_=>none
section
variable{a b c:Int}{n:Nat}{sc:Int}{L:aj}{al:Int}{lm:ak}{au ar kd:Int}{aq:ak}{s:Int}{bl:aj}
theorem QS{p:aj}: ∀(m i:Nat) (x:Md),x.2.2.1≠ []->(kL a b c n sc au ar kd p m i x).2.2.1≠ []
 | 0,_,_,h=>h
 |m+1,i,x,h=>QS m (i+1) _ (by
  unfold nu;split
  ·exact h
  ·exact ui h)
theorem Am{st:St}(h:bl≠ []):(cE a b c n sc st au ar kd s aq bl).2.2≠ []:=QS 27 0 _ h
theorem Mg(h1:L.length=64*n)(h2:Fi.bh s)(h5:(cE a b c n sc (L,lm,al) au ar kd s aq []).2.2= []):cd prog 257 (iC s) 7 (cY a b c n sc L al lm au ar kd aq .bf []) 7 (cY a b c n sc (cE a b c n sc (L,lm,al) au ar kd s aq []).1.1 (cE a b c n sc (L,lm,al) au ar kd s aq []).1.2.2 (cE a b c n sc (L,lm,al) au ar kd s aq []).1.2.1 au ar kd (cE a b c n sc (L,lm,al) au ar kd s aq []).2.1 .bf []) (.aF []):=by
 have:=uY (sc:=sc) (al:=al) (lm:=lm) (au:=au) (ar:=ar) (kd:=kd) (aq:=aq) (a:=a) (b:=b) (c:=c) (bl:= []) h1 h2 (by simp)
 rw[h5]at this;exact this
theorem KN(h1:L.length=64*n)(h2:Fi.bh s)(h5:(cE a b c n sc (L,lm,al) au ar kd s aq []).2.2≠ []):cd prog 257 (iC s) 7 (cY a b c n sc L al lm au ar kd aq .bf []) 8 (cY a b c n sc (cE a b c n sc (L,lm,al) au ar kd s aq []).1.1 (cE a b c n sc (L,lm,al) au ar kd s aq []).1.2.2 (cE a b c n sc (L,lm,al) au ar kd s aq []).1.2.1 au ar kd (cE a b c n sc (L,lm,al) au ar kd s aq []).2.1 (.aC 7 1 0 (cE a b c n sc (L,lm,al) au ar kd s aq []).2.2.length) [(7,cj (cE a b c n sc (L,lm,al) au ar kd s aq []).2.2)]) (.aF []):=by
 have:=uY (sc:=sc) (al:=al) (lm:=lm) (au:=au) (ar:=ar) (kd:=kd) (aq:=aq) (a:=a) (b:=b) (c:=c) (bl:= []) h1 h2 (by simp)
 rw[fZ (m:=7) h5,iG h5]at this;exact this
theorem Lg(h1:L.length=64*n)(h2:Fi.bh s)(h5:bl≠ [])(h6:bl.length<=1100):cd prog 257 (iC s) 7 (cY a b c n sc L al lm au ar kd aq (.aC 6 1 0 bl.length) [(6,cj bl)]) 8 (cY a b c n sc (cE a b c n sc (L,lm,al) au ar kd s aq bl).1.1 (cE a b c n sc (L,lm,al) au ar kd s aq bl).1.2.2 (cE a b c n sc (L,lm,al) au ar kd s aq bl).1.2.1 au ar kd (cE a b c n sc (L,lm,al) au ar kd s aq bl).2.1 (.aC 7 1 0 (cE a b c n sc (L,lm,al) au ar kd s aq bl).2.2.length) [(7,cj (cE a b c n sc (L,lm,al) au ar kd s aq bl).2.2)]) (.aF []):=by
 have:=uY (sc:=sc) (al:=al) (lm:=lm) (au:=au) (ar:=ar) (kd:=kd) (aq:=aq) (a:=a) (b:=b) (c:=c) h1 h2 h6;rw[fZ (m:=6) h5,fZ (m:=7) (Am h5),iG (Am h5)]at this;exact this
end
theorem Zu(v:Bool):aI prog 257 (cC (Np v)):=dT ⟨_,func257,rfl⟩ fun args hp nx g h bB=>by
 unfold Np at h;split at h<;>try(cases h;done)
 split at h<;>try(cases h;done)
 split at h<;>try(cases h;done)
 ·cases v with
  |false=>
   cases h;obtain⟨h1,h2,h5,_⟩:=bB;exact⟨Mg h1 h2 h5,fun i x hx=>fv (k:=7) (fM (by omega) (fun p hp=>absurd hp List.not_mem_nil)) hx⟩
  |true=>
   cases h;obtain⟨h1,h2,h5,_⟩:=bB;exact⟨KN h1 h2 h5,fun i x hx=>fv (k:=7) (fM (by omega) (fun p hp=>absurd hp List.not_mem_nil)) hx⟩
 ·split at h<;>try(cases h;done)
  cases h;obtain⟨h1,h2,h5,h6,_⟩:=bB;refine⟨Lg h1 h2 h5 h6,fun i x hx=> ?_⟩
  have hx':=qW hx;rcases List.mem_append.1 hx' with h|h
  ·exact fM (k:=7) (xs:= []) (by omega) (fun p hp=>absurd hp List.not_mem_nil) _ (List.mem_append_left _ h)
  ·rw[(af .. ▸List.mem_singleton.1 h:i=6/\_).1];exact Nat.lt_succ_self 6
def yC(v:Bool):FuncId->Option bg:=fun f=>match f with| 256=>some (cC Ay)| 257=>some (cC (Np v))|_=>none
theorem HL(v:Bool):Fit prog (fun f=>(yC v f).map bj):=⟨bM,aV,aI.sum fun f sm h=>by
 unfold yC at h;split at h
 ·cases h;exact sum256
 ·cases h;exact Zu v
 ·cases h⟩
def vD:Code:=gB 226
def jM(s:Int):List RV:= [.one (.c (.ptr 0 0)),.one (.c (.int .u16 s))]
def Wf(s:Int):T RV:=match setArgs 21 (jM s) 0 .nil some with|some t=>t|none=> .nil
theorem EE(s:Int):setArgs 21 (jM s) 0 .nil some=some (Wf s):=by kernel_rfl
theorem Ai:f226.body=some vD:=by kernel_rfl
section
variable(a b c:Int)(n:Nat)(sc:Int)(L:aj)(al:Int)(lm:ak)(au ar kd:Int)(aq:ak)(s:Int)(bl:aj)
def Cz(bc:Cell)(xs:List (Nat×ax))(nx:Nat):S:=⟨Wf s,cY a b c n sc L al lm au ar kd aq bc xs,nx,[]⟩
def WX:S:=zB 6 0 (cj bl) (.row 229 false none (.cells ([.ptr 1 0,.ptr 3 0,.int .i64 au,.int .i64 ar,.int .i64 kd,.aC 6 1 0 bl.length].set 5 (.aC 7 1 0 bl.length)))) (Cz a b c n sc L al lm au ar kd aq s (.aC 6 1 0 bl.length) [(6,cj bl)] 7)
def acY(Q:ag):ai:=az prog (yC false) 300 21 vD (Cz a b c n sc L al lm au ar kd aq s .bf [] 7) aO (bN 7 [4] 21 (fun s=>ny s.hp) Q)
def adE(Q:ag):ai:=az prog (yC true) 300 21 vD (Cz a b c n sc L al lm au ar kd aq s .bf [] 7) aO (bN 7 [4] 21 (fun s=>ny s.hp) Q)
def afm(Q:ag):ai:=az prog (yC true) 300 21 vD (WX a b c n sc L al lm au ar kd aq s bl) aO (bN 7 [4] 21 (fun s=>ny s.hp) Q)
def eD(t:Bool)(bc:Cell)(xs:List (Nat×ax))(nx:Nat):S:=aE [4] 21 ⟨aN [(4,.one (.c (.bool t)))],cY a b c n sc L al lm au ar kd aq bc xs,nx,[]⟩
def YK(Q:ag):ai:=bif decide ((31:Int)>=ar)then some (aw []/\Q .ret (eD a b c n sc L al lm au ar kd aq false .bf [] 7))else bif !dE a b c n L aq s 5 then some (aw [s=s,(5:Int)=5,lm=lm,aq=aq,L=L,64*n=64*n,a=a,b=b,c=c,n=n,sc=sc,al=al,au=au,L.length=64*n,Fi.bh s]/\Q .ret (eD a b c n sc L al lm au ar kd (cw a b c n L au aq s 5) false .bf [] 7))else some (aw [s=s,lm=lm,(cw a b c n L au aq s 5)=(cw a b c n L au aq s 5),L=L,64*n=64*n,a=a,b=b,c=c,n=n,sc=sc,al=al,au=au,ar=ar,kd=kd,L.length=64*n,Fi.bh s,(cE a b c n sc (L,lm,al) au ar kd s (cw a b c n L au aq s 5) []).2.2= [],s=s,(5:Int)=5,lm=lm,aq=aq,L=L,64*n=64*n,a=a,b=b,c=c,n=n,sc=sc,al=al,au=au,L.length=64*n,Fi.bh s]/\Q .ret (eD a b c n sc (cE a b c n sc (L,lm,al) au ar kd s (cw a b c n L au aq s 5) []).1.1 (cE a b c n sc (L,lm,al) au ar kd s (cw a b c n L au aq s 5) []).1.2.2 (cE a b c n sc (L,lm,al) au ar kd s (cw a b c n L au aq s 5) []).1.2.1 au ar kd (cE a b c n sc (L,lm,al) au ar kd s (cw a b c n L au aq s 5) []).2.1 true .bf [] 7))
theorem LC(Q:ag):acY a b c n sc L al lm au ar kd aq s Q=YK a b c n sc L al lm au ar kd aq s Q:=by kernel_rfl
def X3(Q:ag):ai:=bif decide ((31:Int)>=ar)then some (aw []/\Q .ret (eD a b c n sc L al lm au ar kd aq false .bf [] 7))else bif !dE a b c n L aq s 5 then some (aw [s=s,(5:Int)=5,lm=lm,aq=aq,L=L,64*n=64*n,a=a,b=b,c=c,n=n,sc=sc,al=al,au=au,L.length=64*n,Fi.bh s]/\Q .ret (eD a b c n sc L al lm au ar kd (cw a b c n L au aq s 5) false .bf [] 7))else some (aw [s=s,lm=lm,(cw a b c n L au aq s 5)=(cw a b c n L au aq s 5),L=L,64*n=64*n,a=a,b=b,c=c,n=n,sc=sc,al=al,au=au,ar=ar,kd=kd,L.length=64*n,Fi.bh s,(cE a b c n sc (L,lm,al) au ar kd s (cw a b c n L au aq s 5) []).2.2≠ [],s=s,(5:Int)=5,lm=lm,aq=aq,L=L,64*n=64*n,a=a,b=b,c=c,n=n,sc=sc,al=al,au=au,L.length=64*n,Fi.bh s]/\Q .ret (eD a b c n sc (cE a b c n sc (L,lm,al) au ar kd s (cw a b c n L au aq s 5) []).1.1 (cE a b c n sc (L,lm,al) au ar kd s (cw a b c n L au aq s 5) []).1.2.2 (cE a b c n sc (L,lm,al) au ar kd s (cw a b c n L au aq s 5) []).1.2.1 au ar kd (cE a b c n sc (L,lm,al) au ar kd s (cw a b c n L au aq s 5) []).2.1 true (.aC 7 1 0 (cE a b c n sc (L,lm,al) au ar kd s (cw a b c n L au aq s 5) []).2.2.length) [(7,cj (cE a b c n sc (L,lm,al) au ar kd s (cw a b c n L au aq s 5) []).2.2)] 8))
theorem Lt(Q:ag):adE a b c n sc L al lm au ar kd aq s Q=X3 a b c n sc L al lm au ar kd aq s Q:=by kernel_rfl
def abP(Q:ag):ai:=bif decide ((31:Int)>=ar)then some (aw []/\Q .ret (eD a b c n sc L al lm au ar kd aq false (.aC 7 1 0 bl.length) [(7,cj bl)] 8))else bif !dE a b c n L aq s 5 then some (aw [s=s,(5:Int)=5,lm=lm,aq=aq,L=L,64*n=64*n,a=a,b=b,c=c,n=n,sc=sc,al=al,au=au,L.length=64*n,Fi.bh s]/\Q .ret (eD a b c n sc L al lm au ar kd (cw a b c n L au aq s 5) false (.aC 7 1 0 bl.length) [(7,cj bl)] 8))else some (aw [s=s,bl=bl,bl.length=bl.length,lm=lm,(cw a b c n L au aq s 5)=(cw a b c n L au aq s 5),L=L,64*n=64*n,a=a,b=b,c=c,n=n,sc=sc,al=al,au=au,ar=ar,kd=kd,bl.length=bl.length,L.length=64*n,Fi.bh s,bl≠ [],bl.length<=1100,s=s,(5:Int)=5,lm=lm,aq=aq,L=L,64*n=64*n,a=a,b=b,c=c,n=n,sc=sc,al=al,au=au,L.length=64*n,Fi.bh s]/\Q .ret (eD a b c n sc (cE a b c n sc (L,lm,al) au ar kd s (cw a b c n L au aq s 5) bl).1.1 (cE a b c n sc (L,lm,al) au ar kd s (cw a b c n L au aq s 5) bl).1.2.2 (cE a b c n sc (L,lm,al) au ar kd s (cw a b c n L au aq s 5) bl).1.2.1 au ar kd (cE a b c n sc (L,lm,al) au ar kd s (cw a b c n L au aq s 5) bl).2.1 true (.aC 7 1 0 (cE a b c n sc (L,lm,al) au ar kd s (cw a b c n L au aq s 5) bl).2.2.length) [(7,cj (cE a b c n sc (L,lm,al) au ar kd s (cw a b c n L au aq s 5) bl).2.2)] 8))
theorem QN(Q:ag):afm a b c n sc L al lm au ar kd aq s bl Q=abP a b c n sc L al lm au ar kd aq s bl Q:=by kernel_rfl
theorem abr:(Cz a b c n sc L al lm au ar kd aq s (.aC 6 1 0 bl.length) [(6,cj bl)] 7).hp.get 6=some (cj bl)/\(Cz a b c n sc L al lm au ar kd aq s (.aC 6 1 0 bl.length) [(6,cj bl)] 7).hp.get 0=some (.row 229 false none (.cells [.ptr 1 0,.ptr 3 0,.int .i64 au,.int .i64 ar,.int .i64 kd,.aC 6 1 0 bl.length])):=⟨by kernel_rfl,by kernel_rfl⟩
theorem aa3(t:Bool)(bc:Cell)(xs:List (Nat×ax))(nx:Nat):ba prog 21 (eD a b c n sc L al lm au ar kd aq t bc xs nx) f226.results.toList=some [.c (.bool t)]/\(eD a b c n sc L al lm au ar kd aq t bc xs nx).hp=cY a b c n sc L al lm au ar kd aq bc xs/\(eD a b c n sc L al lm au ar kd aq t bc xs nx).nx=nx:=⟨by kernel_rfl,by kernel_rfl,by kernel_rfl⟩
end
def bQ(a b c:Int)(n:Nat)(sc:Int)(st:St)(au ar kd s:Int)(aq:ak)(bl:aj):Bool×St×List (Int×Int)×List Int:=
 if(31:Int)>=ar then(false,st,aq,bl)else if dE a b c n st.1 aq s 5=true then(true,cE a b c n sc st au ar kd s (bC aq s au) bl)else(false,st,aq,bl)
section
variable{a b c:Int}{n:Nat}{sc:Int}{L:aj}{al:Int}{lm:ak}{au ar kd:Int}{aq:ak}{s:Int}{bl:aj}
abbrev tH(v:Bool)(hs':T ax)(k':Nat):X->S->Prop:=fun x s1=>(x= .normal\/x= .ret)/\∃l,ba prog 21 s1 f226.results.toList=some l/\(c6 l= .one (.c (.bool v))/\s1.hp=hs'/\s1.nx=k')
theorem uj{t:Bool}{bc:Cell}{xs:List (Nat×ax)}{nx:Nat}:tH t (cY a b c n sc L al lm au ar kd aq bc xs) nx .ret (eD a b c n sc L al lm au ar kd aq t bc xs nx):=by
 obtain⟨e1,e2,e3⟩:=aa3 a b c n sc L al lm au ar kd aq t bc xs nx;exact⟨.inr rfl,_,e1,rfl,e2,e3⟩
theorem yc(hl:L.length=64*n)(hs:Fi.bh s)(hb:bl.length<=1100){ok:Bool}{st':St}{own':ak}{bl':aj}(hX:bQ a b c n sc (L,lm,al) au ar kd s aq bl=(ok,st',own',bl')):
  cd prog 226 (jM s) 7 (kg a b c n sc L al lm au ar kd aq bl 6) (nS 7 bl') (kg a b c n sc st'.1 st'.2.2 st'.2.1 au ar kd own' bl' 7) (.one (.c (.bool ok))):=by
 have tk0:dE a b c n L aq s 5=false->cw a b c n L au aq s 5=aq:=fun h=>by unfold cw;rw[h];rfl
 have tk1:dE a b c n L aq s 5=true->cw a b c n L au aq s 5=bC aq s au:=fun h=>by unfold cw;rw[h];rfl
 unfold bQ at hX;cases bl with
 |nil=>
  refine TO.c8 (fn:=f226) (c:=vD) func226 Ai [] (iZ (fM (by omega) (fun p hp=>absurd hp List.not_mem_nil))) (EE s) ?_
  show TO prog 21 [] [] (Cz a b c n sc L al lm au ar kd aq s .bf [] 7) vD (Cz a b c n sc L al lm au ar kd aq s .bf [] 7) (tH ok (kg a b c n sc st'.1 st'.2.2 st'.2.1 au ar kd own' bl' 7) (nS 7 bl'));have no:ok=false->st'=(L,lm,al)->own'=aq->bl'= []->tH ok (kg a b c n sc st'.1 st'.2.2 st'.2.1 au ar kd own' bl' 7) (nS 7 bl') .ret (eD a b c n sc L al lm au ar kd aq false .bf [] 7):=fun e1 e2 e3 e4=>by subst e1 e2 e3 e4;exact uj
  by_cases h0:(cE a b c n sc (L,lm,al) au ar kd s (cw a b c n L au aq s 5) []).2.2= []
  ·refine TO.aP (HL false) (k0:=7) rfl (.of_eq (LC a b c n sc L al lm au ar kd aq s _) ?_);refine .fork (fun h1=>⟨trivial,?_⟩) (fun h1=> .fork (fun h2=>⟨⟨rfl,rfl,rfl,rfl,rfl,rfl,rfl,rfl,rfl,rfl,rfl,rfl,rfl,hl,hs,trivial⟩,?_⟩) (fun h2=>⟨⟨rfl,rfl,rfl,rfl,rfl,rfl,rfl,rfl,rfl,rfl,rfl,rfl,rfl,rfl,hl,hs,h0,rfl,rfl,rfl,rfl,rfl,rfl,rfl,rfl,rfl,rfl,rfl,rfl,rfl,hl,hs,trivial⟩,?_⟩))
   ·rw[if_pos (by simpa using h1)]at hX;cases hX;exact no rfl rfl rfl rfl
   ·have h2':dE a b c n L aq s 5=false:=by simpa using h2
    rw[if_neg (by simpa using h1),if_neg (by rw[h2'];simp)]at hX;cases hX
    rw[tk0 h2'];exact no rfl rfl rfl rfl
   ·have h2':dE a b c n L aq s 5=true:=by simpa using h2
    rw[if_neg (by simpa using h1),if_pos h2']at hX
    rw[tk1 h2']at h0 ⊢;have hX1:true=ok:=congrArg Prod.fst hX;have hX2:cE a b c n sc (L,lm,al) au ar kd s (bC aq s au) []=(st',own',bl'):=congrArg Prod.snd hX;rw[hX2]at h0 ⊢;simp only at h0 ⊢;subst hX1 h0;exact uj
  ·refine TO.aP (HL true) (k0:=7) rfl (.of_eq (Lt a b c n sc L al lm au ar kd aq s _) ?_);refine .fork (fun h1=>⟨trivial,?_⟩) (fun h1=> .fork (fun h2=>⟨⟨rfl,rfl,rfl,rfl,rfl,rfl,rfl,rfl,rfl,rfl,rfl,rfl,rfl,hl,hs,trivial⟩,?_⟩) (fun h2=>⟨⟨rfl,rfl,rfl,rfl,rfl,rfl,rfl,rfl,rfl,rfl,rfl,rfl,rfl,rfl,hl,hs,h0,rfl,rfl,rfl,rfl,rfl,rfl,rfl,rfl,rfl,rfl,rfl,rfl,rfl,hl,hs,trivial⟩,?_⟩))
   ·rw[if_pos (by simpa using h1)]at hX;cases hX;exact no rfl rfl rfl rfl
   ·have h2':dE a b c n L aq s 5=false:=by simpa using h2
    rw[if_neg (by simpa using h1),if_neg (by rw[h2'];simp)]at hX;cases hX
    rw[tk0 h2'];exact no rfl rfl rfl rfl
   ·have h2':dE a b c n L aq s 5=true:=by simpa using h2
    rw[if_neg (by simpa using h1),if_pos h2']at hX
    rw[tk1 h2']at h0 ⊢;have hX1:true=ok:=congrArg Prod.fst hX;have hX2:cE a b c n sc (L,lm,al) au ar kd s (bC aq s au) []=(st',own',bl'):=congrArg Prod.snd hX;rw[hX2]at h0 ⊢;simp only at h0 ⊢;subst hX1;rw[fZ h0,iG h0];exact uj
 |cons z l=>
  have bT:z::l≠ []:=by simp
  rw[fZ bT];refine TO.c8 (fn:=f226) (c:=vD) func226 Ai [] (iZ (fM (by omega) (fun p hp=>by rw[List.mem_singleton.1 hp];show(6:Nat)<7;omega))) (EE s) ?_
  have g:=abr a b c n sc L al lm au ar kd aq s (z::l);refine TO.nT (dJ.mv 6 0 (by omega) g.1 rfl g.2 (j:=5) rfl) ?_
  show TO prog 21 [] [] (Cz a b c n sc L al lm au ar kd aq s (.aC 6 1 0 (z::l).length) [(6,cj (z::l))] 7) vD (WX a b c n sc L al lm au ar kd aq s (z::l)) (tH ok (kg a b c n sc st'.1 st'.2.2 st'.2.1 au ar kd own' bl' 7) (nS 7 bl'));have no:ok=false->st'=(L,lm,al)->own'=aq->bl'=z::l->tH ok (kg a b c n sc st'.1 st'.2.2 st'.2.1 au ar kd own' bl' 7) (nS 7 bl') .ret (eD a b c n sc L al lm au ar kd aq false (.aC 7 1 0 (z::l).length) [(7,cj (z::l))] 8):=fun e1 e2 e3 e4=>by subst e1 e2 e3 e4;exact uj
  refine TO.aP (HL true) (k0:=7) rfl (.of_eq (QN a b c n sc L al lm au ar kd aq s (z::l) _) ?_);refine .fork (fun h1=>⟨trivial,?_⟩) (fun h1=> .fork (fun h2=>⟨⟨rfl,rfl,rfl,rfl,rfl,rfl,rfl,rfl,rfl,rfl,rfl,rfl,rfl,hl,hs,trivial⟩,?_⟩) (fun h2=>⟨⟨rfl,rfl,rfl,rfl,rfl,rfl,rfl,rfl,rfl,rfl,rfl,rfl,rfl,rfl,rfl,rfl,rfl,hl,hs,bT,hb,rfl,rfl,rfl,rfl,rfl,rfl,rfl,rfl,rfl,rfl,rfl,rfl,rfl,hl,hs,trivial⟩,?_⟩))
  ·rw[if_pos (by simpa using h1)]at hX;cases hX;exact no rfl rfl rfl rfl
  ·have h2':dE a b c n L aq s 5=false:=by simpa using h2
   rw[if_neg (by simpa using h1),if_neg (by rw[h2'];simp)]at hX;cases hX
   rw[tk0 h2'];exact no rfl rfl rfl rfl
  ·have h2':dE a b c n L aq s 5=true:=by simpa using h2
   rw[if_neg (by simpa using h1),if_pos h2']at hX
   rw[tk1 h2'];have hX1:true=ok:=congrArg Prod.fst hX;have hX2:cE a b c n sc (L,lm,al) au ar kd s (bC aq s au) (z::l)=(st',own',bl'):=congrArg Prod.snd hX;have h0:=Am (a:=a) (b:=b) (c:=c) (n:=n) (sc:=sc) (st:=(L,lm,al)) (au:=au) (ar:=ar) (kd:=kd) (s:=s) (aq:=bC aq s au) bT;rw[hX2]at h0 ⊢;simp only at h0 ⊢;subst hX1;rw[fZ h0,iG h0];exact uj
end
def vT:FuncId->Option bg:=fun f=>match f with| 21=>some (mC w8)| 145=>some (aL Fi.Gc)| 256=>some (cC Ay)| 23=>some (lG HA)|_=>none
theorem qR:Fit prog (fun f=>(vT f).map bj):=⟨bM,aV,aI.sum fun f sm h=>by
 unfold vT at h;split at h
 ·cases h;exact sO
 ·cases h;exact(Fi.Bw 145 yW).sum ⟨_,func145,rfl⟩
 ·cases h;exact sum256
 ·cases h;exact DN
 ·cases h⟩
def jl:Code:=gB 165
def wQ:List RV:= [.one (.c (.ptr 0 0))]
def Wz:T RV:=match setArgs 82 wQ 0 .nil some with|some t=>t|none=> .nil
theorem Uj:setArgs 82 wQ 0 .nil some=some Wz:=by kernel_rfl
def zd(j:Nat)(y:Fi.bD):Fi.bD:=match j with
 | 0=> {y with d0:=0}
 | 1=> {y with d1:=0}
 | 2=> {y with d2:=0}
 |_=> {y with d3:=0}
def Dz:Code:=match gR (gL (gR (gR (gR jl))))with| .block _ (.loop c)=>c|_=> .skip
def sN:S->List Nat:=fun s=>gg s.sl 2++ny s.hp
section
variable(a b c:Int)(n:Nat)(sc:Int)(L:aj)(al:Int)(lm:ak)(au ar kd:Int)(aq:ak)(bl A:aj)(y:Fi.bD)(j:Nat)
abbrev yB(y:Fi.bD):ax:= .row 27 false none (.cells y.L)
def aaM(A:aj)(i:Int):List (Nat×RV):= [(0,.one (.c (.ptr 0 0))),(2,.one (.c (.ptr 6 0))),(32,.one (.ints .u16 A 4)),(33,.one (.c (.int .i64 i)))]
def Cq:S:=aE [0,2,32,33] 82 ⟨aN (aaM A j),cY a b c n sc L al lm au ar kd aq .bf [(6,yB y)],7,[]⟩
def Z8(m1 m2:Nat):S:=aE [0,2,32,33] 82 ⟨aN (aaM A j),cY a b c n sc L al lm au ar kd aq (.aC 7 1 0 m1) [(6,yB y),(7,.row 3 false (some 1) (.ints .i64 bl m2))],8,[]⟩
abbrev zK:S:=Z8 a b c n sc L al lm au ar kd aq bl A y j bl.length bl.length
def wb(Q:ag):ai:=az prog vT 300 82 Dz (Cq a b c n sc L al lm au ar kd aq A y j) aO (bN 6 [0,2,32,33] 82 sN Q)
def vJ(Q:ag):ai:=az prog vT 300 82 Dz (zK a b c n sc L al lm au ar kd aq bl A y j) aO (bN 6 [0,2,32,33] 82 sN Q)
def ot(Q:ag):ai:=bif A.getD j 0 !=0 then bif decide ((j:Int)>=ar)then some (aw []/\Q .normal (Cq a b c n sc L al lm au ar kd aq A (zd j y) (j+1)))else bif !dE a b c n L aq (A.getD j 0) kd then some (aw [(A.getD j 0:Int)=A.getD j 0,kd=kd,lm=lm,aq=aq,L=L,64*n=64*n,a=a,b=b,c=c,n=n,sc=sc,al=al,au=au,L.length=64*n,Fi.bh (A.getD j 0)]/\Q .normal (Cq a b c n sc L al lm au ar kd (cw a b c n L au aq (A.getD j 0) kd) A (zd j y) (j+1)))else some (aw [(A.getD j 0:Int)=A.getD j 0,kd=kd,lm=lm,aq=aq,L=L,64*n=64*n,a=a,b=b,c=c,n=n,sc=sc,al=al,au=au,L.length=64*n,Fi.bh (A.getD j 0)]/\Q .normal (Z8 a b c n sc L al lm au ar kd (cw a b c n L au aq (A.getD j 0) kd) [i64.wrap (A.getD j 0)] A y (j+1) 1 1))else some (aw []/\Q .normal (Cq a b c n sc L al lm au ar kd aq A y (j+1)))
def oA(Q:ag):ai:=bif A.getD j 0 !=0 then bif decide ((j:Int)>=ar)then some (aw []/\Q .normal (zK a b c n sc L al lm au ar kd aq bl A (zd j y) (j+1)))else bif !dE a b c n L aq (A.getD j 0) kd then some (aw [(A.getD j 0:Int)=A.getD j 0,kd=kd,lm=lm,aq=aq,L=L,64*n=64*n,a=a,b=b,c=c,n=n,sc=sc,al=al,au=au,L.length=64*n,Fi.bh (A.getD j 0)]/\Q .normal (zK a b c n sc L al lm au ar kd (cw a b c n L au aq (A.getD j 0) kd) bl A (zd j y) (j+1)))else bif decide (fits prog.types[3]! (bl.length+1)=true)then bif decide (0+bl.length*1<=bl.length)then some (aw [(A.getD j 0:Int)=A.getD j 0,kd=kd,lm=lm,aq=aq,L=L,64*n=64*n,a=a,b=b,c=c,n=n,sc=sc,al=al,au=au,L.length=64*n,Fi.bh (A.getD j 0)]/\Q .normal (Z8 a b c n sc L al lm au ar kd (cw a b c n L au aq (A.getD j 0) kd) (List.take (bl.length*1) (List.drop 0 bl)++List.take 1 (List.drop 0 ((cx [0] 1).set 0 (i64.wrap (A.getD j 0))))) A y (j+1) (bl.length+1) (bl.length*1+1)))else none else none else some (aw []/\Q .normal (zK a b c n sc L al lm au ar kd aq bl A y (j+1)))
end
section
variable(a b c:Int)(n:Nat)(sc:Int)(L:aj)(al:Int)(lm:ak)(au ar kd:Int)(aq:ak)(bl A:aj)(y:Fi.bD)(Q:ag)
theorem Xw:wb a b c n sc L al lm au ar kd aq A y 0 Q=ot a b c n sc L al lm au ar kd aq A y 0 Q:=by kernel_rfl
theorem Y4:vJ a b c n sc L al lm au ar kd aq bl A y 0 Q=oA a b c n sc L al lm au ar kd aq bl A y 0 Q:=by kernel_rfl
theorem Yc:wb a b c n sc L al lm au ar kd aq A y 1 Q=ot a b c n sc L al lm au ar kd aq A y 1 Q:=by kernel_rfl
theorem Yr:vJ a b c n sc L al lm au ar kd aq bl A y 1 Q=oA a b c n sc L al lm au ar kd aq bl A y 1 Q:=by kernel_rfl
theorem XL:wb a b c n sc L al lm au ar kd aq A y 2 Q=ot a b c n sc L al lm au ar kd aq A y 2 Q:=by kernel_rfl
theorem XO:vJ a b c n sc L al lm au ar kd aq bl A y 2 Q=oA a b c n sc L al lm au ar kd aq bl A y 2 Q:=by kernel_rfl
theorem ZG:wb a b c n sc L al lm au ar kd aq A y 3 Q=ot a b c n sc L al lm au ar kd aq A y 3 Q:=by kernel_rfl
theorem ZC:vJ a b c n sc L al lm au ar kd aq bl A y 3 Q=oA a b c n sc L al lm au ar kd aq bl A y 3 Q:=by kernel_rfl
theorem ZE:wb a b c n sc L al lm au ar kd aq A y 4 Q=some (aw []/\Q (.exit 0) (Cq a b c n sc L al lm au ar kd aq A y 4)):=by kernel_rfl
theorem XQ:vJ a b c n sc L al lm au ar kd aq bl A y 4 Q=some (aw []/\Q (.exit 0) (zK a b c n sc L al lm au ar kd aq bl A y 4)):=by kernel_rfl
end
section
variable{a b c:Int}{n:Nat}{sc:Int}{L:aj}{al:Int}{lm:ak}{au ar kd:Int}{aq:ak}{bl A:aj}{y:Fi.bD}{Q:ag}
theorem Lz{j:Nat}(h:j<4):wb a b c n sc L al lm au ar kd aq A y j Q=ot a b c n sc L al lm au ar kd aq A y j Q:=by
 rcases (show j=0\/j=1\/j=2\/j=3 by omega)with rfl|rfl|rfl|rfl
 ·exact Xw ..
 ·exact Yc ..
 ·exact XL ..
 ·exact ZG ..
theorem Lk{j:Nat}(h:j<4):vJ a b c n sc L al lm au ar kd aq bl A y j Q=oA a b c n sc L al lm au ar kd aq bl A y j Q:=by
 rcases (show j=0\/j=1\/j=2\/j=3 by omega)with rfl|rfl|rfl|rfl
 ·exact Y4 ..
 ·exact Yr ..
 ·exact XO ..
 ·exact ZC ..
end
end Go.Sx
