import Derived.Test.YtfceckiklfkjkaaGreatS46
import Derived.Test.YtfceckiklfkjkaaGreatS39
import Derived.Test.YtfceckiklfkjkaaGreatS43
noncomputable section
open Go.Proofs Go.RowKit
set_option maxRecDepth 100000
open Go.IntKind(i64 u8 u64 u32 u16)
open Go.Proofs.Tryz
namespace Go.Sx.Ly
def hsQ(a b c:Int)(n:Nat)(sc:Int)(L:aj)(al:Int)(lm av:ak)(xs:List (Nat×ax)):T ax:=cG a b c n sc L al lm (.row 48 true none (.cells [.ptr 4 0])) [(4,.row 137 true none (.cells [.map 5,.any,.any])),(5,.aQ (some .i64) av)] xs
def af2(a b c:Int)(n:Nat)(sc:Int)(L:aj)(al:Int)(lm:ak)(xs:List (Nat×ax)):T ax:=cG a b c n sc L al lm (.row 29 true none (.cells [.ptr 0 0])) [] xs
def gsT(K k':Nat)(th:List Nat)(hs:List (Nat×ax)->T ax)(l:aj)(v:Bool)(ps:List Prop):GS:=match v with
 |false=>⟨6,th,iX K,hs [],6,hs [],.one (.c .bf),(l= [])::ps⟩
 |true=>⟨6,th,iX K,hs [],k',hs [(6,cj l)],.one (.c (.aC 6 1 0 l.length)),(l≠ [])::ps⟩
def BX(v:Bool):List RV->T ax->Nat->Option GS:=fun args hp _=>match args with
 | [.one (.c (.ptr nm 0)),.one (.c (.fn K [] [(cp,0)]))]=>match mH hp.get nm,bn hp.get cp with
  |some (a,b,c,L,_,n,sc,al,lm,nl,nw),some (_,_,_,.cells [.ptr nf 0])=>match K with
   | 123=>some (gsT 123 7 [nm,nl,nw,cp,1000000000,1000000001] (af2 a b c n sc L al lm) (bV (eL a b c n sc L) (aX a b c).toNat 0 []) v [L.length=64*n])
   | 105=>(match bn hp.get nf with
    |some (_,_,_,.cells [.map nn,_,_])=>match hp.get nn with
     |some (.aQ (some .i64) av)=>some (gsT 105 7 [nm,nl,nw,cp,nf,nn] (hsQ a b c n sc L al lm av) (bV (de a b c n sc L av) (aX a b c).toNat 0 []) v [L.length=64*n])
     |_=>none
    |_=>none)
   | 106=>(match bn hp.get nf with
    |some (_,_,_,.cells [.map nn,_,_])=>match hp.get nn with
     |some (.aQ (some .i64) av)=>some (gsT 106 7 [nm,nl,nw,cp,nf,nn] (hsQ a b c n sc L al lm av) (bV (cK a b c n sc L av) (aX a b c).toNat 0 []) v [L.length=64*n])
     |_=>none
    |_=>none)
   |_=>none
  |_,_=>none
 |_=>none
theorem A3(v:Bool)(args:List RV)(hp:T ax)(nx:Nat)(g:GS)(h:BX v args hp nx=some g)(bB:aw g.ps):cd prog 104 g.args g.k g.hs g.k' g.hs' g.v/\∀i x,g.hs.get i=some x->i<g.k:=by
 unfold BX at h;split at h<;>try(cases h;done)
 split at h<;>try(cases h;done)
 split at h<;>try(cases h;done)
 ·cases v with
  |false=>
   cases h;obtain⟨h1,h2,_⟩:=bB;exact⟨(uW h2 rfl).1 h1,fun i x hx=>qa hx⟩
  |true=>
   cases h;obtain⟨h1,h2,_⟩:=bB;exact⟨(uW h2 rfl).2 h1,fun i x hx=>qa hx⟩
 ·split at h<;>try(cases h;done)
  split at h<;>try(cases h;done)
  cases v with
  |false=>
   cases h;obtain⟨h1,h2,_⟩:=bB;exact⟨(ur h2 rfl).1 h1,fun i x hx=>qk hx⟩
  |true=>
   cases h;obtain⟨h1,h2,_⟩:=bB;exact⟨(ur h2 rfl).2 h1,fun i x hx=>qk hx⟩
 ·split at h<;>try(cases h;done)
  split at h<;>try(cases h;done)
  cases v with
  |false=>
   cases h;obtain⟨h1,h2,_⟩:=bB;exact⟨(uL h2 rfl).1 h1,fun i x hx=>pN hx⟩
  |true=>
   cases h;obtain⟨h1,h2,_⟩:=bB;exact⟨(uL h2 rfl).2 h1,fun i x hx=>pN hx⟩
theorem aap(v:Bool):aI prog 104 (cC (BX v)):=dT ⟨_,func104,rfl⟩ (A3 v)
def wi(v:Bool):FuncId->Option bg:=fun f=>match f with| 104=>some (cC (BX v))| 21=>some (mC w8)| 23=>some (lG HA)|_=>none
theorem ua(v:Bool):Fit prog (fun f=>(wi v f).map bj):=⟨bM,aV,aI.sum fun f sm h=>by
 unfold wi at h;split at h
 ·cases h;exact aap v
 ·cases h;exact sO
 ·cases h;exact DN
 ·cases h⟩
def Ci:Code:=gB 63
def jr:List RV:= [.one (.c (.ptr 0 0)),.one (.c (.ptr 3 0))]
def BM:T RV:=match setArgs 32 jr 0 .nil some with|some t=>t|none=> .nil
theorem BB:setArgs 32 jr 0 .nil some=some BM:=by kernel_rfl
theorem uu:f63.body=some Ci:=by kernel_rfl
def HC:Code:=match aG 3 Ci with| .block _ (.loop c)=>c|_=> .skip
def aen:S->List Nat:=fun s=>gg s.sl 2++gg s.sl 12
section
variable(a b c:Int)(n:Nat)(sc:Int)(st:St)(av:ak)(l:aj)(i:Int)
def uN(xs:List (Nat×ax)):T ax:=aN ([(0,.row 113 false none (.cells (tj a b c n sc st.2.2))),(1,.row 95 false (some 64) (.ints .u8 st.1 (64*n))),(2,.aQ none st.2.1),(3,.row 137 true none (.cells [.map 4,.any,.any])),(4,.aQ (some .i64) av)]++xs)
def slK(bc:Cell)(k:Nat)(i:Int):List (Nat×RV):= [(1,.one (.c (.ptr 3 0))),(2,.one (.c (.ptr 5 0))),(12,.one (.c bc)),(13,.one (.c (.int .i64 k))),(14,.one (.c (.int .i64 i)))]
def sKn:S:=aE [1,2,12,13,14] 32 ⟨aN (slK .bf 0 0),uN a b c n sc st av [(5,.row 29 false none (.cells [.ptr 0 0]))],6,[]⟩
def CS:S:=aE [1,2,12,13,14] 32 ⟨aN (slK (.aC 6 1 0 l.length) l.length i),uN a b c n sc st av [(5,.row 29 false none (.cells [.ptr 0 0])),(6,cj l)],7,[]⟩
def RK:S:=aE [] 32 ⟨.nil,uN a b c n sc st av [],5,[]⟩
def agi(M:S->Prop)(R:ah):ai:=dk prog (wi false) 300 32 3 Ci ⟨BM,uN a b c n sc st av [],5,[]⟩ aO (iR 5 [1,2,12,13,14] 32 [5] f63.results.toList prog M R)
def agJ(M:S->Prop)(R:ah):ai:=dk prog (wi true) 300 32 3 Ci ⟨BM,uN a b c n sc st av [],5,[]⟩ aO (iR 5 [1,2,12,13,14] 32 [5,6] f63.results.toList prog M R)
def agd(Q:ag):ai:=az prog (wi true) 300 32 HC (sKn a b c n sc st av) aO (bN 5 [] 32 (fun _=> []) Q)
def agz(Q:ag):ai:=az prog (wi true) 300 32 HC (CS a b c n sc st av l i) aO (bN 5 [1,2,12,13,14] 32 aen Q)
def abw(a b c:Int)(n:Nat)(sc:Int)(st:St)(av:ak)(M:S->Prop)(R:ah):ai:=some ((aw [st.2.1=st.2.1,st.1=st.1,64*n=64*n,a=a,b=b,c=c,n=n,sc=sc,st.2.2=st.2.2,bV (eL a b c n sc st.1) (aX a b c).toNat 0 []= [],st.1.length=64*n]/\M (sKn a b c n sc st av)))
theorem OA(a b c:Int)(n:Nat)(sc:Int)(st:St)(av:ak)(M:S->Prop)(R:ah):agi a b c n sc st av M R=abw a b c n sc st av M R:=by kernel_rfl
def aag(a b c:Int)(n:Nat)(sc:Int)(st:St)(av:ak)(M:S->Prop)(R:ah):ai:=some ((aw [st.2.1=st.2.1,st.1=st.1,64*n=64*n,a=a,b=b,c=c,n=n,sc=sc,st.2.2=st.2.2,bV (eL a b c n sc st.1) (aX a b c).toNat 0 []≠ [],st.1.length=64*n]/\M (CS a b c n sc st av (bV (eL a b c n sc st.1) (aX a b c).toNat 0 []) 0)))
theorem Ou(a b c:Int)(n:Nat)(sc:Int)(st:St)(av:ak)(M:S->Prop)(R:ah):agJ a b c n sc st av M R=aag a b c n sc st av M R:=by kernel_rfl
def ZR(a b c:Int)(n:Nat)(sc:Int)(st:St)(av:ak)(Q:ag):ai:=some ((aw []/\Q (X.exit 0) (RK a b c n sc st av)))
theorem Ow(a b c:Int)(n:Nat)(sc:Int)(st:St)(av:ak)(Q:ag):agd a b c n sc st av Q=ZR a b c n sc st av Q:=by kernel_rfl
def abu(a b c:Int)(n:Nat)(sc:Int)(st:St)(av:ak)(l:aj)(i:Int)(Q:ag):ai:=(bif decide (i<(l.length:Int))then((bif decide (l.length≠0)then((bif decide (0<=i/\i<(l.length:Int))then((bif decide (0+i.toNat*1<l.length)then((bif !decide (bp av (l.getD (0+i.toNat*1) 0)>0)then(some ((aw [st.1.length=64*n,64*n=64*n,st.1.length=64*n,64*n=64*n]/\Q (X.normal) (CS a b c n sc (c4 a b c n sc st (l.getD (0+i.toNat*1) 0) {k:=0,l:=0,s:=0,d0:=0,d1:=0,d2:=0,d3:=0,sg:=0,db:=0}).2 av l (i64.wrap (i+1))))))else(some ((aw [st.1.length=64*n,64*n=64*n,st.1.length=64*n,64*n=64*n]/\Q (X.normal) (CS a b c n sc (c4 a b c n sc st (l.getD (0+i.toNat*1) 0) {k:=(aW a b c st.1 n (l.getD (0+i.toNat*1) 0)).k,l:=u8.wrap (bp av (l.getD (0+i.toNat*1) 0)),s:=(aW a b c st.1 n (l.getD (0+i.toNat*1) 0)).s,d0:=(aW a b c st.1 n (l.getD (0+i.toNat*1) 0)).d0,d1:=(aW a b c st.1 n (l.getD (0+i.toNat*1) 0)).d1,d2:=(aW a b c st.1 n (l.getD (0+i.toNat*1) 0)).d2,d3:=(aW a b c st.1 n (l.getD (0+i.toNat*1) 0)).d3,sg:=(aW a b c st.1 n (l.getD (0+i.toNat*1) 0)).sg,db:=(aW a b c st.1 n (l.getD (0+i.toNat*1) 0)).db}).2 av l (i64.wrap (i+1))))))))else none))else none))else none))else(some ((aw []/\Q (X.exit 0) (CS a b c n sc st av l i)))))
theorem C4(a b c:Int)(n:Nat)(sc:Int)(st:St)(av:ak)(l:aj)(i:Int)(Q:ag):agz a b c n sc st av l i Q=abu a b c n sc st av l i Q:=by kernel_rfl
theorem I1:ba prog 32 (RK a b c n sc st av) f63.results.toList=some []/\(RK a b c n sc st av).hp=uN a b c n sc st av []/\(RK a b c n sc st av).nx=5:=⟨by kernel_rfl,by kernel_rfl,by kernel_rfl⟩
theorem af7:nr 5 [] [] [] 32 [] (CS a b c n sc st av l i)=some (RK a b c n sc st av):=by kernel_rfl
end
def j6(av:ak)(i:Int)(y:Fi.bD):Fi.bD:=if bp av i>0 then {y with l:=u8.wrap (bp av i)}else Fi.bD.zero
def fe(a b c:Int)(n:Nat)(sc:Int)(av:ak)(st:St):St:=rk a b c n sc (j6 av) (bV (eL a b c n sc st.1) (aX a b c).toNat 0 []) st
section
variable{a b c:Int}{n:Nat}{sc:Int}{st:St}{av:ak}{l:aj}
theorem aaZ{i:Int}{y:Fi.bD}(h:gW y):gW (j6 av i y):=by
 unfold j6;split
 ·exact⟨h.k,by rw[show u8.wrap (bp av i)=bp av i % 256 from Sx.wrap_u8 _];constructor<;>(show _;simp only;omega),h.s,h.d0,h.d1,h.d2,h.d3,h.sg,h.db⟩
 ·exact⟨⟨by decide,by decide⟩,⟨by decide,by decide⟩,⟨by decide,by decide⟩,Fi.u0,Fi.u0,Fi.u0,Fi.u0,Fi.u0,Fi.u0⟩
theorem Ub{i:Int}{y:Fi.bD}(hl:st.1.length=64*n):(c4 a b c n sc st i y).2.1.length=64*n:=by
 unfold c4;split
 ·exact fR hl (jF hl)
 ·exact hl
theorem Ka{s0:S}(bP:s0.nx=5)(hb:l.length<=1000){Q:ag}: ∀(k j:Nat) (st:St),j+k=l.length->st.1.length=64*n->
  Q (.exit 0) (CS a b c n sc (rk a b c n sc (j6 av) (l.drop j) st) av l l.length)->TO prog 32 [] [] s0 (.loop HC) (CS a b c n sc st av l j) Q
 | 0,j,st,hj,hl,hQ=>by
  obtain rfl:j=l.length:=by omega
  rw[List.drop_length]at hQ;exact TO.loop (TO.aP (ua true) (k0:=5) bP (.of_eq (C4 ..) (.no (by simp) ⟨trivial,hQ⟩)))
 |k+1,j,st,hj,hl,hQ=>by
  have hjl:j<l.length:=by omega
  have hd:l.drop j=l.getD j 0::l.drop (j+1):=by
   rw[List.drop_eq_getElem_cons hjl];simp[List.getD,List.getElem?_eq_getElem hjl]
  rw[hd]at hQ;have next:=Ka bP hb k (j+1) (c4 a b c n sc st (l.getD j 0) (j6 av (l.getD j 0) (aW a b c st.1 n (l.getD j 0)))).2 (by omega) (Ub hl) hQ
  have hw:i64.wrap ((j:Int)+1)=((j+1:Nat):Int):=by rw[IntWalk.i64_in _ (by omega)];simp
  refine TO.loop (TO.aP (ua true) (k0:=5) bP (.of_eq (C4 ..) (.yes (decide_eq_true (by omega)) (.aZ (decide_eq_true (by omega)) (.aZ (decide_eq_true (by omega)) (.aZ (decide_eq_true (by omega)) ?_))))))
  rw[show 0+(j:Int).toNat*1=j by simp,hw]
  refine .fork (fun h=>⟨⟨hl,rfl,hl,rfl,trivial⟩,?_⟩) (fun h=>⟨⟨hl,rfl,hl,rfl,trivial⟩,?_⟩)
  ·have e: ∀y,j6 av (l.getD j 0) y=⟨0,0,0,0,0,0,0,0,0⟩:=fun y=>by unfold j6;rw[if_neg (by simpa using h)];rfl
   rw[e]at next
   exact next
  ·have e: ∀y,j6 av (l.getD j 0) y= {y with l:=u8.wrap (bp av (l.getD j 0))}:=fun y=>by unfold j6;rw[if_pos (by simpa using h)]
   rw[e]at next
   exact next
theorem Q8{i:Nat}{x:ax}(h:(uN a b c n sc st av []).get i=some x):i<5:=fv (k:=5) (fun p hp=>by
 simp only[List.append_nil,List.mem_cons,List.not_mem_nil,or_false]at hp;rcases hp with rfl|rfl|rfl|rfl|rfl<;>simp) h
theorem wh:0<=aX a b c/\aX a b c<=192:=by
 unfold aX;split
 ·rename_i hg;have:=fX hg;omega
 ·omega
theorem Br(hl:st.1.length=64*n):cd prog 63 jr 5 (uN a b c n sc st av []) 5 (uN a b c n sc (fe a b c n sc av st) av []) (.aF []):=by
 refine TO.c8 (fn:=f63) (c:=Ci) func63 uu [] (fq fun i x h=>Q8 h) BB ?_
 by_cases hn:bV (eL a b c n sc st.1) (aX a b c).toNat 0 []= []
 ·have e:fe a b c n sc av st=st:=by unfold fe;rw[hn];rfl
  rw[e];refine TO.eZ (ua false) (m:=3) (k0:=5) rfl (aH:= [1,2,12,13,14]) (ord:= [5]) f63.results.toList (.of_eq (OA ..) ⟨⟨rfl,rfl,rfl,rfl,rfl,rfl,rfl,rfl,rfl,hn,hl,trivial⟩,?_⟩);refine TO.block (id:=0) (c:= .loop HC) (TO.loop (TO.aP (ua true) (k0:=5) rfl (.of_eq (Ow ..) ⟨trivial,?_⟩)));simp only[fS,if_true];obtain⟨e1,e2,e3⟩:=I1 a b c n sc st av;exact⟨by simp,_,e1,rfl,e2,e3⟩
 ·refine TO.eZ (ua true) (m:=3) (k0:=5) rfl (aH:= [1,2,12,13,14]) (ord:= [5,6]) f63.results.toList (.of_eq (Ou ..) ⟨⟨rfl,rfl,rfl,rfl,rfl,rfl,rfl,rfl,rfl,hn,hl,trivial⟩,?_⟩);have hlen:=Av (P:=eL a b c n sc st.1) (m:=(aX a b c).toNat) (i:=0) (l:= []);have hle:=wh (a:=a) (b:=b) (c:=c);simp only[List.length_nil]at hlen;refine TO.gc [] [] (TO.block (id:=0) (c:= .loop HC) (Ka rfl (by omega) (bV (eL a b c n sc st.1) (aX a b c).toNat 0 []).length 0 st (by omega) hl ?_))
  simp only[if_true];obtain⟨e1,e2,e3⟩:=I1 a b c n sc (fe a b c n sc av st) av;exact⟨_,af7 ..,by simp,_,e1,rfl,e2,e3⟩
end
def E63:List RV->T ax->Nat->Option GS:=fun args hp _=>match args with
 | [.one (.c (.ptr nm 0)),.one (.c (.ptr nf 0))]=>match mH hp.get nm,bn hp.get nf with
  |some (a,b,c,L,_,n,sc,al,lm,nl,nw),some (_,_,_,.cells [.map nn,_,_])=>match hp.get nn with
   |some (.aQ (some .i64) av)=>some ⟨5,[nm,nl,nw,nf,nn],jr,uN a b c n sc (L,lm,al) av [],5,uN a b c n sc (fe a b c n sc av (L,lm,al)) av [],.aF [],[L.length=64*n]⟩
   |_=>none
  |_,_=>none
 |_=>none
theorem ZP:aI prog 63 (cC E63):=dT ⟨_,func63,rfl⟩ fun args hp nx g h bB=>by
 unfold E63 at h;split at h<;>try(cases h;done)
 split at h<;>try(cases h;done)
 split at h<;>try(cases h;done)
 cases h;exact⟨Br bB.1,fun i x hx=>Q8 hx⟩
def MB:FuncId->Option bg:=fun f=>match f with| 121=>some tZ|_=>none
theorem ab3:Fit prog (fun f=>(MB f).map bj):=⟨bM,aV,aI.sum fun f sm h=>by
 unfold MB at h;split at h
 ·cases h;exact Fj
 ·cases h⟩
def FB:FuncId->Option bg:=fun f=>match f with| 186=>some xM| 271=>some As|_=>none
theorem XM:Fit prog (fun f=>(FB f).map bj):=⟨bM,aV,aI.sum fun f sm h=>by
 unfold FB at h;split at h
 ·cases h;exact HU
 ·cases h;exact LK
 ·cases h⟩
def Wg:Code:=gB 62
def Tp:T RV:=match setArgs 11 mQ 0 .nil some with|some t=>t|none=> .nil
theorem X8:setArgs 11 mQ 0 .nil some=some Tp:=by kernel_rfl
theorem Pt:f62.body=some Wg:=by kernel_rfl
section
variable(a b c:Int)(n:Nat)(sc:Int)(st:St)(L:aj)(al:Int)(lm:ak)(x:Int×Int)(l:aj)(m:Nat)
def wV:S:=aE [2] 11 ⟨aN [(2,.one (.c .bf))],ca a b c n sc st,3,[]⟩
def IW:S:=aE [2] 11 ⟨aN [(2,.one (.c (.aC 3 1 0 m)))],aN [(0,.row 113 false none (.cells (tj a b c n sc st.2.2))),(1,.row 95 false (some 64) (.ints .u8 st.1 (64*n))),(2,.aQ none st.2.1),(3,.row 3 false (some 1) (.ints .i64 l m))],4,[]⟩
def afx(Q:ag):ai:=az prog FB 300 11 Wg ⟨Tp,ca a b c n sc (L,[],al),3,[]⟩ aO (bN 3 [2] 11 (fun s=>gg s.sl 2) Q)
def afI(Q:ag):ai:=az prog MB 300 11 Wg ⟨Tp,ca a b c n sc (L,x::lm,al),3,[]⟩ aO (bN 3 [2] 11 (fun s=>gg s.sl 2) Q)
def acE(a b c:Int)(n:Nat)(sc:Int)(L:aj)(al:Int)(Q:ag):ai:=some ((aw [([]:ak)= []]/\Q (X.ret) (wV a b c n sc (L,[],al))))
theorem P5(a b c:Int)(n:Nat)(sc:Int)(L:aj)(al:Int)(Q:ag):afx a b c n sc L al Q=acE a b c n sc L al Q:=by kernel_rfl
def ab8(a b c:Int)(n:Nat)(sc:Int)(L:aj)(al:Int)(lm:ak)(x:Int×Int)(Q:ag):ai:=some ((aw [x::lm≠ [],(x::lm).length<=1000000,∀(p:Int×Int),p∈x::lm->(Lit.int i64 p.1).wf=true]/\Q (X.ret) (IW a b c n sc (L,x::lm,al) (nP (List.map (fun x=>x.1) (x::lm))) (x::lm).length)))
theorem QR(a b c:Int)(n:Nat)(sc:Int)(L:aj)(al:Int)(lm:ak)(x:Int×Int)(Q:ag):afI a b c n sc L al lm x Q=ab8 a b c n sc L al lm x Q:=by kernel_rfl
def P7:S:=aE [2] 11 ⟨aN [(2,.one (.c (.dI l)))],ca a b c n sc st,3,[]⟩
theorem Yi:ba prog 11 (P7 a b c n sc st l) f62.results.toList=some [.c (.dI l)]/\(P7 a b c n sc st l).hp=ca a b c n sc st/\(P7 a b c n sc st l).nx=3:=⟨by kernel_rfl,by kernel_rfl,by kernel_rfl⟩
theorem gWn:(wV a b c n sc st).sl.get 2=some (.one (.c .bf)):=by kernel_rfl
theorem gWr:(IW a b c n sc st l m).hp.get 3=some (.row 3 false (some 1) (.ints .i64 l m))/\(IW a b c n sc st l m).sl.get 2=some (.one (.c (.aC 3 1 0 m))):=⟨by kernel_rfl,by kernel_rfl⟩
theorem cWn:nr 3 [] [] [2] 11 [] (Sx.ub 2 (wV a b c n sc st))=some (P7 a b c n sc st []):=by kernel_rfl
theorem cWr:nr 3 [] [] [2] 11 [] (Sx.tW 3 2 l (IW a b c n sc st l m))=some (P7 a b c n sc st l):=by kernel_rfl
end
def qo(lm:ak):List Int:=nP (lm.map (·.1))
structure mM(n:Nat)(st:St):Prop where
 nod:(fp st.2.1).Nodup
 key: ∀x∈fp st.2.1,0<=x/\x<n
section
variable{a b c:Int}{n:Nat}{sc:Int}{st:St}
theorem mM.len (h:mM n st):st.2.1.length<=n:=by
 have:=EP n ((fp st.2.1).map (· +1)) (by
  have:=h.nod;rw[List.nodup_iff_pairwise_ne]at this ⊢;rw[List.pairwise_map];exact this.imp fun bT e=>bT (by omega)) (fun x hx=>by
  obtain⟨y,hy,rfl⟩:=List.mem_map.1 hx;have:=h.key y hy;omega)
 simpa[fp]using this
theorem mM.wr {g k:Int}{p:aj}(h:mM n st):mM n (fP a b c n sc st g k p):=by
 refine te (Q:=fun r=>mM n (r.2.1,r.2.2.1,r.2.2.2)) (fun _=>⟨h.nod,h.key⟩) (fun _ _ _=>⟨h.nod,h.key⟩) (fun _ _=>⟨h.nod,h.key⟩) (fun _ _ _=>⟨h.nod,h.key⟩) fun hs _=> ?_
 obtain⟨h0,h1⟩:=dU.1 hs;have e:=ug st.2.1 g 1;constructor
 ·show(fp (bC st.2.1 g 1)).Nodup;rw[e];split
  ·exact h.nod
  ·rename_i hn;rw[List.nodup_append];exact⟨h.nod,by simp,fun x hx y hy=>by rw[List.mem_singleton.1 hy];rintro rfl;exact hn hx⟩
 ·show∀x∈fp (bC st.2.1 g 1),_;rw[e];intro x hx;split at hx
  ·exact h.key x hx
  ·rcases List.mem_append.1 hx with hx|hx
   ·exact h.key x hx
   ·rw[List.mem_singleton.1 hx];exact⟨h0,h1⟩
theorem mM.VN {i:Int}{y:Fi.bD}(h:mM n st):mM n (c4 a b c n sc st i y).2:=by
 unfold c4;split
 ·exact h.wr
 ·exact h
theorem Zq(hn:n<=140)(h:mM n st):cd prog 62 mQ 3 (ca a b c n sc st) 3 (ca a b c n sc st) (.one (.c (.dI (qo st.2.1)))):=by
 refine TO.c8 (fn:=f62) (c:=Wg) func62 Pt [] (fq fun i x hx=>v7 hx) X8 ?_
 have hl:=h.len;have hk:=h.key;obtain⟨e1,e2,e3⟩:=Yi a b c n sc st (qo st.2.1);obtain⟨L,lm,al⟩:=st;simp only at hl hk;cases lm with
 |nil=>
  refine TO.gc [2] [] (TO.Sv (Q':=fun x s'=>x= .ret/\s'=wV a b c n sc (L,[],al)) (TO.aP XM (k0:=3) rfl (.of_eq (P5 ..) ⟨⟨rfl,trivial⟩,rfl,rfl⟩)) fun x s' ⟨hx,hs⟩=>⟨Sx.ub 2 (wV a b c n sc (L,[],al)),by rw[hs];exact dJ.ub 2 (gWn ..),_,cWn ..,.inr hx,?_⟩)
  have e:qo []= []:=by unfold qo nP;simp
  simp only[e]at e1 e2 e3 ⊢;exact⟨_,e1,rfl,e2,e3⟩
 |cons x lm=>
  refine TO.gc [2] [] (TO.Sv (Q':=fun y s'=>y= .ret/\s'=IW a b c n sc (L,x::lm,al) (qo (x::lm)) (x::lm).length) (TO.aP ab3 (k0:=3) rfl (.of_eq (QR ..) ⟨⟨by simp,by omega,fun p hp=> ?_,trivial⟩,rfl,rfl⟩)) fun y s' ⟨hx,hs⟩=>⟨Sx.tW 3 2 (qo (x::lm)) (IW a b c n sc (L,x::lm,al) (qo (x::lm)) (x::lm).length),by rw[hs];exact dJ.tW 3 2 (gWr ..).1 (gWr ..).2 (by simp),_,cWr ..,.inr hx,?_⟩)
  ·have:=hk p.1 (List.mem_map_of_mem hp);unfold Lit.wf;simp[IntKind.min,IntKind.max,IntKind.signed,IntKind.bits];omega
  ·exact⟨_,e1,rfl,e2,e3⟩
end
def Z1:List RV->T ax->Nat->Option GS:=fun args hp _=>match args with
 | [.one (.c (.ptr nm 0))]=>match mH hp.get nm with
  |some (a,b,c,L,_,n,sc,al,lm,nl,nw)=>some ⟨3,[nm,nl,nw],mQ,ca a b c n sc (L,lm,al),3,ca a b c n sc (L,lm,al),.one (.c (.dI (qo lm))),[n<=140,mM n (L,lm,al)]⟩
  |none=>none
 |_=>none
theorem abW:aI prog 62 (cC Z1):=dT ⟨_,func62,rfl⟩ fun args hp nx g h bB=>by
 unfold Z1 at h;split at h<;>try(cases h;done)
 split at h<;>try(cases h;done)
 cases h;obtain⟨h1,h2,_⟩:=bB;exact⟨Zq h1 h2,fun i x hx=>v7 hx⟩
end Go.Sx.Ly
