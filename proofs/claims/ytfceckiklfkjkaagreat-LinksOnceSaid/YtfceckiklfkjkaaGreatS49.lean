import Derived.Test.YtfceckiklfkjkaaGreatS47
import Derived.Test.YtfceckiklfkjkaaGreatS48
noncomputable section
open Go.Proofs Go.RowKit
set_option maxRecDepth 100000
open Go.IntKind(i64 u8 u64 u32 u16)
open Go.Proofs.Tryz
namespace Go.Sx.Ly
def Lp(v1 v2:Bool):List RV->T ax->Nat->Option GS:=fun args hp nx=>match args with
 | [x,.one (.c (.fn K fs [(cp,o)]))]=>match K with
  | 105=>BX v1 [x,.one (.c (.fn 105 fs [(cp,o)]))] hp nx
  | 106=>BX v2 [x,.one (.c (.fn 106 fs [(cp,o)]))] hp nx
  |_=>none
 |_=>none
theorem Zi(v1 v2:Bool):aI prog 104 (cC (Lp v1 v2)):=dT ⟨_,func104,rfl⟩ fun args hp nx g h bB=>by
 unfold Lp at h;split at h<;>try(cases h;done)
 split at h<;>try(cases h;done)
 ·exact A3 v1 _ _ _ _ h bB
 ·exact A3 v2 _ _ _ _ h bB
def iH(v v1 v2:Bool):FuncId->Option bg:=fun f=>match f with
 | 29=>some (aL Fi.DQ)| 28=>some (cC (E28 v))| 30=>some (cC ERu)| 63=>some (cC E63)| 62=>some (cC Z1)| 104=>some (cC (Lp v1 v2))| 52=>some (aL nE)| 44=>some sI| 74=>some so|_=>none
theorem gk(v v1 v2:Bool):Fit prog (fun f=>(iH v v1 v2 f).map bj):=⟨bM,aV,aI.sum fun f sm h=>by
 unfold iH at h;split at h
 ·cases h;exact Fi.EM Ks
 ·cases h;exact aaP v
 ·cases h;exact adk
 ·cases h;exact ZP
 ·cases h;exact abW
 ·cases h;exact Zi v1 v2
 ·cases h;exact Ah.sum ⟨_,func52,rfl⟩
 ·cases h;exact pE
 ·cases h;exact wT
 ·cases h⟩
def c9:Code:=gB 9
def VR(cl:Cell)(sc:Int):List RV:= [.one (.c cl),.one (.c (.int .u32 sc))]
def CL(cl:Cell)(sc:Int):T RV:=match setArgs 104 (VR cl sc) 0 .nil some with|some t=>t|none=> .nil
theorem u6(cl:Cell)(sc:Int):setArgs 104 (VR cl sc) 0 .nil some=some (CL cl sc):=by kernel_rfl
theorem oW:f9.body=some c9:=by kernel_rfl
def Sz:Code:=match gR (gL (aG 8 c9))with| .block _ (.loop c)=>c|_=> .skip
def Ux:Code:=match gR (gL (aG 12 c9))with| .block _ (.loop c)=>c|_=> .skip
section
variable(off:Nat)(G:aj)(n cap:Nat)(a b c sc:Int)(st:St)(aq av:ak)(ds:aj)(k o i:Int)(l L L':aj)(m1 m2:Nat)
def RB:S:=⟨CL (.sl 0 off n cap) sc,aN [(0,.dK off .u8 G),(1,.dK off .u8 G)],2,[]⟩
def hsI(xs:List (Nat×ax)):T ax:=aN ([(0,.dK off .u8 G),(1,.dK off .u8 G),(2,Q3 a b c sc n st.2.2 3 4),(3,qY st.1 n),(4,.aQ none st.2.1)]++xs)
def PB(xs:List (Nat×ax)):T ax:=hsI off G n a b c sc st ([(5,.row 137 false none (.cells [.map 7,.map 6,.dI ds])),(6,.aQ (some .i64) aq),(7,.aQ (some .i64) av)]++xs)
def sA:S:=aE [5] 104 ⟨aN [(5,.one (.c (.ptr 2 0)))],hsI off G n a b c sc st [],5,[]⟩
def RM(k o:Int):List (Nat×RV):= [(5,.one (.c (.ptr 2 0))),(8,.one (.c (.ptr 5 0))),(9,.one (.c (.int .i64 k))),(10,.one (.c (.int .i64 o)))]
def sB:S:=aE [5,8,9,10] 104 ⟨aN (RM k o),PB off G n a b c sc st aq av ds [],8,[]⟩
def Rw:S:=aE [5,8,9,10,11] 104 ⟨aN (RM k o++ [(11,.one (.c .bf))]),PB off G n a b c sc st aq av ds [],8,[]⟩
def CB:S:=aE [5,8,9,10,11] 104 ⟨aN (RM k o++ [(11,.one (.c (.aC 8 1 0 m1)))]),PB off G n a b c sc st aq av ds [(8,.row 3 false (some 1) (.ints .i64 l m2))],9,[]⟩
def sC:S:=aE [5,8,9,10,11] 104 ⟨aN (RM k o++ [(11,.one (.c (.dI l)))]),PB off G n a b c sc st aq av ds [],8,[]⟩
def sD:S:=aE [5,8,9,10,11,12] 104 ⟨aN (RM k o++ [(11,.one (.c (.dI l))),(12,.one (.c (.int .i64 i)))]),PB off G n a b c sc st aq av ds [],8,[]⟩
def dR(k o:Int)(n:Nat):List (Nat×RV):= [(5,.one (.c (.ptr 2 0))),(9,.one (.c (.int .i64 k))),(10,.one (.c (.int .i64 o))),(15,.one (.c (.aC 5 64 0 n))),(16,.one (.c (.aC 6 64 0 n)))]
def D3(xs:List (Nat×ax)):T ax:=hsI off G n a b c sc st ([(5,qY L n),(6,qY L' n)]++xs)
def sEe:S:=aE [5,9,10,15,16] 104 ⟨aN (dR k o n),D3 off G n a b c sc st L L' [],7,[]⟩
def Cg:S:=aE [5,9,10,15,16,17] 104 ⟨aN (dR k o n++ [(17,.one (.c (.int .i64 i)))]),D3 off G n a b c sc st L L' [],7,[]⟩
def i9y(M:S->Prop)(R:ah):ai:=dk prog (iH true true true) 300 104 4 c9 (RB off G n cap sc) aO (iR 2 [5] 104 [2,3,4] f9.results.toList prog M R)
def i9n(M:S->Prop)(R:ah):ai:=dk prog (iH false true true) 300 104 4 c9 (RB off G n cap sc) aO (iR 2 [5] 104 [] f9.results.toList prog M R)
def p9b(M:S->Prop)(R:ah):ai:=dk prog (iH true true true) 300 104 3 (aG 4 c9) (sA off G n a b c sc st) aO (iR 2 [5,8,9,10] 104 [2,3,4,5,6,7] f9.results.toList prog M R)
def afw(Q:ag):ai:=az prog (iH true false false) 300 104 (gL (aG 7 c9)) (sB off G n a b c sc st aq av ds k o) aO (bN 2 [5,8,9,10,11] 104 (fun s=> [2,3,4,5,6,7]++gg s.sl 11) Q)
def agO(Q:ag):ai:=az prog (iH true false true) 300 104 (gL (aG 7 c9)) (sB off G n a b c sc st aq av ds k o) aO (bN 2 [5,8,9,10,11] 104 (fun s=> [2,3,4,5,6,7]++gg s.sl 11) Q)
def afq(Q:ag):ai:=az prog (iH true true false) 300 104 (gL (aG 7 c9)) (sB off G n a b c sc st aq av ds k o) aO (bN 2 [5,8,9,10,11] 104 (fun s=> [2,3,4,5,6,7]++gg s.sl 11) Q)
def agb(Q:ag):ai:=az prog (iH true true true) 300 104 (gL (aG 7 c9)) (sB off G n a b c sc st aq av ds k o) aO (bN 2 [5,8,9,10,11] 104 (fun s=> [2,3,4,5,6,7]++gg s.sl 11) Q)
def p9d(Q:ag):ai:=az prog (iH true true true) 300 104 (gL (gL (aG 8 c9))) (sC off G n a b c sc st aq av ds k o l) aO (bN 2 [5,8,9,10,11,12] 104 (fun _=> [2,3,4,5,6,7]) Q)
def r9a(Q:ag):ai:=az prog (iH true true true) 300 104 Sz (sD off G n a b c sc st aq av ds k o i l) aO (bN 2 [5,8,9,10,11,12] 104 (fun _=> [2,3,4,5,6,7]) Q)
def p9e(M:S->Prop)(R:ah):ai:=dk prog (iH true true true) 300 104 3 (aG 9 c9) (sD off G n a b c sc st aq av ds k o i l) aO (iR 2 [5,9,10,15,16] 104 [2,3,4,8,9] f9.results.toList prog M R)
def p9f(Q:ag):ai:=az prog (iH true true true) 300 104 (gL (gL (aG 12 c9))) (sEe off G n a b c sc st k o L L') aO (bN 2 [5,9,10,15,16,17] 104 (fun _=> [2,3,4,5,6]) Q)
def r9b(Q:ag):ai:=az prog (iH true true true) 300 104 Ux (Cg off G n a b c sc st k o i L L') aO (bN 2 [5,9,10,15,16,17] 104 (fun _=> [2,3,4,5,6]) Q)
def p9g(R:ah):ai:=az prog (iH true true true) 300 104 (aG 13 c9) (Cg off G n a b c sc st k o i L L') aO (fun x s Z=>some (aw Z.ob/\R x (ba prog 104 s f9.results.toList)))
def adO(off:Nat)(G:aj)(n cap:Nat)(sc:Int)(M:S->Prop)(R:ah):ai:=some ((aw [off=off,n=n,cap=cap,sc=sc,true=true,off=off,G=G,off=off,G.length=64*n,n<=cap,n≠0,Bytes G,cF sc,cM (List.take (64*aS n) G) (aS n)=true]/\M (sA off G (aS n) (bO (List.take (64*aS n) G) (aS n) 4) (bO (List.take (64*aS n) G) (aS n) 6) (bO (List.take (64*aS n) G) (aS n) 8) sc (CP (bO (List.take (64*aS n) G) (aS n) 4) (bO (List.take (64*aS n) G) (aS n) 6) (bO (List.take (64*aS n) G) (aS n) 8) (aS n) sc (List.take (64*aS n) G)))))
theorem SO(off:Nat)(G:aj)(n cap:Nat)(sc:Int)(M:S->Prop)(R:ah):i9y off G n cap sc M R=adO off G n cap sc M R:=by kernel_rfl
def aeN(off:Nat)(G:aj)(n cap:Nat)(sc:Int)(M:S->Prop)(R:ah):ai:=some ((aw [off=off,n=n,cap=cap,sc=sc,true=true,off=off,G=G,off=off,G.length=64*n,n<=cap,n≠0,Bytes G,cM (List.take (64*aS n) G) (aS n)=false]/\R (X.ret) (some [AV.c (Cell.bool true)])))
theorem S8(off:Nat)(G:aj)(n cap:Nat)(sc:Int)(M:S->Prop)(R:ah):i9n off G n cap sc M R=aeN off G n cap sc M R:=by kernel_rfl
def VI(off:Nat)(G:aj)(n:Nat)(a b:Int)(c sc:Int)(st:St)(M:S->Prop)(R:ah):ai:=some ((aw [(fe a b c n sc (eT a b c n sc st).2.2.1 (eT a b c n sc st).1).2.1=(fe a b c n sc (eT a b c n sc st).2.2.1 (eT a b c n sc st).1).2.1,(fe a b c n sc (eT a b c n sc st).2.2.1 (eT a b c n sc st).1).1=(fe a b c n sc (eT a b c n sc st).2.2.1 (eT a b c n sc st).1).1,64*n=64*n,a=a,b=b,c=c,n=n,sc=sc,(fe a b c n sc (eT a b c n sc st).2.2.1 (eT a b c n sc st).1).2.2=(fe a b c n sc (eT a b c n sc st).2.2.1 (eT a b c n sc st).1).2.2,n<=140,mM n (fe a b c n sc (eT a b c n sc st).2.2.1 (eT a b c n sc st).1),(eT a b c n sc st).2.2.1=(eT a b c n sc st).2.2.1,(eT a b c n sc st).1.2.1=(eT a b c n sc st).1.2.1,(eT a b c n sc st).1.1=(eT a b c n sc st).1.1,64*n=64*n,a=a,b=b,c=c,n=n,sc=sc,(eT a b c n sc st).1.2.2=(eT a b c n sc st).1.2.2,(eT a b c n sc st).1.1.length=64*n,st.2.1=st.2.1,st.1=st.1,64*n=64*n,a=a,b=b,c=c,n=n,sc=sc,st.2.2=st.2.2,(n:Int)=2+a*(2+b+c),aY a b c=true,j4 n st]/\M (sB off G n a b c sc (fe a b c n sc (eT a b c n sc st).2.2.1 (eT a b c n sc st).1) (eT a b c n sc st).2.1 (eT a b c n sc st).2.2.1 (eT a b c n sc st).2.2.2.2 ((qo (fe a b c n sc (eT a b c n sc st).2.2.1 (eT a b c n sc st).1).2.1).length:Int) (fe a b c n sc (eT a b c n sc st).2.2.1 (eT a b c n sc st).1).2.2)))
theorem Uo(off:Nat)(G:aj)(n:Nat)(a b:Int)(c sc:Int)(st:St)(M:S->Prop)(R:ah):p9b off G n a b c sc st M R=VI off G n a b c sc st M R:=by kernel_rfl
def acF(off:Nat)(G:aj)(n:Nat)(a b:Int)(c sc:Int)(st:St)(aq av:ak)(ds:aj)(k o:Int)(Q:ag):ai:=some ((aw [av=av,st.2.1=st.2.1,st.1=st.1,64*n=64*n,a=a,b=b,c=c,n=n,sc=sc,st.2.2=st.2.2,bV (cK a b c n sc st.1 av) (aX a b c).toNat 0 []= [],st.1.length=64*n,av=av,st.2.1=st.2.1,st.1=st.1,64*n=64*n,a=a,b=b,c=c,n=n,sc=sc,st.2.2=st.2.2,bV (de a b c n sc st.1 av) (aX a b c).toNat 0 []= [],st.1.length=64*n]/\Q (X.normal) (Rw off G n a b c sc st aq av ds k o)))
theorem PJ(off:Nat)(G:aj)(n:Nat)(a b:Int)(c sc:Int)(st:St)(aq av:ak)(ds:aj)(k o:Int)(Q:ag):afw off G n a b c sc st aq av ds k o Q=acF off G n a b c sc st aq av ds k o Q:=by kernel_rfl
def aaN(off:Nat)(G:aj)(n:Nat)(a b:Int)(c sc:Int)(st:St)(aq av:ak)(ds:aj)(k o:Int)(Q:ag):ai:=(bif decide ((bV (cK a b c n sc st.1 av) (aX a b c).toNat 0 []).length≠0)then((bif decide (0+(bV (cK a b c n sc st.1 av) (aX a b c).toNat 0 []).length*1<=(bV (cK a b c n sc st.1 av) (aX a b c).toNat 0 []).length)then((bif (bV (cK a b c n sc st.1 av) (aX a b c).toNat 0 []).length.beq 0 then(some ((aw [av=av,st.2.1=st.2.1,st.1=st.1,64*n=64*n,a=a,b=b,c=c,n=n,sc=sc,st.2.2=st.2.2,bV (cK a b c n sc st.1 av) (aX a b c).toNat 0 []≠ [],st.1.length=64*n,av=av,st.2.1=st.2.1,st.1=st.1,64*n=64*n,a=a,b=b,c=c,n=n,sc=sc,st.2.2=st.2.2,bV (de a b c n sc st.1 av) (aX a b c).toNat 0 []= [],st.1.length=64*n]/\Q (X.normal) (Rw off G n a b c sc st aq av ds k o))))else((bif decide (fits prog.types[3]! (bV (cK a b c n sc st.1 av) (aX a b c).toNat 0 []).length=true)then(some ((aw [av=av,st.2.1=st.2.1,st.1=st.1,64*n=64*n,a=a,b=b,c=c,n=n,sc=sc,st.2.2=st.2.2,bV (cK a b c n sc st.1 av) (aX a b c).toNat 0 []≠ [],st.1.length=64*n,av=av,st.2.1=st.2.1,st.1=st.1,64*n=64*n,a=a,b=b,c=c,n=n,sc=sc,st.2.2=st.2.2,bV (de a b c n sc st.1 av) (aX a b c).toNat 0 []= [],st.1.length=64*n]/\Q (X.normal) (CB off G n a b c sc st aq av ds k o (List.take ((bV (cK a b c n sc st.1 av) (aX a b c).toNat 0 []).length*1) (List.drop 0 (bV (cK a b c n sc st.1 av) (aX a b c).toNat 0 []))) (bV (cK a b c n sc st.1 av) (aX a b c).toNat 0 []).length ((bV (cK a b c n sc st.1 av) (aX a b c).toNat 0 []).length*1)))))else none))))else none))else none)
theorem PS(off:Nat)(G:aj)(n:Nat)(a b:Int)(c sc:Int)(st:St)(aq av:ak)(ds:aj)(k o:Int)(Q:ag):agO off G n a b c sc st aq av ds k o Q=aaN off G n a b c sc st aq av ds k o Q:=by kernel_rfl
def acq(off:Nat)(G:aj)(n:Nat)(a b:Int)(c sc:Int)(st:St)(aq av:ak)(ds:aj)(k o:Int)(Q:ag):ai:=some ((aw [av=av,st.2.1=st.2.1,st.1=st.1,64*n=64*n,a=a,b=b,c=c,n=n,sc=sc,st.2.2=st.2.2,bV (cK a b c n sc st.1 av) (aX a b c).toNat 0 []= [],st.1.length=64*n,av=av,st.2.1=st.2.1,st.1=st.1,64*n=64*n,a=a,b=b,c=c,n=n,sc=sc,st.2.2=st.2.2,bV (de a b c n sc st.1 av) (aX a b c).toNat 0 []≠ [],st.1.length=64*n]/\Q (X.normal) (CB off G n a b c sc st aq av ds k o (bV (de a b c n sc st.1 av) (aX a b c).toNat 0 []) (bV (de a b c n sc st.1 av) (aX a b c).toNat 0 []).length (bV (de a b c n sc st.1 av) (aX a b c).toNat 0 []).length)))
theorem Qu(off:Nat)(G:aj)(n:Nat)(a b:Int)(c sc:Int)(st:St)(aq av:ak)(ds:aj)(k o:Int)(Q:ag):afq off G n a b c sc st aq av ds k o Q=acq off G n a b c sc st aq av ds k o Q:=by kernel_rfl
def aa0(off:Nat)(G:aj)(n:Nat)(a b:Int)(c sc:Int)(st:St)(aq av:ak)(ds:aj)(k o:Int)(Q:ag):ai:=(bif decide ((bV (cK a b c n sc st.1 av) (aX a b c).toNat 0 []).length≠0)then((bif decide (0+(bV (cK a b c n sc st.1 av) (aX a b c).toNat 0 []).length*1<=(bV (cK a b c n sc st.1 av) (aX a b c).toNat 0 []).length)then((bif (bV (cK a b c n sc st.1 av) (aX a b c).toNat 0 []).length.beq 0 then(some ((aw [av=av,st.2.1=st.2.1,st.1=st.1,64*n=64*n,a=a,b=b,c=c,n=n,sc=sc,st.2.2=st.2.2,bV (cK a b c n sc st.1 av) (aX a b c).toNat 0 []≠ [],st.1.length=64*n,av=av,st.2.1=st.2.1,st.1=st.1,64*n=64*n,a=a,b=b,c=c,n=n,sc=sc,st.2.2=st.2.2,bV (de a b c n sc st.1 av) (aX a b c).toNat 0 []≠ [],st.1.length=64*n]/\Q (X.normal) (CB off G n a b c sc st aq av ds k o (bV (de a b c n sc st.1 av) (aX a b c).toNat 0 []) (bV (de a b c n sc st.1 av) (aX a b c).toNat 0 []).length (bV (de a b c n sc st.1 av) (aX a b c).toNat 0 []).length))))else((bif decide (fits prog.types[3]! ((bV (de a b c n sc st.1 av) (aX a b c).toNat 0 []).length+(bV (cK a b c n sc st.1 av) (aX a b c).toNat 0 []).length)=true)then((bif decide (0+(bV (de a b c n sc st.1 av) (aX a b c).toNat 0 []).length*1<=(bV (de a b c n sc st.1 av) (aX a b c).toNat 0 []).length)then(some ((aw [av=av,st.2.1=st.2.1,st.1=st.1,64*n=64*n,a=a,b=b,c=c,n=n,sc=sc,st.2.2=st.2.2,bV (cK a b c n sc st.1 av) (aX a b c).toNat 0 []≠ [],st.1.length=64*n,av=av,st.2.1=st.2.1,st.1=st.1,64*n=64*n,a=a,b=b,c=c,n=n,sc=sc,st.2.2=st.2.2,bV (de a b c n sc st.1 av) (aX a b c).toNat 0 []≠ [],st.1.length=64*n]/\Q (X.normal) (CB off G n a b c sc st aq av ds k o (List.take ((bV (de a b c n sc st.1 av) (aX a b c).toNat 0 []).length*1) (List.drop 0 (bV (de a b c n sc st.1 av) (aX a b c).toNat 0 []))++List.take ((bV (cK a b c n sc st.1 av) (aX a b c).toNat 0 []).length*1) (List.drop 0 (bV (cK a b c n sc st.1 av) (aX a b c).toNat 0 []))) ((bV (de a b c n sc st.1 av) (aX a b c).toNat 0 []).length+(bV (cK a b c n sc st.1 av) (aX a b c).toNat 0 []).length) ((bV (de a b c n sc st.1 av) (aX a b c).toNat 0 []).length*1+(bV (cK a b c n sc st.1 av) (aX a b c).toNat 0 []).length*1)))))else none))else none))))else none))else none)
theorem PW(off:Nat)(G:aj)(n:Nat)(a b:Int)(c sc:Int)(st:St)(aq av:ak)(ds:aj)(k o:Int)(Q:ag):agb off G n a b c sc st aq av ds k o Q=aa0 off G n a b c sc st aq av ds k o Q:=by kernel_rfl
def ad7(off:Nat)(G:aj)(n:Nat)(a b:Int)(c sc:Int)(st:St)(aq av:ak)(ds:aj)(k o:Int)(l:aj)(Q:ag):ai:=some ((aw []/\Q (X.normal) (sD off G n a b c sc st aq av ds k o 0 l)))
theorem UE(off:Nat)(G:aj)(n:Nat)(a b:Int)(c sc:Int)(st:St)(aq av:ak)(ds:aj)(k o:Int)(l:aj)(Q:ag):p9d off G n a b c sc st aq av ds k o l Q=ad7 off G n a b c sc st aq av ds k o l Q:=by kernel_rfl
def ad0(off:Nat)(G:aj)(n:Nat)(a b:Int)(c sc:Int)(st:St)(aq av:ak)(ds:aj)(k o i:Int)(l:aj)(Q:ag):ai:=(bif decide (i<(l.length:Int))then((bif decide (0<=i/\i<(l.length:Int))then((bif decide (i.toNat<l.length)then((bif cN a sc (cH (cq a b c (l.getD i.toNat 0)) (aK b c (l.getD i.toNat 0)).2.2.1)then(some ((aw []/\Q (X.ret) (sD off G n a b c sc st aq av ds k o i l))))else(some ((aw []/\Q (X.normal) (sD off G n a b c sc st aq av ds k o (i64.wrap (i+1)) l))))))else none))else none))else(some ((aw []/\Q (X.exit 0) (sD off G n a b c sc st aq av ds k o i l)))))
theorem Gv(off:Nat)(G:aj)(n:Nat)(a b:Int)(c sc:Int)(st:St)(aq av:ak)(ds:aj)(k o i:Int)(l:aj)(Q:ag):r9a off G n a b c sc st aq av ds k o i l Q=ad0 off G n a b c sc st aq av ds k o i l Q:=by kernel_rfl
def We(off:Nat)(G:aj)(n:Nat)(a b:Int)(c sc:Int)(st:St)(aq av:ak)(ds:aj)(k o i:Int)(l:aj)(M:S->Prop)(R:ah):ai:=some ((aw [(fe a b c n sc av st).1.length=64*n,64*n=64*n,n≠0,n<=140,av=av,st.2.1=st.2.1,st.1=st.1,64*n=64*n,a=a,b=b,c=c,n=n,sc=sc,st.2.2=st.2.2,st.1.length=64*n,st.1.length=64*n,64*n=64*n,n≠0,n<=140]/\M (sEe off G n a b c sc (fe a b c n sc av st) k o st.1 (fe a b c n sc av st).1)))
theorem U7(off:Nat)(G:aj)(n:Nat)(a b:Int)(c sc:Int)(st:St)(aq av:ak)(ds:aj)(k o i:Int)(l:aj)(M:S->Prop)(R:ah):p9e off G n a b c sc st aq av ds k o i l M R=We off G n a b c sc st aq av ds k o i l M R:=by kernel_rfl
def adL(off:Nat)(G:aj)(n:Nat)(a b:Int)(c sc:Int)(st:St)(k o:Int)(L L':aj)(Q:ag):ai:=some ((aw []/\Q (X.normal) (Cg off G n a b c sc st k o 0 L L')))
theorem Vx(off:Nat)(G:aj)(n:Nat)(a b:Int)(c sc:Int)(st:St)(k o:Int)(L L':aj)(Q:ag):p9f off G n a b c sc st k o L L' Q=adL off G n a b c sc st k o L L' Q:=by kernel_rfl
def aeg(off:Nat)(G:aj)(n:Nat)(a b:Int)(c sc:Int)(st:St)(k o i:Int)(L L':aj)(Q:ag):ai:=(bif decide (i<(n:Int))then((bif decide (n≠0)then((bif decide (0<=i/\i<(n:Int))then((bif decide (0+i.toNat*64+64<=64*n)then((bif decide (n≠0)then((bif decide (0<=i/\i<(n:Int))then((bif decide (0+i.toNat*64+64<=64*n)then((bif !List.take 64 (List.drop (0+i.toNat*64) L)==List.take 64 (List.drop (0+i.toNat*64) L')then(some ((aw []/\Q (X.ret) (Cg off G n a b c sc st k o i L L'))))else(some ((aw []/\Q (X.normal) (Cg off G n a b c sc st k o (i64.wrap (i+1)) L L'))))))else none))else none))else none))else none))else none))else none))else(some ((aw []/\Q (X.exit 2) (Cg off G n a b c sc st k o i L L')))))
theorem Gy(off:Nat)(G:aj)(n:Nat)(a b:Int)(c sc:Int)(st:St)(k o i:Int)(L L':aj)(Q:ag):r9b off G n a b c sc st k o i L L' Q=aeg off G n a b c sc st k o i L L' Q:=by kernel_rfl
def adA(off:Nat)(G:aj)(n:Nat)(a b:Int)(c sc:Int)(st:St)(k o i:Int)(L L':aj)(R:ah):ai:=(bif ((qo st.2.1).length:Int)==k then(some ((aw [st.2.1=st.2.1,st.1=st.1,64*n=64*n,a=a,b=b,c=c,n=n,sc=sc,st.2.2=st.2.2,n<=140,mM n st]/\R (X.ret) (some [AV.c (Cell.bool (st.2.2==o))]))))else(some ((aw [st.2.1=st.2.1,st.1=st.1,64*n=64*n,a=a,b=b,c=c,n=n,sc=sc,st.2.2=st.2.2,n<=140,mM n st]/\R (X.ret) (some [AV.c (Cell.bool false)])))))
theorem UB(off:Nat)(G:aj)(n:Nat)(a b:Int)(c sc:Int)(st:St)(k o i:Int)(L L':aj)(R:ah):p9g off G n a b c sc st k o i L L' R=adA off G n a b c sc st k o i L L' R:=by kernel_rfl
theorem gCn:(Rw off G n a b c sc st aq av ds k o).sl.get 11=some (.one (.c .bf)):=by kernel_rfl
theorem gCr:(CB off G n a b c sc st aq av ds k o l m1 m1).hp.get 8=some (.row 3 false (some 1) (.ints .i64 l m1))/\(CB off G n a b c sc st aq av ds k o l m1 m1).sl.get 11=some (.one (.c (.aC 8 1 0 m1))):=⟨by kernel_rfl,by kernel_rfl⟩
theorem cCn:nr 2 [] [] [5,8,9,10,11] 104 [2,3,4,5,6,7] (Sx.ub 11 (Rw off G n a b c sc st aq av ds k o))=some (sC off G n a b c sc st aq av ds k o []):=by kernel_rfl
theorem cCr:nr 2 [] [] [5,8,9,10,11] 104 [2,3,4,5,6,7] (Sx.tW 8 11 l (CB off G n a b c sc st aq av ds k o l m1 m1))=some (sC off G n a b c sc st aq av ds k o l):=by kernel_rfl
end
section
variable{a b c sc:Int}{m:Nat}{st:St}{av:ak}{F:aj}
def GC(m:Nat):St->Prop:=fun st=>j4 m st/\mM m st
theorem ac8:iq m (GC m):=⟨fun _ h=>h.1.1,fun _ h=>h.1.2⟩
theorem adS:iB a b c m sc (GC m):=fun st s k p h h2 h3 h4 h5=>⟨vS st s k p h.1 h2 h3 h4 h5,h.2.wr⟩
theorem aeq:nA a b c m sc (GC m):=fun st i y h ho hy=>⟨vV st i y h.1 ho hy,h.2.VN⟩
theorem ac2(hg:aY a b c=true)(hm:(m:Int)=2+a*(2+b+c))(hF:F.length=64*m)(hy:Bytes F):GC m (CP a b c m sc F):=
 ⟨(W5 hg hm hF hy).2,(Ew (sc:=sc) (F:=F) hg hm).nod,fun x hx=>by have:=((Ew (sc:=sc) (F:=F) hg hm).key x).1 hx;exact⟨this.1,this.2.1⟩⟩
theorem Om{Fn:Int->Fi.bD->Fi.bD}: ∀(l:aj) (st:St),mM m st->mM m (rk a b c m sc Fn l st)
 | [],_,h=>h
 |_::l,_,h=>Om l _ h.VN
theorem Qk(hb: ∀i,0<=bp av i/\bp av i<=200)(i:Int)(y:Fi.bD):j6 av i (j6 av i y)=j6 av i y:=by
 unfold j6;split<;>rfl
theorem OZ{L:aj}{i:Int}:eL a b c m sc L i=true↔bG a b c L m i=true/\cN a sc (aK b c i).2.2.1=true:=by
 unfold eL;rw[Bool.and_eq_true];constructor
 ·rintro⟨h1,h2⟩;rw[(fV h1).1]at h2;exact⟨h1,h2⟩
 ·rintro⟨h1,h2⟩;rw[(fV h1).1];exact⟨h1,h2⟩
theorem Kp(hm:(m:Int)=2+a*(2+b+c))(h:GC m st)(hb: ∀i,0<=bp av i/\bp av i<=200):
  GC m (fe a b c m sc av st)/\(∀j,bG a b c (fe a b c m sc av st).1 m j=bG a b c st.1 m j)/\
  (∀j,aW a b c (fe a b c m sc av st).1 m j=if bG a b c st.1 m j=true/\cN a sc (aK b c j).2.2.1=true then j6 av j (aW a b c st.1 m j)else aW a b c st.1 m j)/\
  fe a b c m sc av (fe a b c m sc av st)=fe a b c m sc av st:=by
 have hl: ∀i,i∈bV (eL a b c m sc st.1) (aX a b c).toNat 0 []↔bG a b c st.1 m i=true/\cN a sc (aK b c i).2.2.1=true:=fun i=>by
  rw[wA,OZ];constructor
  ·rintro(h|⟨_,_,h⟩)
   ·exact absurd h List.not_mem_nil
   ·exact h
  ·intro h';have:=acJ h'.1;exact .inr ⟨by omega,by omega,h'⟩
 obtain⟨k1,k2,k3,k4⟩:=I7 (F:=j6 av) hm (fun _ _ h=>aaZ h) _ st h.1 (CN List.nodup_nil (fun _ h=>absurd h List.not_mem_nil)) (fun i hi=>(hl i).1 hi)
 have e4: ∀j,aW a b c (fe a b c m sc av st).1 m j=if bG a b c st.1 m j=true/\cN a sc (aK b c j).2.2.1=true then j6 av j (aW a b c st.1 m j)else aW a b c st.1 m j:=fun j=>by
  have:=k4 j;by_cases hc:bG a b c st.1 m j=true/\cN a sc (aK b c j).2.2.1=true
  ·rw[if_pos hc];rw[if_pos ((hl j).2 hc)]at this;exact this
  ·rw[if_neg hc];rw[if_neg (fun h=>hc ((hl j).1 h))]at this;exact this
 have e3: ∀j,bG a b c (fe a b c m sc av st).1 m j=bG a b c st.1 m j:=k3;refine⟨⟨k1,Om _ _ h.2⟩,e3,e4,?_⟩;have ec:bV (eL a b c m sc (fe a b c m sc av st).1) (aX a b c).toNat 0 []=bV (eL a b c m sc st.1) (aX a b c).toNat 0 []:=Cs (fun j=>by unfold eL;rw[e3]) _ _ _
 have:fe a b c m sc av (fe a b c m sc av st)=rk a b c m sc (j6 av) (bV (eL a b c m sc st.1) (aX a b c).toNat 0 []) (fe a b c m sc av st):=by
  show rk a b c m sc (j6 av) (bV (eL a b c m sc (fe a b c m sc av st).1) (aX a b c).toNat 0 []) (fe a b c m sc av st)=_;rw[ec]
 rw[this];refine EN hm k1 _ fun i hi=> ?_
 have hi':=(hl i).1 hi;refine⟨(e3 i).trans hi'.1,hi'.2,?_⟩;have hq:=e4 i;rw[if_pos hi']at hq;show j6 av i (aW a b c (fe a b c m sc av st).1 m i)=aW a b c (fe a b c m sc av st).1 m i;rw[hq];exact Qk hb i _
theorem Y3(hm:(m:Int)=2+a*(2+b+c))(h:GC m st)(hb: ∀i,0<=bp av i/\bp av i<=200){i:Int}
  (hi:i∈bV (de a b c m sc (fe a b c m sc av st).1 av) (aX a b c).toNat 0 []++bV (cK a b c m sc (fe a b c m sc av st).1 av) (aX a b c).toNat 0 []):cN a sc (cH (cq a b c i) (aK b c i).2.2.1)=false:=by
 obtain⟨_,e3,e4,_⟩:=Kp (sc:=sc) hm h hb;cases hin:cN a sc (cH (cq a b c i) (aK b c i).2.2.1)with
 |false=>rfl
 |true=>
 exfalso;have q: ∀(ho:bG a b c (fe a b c m sc av st).1 m i=true),aW a b c (fe a b c m sc av st).1 m i=j6 av i (aW a b c st.1 m i):=fun ho=>by
  have ho':=(e3 i).symm.trans ho;rw[(fV ho').1]at hin;have:=e4 i;rw[if_pos ⟨ho',hin⟩]at this;exact this
 have hn:=hb i;rcases List.mem_append.1 hi with hi|hi
 ·rcases wA.1 hi with hi|⟨_,_,hi⟩
  ·exact absurd hi List.not_mem_nil
  ·unfold de at hi;simp only[Bool.and_eq_true,Bool.not_eq_true',decide_eq_false_iff_not,bne_iff_ne,ne_eq]at hi;obtain⟨h1,h2,h3⟩:=hi;rw[q h1]at h2;unfold j6 at h2;rw[if_neg h3]at h2;exact h2 rfl
 ·rcases wA.1 hi with hi|⟨_,_,hi⟩
  ·exact absurd hi List.not_mem_nil
  ·unfold cK at hi;simp only[Bool.and_eq_true,decide_eq_true_eq,bne_iff_ne,ne_eq]at hi;obtain⟨h1,h2,h3⟩:=hi;rw[q h1]at h3;unfold j6 at h3;rw[if_pos h2]at h3;apply h3;show i64.wrap (u8.wrap (bp av i))=bp av i;rw[show u8.wrap (bp av i)=bp av i % 256 from Sx.wrap_u8 _,IntWalk.i64_in _ (by omega)]
   omega
end
section
variable{off:Nat}{G:aj}{n cap:Nat}{a b c sc:Int}{st:St}{aq av:ak}{ds:aj}{k o:Int}{l L:aj}
theorem I6(hb:l.length<=1000)(ho: ∀x∈l,cN a sc (cH (cq a b c x) (aK b c x).2.2.1)=false){s0:S}(bP:s0.nx=2){Q:ag}: ∀(q j:Nat),j+q=l.length->
  Q (.exit 0) (sD off G n a b c sc st aq av ds k o l.length l)->TO prog 104 [] [] s0 (.loop Sz) (sD off G n a b c sc st aq av ds k o j l) Q
 | 0,j,hj,hQ=>by
  obtain rfl:j=l.length:=by omega
  exact TO.loop (TO.aP (gk true true true) (k0:=2) bP (.of_eq (Gv ..) (.no (by simp) ⟨trivial,hQ⟩)))
 |q+1,j,hj,hQ=>by
  have hjl:j<l.length:=by omega
  have hx:=ho (l.getD j 0) (by rw[show l.getD j 0=l[j]by simp[List.getD,List.getElem?_eq_getElem hjl]];exact List.getElem_mem hjl)
  have hw:i64.wrap ((j:Int)+1)=((j+1:Nat):Int):=by rw[IntWalk.i64_in _ (by omega)];simp
  have next:=I6 hb ho bP q (j+1) (by omega) hQ
  refine TO.loop (TO.aP (gk true true true) (k0:=2) bP (.of_eq (Gv ..) (.yes (decide_eq_true (by omega)) (.aZ (decide_eq_true (by omega)) (.aZ (decide_eq_true (by omega)) ?_)))))
  rw[Int.toNat_natCast,hw];exact .no hx ⟨trivial,next⟩
theorem Ji(hL:L.length=64*n)(hn:n<=140){s0:S}(bP:s0.nx=2){Q:ag}: ∀(q j:Nat),j+q=n->
  Q (.exit 2) (Cg off G n a b c sc st k o n L L)->TO prog 104 [] [] s0 (.loop Ux) (Cg off G n a b c sc st k o j L L) Q
 | 0,j,hj,hQ=>by
  obtain rfl:j=n:=by omega
  exact TO.loop (TO.aP (gk true true true) (k0:=2) bP (.of_eq (Gy ..) (.no (by simp) ⟨trivial,hQ⟩)))
 |q+1,j,hj,hQ=>by
  have hw:i64.wrap ((j:Int)+1)=((j+1:Nat):Int):=by rw[IntWalk.i64_in _ (by omega)];simp
  have next:=Ji hL hn bP q (j+1) (by omega) hQ
  refine TO.loop (TO.aP (gk true true true) (k0:=2) bP (.of_eq (Gy ..) (.yes (decide_eq_true (by omega)) (.aZ (decide_eq_true (by omega)) (.aZ (decide_eq_true (by omega)) (.aZ (decide_eq_true (by omega)) (.aZ (decide_eq_true (by omega)) (.aZ (decide_eq_true (by omega)) (.aZ (decide_eq_true (by omega)) (.no (by simp) ⟨trivial,?_⟩))))))))))
  rw[hw];exact next
abbrev A5(a b c:Int)(n:Nat)(sc:Int)(st:St)(av:ak):List Int:=bV (de a b c n sc st.1 av) (aX a b c).toNat 0 []
abbrev A6(a b c:Int)(n:Nat)(sc:Int)(st:St)(av:ak):List Int:=bV (cK a b c n sc st.1 av) (aX a b c).toNat 0 []
theorem wN(P:Int->Bool):(bV P (aX a b c).toNat 0 []).length<=192:=by
 have h1:=Av (P:=P) (m:=(aX a b c).toNat) (i:=0) (l:= []);have h2:=wh (a:=a) (b:=b) (c:=c);simp only[List.length_nil]at h1;omega
theorem afC(hl:st.1.length=64*n){s0:S}(bP:s0.nx=2){Q:ag}{d:Code}
  (h:TO prog 104 [] [] s0 d (sC off G n a b c sc st aq av ds k o (A5 a b c n sc st av++A6 a b c n sc st av)) Q):TO prog 104 [] [] s0 (.seq (gL (aG 7 c9)) d) (sB off G n a b c sc st aq av ds k o) Q:=by
 have b5:(A5 a b c n sc st av).length<=192:=wN _;have b6:(A6 a b c n sc st av).length<=192:=wN _;have nil':A5 a b c n sc st av++A6 a b c n sc st av= []->TO prog 104 [] [] s0 d (Rw off G n a b c sc st aq av ds k o) Q:=fun e=>by
  rw[e]at h;exact TO.nT (dJ.ub 11 (gCn ..)) (TO.we bP (cCn ..) h)
 have row': ∀m1,m1≠0->TO prog 104 [] [] s0 d (CB off G n a b c sc st aq av ds k o (A5 a b c n sc st av++A6 a b c n sc st av) m1 m1) Q:=fun m1 h0=>
  TO.nT (dJ.tW 8 11 (gCr ..).1 (gCr ..).2 h0) (TO.we bP (cCr ..) h)
 refine TO.seq ?_;by_cases h5:A5 a b c n sc st av= []
 ·by_cases h6:A6 a b c n sc st av= []
  ·exact TO.aP (gk true false false) (k0:=2) bP (.of_eq (PJ off G n a b c sc st aq av ds k o _) ⟨⟨rfl,rfl,rfl,rfl,rfl,rfl,rfl,rfl,rfl,rfl,h6,hl,rfl,rfl,rfl,rfl,rfl,rfl,rfl,rfl,rfl,rfl,h5,hl,trivial⟩,nil' (by rw[h5,h6];rfl)⟩)
  ·have h0:(A6 a b c n sc st av).length≠0:=fun e=>h6 (List.length_eq_zero_iff.1 e)
   have r:=row' (A6 a b c n sc st av).length h0;rw[h5,List.nil_append]at r;refine TO.aP (gk true false true) (k0:=2) bP (.of_eq (PS off G n a b c sc st aq av ds k o _) (.aZ (decide_eq_true h0) (.aZ (decide_eq_true (by omega)) (.no (A0 (Nat.pos_of_ne_zero h0)) (.aZ (decide_eq_true (pL (Nat.le_trans b6 (by decide)))) ⟨⟨rfl,rfl,rfl,rfl,rfl,rfl,rfl,rfl,rfl,rfl,h6,hl,rfl,rfl,rfl,rfl,rfl,rfl,rfl,rfl,rfl,rfl,h5,hl,trivial⟩,?_⟩)))))
   rw[Nat.mul_one,List.drop_zero,List.take_length];exact r
 ·have h05:(A5 a b c n sc st av).length≠0:=fun e=>h5 (List.length_eq_zero_iff.1 e)
  by_cases h6:A6 a b c n sc st av= []
  ·have r:=row' (A5 a b c n sc st av).length h05;rw[h6,List.append_nil]at r;exact TO.aP (gk true true false) (k0:=2) bP (.of_eq (Qu off G n a b c sc st aq av ds k o _) ⟨⟨rfl,rfl,rfl,rfl,rfl,rfl,rfl,rfl,rfl,rfl,h6,hl,rfl,rfl,rfl,rfl,rfl,rfl,rfl,rfl,rfl,rfl,h5,hl,trivial⟩,r⟩)
  ·have h06:(A6 a b c n sc st av).length≠0:=fun e=>h6 (List.length_eq_zero_iff.1 e)
   have r:=row' ((A5 a b c n sc st av).length+(A6 a b c n sc st av).length) (by omega)
   refine TO.aP (gk true true true) (k0:=2) bP (.of_eq (PW off G n a b c sc st aq av ds k o _) (.aZ (decide_eq_true h06) (.aZ (decide_eq_true (by omega)) (.no (A0 (Nat.pos_of_ne_zero h06)) (.aZ (decide_eq_true (pL (Nat.le_trans (Nat.add_le_add b5 b6) (by decide)))) (.aZ (decide_eq_true (by omega)) ⟨⟨rfl,rfl,rfl,rfl,rfl,rfl,rfl,rfl,rfl,rfl,h6,hl,rfl,rfl,rfl,rfl,rfl,rfl,rfl,rfl,rfl,rfl,h5,hl,trivial⟩,?_⟩))))))
   rw[Nat.mul_one,Nat.mul_one,List.drop_zero,List.take_length,List.drop_zero,List.take_length];exact r
abbrev aeX:X->S->Prop:=pt prog 104 f9.results.toList (.one (.c (.bool true)))
theorem Lm(hL:G.length=64*n)(hc:n<=cap)(hn:n≠0)(hy:Bytes G)(hsc:cF sc):Tr prog 104 c9 (RB off G n cap sc) aeX:=by
 refine Tr.abq ?_;cases hf:cM (G.take (64*aS n)) (aS n)with
 |false=>exact TO.pieces (gk false true true) (m:=4) (k0:=2) rfl (aH:= [5]) (ord:= []) (.of_eq (S8 ..) ⟨⟨rfl,rfl,rfl,rfl,rfl,rfl,rfl,rfl,hL,hc,hn,hy,hf,trivial⟩,rfl,_,rfl,rfl⟩)
 |true=>
  have hF:(G.take (64*aS n)).length=64*aS n:=by have:=(mU n).2;simp;omega
  have hyF:Bytes (G.take (64*aS n)):=fun x hx=>hy x (List.mem_of_mem_take hx)
  refine TO.pieces (gk true true true) (m:=4) (k0:=2) rfl (aH:= [5]) (ord:= [2,3,4]) (.of_eq (SO ..) ⟨⟨rfl,rfl,rfl,rfl,rfl,rfl,rfl,rfl,hL,hc,hn,hy,hsc,hf,trivial⟩,?_⟩);have hg:=Gz hf;have ht:=E9 hf;unfold dL at ht;rw[if_pos hg]at ht;have hm:=ht.symm;have hn1:=(mU n).1;have hn0:=oN hn;generalize bO (G.take (64*aS n)) (aS n) 4=a at hg hm ⊢;generalize bO (G.take (64*aS n)) (aS n) 6=b at hg hm ⊢;generalize bO (G.take (64*aS n)) (aS n) 8=c at hg hm ⊢;have r0:=ac2 (sc:=sc) hg hm hF hyF;generalize CP a b c (aS n) sc (G.take (64*aS n))=st at r0 ⊢;generalize aS n=n at hn0 hn1 hm r0 ⊢;have hw:=aeC (sc:=sc) ac8 adS aeq hm hg r0;have hs:j4 n st:=r0.1;generalize hW:eT a b c n sc st=w at hw;obtain⟨q1,q2,q3,q4⟩:=Kp (sc:=sc) hm hw.r hw.nm;refine TO.pieces (gk true true true) (m:=3) (k0:=2) rfl (aH:= [5,8,9,10]) (ord:= [2,3,4,5,6,7]) (.of_eq (Uo ..) ?_);unfold VI;rw[hW];refine⟨⟨rfl,rfl,rfl,rfl,rfl,rfl,rfl,rfl,rfl,hn1,q1.2,rfl,rfl,rfl,rfl,rfl,rfl,rfl,rfl,rfl,rfl,hw.r.1.1,rfl,rfl,rfl,rfl,rfl,rfl,rfl,rfl,rfl,hm,hg,hs,trivial⟩,?_⟩;refine afC (d:=aG 8 c9) q1.1.1 rfl ?_;have hodd:=fun x hx=>Y3 (sc:=sc) (i:=x) hm hw.r hw.nm hx
  have b5:=wN (a:=a) (b:=b) (c:=c) (de a b c n sc (fe a b c n sc w.2.2.1 w.1).1 w.2.2.1);have b6:=wN (a:=a) (b:=b) (c:=c) (cK a b c n sc (fe a b c n sc w.2.2.1 w.1).1 w.2.2.1);refine TO.seq (c:=gL (aG 8 c9)) (d:=aG 9 c9) (TO.seq (c:=gL (gL (aG 8 c9))) (d:= .block 0 (.loop Sz)) (TO.aP (gk true true true) (k0:=2) rfl (.of_eq (UE ..) ⟨trivial,?_⟩)));refine TO.block (I6 (by simp;omega) hodd rfl _ 0 (Nat.zero_add _) ?_)
  simp only[if_true];have hq1:=q1.1.1;refine TO.pieces (gk true true true) (m:=3) (k0:=2) rfl (aH:= [5,9,10,15,16]) (ord:= [2,3,4,8,9]) (.of_eq (U7 ..) ?_);unfold We;rw[q4];refine⟨⟨hq1,rfl,hn0,hn1,rfl,rfl,rfl,rfl,rfl,rfl,rfl,rfl,rfl,rfl,hq1,hq1,rfl,hn0,hn1,trivial⟩,?_⟩;refine TO.seq (c:=gL (aG 12 c9)) (d:=aG 13 c9) (TO.seq (c:=gL (gL (aG 12 c9))) (d:= .block 2 (.loop Ux)) (TO.aP (gk true true true) (k0:=2) rfl (.of_eq (Vx ..) ⟨trivial,?_⟩)));refine TO.block (Ji hq1 hn1 rfl n 0 (Nat.zero_add _) ?_);simp only[if_true];refine TO.Bf ((Tr.NN (gk true true true) (res:=f9.results.toList) (Q:=NK (.one (.c (.bool true)))) (.of_eq (UB ..) (.yes (by simp) ⟨⟨rfl,rfl,rfl,rfl,rfl,rfl,rfl,rfl,rfl,hn1,q1.2,trivial⟩,rfl,_,rfl,?_⟩))).mono fun x s h=>⟨.inr h.1,h.2⟩)
  simp[c6]
end
def Nd:FuncId->Option bg:=fun f=>match f with| 29=>some (aL Fi.DQ)| 73=>some sk|_=>none
theorem VW:Fit prog (fun f=>(Nd f).map bj):=⟨bM,aV,aI.sum fun f sm h=>by
 unfold Nd at h;split at h
 ·cases h;exact Fi.EM Ks
 ·cases h;exact xi
 ·cases h⟩
section
variable(sc:Int)(off cap:Nat)
def Xn(R:ah):ai:=az prog Nd 300 104 c9 ⟨CL .bf sc,.nil,0,[]⟩ aO (fun x s Z=>some (aw Z.ob/\R x (ba prog 104 s f9.results.toList)))
def WU(R:ah):ai:=az prog Nd 300 104 c9 (RB off [] 0 cap sc) aO (fun x s Z=>some (aw Z.ob/\R x (ba prog 104 s f9.results.toList)))
def XB(sc:Int)(R:ah):ai:=some ((aw []/\R (X.ret) (some [AV.c (Cell.bool true)])))
theorem Mm(sc:Int)(R:ah):Xn sc R=XB sc R:=by kernel_rfl
def YP(sc:Int)(off cap:Nat)(R:ah):ai:=(bif decide ((off<=if cap=0 then off else off+0)/\(if cap=0 then off else off+0) - off+0<=0)then(some ((aw []/\R (X.ret) (some [AV.c (Cell.bool true)]))))else none)
theorem Mi(sc:Int)(off cap:Nat)(R:ah):WU sc off cap R=YP sc off cap R:=by kernel_rfl
end
abbrev R9:X->Option (List AV)->Prop:=NK (.one (.c (.bool true)))
def af8(w:World)(V:Value)(L:aj)(n:Nat):Prop:= ∃b off cap cs t fr,V= .slice (some ⟨b,off,none⟩) n cap/\n<=cap/\w.heap[b]? =some (.cells cs t fr)/\L.length=n*64/\off+n*64<=cs.size/\(cs.toList.drop off).take (n*64)=L.map (Value.int .u8)/\Bytes L
theorem Nb{ρ:aM}{sc:Int}:bo ρ [.one (.c (.int .u32 sc))] [.int .u32 sc]:=⟨_,_,rfl,rfl,rfl⟩
theorem afE{w:World}{sc:Int}(hsc:cF sc){v0:Value}(h0:v0= .slice none 0 0\/∃n L,af8 w v0 L n):
  Calls prog 9 #[v0,.int .u32 sc] w fun e w'=>e= .returned (.bool true)/\Below w.heap.size w w':=by
 have fin: ∀ {e:Ending} {w':World},(∃V,e= .returned V/\bE mz (.one (.c (.bool true))) V/\Below w.heap.size w w')->e= .returned (.bool true)/\Below w.heap.size w w':=fun⟨V,h1,h2,h3⟩=>by cases h2;exact⟨h1,h3⟩
 rcases h0 with rfl|⟨n,L,b,off,cap,cs,t,fr,rfl,hc,hb,hL,hsz,hcs,hy⟩
 ·refine(Tj (v:= .one (.c (.bool true))) func9 oW (u6 .bf sc) rfl ?_ (vs:= [.slice none 0 0,.int .u32 sc]) ?_).mono fun e w' h=>fin h
  ·exact(Tr.NN (fuel:=300) (n:=104) (c:=c9) (s:=⟨CL .bf sc,.nil,0,[]⟩) (res:=f9.results.toList) VW (Q:=R9) (show dG (Xn sc R9)from .of_eq (Mm ..) ⟨trivial,rfl,_,rfl,rfl⟩)).mono fun x s h=>⟨.inr h.1,h.2⟩
  ·exact⟨_,_,rfl,Nb,rfl⟩
 ·have hw: ∀ρ c,cD ρ c (.dK off .u8 L) (.cells cs t fr):=fun ρ c=>⟨cs,t,fr,rfl,by rw[hL];exact hsz,by rw[hL];exact hcs⟩
  by_cases hn:n=0
  ·subst hn;have hL0:L= []:=List.length_eq_zero_iff.1 (by rw[hL])
   subst hL0;refine(JR (v:= .one (.c (.bool true))) (x:= .dK off .u8 []) (y:= .dK off .u8 []) func9 oW (u6 (.sl 0 off 0 cap) sc) rfl rfl rfl ?_ (c0:=0) (c1:=0) hb (hw _ _) hb (hw _ _) (vs:= [.slice (some ⟨b,off,none⟩) 0 cap,.int .u32 sc]) ?_).mono fun e w' h=>fin h
   ·refine(Tr.NN (fuel:=300) (n:=104) (c:=c9) (s:=RB off [] 0 cap sc) (res:=f9.results.toList) VW (Q:=R9) (show dG (WU sc off cap R9)from .of_eq (Mi ..) ?_)).mono fun x s h=>⟨.inr h.1,h.2⟩
    exact .aZ (decide_eq_true (by split<;>omega)) ⟨trivial,rfl,_,rfl,rfl⟩
   ·exact⟨_,_,⟨b,0,rfl,rfl⟩,Nb,rfl⟩
  ·refine(JR (v:= .one (.c (.bool true))) (x:= .dK off .u8 L) (y:= .dK off .u8 L) func9 oW (u6 (.sl 0 off n cap) sc) rfl rfl rfl (Lm (by omega) hc hn hy hsc) (c0:=0) (c1:=0) hb (hw _ _) hb (hw _ _) (vs:= [.slice (some ⟨b,off,none⟩) n cap,.int .u32 sc]) ?_).mono fun e w' h=>fin h
   exact⟨_,_,⟨b,0,rfl,rfl⟩,Nb,rfl⟩
end Go.Sx.Ly
