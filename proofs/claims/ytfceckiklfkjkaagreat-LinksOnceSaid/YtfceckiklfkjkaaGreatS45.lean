import Derived.Test.YtfceckiklfkjkaaGreatS40
import Derived.Test.YtfceckiklfkjkaaGreatS44
noncomputable section
open Go.Proofs Go.RowKit
set_option maxRecDepth 100000
open Go.Proofs.Tryz
namespace Go.Sx.Ly
def ERu:List RV->T ax->Nat->Option GS:=fun args hp _=>match args with
 | [.one (.c (.ptr nm 0))]=>match mH hp.get nm with
  |some (a,b,c,L,_,n,sc,al,lm,nl,nw)=>some ⟨3,[nm,nl,nw],mQ,ca a b c n sc (L,lm,al),6,FY a b c n sc (eT a b c n sc (L,lm,al)).1 (eT a b c n sc (L,lm,al)).2.1 (eT a b c n sc (L,lm,al)).2.2.1 (.dI (eT a b c n sc (L,lm,al)).2.2.2.2) [],.one (.c (.ptr 3 0)),
     [(n:Int)=2+a*(2+b+c),aY a b c=true,j4 n (L,lm,al)]⟩
  |none=>none
 |_=>none
theorem adk:aI prog 30 (cC ERu):=dT ⟨_,func30,rfl⟩ fun args hp nx g h bB=>by
 unfold ERu at h;split at h<;>try(cases h;done)
 split at h<;>try(cases h;done)
 cases h;obtain⟨h1,h2,h3,_⟩:=bB;exact⟨Yp h1 h2 h3 rfl,fun i x hx=>v7 hx⟩
def Du:FuncId->Option bg:=fun f=>match f with| 73=>some sk| 67=>some yz| 74=>some so|_=>none
theorem yV:Fit prog (fun f=>(Du f).map bj):=⟨bM,aV,aI.sum fun f sm h=>by
 unfold Du at h;split at h
 ·cases h;exact xi
 ·cases h;exact H5
 ·cases h;exact wT
 ·cases h⟩
def kM:Code:=gB 16
def WD:Code:=gB 17
def iL(n:Nat)(sc:Int):List RV:= [.one (.c (.aC 0 64 0 n)),.one (.c (.int .u32 sc))]
def FN(n:Nat)(sc:Int):T RV:=match setArgs 26 (iL n sc) 0 .nil some with|some t=>t|none=> .nil
def ZZ(n:Nat)(sc:Int):T RV:=match setArgs 28 (iL n sc) 0 .nil some with|some t=>t|none=> .nil
theorem wR(n:Nat)(sc:Int):setArgs 26 (iL n sc) 0 .nil some=some (FN n sc):=by kernel_rfl
theorem Jb(n:Nat)(sc:Int):setArgs 28 (iL n sc) 0 .nil some=some (ZZ n sc):=by kernel_rfl
def afS(hp:T ax)(nm:Nat):List Nat:=match bn hp.get nm with
 |some (_,_,_,.cells [_,_,_,.aC nl _ _ _,_,.map nw,_])=> [nm,nl,nw]
 |some (_,_,_,.cells [_,_,_,.aC nl _ _ _,_,.sl nw _ _ _,_])=> [nm,nl,nw]
 |_=> [nm]
def Xa:S->List Nat:=fun s=>match gg s.sl 4 with| [nm]=>afS s.hp nm|_=> []
section
variable(L:aj)(n:Nat)(a b c sc e:Int)(L':aj)(N m k:Nat)(W:List Bool)
abbrev Mx(L:aj)(n:Nat):ax:= .row 95 true (some 64) (.ints .u8 L (64*n))
def iA:T ax:=aN [(0,Mx L n)]
def Lf:T ax:=aN [(0,Mx L n),(1,Q3 a b c sc n 0 2 3),(2,qY L n),(3,.map [])]
def MW:T ax:=aN [(0,Mx L n),(1,Wq a b c sc n 0 2 3),(2,qY L n),(3,.row 4 false none (.aT (cx [false] n) n))]
def WM:S:=aE [4,5] 26 ⟨aN [(4,.one (.c .ptr0)),(5,.one (.c (.int .i64 e)))],iA L n,1,[]⟩
def V8:S:=aE [4,5] 26 ⟨aN [(4,.one (.c (.ptr 1 0))),(5,.one (.c (.int .i64 e)))],Lf L n a b c sc,4,[]⟩
def Xi:S:=aE [4,5] 28 ⟨aN [(4,.one (.c .ptr0)),(5,.one (.c (.int .i64 e)))],iA L n,1,[]⟩
def sY1:S:=aE [4,5] 28 ⟨aN [(4,.one (.c (.ptr 1 0))),(5,.one (.c (.int .i64 e)))],aN [(0,Mx L n),(1,.row 65 false none (.cells [.int .i64 a,.int .i64 b,.int .i64 c,.aC 2 64 0 m,.int .u32 sc,.sl 3 0 N N,.int .i64 0])),(2,.row 95 false (some 64) (.ints .u8 L' k)),(3,.row 4 false none (.aT W N))],4,[]⟩
def sY2:S:=aE [4,5] 28 ⟨aN [(4,.one (.c (.ptr 1 0))),(5,.one (.c (.int .i64 e)))],MW L n a b c sc,4,[]⟩
def t16(Q:ag):ai:=az prog Du 300 26 kM ⟨FN n sc,iA L n,1,[]⟩ aO (bN 1 [4,5] 26 Xa Q)
def t17(Q:ag):ai:=az prog Du 300 28 WD ⟨ZZ n sc,iA L n,1,[]⟩ aO (bN 1 [4,5] 28 Xa Q)
def MQ(L:aj)(n:Nat)(sc:Int)(Q:ag):ai:=(bif gz L n !=0 then(some ((aw [L.length=64*n,64*n=64*n]/\Q (X.ret) (WM L n (gz L n)))))else(some ((aw [L.length=64*n,64*n=64*n,n≠0,n<=140,L.length=64*n,64*n=64*n]/\Q (X.ret) (V8 L n (bO L n 4) (bO L n 6) (bO L n 8) sc (gz L n))))))
theorem Fy(L:aj)(n:Nat)(sc:Int)(Q:ag):t16 L n sc Q=MQ L n sc Q:=by kernel_rfl
def LD(L:aj)(n:Nat)(sc:Int)(Q:ag):ai:=(bif gz L n !=0 then(some ((aw [L.length=64*n,64*n=64*n,Bytes L]/\Q (X.ret) (Xi L n (gz L n)))))else((bif decide (n≠0)then((bif decide (0+n*64<=64*n)then((bif n.beq 0 then((bif decide (0<=(n:Int)/\(n:Int)=(n:Int)/\1*(n:Int).toNat<=1000000000/\(n:Int).toNat<1000000000)then(none)else none))else((bif decide (0<0+n/\fits prog.types[95]! (0+n)=true)then((bif decide (0<=(n:Int)/\(n:Int)=(n:Int)/\1*(n:Int).toNat<=1000000000/\(n:Int).toNat<1000000000)then(some ((aw [L.length=64*n,64*n=64*n,Bytes L]/\Q (X.ret) (sY1 L n (bO L n 4) (bO L n 6) (bO L n 8) sc 0 (List.take 0 (List.drop 0 (cx eN 0))++List.take (n*64) (List.drop 0 L)) (n:Int).toNat (0+n) (0+n*64) (cx [false] (n:Int).toNat)))))else none))else none))))else none))else none)))
theorem HT(L:aj)(n:Nat)(sc:Int)(Q:ag):t17 L n sc Q=LD L n sc Q:=by kernel_rfl
theorem XI:ba prog 26 (WM L n e) f16.results.toList=some [.c .ptr0,.c (.int .i64 e)]/\(WM L n e).hp=iA L n/\(WM L n e).nx=1:=⟨by kernel_rfl,by kernel_rfl,by kernel_rfl⟩
theorem YA:ba prog 26 (V8 L n a b c sc e) f16.results.toList=some [.c (.ptr 1 0),.c (.int .i64 e)]/\(V8 L n a b c sc e).hp=Lf L n a b c sc/\(V8 L n a b c sc e).nx=4:=⟨by kernel_rfl,by kernel_rfl,by kernel_rfl⟩
theorem XK:ba prog 28 (Xi L n e) f17.results.toList=some [.c .ptr0,.c (.int .i64 e)]/\(Xi L n e).hp=iA L n/\(Xi L n e).nx=1:=⟨by kernel_rfl,by kernel_rfl,by kernel_rfl⟩
theorem YY:ba prog 28 (sY2 L n a b c sc e) f17.results.toList=some [.c (.ptr 1 0),.c (.int .i64 e)]/\(sY2 L n a b c sc e).hp=MW L n a b c sc/\(sY2 L n a b c sc e).nx=4:=⟨by kernel_rfl,by kernel_rfl,by kernel_rfl⟩
end
theorem Kd{L:aj}{n:Nat}(h:cM L n=false):gz L n=22:=by unfold gz;rw[h];rfl
theorem Eg{L:aj}{n:Nat}(h:cM L n=true):gz L n=0:=by unfold gz;rw[h];rfl
section
variable{L:aj}{n:Nat}{sc:Int}
theorem p7:f16.body=some kM:=by kernel_rfl
theorem Ca:f17.body=some WD:=by kernel_rfl
theorem kU{i:Nat}{x:ax}(h:(iA L n).get i=some x):i<1:=fv (k:=1) (DY (by omega)) h
theorem VD(hl:L.length=64*n)(hf:cM L n=false):cd prog 16 (iL n sc) 1 (iA L n) 1 (iA L n) (.aF [.c .ptr0,.c (.int .i64 22)]):=by
 refine TO.c8 (fn:=f16) (c:=kM) func16 p7 [] (fq fun i x h=>kU h) (wR n sc) ?_
 refine TO.aP yV (k0:=1) rfl (.of_eq (Fy ..) ?_);unfold MQ;rw[Kd hf];obtain⟨e1,e2,e3⟩:=XI L n 22;exact .yes rfl ⟨⟨hl,rfl,trivial⟩,.inr rfl,_,e1,rfl,e2,e3⟩
theorem UU(hl:L.length=64*n)(h0:n≠0)(hn:n<=140)(hf:cM L n=true):cd prog 16 (iL n sc) 1 (iA L n) 4 (Lf L n (bO L n 4) (bO L n 6) (bO L n 8) sc) (.aF [.c (.ptr 1 0),.c (.int .i64 0)]):=by
 refine TO.c8 (fn:=f16) (c:=kM) func16 p7 [] (fq fun i x h=>kU h) (wR n sc) ?_
 refine TO.aP yV (k0:=1) rfl (.of_eq (Fy ..) ?_);unfold MQ;rw[Eg hf];obtain⟨e1,e2,e3⟩:=YA L n (bO L n 4) (bO L n 6) (bO L n 8) sc 0;exact .no rfl ⟨⟨hl,rfl,h0,hn,hl,rfl,trivial⟩,.inr rfl,_,e1,rfl,e2,e3⟩
theorem Vj(hl:L.length=64*n)(hy:Bytes L)(hf:cM L n=false):cd prog 17 (iL n sc) 1 (iA L n) 1 (iA L n) (.aF [.c .ptr0,.c (.int .i64 22)]):=by
 refine TO.c8 (fn:=f17) (c:=WD) func17 Ca [] (fq fun i x h=>kU h) (Jb n sc) ?_
 refine TO.aP yV (k0:=1) rfl (.of_eq (HT ..) ?_);unfold LD;rw[Kd hf];obtain⟨e1,e2,e3⟩:=XK L n 22;exact .yes rfl ⟨⟨hl,rfl,hy,trivial⟩,.inr rfl,_,e1,rfl,e2,e3⟩
theorem TX(hl:L.length=64*n)(h0:n≠0)(hn:n<=140)(hy:Bytes L)(hf:cM L n=true):cd prog 17 (iL n sc) 1 (iA L n) 4 (MW L n (bO L n 4) (bO L n 6) (bO L n 8) sc) (.aF [.c (.ptr 1 0),.c (.int .i64 0)]):=by
 refine TO.c8 (fn:=f17) (c:=WD) func17 Ca [] (fq fun i x h=>kU h) (Jb n sc) ?_
 refine TO.aP yV (k0:=1) rfl (.of_eq (HT ..) ?_);unfold LD;rw[Eg hf];obtain⟨e1,e2,e3⟩:=YY L n (bO L n 4) (bO L n 6) (bO L n 8) sc 0;have hc:List.take 0 (List.drop 0 (cx eN 0))++List.take (n*64) (List.drop 0 L)=L:=by rw[DT,List.drop_zero,List.take_of_length_le (by omega)]
 rw[hc,Int.toNat_natCast,Nat.zero_add,Nat.zero_add,Nat.mul_comm n 64];exact .no rfl (.aZ (decide_eq_true h0) (.aZ (by simp) (.no (A0 (by omega)) (.aZ (decide_eq_true ⟨by omega,yE hn⟩) (.aZ (by simp;omega) ⟨⟨hl,rfl,hy,trivial⟩,.inr rfl,_,e1,rfl,e2,e3⟩)))))
end
def E16(v:Bool):List RV->T ax->Nat->Option GS:=fun args hp _=>match args with
 | [.one (.c (.aC nm 64 0 n)),.one (.c (.int .u32 sc))]=>match bn hp.get nm with
  |some (_,_,_,.ints .u8 L _)=>match v with
   |false=>some ⟨1,[nm],iL n sc,iA L n,1,iA L n,.aF [.c .ptr0,.c (.int .i64 22)],[L.length=64*n,cM L n=false]⟩
   |true=>some ⟨1,[nm],iL n sc,iA L n,4,Lf L n (bO L n 4) (bO L n 6) (bO L n 8) sc,.aF [.c (.ptr 1 0),.c (.int .i64 0)],[L.length=64*n,n≠0,n<=140,cM L n=true]⟩
  |_=>none
 |_=>none
theorem ad8(v:Bool):aI prog 16 (cC (E16 v)):=dT ⟨_,func16,rfl⟩ fun args hp nx g h bB=>by
 unfold E16 at h;split at h<;>try(cases h;done)
 split at h<;>try(cases h;done)
 cases v with
 |false=>
  cases h;obtain⟨h1,h2,_⟩:=bB;exact⟨VD h1 h2,fun i x hx=>kU hx⟩
 |true=>
  cases h;obtain⟨h1,h2,h3,h4,_⟩:=bB;exact⟨UU h1 h2 h3 h4,fun i x hx=>kU hx⟩
def E17(v:Bool):List RV->T ax->Nat->Option GS:=fun args hp _=>match args with
 | [.one (.c (.aC nm 64 0 n)),.one (.c (.int .u32 sc))]=>match bn hp.get nm with
  |some (_,_,_,.ints .u8 L _)=>match v with
   |false=>some ⟨1,[nm],iL n sc,iA L n,1,iA L n,.aF [.c .ptr0,.c (.int .i64 22)],[L.length=64*n,Bytes L,cM L n=false]⟩
   |true=>some ⟨1,[nm],iL n sc,iA L n,4,MW L n (bO L n 4) (bO L n 6) (bO L n 8) sc,.aF [.c (.ptr 1 0),.c (.int .i64 0)],[L.length=64*n,n≠0,n<=140,Bytes L,cM L n=true]⟩
  |_=>none
 |_=>none
theorem aea(v:Bool):aI prog 17 (cC (E17 v)):=dT ⟨_,func17,rfl⟩ fun args hp nx g h bB=>by
 unfold E17 at h;split at h<;>try(cases h;done)
 split at h<;>try(cases h;done)
 cases v with
 |false=>
  cases h;obtain⟨h1,h2,h3,_⟩:=bB;exact⟨Vj h1 h2 h3,fun i x hx=>kU hx⟩
 |true=>
  cases h;obtain⟨h1,h2,h3,h4,h5,_⟩:=bB;exact⟨TX h1 h2 h3 h4 h5,fun i x hx=>kU hx⟩
def sH(v:Bool):FuncId->Option bg:=fun f=>match f with
 | 15=>some Fg| 16=>some (cC (E16 v))| 17=>some (cC (E17 v))| 19=>some Hl| 20=>some WH| 26=>some (lG WE)| 27=>some (lA VZ)|_=>none
theorem vw(v:Bool):Fit prog (fun f=>(sH v f).map bj):=⟨bM,aV,aI.sum fun f sm h=>by
 unfold sH at h;split at h
 ·cases h;exact PX
 ·cases h;exact ad8 v
 ·cases h;exact aea v
 ·cases h;exact RA
 ·cases h;exact SV
 ·cases h;exact aeV
 ·cases h;exact adf
 ·cases h⟩
def uC:Code:=gB 28
def o6(off n cap:Nat)(sc:Int):List RV:= [.one (.c (.sl 0 off n cap)),.one (.c (.int .u32 sc)),.one (.c (.bool true))]
def S3(off n cap:Nat)(sc:Int):T RV:=match setArgs 53 (o6 off n cap sc) 0 .nil some with|some t=>t|none=> .nil
theorem JP(off n cap:Nat)(sc:Int):setArgs 53 (o6 off n cap sc) 0 .nil some=some (S3 off n cap sc):=by kernel_rfl
section
variable(off:Nat)(G:aj)(n cap:Nat)(a b c sc:Int)(st:St)(sr:dA)
def tv:T ax:=aN [(0,.dK off .u8 G)]
def J0:T ax:=aN [(0,.dK off .u8 G),(1,Q3 a b c sc n st.2.2 2 3),(2,qY st.1 n),(3,.aQ none st.2.1),(4,Wq a b c sc n sr.2.2 5 6),(5,qY sr.1 n),(6,.row 4 false none (.aT sr.2.1 n))]
def sZn:S:=aE [2,9,11] 53 ⟨aN [(2,.one (.c (.bool true))),(9,.one (.c .ptr0)),(11,.one (.c .ptr0))],tv off G,1,[]⟩
def sZa(L:aj):S:=aE [2,9,11] 53 ⟨aN [(2,.one (.c (.bool true))),(9,.one (.c (.ptr 1 0))),(11,.one (.c (.ptr 4 0)))],aN [(0,.dK off .u8 G),(1,Q3 a b c sc n 0 2 3),(2,qY L n),(3,.map []),(4,Wq a b c sc n 0 5 6),(5,qY L n),(6,.row 4 false none (.aT (cx [false] n) n))],7,[]⟩
def sZb:S:=aE [2,9,11] 53 ⟨aN [(2,.one (.c (.bool true))),(9,.one (.c (.ptr 1 0))),(11,.one (.c (.ptr 4 0)))],J0 off G n a b c sc st sr,7,[]⟩
def sZc:S:=aE [9,11] 53 ⟨aN [(9,.one (.c (.ptr 1 0))),(11,.one (.c (.ptr 4 0)))],J0 off G n a b c sc st sr,7,[]⟩
def Wu:S:=aE [6,7,8] 53 ⟨aN [(6,.one (.c (.ptr 1 0))),(7,.one (.c (.ptr 4 0))),(8,.one (.c (.bool true)))],J0 off G n a b c sc st sr,7,[]⟩
def Wc:S:=aE [6,7,8] 53 ⟨aN [(6,.one (.c .ptr0)),(7,.one (.c .ptr0)),(8,.one (.c (.bool true)))],tv off G,1,[]⟩
def i28(M:S->Prop)(R:ah):ai:=dk prog (sH true) 300 53 5 uC ⟨S3 off n cap sc,tv off G,1,[]⟩ aO (iR 1 [2,9,11] 53 [3,4,5,6,7,8] f28.results.toList prog M R)
def agk(M:S->Prop)(R:ah):ai:=dk prog (sH false) 300 53 5 uC ⟨S3 off n cap sc,tv off G,1,[]⟩ aO (iR 1 [2,9,11] 53 [] f28.results.toList prog M R)
def ZQ(Q:ag):ai:=az prog (sH true) 300 53 (gL (aG 5 uC)) (sZb off G n a b c sc st sr) aO (bN 1 [9,11] 53 (fun _=> [1,2,3,4,5,6]) Q)
def e28(Q:ag):ai:=az prog (sH true) 300 53 (gR (aG 5 uC)) (sZc off G n a b c sc st sr) aO (bN 1 [6,7,8] 53 (fun _=> [1,2,3,4,5,6]) Q)
def afY(Q:ag):ai:=az prog (sH false) 300 53 (aG 5 uC) (sZn off G) aO (bN 1 [6,7,8] 53 (fun _=> []) Q)
def WZ(off:Nat)(G:aj)(n cap:Nat)(sc:Int)(M:S->Prop)(R:ah):ai:=some ((aw [aS n=aS n,sc=sc,List.take (64*aS n) G=List.take (64*aS n) G,64*aS n=64*aS n,(List.take (64*aS n) G).length=64*aS n,aS n≠0,aS n<=140,Bytes (List.take (64*aS n) G),cM (List.take (64*aS n) G) (aS n)=true,aS n=aS n,sc=sc,List.take (64*aS n) G=List.take (64*aS n) G,64*aS n=64*aS n,(List.take (64*aS n) G).length=64*aS n,aS n≠0,aS n<=140,cM (List.take (64*aS n) G) (aS n)=true,(List.take (64*aS n) G).length=64*aS n,64*aS n=64*aS n,aS n≠0,aS n<=140,off=off,G.length=64*n,n<=cap,n≠0]/\M (sZa off G (aS n) (bO (List.take (64*aS n) G) (aS n) 4) (bO (List.take (64*aS n) G) (aS n) 6) (bO (List.take (64*aS n) G) (aS n) 8) sc (List.take (64*aS n) G))))
theorem Vf(off:Nat)(G:aj)(n cap:Nat)(sc:Int)(M:S->Prop)(R:ah):i28 off G n cap sc M R=WZ off G n cap sc M R:=by kernel_rfl
def aay(off:Nat)(G:aj)(n cap:Nat)(sc:Int)(M:S->Prop)(R:ah):ai:=some ((aw [aS n=aS n,sc=sc,List.take (64*aS n) G=List.take (64*aS n) G,64*aS n=64*aS n,(List.take (64*aS n) G).length=64*aS n,Bytes (List.take (64*aS n) G),cM (List.take (64*aS n) G) (aS n)=false,aS n=aS n,sc=sc,List.take (64*aS n) G=List.take (64*aS n) G,64*aS n=64*aS n,(List.take (64*aS n) G).length=64*aS n,cM (List.take (64*aS n) G) (aS n)=false,(List.take (64*aS n) G).length=64*aS n,64*aS n=64*aS n,aS n≠0,aS n<=140,off=off,G.length=64*n,n<=cap,n≠0]/\M (sZn off G)))
theorem Pc(off:Nat)(G:aj)(n cap:Nat)(sc:Int)(M:S->Prop)(R:ah):agk off G n cap sc M R=aay off G n cap sc M R:=by kernel_rfl
def Dl(off:Nat)(G:aj)(n:Nat)(a b:Int)(c sc:Int)(st:St)(sr:dA)(Q:ag):ai:=some ((aw [(lO a b c n sc (sr.1,sr.2.1,sr.2.2)).1.length=64*n,64*n=64*n,n=n,n=n,n=n,(lO a b c n sc (sr.1,sr.2.1,sr.2.2)).2.1.length=n,Bytes (lO a b c n sc (sr.1,sr.2.1,sr.2.2)).1,a<9223372036854775808,cF sc,(ju a b c n sc st).1.length=64*n,64*n=64*n,(n:Int)=2+a*(2+b+c),aY a b c=true,nQ (ju a b c n sc st).1 n,sr.1.length=64*n,64*n=64*n,n=n,n=n,n=n,sr.2.1.length=n,a<9223372036854775808,cF sc,2<=n,n<9223372036854775807,Bytes sr.1,st.1.length=64*n,64*n=64*n,aY a b c=true]/\Q (X.normal) (sZc off G n a b c sc (uy a b c n sc ((ju a b c n sc st).1,(ju a b c n sc st).2.1,(ju a b c n sc st).2.2)) (nZ a b c n sc ((lO a b c n sc (sr.1,sr.2.1,sr.2.2)).1,(lO a b c n sc (sr.1,sr.2.1,sr.2.2)).2.1,(lO a b c n sc (sr.1,sr.2.1,sr.2.2)).2.2)))))
theorem xI(off:Nat)(G:aj)(n:Nat)(a b:Int)(c sc:Int)(st:St)(sr:dA)(Q:ag):ZQ off G n a b c sc st sr Q=Dl off G n a b c sc st sr Q:=by kernel_rfl
def aes(off:Nat)(G:aj)(n:Nat)(a b:Int)(c sc:Int)(st:St)(sr:dA)(Q:ag):ai:=some ((aw []/\Q (X.ret) (Wu off G n a b c sc st sr)))
theorem U3(off:Nat)(G:aj)(n:Nat)(a b:Int)(c sc:Int)(st:St)(sr:dA)(Q:ag):e28 off G n a b c sc st sr Q=aes off G n a b c sc st sr Q:=by kernel_rfl
def aaf(off:Nat)(G:aj)(Q:ag):ai:=some ((aw []/\Q (X.ret) (Wc off G)))
theorem Ry(off:Nat)(G:aj)(Q:ag):afY off G Q=aaf off G Q:=by kernel_rfl
theorem aeO(L:aj):(sZa off G n a b c sc L).hp.get 3=some (.map []):=by kernel_rfl
theorem afh(L:aj):rm 3 (.aQ none []) (sZa off G n a b c sc L)=sZb off G n a b c sc (L,[],0) (L,cx [false] n,0):=by kernel_rfl
theorem Yx:ba prog 53 (Wu off G n a b c sc st sr) f28.results.toList=some [.c (.ptr 1 0),.c (.ptr 4 0),.c (.bool true)]/\(Wu off G n a b c sc st sr).hp=J0 off G n a b c sc st sr/\(Wu off G n a b c sc st sr).nx=7:=⟨by kernel_rfl,by kernel_rfl,by kernel_rfl⟩
theorem Xx:ba prog 53 (Wc off G) f28.results.toList=some [.c .ptr0,.c .ptr0,.c (.bool true)]/\(Wc off G).hp=tv off G/\(Wc off G).nx=1:=⟨by kernel_rfl,by kernel_rfl,by kernel_rfl⟩
end
def CP(a b c:Int)(n:Nat)(sc:Int)(F:aj):St:=uy a b c n sc (ju a b c n sc (F,[],0))
def Ru(a b c:Int)(n:Nat)(sc:Int)(F:aj):dA:=nZ a b c n sc (lO a b c n sc (F,cx [false] n,0))
section
variable{off:Nat}{G F:aj}{n cap:Nat}{a b c sc:Int}
theorem Ew(hg:aY a b c=true)(hm:(n:Int)=2+a*(2+b+c)):fh n (CP a b c n sc F) (Ru a b c n sc F):=((abv n F).run hg hm).uy
theorem JH(hF:F.length=64*n)(hy:Bytes F):dS n (lO a b c n sc (F,cx [false] n,0))/\dS n (Ru a b c n sc F):=by
 have h:dS n (lO a b c n sc (F,cx [false] n,0)):=Qm ⟨hF,xx n,hy⟩;exact⟨h,dS.lf _ _ _ h⟩
theorem OU{L:aj}(h:Bytes L):nQ L n:=fun s _ _ x hx=>h x (List.mem_of_mem_drop (List.mem_of_mem_take hx))
theorem W5(hg:aY a b c=true)(hm:(n:Int)=2+a*(2+b+c))(hF:F.length=64*n)(hy:Bytes F):j4 n (ju a b c n sc (F,[],0))/\j4 n (CP a b c n sc F):=by
 have h1:=((abv n F).run (sc:=sc) hg hm).img;have h2:=(Ew (sc:=sc) (F:=F) hg hm).img;obtain⟨k1,k2⟩:=JH (a:=a) (b:=b) (c:=c) (sc:=sc) hF hy;exact⟨⟨by rw[h1];exact k1.len,by rw[h1];exact OU k1.byt⟩,⟨by rw[h2];exact k2.len,by rw[h2];exact OU k2.byt⟩⟩
theorem CD:f28.body=some uC:=by kernel_rfl
theorem yS{i:Nat}{x:ax}(h:(tv off G).get i=some x):i<1:=fv (k:=1) (DY (by omega)) h
theorem SZ(hL:G.length=64*n)(hc:n<=cap)(hn:n≠0)(hy:Bytes G)(hf:cM (G.take (64*aS n)) (aS n)=false):
  cd prog 28 (o6 off n cap sc) 1 (tv off G) 1 (tv off G) (.aF [.c .ptr0,.c .ptr0,.c (.bool true)]):=by
 have hF:(G.take (64*aS n)).length=64*aS n:=by have:=(mU n).2;simp;omega
 have hyF:Bytes (G.take (64*aS n)):=fun x hx=>hy x (List.mem_of_mem_take hx)
 refine TO.c8 (fn:=f28) (c:=uC) func28 CD [] (fq fun i x h=>yS h) (JP off n cap sc) ?_
 refine TO.eZ (vw false) (m:=5) (k0:=1) rfl (aH:= [2,9,11]) (ord:= []) f28.results.toList (.of_eq (Pc ..) ⟨⟨rfl,rfl,rfl,rfl,hF,hyF,hf,rfl,rfl,rfl,rfl,hF,hf,hF,rfl,oN hn,(mU n).1,rfl,hL,hc,hn,trivial⟩,?_⟩);refine TO.aP (vw false) (k0:=1) rfl (.of_eq (Ry ..) ⟨trivial,?_⟩);obtain⟨e1,e2,e3⟩:=Xx off G;exact⟨.inr rfl,_,e1,rfl,e2,e3⟩
theorem TN(hL:G.length=64*n)(hc:n<=cap)(hn:n≠0)(hy:Bytes G)(hsc:cF sc)(hF:F=G.take (64*aS n))(hf:cM F (aS n)=true)(ha:a=bO F (aS n) 4)(hb:b=bO F (aS n) 6)(hcc:c=bO F (aS n) 8):
  cd prog 28 (o6 off n cap sc) 1 (tv off G) 7 (J0 off G (aS n) a b c sc (CP a b c (aS n) sc F) (Ru a b c (aS n) sc F)) (.aF [.c (.ptr 1 0),.c (.ptr 4 0),.c (.bool true)]):=by
 have hFl:F.length=64*aS n:=by rw[hF];have:=(mU n).2;simp;omega
 have hyF:Bytes F:=by rw[hF];exact fun x hx=>hy x (List.mem_of_mem_take hx)
 have hg:aY a b c=true:=by rw[ha,hb,hcc];exact Gz hf
 have ht:=E9 hf;have hm:(aS n:Int)=2+a*(2+b+c):=by
  rw[<-ha, <-hb, <-hcc]at ht;unfold dL at ht;rw[if_pos hg]at ht;exact ht.symm
 have ha':a<9223372036854775808:=by have:=b8.1 hg;omega
 have h2:2<=aS n:=by have:=fL hg;omega
 have hle:=(mU n).1;obtain⟨k1,k2⟩:=JH (a:=a) (b:=b) (c:=c) (sc:=sc) hFl hyF;obtain⟨q1,q2⟩:=W5 (sc:=sc) hg hm hFl hyF;refine TO.c8 (fn:=f28) (c:=uC) func28 CD [] (fq fun i x h=>yS h) (JP off n cap sc) ?_
 refine TO.eZ (vw true) (m:=5) (k0:=1) rfl (aH:= [2,9,11]) (ord:= [3,4,5,6,7,8]) f28.results.toList (.of_eq (Vf ..) ?_);unfold WZ;rw[<-hF, <-ha, <-hb, <-hcc];refine⟨⟨rfl,rfl,rfl,rfl,hFl,oN hn,hle,hyF,hf,rfl,rfl,rfl,rfl,hFl,oN hn,hle,hf,hFl,rfl,oN hn,hle,rfl,hL,hc,hn,trivial⟩,?_⟩;refine TO.nT (dJ.aa 3 (.aQ none []) (aeO ..) rfl rfl fun _ _ _ h=>h) ?_
 rw[afh];refine TO.seq (c:=gL (aG 5 uC)) (d:=gR (aG 5 uC)) (TO.aP (vw true) (k0:=1) rfl (.of_eq (xI ..) ⟨?_,?_⟩))
 ·exact⟨k1.len,rfl,rfl,rfl,rfl,k1.wro,k1.byt,ha',hsc,q1.1,rfl,hm,hg,q1.2,hFl,rfl,rfl,rfl,rfl,xx _,ha',hsc,h2,by omega,hyF,hFl,rfl,hg,trivial⟩
 refine TO.aP (vw true) (k0:=1) rfl (.of_eq (U3 ..) ⟨trivial,?_⟩);obtain⟨e1,e2,e3⟩:=Yx off G (aS n) a b c sc (CP a b c (aS n) sc F) (Ru a b c (aS n) sc F);exact⟨.inr rfl,_,e1,rfl,e2,e3⟩
end
def E28(v:Bool):List RV->T ax->Nat->Option GS:=fun args hp _=>match args with
 | [.one (.c (.sl nm off n cap)),.one (.c (.int .u32 sc)),.one (.c (.bool true))]=>match hp.get nm with
  |some (.dK off' .u8 G)=>match v with
   |false=>some ⟨1,[nm],o6 off n cap sc,tv off G,1,tv off G,.aF [.c .ptr0,.c .ptr0,.c (.bool true)],[off'=off,G.length=64*n,n<=cap,n≠0,Bytes G,cM (G.take (64*aS n)) (aS n)=false]⟩
   |true=>some ⟨1,[nm],o6 off n cap sc,tv off G,7,J0 off G (aS n) (bO (G.take (64*aS n)) (aS n) 4) (bO (G.take (64*aS n)) (aS n) 6) (bO (G.take (64*aS n)) (aS n) 8) sc
      (CP (bO (G.take (64*aS n)) (aS n) 4) (bO (G.take (64*aS n)) (aS n) 6) (bO (G.take (64*aS n)) (aS n) 8) (aS n) sc (G.take (64*aS n)))
      (Ru (bO (G.take (64*aS n)) (aS n) 4) (bO (G.take (64*aS n)) (aS n) 6) (bO (G.take (64*aS n)) (aS n) 8) (aS n) sc (G.take (64*aS n))),
     .aF [.c (.ptr 1 0),.c (.ptr 4 0),.c (.bool true)],[off'=off,G.length=64*n,n<=cap,n≠0,Bytes G,cF sc,cM (G.take (64*aS n)) (aS n)=true]⟩
  |_=>none
 |_=>none
theorem aaP(v:Bool):aI prog 28 (cC (E28 v)):=dT ⟨_,func28,rfl⟩ fun args hp nx g h bB=>by
 unfold E28 at h;split at h<;>try(cases h;done)
 split at h<;>try(cases h;done)
 cases v with
 |false=>
  cases h;obtain⟨h0,h1,h2,h3,h4,h5,_⟩:=bB;exact⟨SZ h1 h2 h3 h4 h5,fun i x hx=>yS hx⟩
 |true=>
  cases h;obtain⟨h0,h1,h2,h3,h4,h5,h6,_⟩:=bB;exact⟨TN h1 h2 h3 h4 h5 rfl h6 rfl rfl rfl,fun i x hx=>yS hx⟩
section
variable{a b c sc:Int}{m:Nat}{st:St}{i:Int}{y:Fi.bD}
theorem CE{L:aj}(hok:bG a b c L m i=true):aW a b c L m i=gf (eu (t54 (bk L (aK b c i).1)) (18*(aK b c i).2.1.toNat)):=by
 unfold aW;rw[if_pos hok];exact ud hok
theorem JK(hm:(m:Int)=2+a*(2+b+c))(h:j4 m st)(ho:bG a b c st.1 m i=true)(hin:cN a sc (aK b c i).2.2.1=true)(hY:gW y):
  j4 m (c4 a b c m sc st i y).2/\(c4 a b c m sc st i y).2.2.2=st.2.2/\(∀j,bG a b c (c4 a b c m sc st i y).2.1 m j=bG a b c st.1 m j)/\
  (∀j,aW a b c (c4 a b c m sc st i y).2.1 m j=if j=i then y else aW a b c st.1 m j)/\(y=aW a b c st.1 m i->(c4 a b c m sc st i y).2=st):=by
 rw[Ke ho];obtain⟨hB,hs,hi,hld⟩:=fV ho;obtain⟨p1,p2,p3,p4,_,_⟩:=vv hB;obtain⟨s0,s1⟩:=dU.1 hs;have hw:(ic a b c st.1 m i y).length=54:=jF h.1;have hp:(aR st.1 m (aK b c i).1 4).length=54:=eH h.1;have hsl:=jK b c i;obtain⟨w1,w2,w3⟩:=Sb (sc:=sc) h.1 (g:=(aK b c i).1) (k:=4) s0 s1 rfl hw (.inr (by rw[p2];exact hin))
 have hbk: ∀j,cq a b c j=true->dP m (aK b c j).1=true->bk (fP a b c m sc st (aK b c i).1 4 (ic a b c st.1 m i y)).1 (aK b c j).1=if(aK b c j).1=(aK b c i).1 then xc 4 (ic a b c st.1 m i y) (bk st.1 (aK b c i).1)else bk st.1 (aK b c j).1:=fun j hB hs=>by
  obtain⟨q0,q1⟩:=dU.1 hs;exact w1 _ q0 q1
 have hok': ∀j,bG a b c (fP a b c m sc st (aK b c i).1 4 (ic a b c st.1 m i y)).1 m j=bG a b c st.1 m j:=fun j=>by
  rw[pZ,pZ];cases hB:cq a b c j with
  |false=>rfl
  |true=>
   cases hs:dP m (aK b c j).1 with
   |false=>rfl
   |true=>
    rw[hbk j hB hs];split
    ·rename_i e;rw[(Fh rfl hw).1,e,hi]
    ·rfl
 refine⟨⟨fR h.1 hw,FA h.1 h.2 hw (Oi h.2 hY)⟩,w2,hok',fun j=> ?_,fun e=>w3 ⟨hi,?_⟩⟩
 ·by_cases hj:bG a b c st.1 m j=true
  ·obtain⟨hBj,hsj,_,hldj⟩:=fV hj;rw[CE ((hok' j).trans hj),hbk j hBj hsj,CE hj];by_cases hx:j=i
   ·subst hx;rw[if_pos rfl,if_pos rfl,(Fh rfl hw).2];unfold ic;rw[mN (oB _) (by omega),XD hY]
   ·rw[if_neg hx];by_cases hc:(aK b c j).1=(aK b c i).1
    ·rw[if_pos hc,(Fh rfl hw).2];have bT:(aK b c j).2.1≠(aK b c i).2.1:=fun e=>hx (Zl hBj hB hc e)
     have hsj:=jK b c j;unfold ic;rw[Nv (oB _) (by omega) (by omega),hld,hc]
    ·rw[if_neg hc]
  ·have hj': ¬bG a b c (fP a b c m sc st (aK b c i).1 4 (ic a b c st.1 m i y)).1 m j=true:=by rw[hok'];exact hj
   have hx:j≠i:=fun e=>hj (by rw[e];exact ho)
   unfold aW;rw[if_neg hj,if_neg hj',if_neg hx]
 ·obtain⟨sb,sl⟩:=rS h.1 ho (h.2 _ s0 s1);have e2:aW a b c st.1 m i=gP b c st.1 m i:=by unfold aW;rw[if_pos ho]
  rw[e,e2];unfold ic gP;rw[IT sl sb];rw[hld]at hp ⊢;exact(Cc (by omega)).symm
end
def rk(a b c:Int)(n:Nat)(sc:Int)(F:Int->Fi.bD->Fi.bD)(l:aj)(st:St):St:=l.foldl (fun st i=>(c4 a b c n sc st i (F i (aW a b c st.1 n i))).2) st
section
variable{a b c sc:Int}{m:Nat}{F:Int->Fi.bD->Fi.bD}
theorem I7(hm:(m:Int)=2+a*(2+b+c))(hF: ∀i y,gW y->gW (F i y)): ∀(l:aj) (st:St),j4 m st->l.Nodup->(∀i∈l,bG a b c st.1 m i=true/\cN a sc (aK b c i).2.2.1=true)->
  j4 m (rk a b c m sc F l st)/\(rk a b c m sc F l st).2.2=st.2.2/\(∀j,bG a b c (rk a b c m sc F l st).1 m j=bG a b c st.1 m j)/\
  (∀j,aW a b c (rk a b c m sc F l st).1 m j=if j∈l then F j (aW a b c st.1 m j)else aW a b c st.1 m j)
 | [],st,h,_,_=>⟨h,rfl,fun _=>rfl,fun j=>by rw[if_neg List.not_mem_nil];rfl⟩
 |i::l,st,h,hn,hl=>by
  obtain⟨ho,hin⟩:=hl i List.mem_cons_self;obtain⟨h1,h2,h3,h4,_⟩:=JK (sc:=sc) hm h ho hin (hF i _ (Bx h.1 h.2 i));obtain⟨n1,n2⟩:=List.nodup_cons.1 hn;obtain⟨k1,k2,k3,k4⟩:=I7 hm hF l _ h1 n2 (fun j hj=>⟨(h3 j).trans (hl j (List.mem_cons_of_mem _ hj)).1,(hl j (List.mem_cons_of_mem _ hj)).2⟩)
  refine⟨k1,k2.trans h2,fun j=>(k3 j).trans (h3 j),fun j=> ?_⟩
  have e:aW a b c (rk a b c m sc F (i::l) st).1 m j=if j∈l then F j (aW a b c (c4 a b c m sc st i (F i (aW a b c st.1 m i))).2.1 m j)else aW a b c (c4 a b c m sc st i (F i (aW a b c st.1 m i))).2.1 m j:=k4 j
  rw[e,h4 j];by_cases hj:j=i
  ·subst hj;rw[if_neg n1,if_pos rfl,if_pos List.mem_cons_self]
  ·rw[if_neg hj];by_cases hjl:j∈l
   ·rw[if_pos hjl,if_pos (List.mem_cons_of_mem _ hjl)]
   ·rw[if_neg hjl,if_neg (fun h=>(List.mem_cons.1 h).elim hj hjl)]
theorem EN(hm:(m:Int)=2+a*(2+b+c)){st:St}(h:j4 m st): ∀(l:aj),(∀i∈l,bG a b c st.1 m i=true/\cN a sc (aK b c i).2.2.1=true/\F i (aW a b c st.1 m i)=aW a b c st.1 m i)->rk a b c m sc F l st=st
 | [],_=>rfl
 |i::l,hl=>by
  obtain⟨ho,hin,hq⟩:=hl i List.mem_cons_self;have h5:=(JK (sc:=sc) (y:=aW a b c st.1 m i) hm h ho hin (Bx h.1 h.2 i)).2.2.2.2 rfl;have e:rk a b c m sc F (i::l) st=rk a b c m sc F l (c4 a b c m sc st i (F i (aW a b c st.1 m i))).2:=rfl;rw[e,hq,h5];exact EN hm h l (fun j hj=>hl j (List.mem_cons_of_mem _ hj))
end
def bV(P:Int->Bool):Nat->Int->List Int->List Int
 | 0,_,l=>l
 |m+1,i,l=>bV P m (i+1) (bif P (i+1)then l++ [i+1]else l)
theorem wA{P:Int->Bool}: ∀ {m:Nat} {i:Int} {l:aj} {j:Int},j∈bV P m i l↔j∈l\/(i<j/\j<=i+m/\P j=true)
 | 0,i,l,j=>⟨.inl,fun h=>h.elim id (fun h=>by omega)⟩
 |m+1,i,l,j=>by
  show j∈bV P m (i+1) _↔_;rw[wA (m:=m)];cases hP:P (i+1)with
  |true=>
   simp only[cond_true,List.mem_append,List.mem_singleton];constructor
   ·rintro((h|rfl)|⟨h1,h2,h3⟩)
    ·exact .inl h
    ·exact .inr ⟨by omega,by push_cast;omega,hP⟩
    ·exact .inr ⟨by omega,by push_cast;omega,h3⟩
   ·rintro(h|⟨h1,h2,h3⟩)
    ·exact .inl (.inl h)
    ·by_cases e:j=i+1
     ·exact .inl (.inr e)
     ·exact .inr ⟨by omega,by push_cast at h2;omega,h3⟩
  |false=>
   simp only[cond_false];constructor
   ·rintro(h|⟨h1,h2,h3⟩)
    ·exact .inl h
    ·exact .inr ⟨by omega,by push_cast;omega,h3⟩
   ·rintro(h|⟨h1,h2,h3⟩)
    ·exact .inl h
    ·by_cases e:j=i+1
     ·subst e;rw[hP]at h3;cases h3
     ·exact .inr ⟨by omega,by push_cast at h2;omega,h3⟩
theorem CN{P:Int->Bool}: ∀ {m:Nat} {i:Int} {l:aj},l.Nodup->(∀j∈l,j<=i)->(bV P m i l).Nodup
 | 0,_,_,h,_=>h
 |m+1,i,l,h,hl=>by
  refine CN (m:=m) ?_ ?_
  ·cases P (i+1)with
   |false=>exact h
   |true=>
    show(l++ [i+1]).Nodup;rw[List.nodup_append];exact⟨h,by simp,fun x hx y hy=>by rw[List.mem_singleton.1 hy];have:=hl x hx;omega⟩
  ·cases P (i+1)with
   |false=>exact fun j hj=>by have:=hl j hj;omega
   |true=>
    intro j hj;rcases List.mem_append.1 hj with hj|hj
    ·have:=hl j hj;omega
    ·rw[List.mem_singleton.1 hj];omega
theorem Av{P:Int->Bool}: ∀ {m:Nat} {i:Int} {l:aj},(bV P m i l).length<=l.length+m
 | 0,_,_=>Nat.le_refl _
 |m+1,i,l=>by
  have:=Av (P:=P) (m:=m) (i:=i+1) (l:=bif P (i+1)then l++ [i+1]else l)
  show(bV P m (i+1) _).length<=_;cases hP:P (i+1)with
  |false=>rw[hP]at this;simp only[cond_false]at this ⊢;omega
  |true=>rw[hP]at this;simp only[cond_true,List.length_append,List.length_singleton]at this ⊢;omega
theorem Cs{P P':Int->Bool}(h: ∀j,P j=P' j): ∀(m:Nat) (i:Int) (l:aj),bV P m i l=bV P' m i l
 | 0,_,_=>rfl
 |m+1,i,l=>by
  show bV P m (i+1) _=bV P' m (i+1) _;rw[h (i+1)];exact Cs h m _ _
end Go.Sx.Ly
