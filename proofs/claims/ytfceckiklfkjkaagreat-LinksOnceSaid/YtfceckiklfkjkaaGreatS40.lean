import Derived.Test.YtfceckiklfkjkaaGreatS39
import Derived.Test.YtfceckiklfkjkaaGreatS25
noncomputable section
open Go.Proofs Go.RowKit
set_option maxRecDepth 100000
open Go.IntKind(i64 u8 u64 u32 u16)
open Go.Proofs.Tryz
namespace Go.Sx
def E99:List RV->T ax->Nat->Option GS:=fun args hp _=>match args with
 | [.one (.c (.ptr nw 0)),.one (.c (.int .i64 d))]=>match wkE hp nw with
  |some ((a,b,c,n,sc),(st,aq,av,ay,ds),_,(ni,nl,nf,no,nm,nb,nn,nd))=>
   some ⟨9,[nw,ni,nl,nf,no,nm,nb,nn,nd],zf d,eK a b c n sc st aq av ay ds 8 [],10,
    eK a b c n sc (nM a b c n sc d (st,aq,av,ay,ds)).1 (nM a b c n sc d (st,aq,av,ay,ds)).2.1 (nM a b c n sc d (st,aq,av,ay,ds)).2.2.1 (nM a b c n sc d (st,aq,av,ay,ds)).2.2.2.1 (nM a b c n sc d (st,aq,av,ay,ds)).2.2.2.2 9 [],
    .aF [],[(n:Int)=2+a*(2+b+c),il a b c (j4 n) (st,aq,av,ay,ds),ds≠ []]⟩
  |none=>none
 |_=>none
theorem aeS:aI prog 99 (cC E99):=dT ⟨_,func99,rfl⟩ fun args hp nx g h bB=>by
 unfold E99 at h;split at h<;>try(cases h;done)
 split at h<;>try(cases h;done)
 cases h;obtain⟨h1,h2,h3,_⟩:=bB;exact⟨XP h1 h2 h3 rfl,fun i x hx=>oo (m:=8) (k:=9) (by omega) (by omega) (fun p hp=>absurd hp List.not_mem_nil) hx⟩
def jk(v:Bool):FuncId->Option bg:=fun f=>match f with| 21=>some (mC w8)| 98=>some (cC (Wh v))| 99=>some (cC E99)|_=>none
theorem gJ(v:Bool):Fit prog (fun f=>(jk v f).map bj):=⟨bM,aV,aI.sum fun f sm h=>by
 unfold jk at h;split at h
 ·cases h;exact sO
 ·cases h;exact Wr v
 ·cases h;exact aeS
 ·cases h⟩
def j7:Code:=gB 30
def mQ:List RV:= [.one (.c (.ptr 0 0))]
def My:T RV:=match setArgs 44 mQ 0 .nil some with|some t=>t|none=> .nil
theorem XA:setArgs 44 mQ 0 .nil some=some My:=by kernel_rfl
def D6:Code:=match gR (gL (aG 6 j7))with| .block _ (.loop c)=>c|_=> .skip
def aar(hp:T ax)(nf:Nat):List Nat:=match bn hp.get nf with|some (_,_,_,.cells [.map nn,.map no,_])=> [nf,no,nn]|_=> [nf]
def abd(hp:T ax)(nf:Nat):List Nat:=match bn hp.get nf with|some (_,_,_,.cells [_,_,.aC nd _ _ _])=> [nd]|_=> []
def ae8(hp:T ax)(nw:Nat):List Nat:=match bn hp.get nw with|some (_,_,_,.cells [_,_,.map nb])=> [nw,nb]|_=> [nw]
def vG:S->List Nat:=fun s=>match gg s.sl 3,gg s.sl 4 with| [nf],[nw]=>aar s.hp nf++ae8 s.hp nw++abd s.hp nf|_,_=> []
def vg(i:Nat):S->List Nat:=fun s=>match gg s.sl i with| [nf]=>aar s.hp nf++abd s.hp nf|_=> []
section
variable(a b c:Int)(n:Nat)(sc:Int)(st:St)(aq av:ak)(ay:List (Int×List Int))(ds:aj)(i:Int)
def FY(dc:Cell)(xs:List (Nat×ax)):T ax:=aN ([(0,.row 113 false none (.cells (tj a b c n sc st.2.2))),(1,.row 95 false (some 64) (.ints .u8 st.1 (64*n))),(2,.aQ none st.2.1),(3,.row 137 false none (.cells [.map 5,.map 4,dc])),(4,.aQ (some .i64) aq),(5,.aQ (some .i64) av)]++xs)
def Au(dc:Cell)(xs:List (Nat×ax)):T ax:=FY a b c n sc st aq av dc ([(6,.row 141 false none (.cells [.ptr 0 0,.ptr 3 0,.map 7])),(7,.eE ay)]++xs)
def RO:S:=aE [0,3,4] 44 ⟨aN [(0,.one (.c (.ptr 0 0))),(3,.one (.c (.ptr 3 0))),(4,.one (.c (.ptr 6 0)))],aN [(0,.row 113 false none (.cells (tj a b c n sc st.2.2))),(1,.row 95 false (some 64) (.ints .u8 st.1 (64*n))),(2,.aQ none st.2.1),(3,.row 137 false none (.cells [.map 5,.map 4,.bf])),(4,.map []),(5,.map []),(6,.row 141 false none (.cells [.ptr 0 0,.ptr 3 0,.map 7])),(7,.map [])],8,[]⟩
def sR1:S:=aE [0,3,4] 44 ⟨aN [(0,.one (.c (.ptr 0 0))),(3,.one (.c (.ptr 3 0))),(4,.one (.c (.ptr 6 0)))],Au a b c n sc st aq av ay .bf [],8,[]⟩
def Pn:S:=aE [3,4] 44 ⟨aN [(3,.one (.c (.ptr 3 0))),(4,.one (.c (.ptr 6 0)))],Au a b c n sc st aq av ay .bf [],8,[]⟩
def sR3:S:=aE [3,4] 44 ⟨aN [(3,.one (.c (.ptr 3 0))),(4,.one (.c (.ptr 6 0)))],Au a b c n sc st aq av ay (.aC 8 1 0 ds.length) [(8,cj ds)],9,[]⟩
def Mj:S:=aE [3,4,5] 44 ⟨aN [(3,.one (.c (.ptr 3 0))),(4,.one (.c (.ptr 6 0))),(5,.one (.c (.int .i64 i)))],Au a b c n sc st aq av ay .bf [],8,[]⟩
def D7:S:=aE [3,4,5] 44 ⟨aN [(3,.one (.c (.ptr 3 0))),(4,.one (.c (.ptr 6 0))),(5,.one (.c (.int .i64 i)))],Au a b c n sc st aq av ay (.aC 8 1 0 ds.length) [(8,cj ds)],9,[]⟩
def EW:S:=aE [2] 44 ⟨aN [(2,.one (.c (.ptr 3 0)))],FY a b c n sc st aq av .bf [],6,[]⟩
def Jm:S:=aE [2] 44 ⟨aN [(2,.one (.c (.ptr 3 0)))],FY a b c n sc st aq av (.aC 6 1 0 ds.length) [(6,cj ds)],7,[]⟩
def iRu(M:S->Prop)(R:ah):ai:=dk prog (jk true) 300 44 3 j7 ⟨My,ca a b c n sc st,3,[]⟩ aO (iR 3 [0,3,4] 44 [5,4,3,7,6] f30.results.toList prog M R)
def VK(t:Bool):S:=aE [3,4,17] 44 ⟨aN [(3,.one (.c (.ptr 3 0))),(4,.one (.c (.ptr 6 0))),(17,.one (.c (.bool t)))],Au a b c n sc st aq av ay .bf [],8,[]⟩
def kRu:Code:=match gR (gL (aG 3 j7))with| .cond _ c _=>c|_=> .skip
def dRu(Q:ag):ai:=az prog (jk true) 300 44 (gL (gL (aG 3 j7))) (sR1 a b c n sc st aq av ay) aO (bN 3 [3,4,17] 44 vG Q)
def afk(t:Bool)(Q:ag):ai:=az prog (jk true) 300 44 kRu (VK a b c n sc st aq av ay t) aO (bN 3 [2] 44 (vg 2) Q)
def agy(t:Bool)(Q:ag):ai:=az prog (jk true) 300 44 .skip (VK a b c n sc st aq av ay t) aO (bN 3 [3,4] 44 vG Q)
def afv(M:S->Prop)(R:ah):ai:=dk prog (jk false) 300 44 2 (aG 4 j7) (Pn a b c n sc st aq av ay) aO (iR 3 [3,4] 44 [3,4,5,6,7] f30.results.toList prog M R)
def afR(M:S->Prop)(R:ah):ai:=dk prog (jk true) 300 44 2 (aG 4 j7) (Pn a b c n sc st aq av ay) aO (iR 3 [3,4] 44 [3,4,5,6,7,8] f30.results.toList prog M R)
def agm(Q:ag):ai:=az prog (jk true) 300 44 (gL (gL (aG 6 j7))) (Pn a b c n sc st aq av ay) aO (bN 3 [3,4,5] 44 vG Q)
def afj(Q:ag):ai:=az prog (jk true) 300 44 (gL (gL (aG 6 j7))) (sR3 a b c n sc st aq av ay ds) aO (bN 3 [3,4,5] 44 vG Q)
def agP(Q:ag):ai:=az prog (jk true) 300 44 D6 (Mj a b c n sc st aq av ay 0) aO (bN 3 [3,4,5] 44 vG Q)
def rRu(Q:ag):ai:=az prog (jk true) 300 44 D6 (D7 a b c n sc st aq av ay ds i) aO (bN 3 [3,4,5] 44 vG Q)
def afN(Q:ag):ai:=az prog (jk true) 300 44 (gR (aG 6 j7)) (Mj a b c n sc st aq av ay i) aO (bN 3 [2] 44 (vg 2) Q)
def aga(Q:ag):ai:=az prog (jk true) 300 44 (gR (aG 6 j7)) (D7 a b c n sc st aq av ay ds i) aO (bN 3 [2] 44 (vg 2) Q)
def ad3(a b c:Int)(n:Nat)(sc:Int)(st:St)(M:S->Prop)(R:ah):ai:=some ((aw []/\M (RO a b c n sc st)))
theorem Uq(a b c:Int)(n:Nat)(sc:Int)(st:St)(M:S->Prop)(R:ah):iRu a b c n sc st M R=ad3 a b c n sc st M R:=by kernel_rfl
def adt(a b c:Int)(n:Nat)(sc:Int)(st:St)(aq av:ak)(ay:List (Int×List Int))(Q:ag):ai:=some ((aw [st.1.length=64*n,64*n=64*n]/\Q (X.normal) (VK a b c n sc st aq av ay !(aW a b c st.1 n 1).k==2)))
theorem TZ(a b c:Int)(n:Nat)(sc:Int)(st:St)(aq av:ak)(ay:List (Int×List Int))(Q:ag):dRu a b c n sc st aq av ay Q=adt a b c n sc st aq av ay Q:=by kernel_rfl
def ab9(a b c:Int)(n:Nat)(sc:Int)(st:St)(aq av:ak)(ay:List (Int×List Int))(t:Bool)(Q:ag):ai:=some ((aw []/\Q (X.ret) (EW a b c n sc st aq av)))
theorem RI(a b c:Int)(n:Nat)(sc:Int)(st:St)(aq av:ak)(ay:List (Int×List Int))(t:Bool)(Q:ag):afk a b c n sc st aq av ay t Q=ab9 a b c n sc st aq av ay t Q:=by kernel_rfl
def acI(a b c:Int)(n:Nat)(sc:Int)(st:St)(aq av:ak)(ay:List (Int×List Int))(t:Bool)(Q:ag):ai:=some ((aw []/\Q (X.normal) (Pn a b c n sc st aq av ay)))
theorem Qz(a b c:Int)(n:Nat)(sc:Int)(st:St)(aq av:ak)(ay:List (Int×List Int))(t:Bool)(Q:ag):agy a b c n sc st aq av ay t Q=acI a b c n sc st aq av ay t Q:=by kernel_rfl
def abN(a b c:Int)(n:Nat)(sc:Int)(st:St)(aq av:ak)(ay:List (Int×List Int))(M:S->Prop)(R:ah):ai:=some ((aw [(1:Int)=1,bC av 1 1=bC av 1 1,ay=ay,st.2.1=st.2.1,aq=aq,st.1=st.1,64*n=64*n,a=a,b=b,c=c,n=n,sc=sc,st.2.2=st.2.2,st.1.length=64*n,(dO a b c n sc 1 (st,aq,bC av 1 1,ay,[])).2.2.2.2= []]/\M (Pn a b c n sc (dO a b c n sc 1 (st,aq,bC av 1 1,ay,[])).1 (dO a b c n sc 1 (st,aq,bC av 1 1,ay,[])).2.1 (dO a b c n sc 1 (st,aq,bC av 1 1,ay,[])).2.2.1 (dO a b c n sc 1 (st,aq,bC av 1 1,ay,[])).2.2.2.1)))
theorem OX(a b c:Int)(n:Nat)(sc:Int)(st:St)(aq av:ak)(ay:List (Int×List Int))(M:S->Prop)(R:ah):afv a b c n sc st aq av ay M R=abN a b c n sc st aq av ay M R:=by kernel_rfl
def aaF(a b c:Int)(n:Nat)(sc:Int)(st:St)(aq av:ak)(ay:List (Int×List Int))(M:S->Prop)(R:ah):ai:=some ((aw [(1:Int)=1,bC av 1 1=bC av 1 1,ay=ay,st.2.1=st.2.1,aq=aq,st.1=st.1,64*n=64*n,a=a,b=b,c=c,n=n,sc=sc,st.2.2=st.2.2,st.1.length=64*n,(dO a b c n sc 1 (st,aq,bC av 1 1,ay,[])).2.2.2.2≠ []]/\M (sR3 a b c n sc (dO a b c n sc 1 (st,aq,bC av 1 1,ay,[])).1 (dO a b c n sc 1 (st,aq,bC av 1 1,ay,[])).2.1 (dO a b c n sc 1 (st,aq,bC av 1 1,ay,[])).2.2.1 (dO a b c n sc 1 (st,aq,bC av 1 1,ay,[])).2.2.2.1 (dO a b c n sc 1 (st,aq,bC av 1 1,ay,[])).2.2.2.2)))
theorem Pr(a b c:Int)(n:Nat)(sc:Int)(st:St)(aq av:ak)(ay:List (Int×List Int))(M:S->Prop)(R:ah):afR a b c n sc st aq av ay M R=aaF a b c n sc st aq av ay M R:=by kernel_rfl
def acu(a b c:Int)(n:Nat)(sc:Int)(st:St)(aq av:ak)(ay:List (Int×List Int))(Q:ag):ai:=some ((aw []/\Q (X.normal) (Mj a b c n sc st aq av ay 0)))
theorem OY(a b c:Int)(n:Nat)(sc:Int)(st:St)(aq av:ak)(ay:List (Int×List Int))(Q:ag):agm a b c n sc st aq av ay Q=acu a b c n sc st aq av ay Q:=by kernel_rfl
def acg(a b c:Int)(n:Nat)(sc:Int)(st:St)(aq av:ak)(ay:List (Int×List Int))(ds:aj)(Q:ag):ai:=some ((aw []/\Q (X.normal) (D7 a b c n sc st aq av ay ds 0)))
theorem O9(a b c:Int)(n:Nat)(sc:Int)(st:St)(aq av:ak)(ay:List (Int×List Int))(ds:aj)(Q:ag):afj a b c n sc st aq av ay ds Q=acg a b c n sc st aq av ay ds Q:=by kernel_rfl
def abe(a b c:Int)(n:Nat)(sc:Int)(st:St)(aq av:ak)(ay:List (Int×List Int))(Q:ag):ai:=some ((aw []/\Q (X.exit 0) (Mj a b c n sc st aq av ay 0)))
theorem Pp(a b c:Int)(n:Nat)(sc:Int)(st:St)(aq av:ak)(ay:List (Int×List Int))(Q:ag):agP a b c n sc st aq av ay Q=abe a b c n sc st aq av ay Q:=by kernel_rfl
def adh(a b c:Int)(n:Nat)(sc:Int)(st:St)(aq av:ak)(ay:List (Int×List Int))(ds:aj)(i:Int)(Q:ag):ai:=(bif decide (i<(ds.length:Int))then((bif decide (ds.length≠0)then((bif decide (0<=i/\i<(ds.length:Int))then((bif decide (0+i.toNat*1<ds.length)then(some ((aw [ds.getD (0+i.toNat*1) 0=ds.getD (0+i.toNat*1) 0,ds=ds,ds.length=ds.length,av=av,ay=ay,st.2.1=st.2.1,aq=aq,ds.length=ds.length,st.1=st.1,64*n=64*n,a=a,b=b,c=c,n=n,sc=sc,st.2.2=st.2.2,(n:Int)=2+a*(2+b+c),il a b c (j4 n) (st,aq,av,ay,ds),ds≠ []]/\Q (X.normal) (D7 a b c n sc (nM a b c n sc (ds.getD (0+i.toNat*1) 0) (st,aq,av,ay,ds)).1 (nM a b c n sc (ds.getD (0+i.toNat*1) 0) (st,aq,av,ay,ds)).2.1 (nM a b c n sc (ds.getD (0+i.toNat*1) 0) (st,aq,av,ay,ds)).2.2.1 (nM a b c n sc (ds.getD (0+i.toNat*1) 0) (st,aq,av,ay,ds)).2.2.2.1 (nM a b c n sc (ds.getD (0+i.toNat*1) 0) (st,aq,av,ay,ds)).2.2.2.2 (i64.wrap (i+1))))))else none))else none))else none))else(some ((aw []/\Q (X.exit 0) (D7 a b c n sc st aq av ay ds i)))))
theorem yq(a b c:Int)(n:Nat)(sc:Int)(st:St)(aq av:ak)(ay:List (Int×List Int))(ds:aj)(i:Int)(Q:ag):rRu a b c n sc st aq av ay ds i Q=adh a b c n sc st aq av ay ds i Q:=by kernel_rfl
def ab6(a b c:Int)(n:Nat)(sc:Int)(st:St)(aq av:ak)(ay:List (Int×List Int))(i:Int)(Q:ag):ai:=some ((aw []/\Q (X.ret) (EW a b c n sc st aq av)))
theorem QB(a b c:Int)(n:Nat)(sc:Int)(st:St)(aq av:ak)(ay:List (Int×List Int))(i:Int)(Q:ag):afN a b c n sc st aq av ay i Q=ab6 a b c n sc st aq av ay i Q:=by kernel_rfl
def abD(a b c:Int)(n:Nat)(sc:Int)(st:St)(aq av:ak)(ay:List (Int×List Int))(ds:aj)(i:Int)(Q:ag):ai:=some ((aw []/\Q (X.ret) (Jm a b c n sc st aq av ds)))
theorem RG(a b c:Int)(n:Nat)(sc:Int)(st:St)(aq av:ak)(ay:List (Int×List Int))(ds:aj)(i:Int)(Q:ag):aga a b c n sc st aq av ay ds i Q=abD a b c n sc st aq av ay ds i Q:=by kernel_rfl
theorem adZ:(RO a b c n sc st).hp.get 4=some (.map [])/\(rm 4 (.aQ (some .i64) []) (RO a b c n sc st)).hp.get 5=some (.map [])/\(rm 5 (.aQ (some .i64) []) (rm 4 (.aQ (some .i64) []) (RO a b c n sc st))).hp.get 7=some (.map []):=⟨by kernel_rfl,by kernel_rfl,by kernel_rfl⟩
theorem afK:rm 7 (.eE []) (rm 5 (.aQ (some .i64) []) (rm 4 (.aQ (some .i64) []) (RO a b c n sc st)))=sR1 a b c n sc st [] [] []:=by kernel_rfl
theorem afH(t:Bool):eval 44 (VK a b c n sc st aq av ay t).sl (.tmp 17)=some (.one (.c (.bool t))):=by kernel_rfl
def I9:S:=aE [2] 44 ⟨aN [(2,.one (.c (.ptr 3 0)))],FY a b c n sc st aq av (.dI ds) [],6,[]⟩
theorem XC:ba prog 44 (I9 a b c n sc st aq av ds) f30.results.toList=some [.c (.ptr 3 0)]/\(I9 a b c n sc st aq av ds).hp=FY a b c n sc st aq av (.dI ds) []/\(I9 a b c n sc st aq av ds).nx=6:=⟨by kernel_rfl,by kernel_rfl,by kernel_rfl⟩
theorem gF0:(EW a b c n sc st aq av).hp.get 3=some (.row 137 false none (.cells [.map 5,.map 4,.bf])):=by kernel_rfl
theorem gF1:(Jm a b c n sc st aq av ds).hp.get 6=some (cj ds)/\(Jm a b c n sc st aq av ds).hp.get 3=some (.row 137 false none (.cells [.map 5,.map 4,.aC 6 1 0 ds.length])):=⟨by kernel_rfl,by kernel_rfl⟩
theorem afZ:nr 3 [] [] [2] 44 [3,4,5] (rm 3 (.row 137 false none (.cells [.map 5,.map 4,.dI []])) (EW a b c n sc st aq av))=some (I9 a b c n sc st aq av []):=by kernel_rfl
theorem afJ:nr 3 [] [] [2] 44 [3,4,5] (NF 6 3 (.row 137 false none (.cells ([.map 5,.map 4,.aC 6 1 0 ds.length].set 2 (.dI ds)))) (Jm a b c n sc st aq av ds))=some (I9 a b c n sc st aq av ds):=by kernel_rfl
end
section
variable{a b c:Int}{n:Nat}{sc:Int}{st:St}{w:Wk}
theorem abC{d:Int}(h:w.2.2.2.2≠ []):(nM a b c n sc d w).2.2.2.2≠ []:=by
 have: ∀(l:aj) (x:List ByteArray×Wk),x.2.2.2.2.2≠ []->(Ax a b c n sc l x).2.2.2.2.2≠ []:=by
  intro l
  induction l with
  |nil=>exact fun _ h=>h
  |cons s l ih=>exact fun x h=>ih _ (lI (lI (lI (lI h))))
 exact this _ ([],w) h
theorem JB(hm:(n:Int)=2+a*(2+b+c)){s0:S}(bP:s0.nx=3){Q:ag}: ∀(m i:Nat) (w:Wk),i+m=200->il a b c (j4 n) w->w.2.2.2.2≠ []->
  (∀y j,y=tq a b c n sc m i w->y.2.2.2.2≠ []->Q (.exit 0) (D7 a b c n sc y.1 y.2.1 y.2.2.1 y.2.2.2.1 y.2.2.2.2 j))->TO prog 44 [] [] s0 (.loop D6) (D7 a b c n sc w.1 w.2.1 w.2.2.1 w.2.2.2.1 w.2.2.2.2 i) Q
 | 0,i,w,hi,hw,hn,hQ=>by
  have:=hw.aS;exact TO.loop (TO.aP (gJ true) (k0:=3) bP (.of_eq (yq ..) (.no (by simp;omega) ⟨trivial,hQ w i rfl hn⟩)))
 |m+1,i,w,hi,hw,hn,hQ=>by
  have hf:=hw.aS;by_cases aA:i<w.2.2.2.2.length
  ·have e:tq a b c n sc (m+1) i w=tq a b c n sc m (i+1) (nM a b c n sc (w.2.2.2.2.getD i 0) w):=by rw[tq,if_pos aA]
   rw[e]at hQ;have next:=JB hm bP m (i+1) (nM a b c n sc (w.2.2.2.2.getD i 0) w) (by omega) (VQ yT vS vV hm hw) (abC hn) hQ
   have hw1:i64.wrap ((i:Int)+1)=((i+1:Nat):Int):=by rw[IntWalk.i64_in _ (by omega)];simp
   obtain⟨st,aq,av,ay,ds⟩:=w;simp only at aA hn;refine TO.loop (TO.aP (gJ true) (k0:=3) bP (.of_eq (yq ..) (.yes (by simp;omega) (.aZ (by simp;omega) (.aZ (by simp;omega) (.aZ (by simp;omega) ?_))))))
   dsimp only;rw[show 0+(i:Int).toNat*1=i by simp,hw1]
   exact⟨⟨rfl,rfl,rfl,rfl,rfl,rfl,rfl,rfl,rfl,rfl,rfl,rfl,rfl,rfl,rfl,rfl,hm,hw,hn,trivial⟩,next⟩
  ·have e:tq a b c n sc (m+1) i w=w:=by rw[tq,if_neg aA]
   rw[e]at hQ;exact TO.loop (TO.aP (gJ true) (k0:=3) bP (.of_eq (yq ..) (.no (by simp;omega) ⟨trivial,hQ w i rfl hn⟩)))
theorem RD:f30.body=some j7:=by kernel_rfl
theorem v7{i:Nat}{x:ax}(h:(ca a b c n sc st).get i=some x):i<3:=by
 unfold ca jc at h;exact fv (k:=3) (fun p hp=>by
  simp only[List.mem_cons,List.not_mem_nil,or_false]at hp;rcases hp with rfl|rfl|rfl<;>simp) h
theorem ags(hm:(n:Int)=2+a*(2+b+c))(hg:aY a b c=true)(h:j4 n st){w:Wk}(hw:w=eT a b c n sc st){Q:ag}(hn:w.2.2.2.2= []->Q .ret (EW a b c n sc w.1 w.2.1 w.2.2.1))(hr:w.2.2.2.2≠ []->Q .ret (Jm a b c n sc w.1 w.2.1 w.2.2.1 w.2.2.2.2)):
  TO prog 44 [] [] ⟨My,ca a b c n sc st,3,[]⟩ j7 ⟨My,ca a b c n sc st,3,[]⟩ Q:=by
 have hI0:=Xg (sc:=sc) yT vS vV hm hg h;refine TO.eZ (gJ true) (m:=3) (k0:=3) rfl (aH:= [0,3,4]) (ord:= [5,4,3,7,6]) f30.results.toList (.of_eq (Uq ..) ⟨trivial,?_⟩);obtain⟨g1,g2,g3⟩:=adZ a b c n sc st;refine TO.nT (dJ.aa 4 (.aQ (some .i64) []) g1 rfl rfl fun ρ c o h=>Kw ρ c o h) (TO.nT (dJ.aa 5 (.aQ (some .i64) []) g2 rfl rfl fun ρ c o h=>Kw ρ c o h) (TO.nT (dJ.aa 7 (.eE []) g3 rfl rfl fun ρ c o h=>ZA ρ c o h) ?_))
 rw[afK];refine TO.seq (c:=gL (aG 3 j7)) (d:=aG 4 j7) (TO.seq (c:=gL (gL (aG 3 j7))) (d:= .cond (.tmp 17) kRu .skip) (TO.aP (gJ true) (k0:=3) rfl (.of_eq (TZ ..) ⟨⟨h.1,rfl,trivial⟩,?_⟩)));refine TO.cond (afH ..) (fun hc=>TO.aP (gJ true) (k0:=3) rfl (.of_eq (RI ..) ⟨trivial,?_⟩)) (fun hc=>TO.aP (gJ true) (k0:=3) rfl (.of_eq (Qz ..) ⟨trivial,?_⟩))
 ·have hk:(aW a b c st.1 n 1).k≠2:=by simpa using hc
  have e:w=(st,[],[],[],[]):=by rw[hw];unfold eT;rw[if_neg hk]
  rw[e]at hn;exact hn rfl
 ·have hk:(aW a b c st.1 n 1).k=2:=by simpa using hc
  have e:w=tq a b c n sc 200 0 (JT a b c n sc st):=by rw[hw];unfold eT;rw[if_pos hk]
  by_cases hd:(JT a b c n sc st).2.2.2.2= []
  ·refine TO.eZ (gJ false) (m:=2) (k0:=3) rfl (aH:= [3,4]) (ord:= [3,4,5,6,7]) f30.results.toList (.of_eq (OX ..) ⟨⟨rfl,rfl,rfl,rfl,rfl,rfl,rfl,rfl,rfl,rfl,rfl,rfl,rfl,h.1,hd,trivial⟩,?_⟩);refine TO.seq (c:=gL (aG 6 j7)) (d:=gR (aG 6 j7)) (TO.seq (c:=gL (gL (aG 6 j7))) (d:= .block 0 (.loop D6)) (TO.aP (gJ true) (k0:=3) rfl (.of_eq (OY ..) ⟨trivial,?_⟩)));refine TO.block (TO.loop (TO.aP (gJ true) (k0:=3) rfl (.of_eq (Pp ..) ⟨trivial,?_⟩)));simp only[fS,if_true];refine TO.aP (gJ true) (k0:=3) rfl (.of_eq (QB ..) ⟨trivial,?_⟩);have e3:w=JT a b c n sc st:=by rw[e,tq,if_neg (by rw[hd];simp)]
   rw[e3]at hn;exact hn hd
  ·refine TO.eZ (gJ true) (m:=2) (k0:=3) rfl (aH:= [3,4]) (ord:= [3,4,5,6,7,8]) f30.results.toList (.of_eq (Pr ..) ⟨⟨rfl,rfl,rfl,rfl,rfl,rfl,rfl,rfl,rfl,rfl,rfl,rfl,rfl,h.1,hd,trivial⟩,?_⟩);refine TO.seq (c:=gL (aG 6 j7)) (d:=gR (aG 6 j7)) (TO.seq (c:=gL (gL (aG 6 j7))) (d:= .block 0 (.loop D6)) (TO.aP (gJ true) (k0:=3) rfl (.of_eq (O9 ..) ⟨trivial,?_⟩)));refine TO.block (JB hm rfl 200 0 (JT a b c n sc st) rfl hI0 hd fun y j hy bT=> ?_)
   simp only[if_true];refine TO.aP (gJ true) (k0:=3) rfl (.of_eq (RG ..) ⟨trivial,?_⟩);rw[e, <-hy]at hr;exact hr bT
theorem Yp(hm:(n:Int)=2+a*(2+b+c))(hg:aY a b c=true)(h:j4 n st){w:Wk}(hw:w=eT a b c n sc st):
  cd prog 30 mQ 3 (ca a b c n sc st) 6 (FY a b c n sc w.1 w.2.1 w.2.2.1 (.dI w.2.2.2.2) []) (.one (.c (.ptr 3 0))):=by
 refine TO.c8 (fn:=f30) (c:=j7) func30 RD [] (fq fun i x hx=>v7 hx) XA ?_
 refine TO.gc [2] [3,4,5] (TO.Sv (Q':=fun x s'=>x= .ret/\∃s1,dJ 44 s' s1/\nr 3 [] [] [2] 44 [3,4,5] s1=some (I9 a b c n sc w.1 w.2.1 w.2.2.1 w.2.2.2.2)) (ags hm hg h hw (fun hn=>⟨rfl,rm 3 (.row 137 false none (.cells [.map 5,.map 4,.dI []])) (EW a b c n sc w.1 w.2.1 w.2.2.1),?_,?_⟩) (fun hr=>⟨rfl,_,dJ.frz (n:=44) (s:=Jm a b c n sc w.1 w.2.1 w.2.2.1 w.2.2.2.2) 6 3 (by omega) (gF1 ..).1 (gF1 ..).2 (j:=2) rfl (by intro e;exact hr (List.length_eq_zero_iff.1 e)),afJ ..⟩)) (fun x s' ⟨hx,s1,hs,hg⟩=>⟨s1,hs,_,hg,.inr hx,?_⟩))
 ·exact dJ.aa (n:=44) (s:=EW a b c n sc w.1 w.2.1 w.2.2.1) 3 (.row 137 false none (.cells [.map 5,.map 4,.dI []])) (gF0 ..) rfl rfl fun ρ c o hh=>by
   obtain⟨vs,tail,fr,h1,h2,h3,h4⟩:=hh;have h2':bt ρ [.map 5,.map 4,.bf] vs:=h2;exact⟨vs,tail,fr,h1,h2'.set (j:=2) (c:= .bf) (c':= .dI []) rfl (fun v hv=> .inl ⟨rfl,hv⟩),h3,h4⟩
 ·rw[hn];exact afZ ..
 ·obtain⟨e1,e2,e3⟩:=XC a b c n sc w.1 w.2.1 w.2.2.1 w.2.2.2.2;exact⟨_,e1,rfl,e2,e3⟩
end
theorem aU.alt {P:Program}{f:FuncId}{args:List RV}{s s':S}{v:RV}{L:List Nat}(A:Nat->List RV)(h: ∀cap,aU P f (A cap) s v s' L)
  (hA: ∀(ρ:aM) (vs:List Value),bo ρ args vs->∃cap,bo ρ (A cap) vs):aU P f args s v s' L where
 fn:=(h 0).fn
 sl:=(h 0).sl
 abs:=(h 0).abs
 run:=fun ρ w vs hr hf ha=>by
  obtain⟨cap,h1⟩:=hA ρ vs ha;exact(h cap).run ρ w vs hr hf h1
theorem CR.aaJ {ρ:aM}{nm sz a n:Nat}{v:Value}(hn:n≠0)(h:CR ρ (.aC nm sz a n) v): ∃cap,CR ρ (.sl nm (a*sz) n cap) v:=by
 obtain⟨b,c,off,h1,h2,h3,rfl⟩:=h;obtain rfl:=h3.resolve_right (by omega)
 exact⟨_,b,c,h1,rfl⟩
def GK:bg:=fun args hp nx=>match args with
 | [.one (.c (.aC nm sz a n))]=>match sumOf [.one (.c (.sl nm (a*sz) n 0))] hp nx with
  |some (v,hp,nx,lg,ps)=>some (v,hp,nx,lg,(n≠0)::ps)
  |none=>none
 |args=>sumOf args hp nx
theorem QJ:aI prog 218 GK:=by
 intro args s v hp nx lg ps ht h bB;unfold GK at h;split at h
 ·rename_i nm sz a n;split at h<;>try(cases h;done)
  rename_i v hp nx lg ps' h1;simp only[ae,af]at h;obtain⟨rfl,rfl,rfl,rfl,rfl⟩:=h;obtain⟨hn,bB⟩:=bB;refine aU.alt (fun cap=> [.one (.c (.sl nm (a*sz) n cap))]) (fun cap=> ?_) (fun ρ vs ha=> ?_)
  ·exact xv [.one (.c (.sl nm (a*sz) n cap))] s v hp nx lg ps' ht (by rw[<-h1];rfl) bB
  ·obtain⟨V,vs',h2,h3,rfl⟩:=ha;obtain⟨cap,h4⟩:=CR.aaJ hn h2;exact⟨cap,V,vs',h4,h3,rfl⟩
 ·exact xv _ _ _ _ _ _ _ ht h bB
def SW:FuncId->Option bg:=fun f=>match f with| 218=>some GK|_=>none
theorem adn:Fit prog (fun f=>(SW f).map bj):=⟨bM,aV,aI.sum fun f sm h=>by
 unfold SW at h;split at h
 ·cases h;exact QJ
 ·cases h⟩
def adP(kind turn:Int)(p:aj)(Q:RV->Prop):ai:=cO prog SW 300 148 [.one (.c (.int .i64 kind)),.one (.c (.int .u32 turn)),.one (.ints .u8 p 54)] s0 aO fun v _ Z=>some (aw Z.ob/\Q v)
abbrev rV(kind turn:Int)(p:aj):List Int:=List.take ((0+54+2)*1) (List.drop 0 (List.take ((0+54)*1) (List.drop 0 (List.take 0 (List.drop 0 (cx [0] 0))++List.take 54 (List.drop 0 p)))++List.take 2 (List.drop 0 (((cx [0] 2).set 0 (u8.wrap kind)).set 1 (u8.wrap (i64.wrap (255 - kind)))))))++List.take 4 (List.drop 0 (((((cx [0] 4).set 0 (u8.wrap (turn.tmod 256))).set 1 (u8.wrap ((u32.wrap (turn.tdiv 256)).tmod 256))).set 2 (u8.wrap ((u32.wrap (turn.tdiv 65536)).tmod 256))).set 3 (u8.wrap (u32.wrap (turn.tdiv 16777216)))))
abbrev xV(kind turn:Int)(p:aj):List Int:=List.drop 0 (rV kind turn p)
abbrev oY(kind turn:Int)(p:aj):Int:=ma (List.take (0+54+2+4) (xV kind turn p))
def Zh(kind turn:Int)(p:aj)(Q:RV->Prop):ai:=(bif decide (kind>=1)then((bif !decide (kind<=6)then(some ((aw []/\Q (RV.aF [AV.ints u8 eN 64,AV.c (Cell.int i64 2)]))))else(some ((aw [0+54+2+4≠0,(rV kind turn p).length=(0+54+2)*1+4,0+(0+54+2+4)<=(0+54+2)*1+4,0+54+2+4<=1000000000000]/\Q (RV.aF [AV.ints u8 (List.take 64 (List.drop 0 (aB eN 0 (List.take 64 (List.drop 0 (List.take ((0+54+2+4)*1) (xV kind turn p)++List.take 4 (List.drop 0 (((((cx [0] 4).set 0 (u8.wrap ((oY kind turn p).tmod 256))).set 1 (u8.wrap ((u32.wrap ((oY kind turn p).tdiv 256)).tmod 256))).set 2 (u8.wrap ((u32.wrap ((oY kind turn p).tdiv 65536)).tmod 256))).set 3 (u8.wrap (u32.wrap ((oY kind turn p).tdiv 16777216))))))))))) 64,AV.c (Cell.int i64 0)]))))))else(some ((aw []/\Q (RV.aF [AV.ints u8 eN 64,AV.c (Cell.int i64 2)])))))
theorem K9(kind turn:Int)(p:aj)(Q:RV->Prop):adP kind turn p Q=Zh kind turn p Q:=by kernel_rfl
theorem ace(a b c d:Int):((((cx [(0:Int)] 4).set 0 a).set 1 b).set 2 c).set 3 d= [a,b,c,d]:=rfl
theorem agp(a b:Int):((cx [(0:Int)] 2).set 0 a).set 1 b= [a,b]:=rfl
theorem u8_in{x:Int}(h0:0<=x)(h1:x<256):u8.wrap x=x:=by unfold IntKind.wrap;simp only[IntKind.bits,IntKind.signed];simp;omega
theorem yK(x:Int):u8.wrap x=x % 256:=by unfold IntKind.wrap;simp[IntKind.bits,IntKind.signed]
theorem QI{t:Int}(h:cF t): [u8.wrap (t.tmod 256),u8.wrap ((u32.wrap (t.tdiv 256)).tmod 256),u8.wrap ((u32.wrap (t.tdiv 65536)).tmod 256),u8.wrap (u32.wrap (t.tdiv 16777216))]=dv t:=by
 obtain⟨h0,h1⟩:=h;rw[xW ⟨h0,h1⟩];have e1:t.tdiv 256=t / 256:=Int.tdiv_eq_ediv_of_nonneg h0;have e2:t.tdiv 65536=t / 65536:=Int.tdiv_eq_ediv_of_nonneg h0;have e3:t.tdiv 16777216=t / 16777216:=Int.tdiv_eq_ediv_of_nonneg h0;rw[e1,e2,e3,wrap_u32,wrap_u32,wrap_u32,Int.tmod_eq_emod_of_nonneg h0,Int.tmod_eq_emod_of_nonneg (by omega),Int.tmod_eq_emod_of_nonneg (by omega)]
 simp only[yK];refine congr (congrArg _ ?_) (congr (congrArg _ ?_) (congr (congrArg _ ?_) (congr (congrArg _ ?_) rfl)))<;>omega
theorem ady{kind turn:Int}{p:aj}(hk:cr kind=true)(ht:cF turn)(hp:p.length=54):rV kind turn p=ji kind turn p:=by
 have hk':1<=kind/\kind<=6:=by simpa[cr]using hk
 unfold rV;rw[ace,agp,QI ht,IntWalk.i64_in (255 - kind) (by omega),u8_in (by omega) (by omega),u8_in (by omega) (by omega)]
 simp only[List.drop_zero,List.take_zero,List.nil_append];rw[List.take_of_length_le (show p.length<=54 by omega),List.take_of_length_le (show p.length<=(0+54)*1 by omega),List.take_of_length_le (show [kind,255 - kind].length<=2 from Nat.le_refl _),List.take_of_length_le (show(p++ [kind,255 - kind]).length<=(0+54+2)*1 by simp[hp]),List.take_of_length_le (show(dv turn).length<=4 by rw[fb];decide)]
 simp[ji]
theorem RY{kind turn:Int}{p:aj}(hp:p.length=54):(ji kind turn p).length=60:=by simp[ji,hp,fb]
def MH(args:List RV):Option (RV×List Prop):=match args with
 | [.one (.c (.int .i64 kind)),.one (.c (.int .u32 turn)),.one (.ints .u8 p 54)]=>some (.aF [.ints .u8 (eh kind turn p) 64,.c (.int .i64 (cP kind))],[cF turn])
 |_=>none
theorem TG:cg prog 148 MH:=by
 intro args v ps h hp ρ w vs ha;unfold MH at h;split at h<;>try(cases h;done)
 rename_i kind turn p;simp only[ae,af]at h;obtain⟨rfl,rfl⟩:=h;obtain⟨ht,_⟩:=hp;have hlen:p.length=54:=by
  obtain⟨_,_,_,⟨_,_,_,⟨_,_,h3,_⟩,_⟩,_⟩:=ha;exact h3.1
 refine cU adn (by rfl) (by rfl) (.of_eq (K9 kind turn p _) ?_) ρ w vs ha
 refine .fork (fun h1=> .fork (fun h2=>⟨trivial,?_⟩) (fun h2=> ?_)) (fun h1=>⟨trivial,?_⟩)
 ·have hk:cr kind=false:=by simp[cr]at h1 h2 ⊢;omega
  unfold eh cP;rw[hk];rfl
 ·have hk:cr kind=true:=by simp[cr]at h1 h2 ⊢;omega
  have hl:=RY (kind:=kind) (turn:=turn) hlen;unfold oY xV;rw[ady hk ht hlen];refine⟨⟨by decide,hl,by decide,by decide,trivial⟩,?_⟩
  simp only[List.drop_zero];rw[ace,List.take_of_length_le (show(ji kind turn p).length<=0+54+2+4 by omega)]
  rw[QI (show cF (ma (ji kind turn p))by unfold ma;exact gb _),List.take_of_length_le (show(dv _).length<=4 by rw[fb];decide), <-Hk]
  have e:ji kind turn p++dv (wg (ji kind turn p))=dV kind turn p:=by simp[ji,dV]
  have e2:List.take 64 (dV kind turn p)=dV kind turn p:=List.take_of_length_le (by rw[k7 hlen];decide)
  rw[e,e2,iE (k7 hlen),e2];unfold eh cP;rw[hk];rfl
 ·have hk:cr kind=false:=by simp[cr]at h1 ⊢;omega
  unfold eh cP;rw[hk];rfl
def UJ:FuncId->Option bg:=fun f=>match f with| 220=>some (aL Nh)| 156=>some (aL vN)| 148=>some (aL MH)|_=>none
theorem adV:Fit prog (fun f=>(UJ f).map bj):=⟨bM,aV,aI.sum fun f sm h=>by
 unfold UJ at h;split at h
 ·cases h;exact U4.sum ⟨_,func220,rfl⟩
 ·cases h;exact sT.sum ⟨_,func156,rfl⟩
 ·cases h;exact TG.sum ⟨_,func148,rfl⟩
 ·cases h⟩
def ab7(kind:Int)(b p:aj)(Q:RV->Prop):ai:=cO prog UJ 300 155 [.one (.c (.int .i64 kind)),.one (.ints .u8 b 64),.one (.ints .u8 p 54)] s0 aO fun v _ Z=>some (aw Z.ob/\Q v)
abbrev tx(b:aj):Int:=u32.wrap (oV (gX (List.take 64 (List.drop 0 b))) (List.take 64 (List.drop 0 b))+1)
def EF(kind:Int)(b p:aj)(Q:RV->Prop):ai:=(bif gX (List.take 64 (List.drop 0 b)) !=0 then(some ((aw [cF (tx b),Bytes (List.take 64 (List.drop 0 b)),Bytes (List.take 64 (List.drop 0 b))]/\Q (RV.aF [AV.ints u8 (List.take 64 (List.drop 0 (aB eN 0 (eh kind (tx b) (List.take 54 (List.drop 0 p)))))) 64,AV.c (Cell.int i64 (cP kind))]))))else(some ((aw [cF 1,Bytes (List.take 64 (List.drop 0 b))]/\Q (RV.aF [AV.ints u8 (List.take 64 (List.drop 0 (aB eN 0 (eh kind 1 (List.take 54 (List.drop 0 p)))))) 64,AV.c (Cell.int i64 (cP kind))])))))
theorem IH(kind:Int)(b p:aj)(Q:RV->Prop):ab7 kind b p Q=EF kind b p Q:=by kernel_rfl
theorem Tq{b:aj}:(gX b !=0)=fw b:=by
 unfold gX;cases h:fw b with
 |true=>
  have:=vn h;have h':1<=fD b/\fD b<=6:=by simpa[cr]using this
  simp;omega
 |false=>rfl
theorem Qe{b:aj}(h:fw b=true):oV (gX b) b=gx b:=by
 have hk:=vn h;have e:gX b=fD b:=by unfold gX;rw[h];rfl
 unfold oV;rw[Eo (by rw[e];exact hk)]
 simp
def Hj(args:List RV):Option (RV×List Prop):=match args with
 | [.one (.c (.int .i64 kind)),.one (.ints .u8 b 64),.one (.ints .u8 p 54)]=>some (.aF [.ints .u8 (dw kind b p) 64,.c (.int .i64 (cP kind))],[Bytes b])
 |_=>none
theorem Ri:cg prog 155 Hj:=by
 intro args v ps h hp ρ w vs ha;unfold Hj at h;split at h<;>try(cases h;done)
 rename_i kind b p;simp only[ae,af]at h;obtain⟨rfl,rfl⟩:=h;obtain⟨hy,_⟩:=hp;obtain⟨hb,hl⟩:b.length=64/\p.length=54:=by obtain⟨_,_,_,⟨_,_,h,⟨_,_,h2,_⟩,_⟩,_⟩:=ha;exact⟨h.1,h2.1⟩
 refine cU adV (by rfl) (by rfl) (.of_eq (IH kind b p _) ?_) ρ w vs ha
 unfold EF tx;rw[aJ hb,aJ hl,Tq];have fin: ∀t,RV.aF [AV.ints u8 (List.take 64 (List.drop 0 (aB eN 0 (eh kind t p)))) 64,AV.c (Cell.int i64 (cP kind))]=RV.aF [AV.ints u8 (eh kind t p) 64,AV.c (Cell.int i64 (cP kind))]:=fun t=>by
  rw[iE (iu hl),aJ (iu hl)]
 refine .fork (fun h=>⟨⟨gb _,hy,hy,trivial⟩,(fin _).trans ?_⟩) (fun h=>⟨⟨⟨by decide,by decide⟩,hy,trivial⟩,(fin _).trans ?_⟩)
 ·rw[Qe h];unfold dw;rw[if_pos h,Int.add_comm]
 ·unfold dw;rw[h];rfl
def Mn:FuncId->Option bg:=fun f=>match f with| 111=>some (aL tL)|_=>none
theorem Xe:Fit prog (fun f=>(Mn f).map bj):=⟨bM,aV,aI.sum fun f sm h=>by
 unfold Mn at h;split at h
 ·cases h;exact(kS 111 dD).sum ⟨_,func111,rfl⟩
 ·cases h⟩
def aeQ(x y z:Int)(Q:RV->Prop):ai:=cO prog Mn 300 80 [.one (.agg [.int .i64 x,.int .i64 y,.int .i64 z])] s0 aO fun v _ Z=>some (aw Z.ob/\Q v)
def Z4(g:Int)(Q:RV->Prop):ai:=cO prog Mn 300 84 [.one (.c (.int .i64 g))] s0 aO fun v _ Z=>some (aw Z.ob/\Q v)
abbrev z53:List Int:=0::Xq
abbrev jm(x y z:Int):List Int:=List.take ((4+2+2)*1) (List.drop 0 (List.take ((4+2)*1) (List.drop 0 (List.take 4 (List.drop 0 (((((cx [0] 4).set 0 83).set 1 67).set 2 85).set 3 80))++List.take 2 (List.drop 0 (((cx [0] 2).set 0 (u8.wrap ((u16.wrap x).tmod 256))).set 1 (u8.wrap (u16.wrap ((u16.wrap x).tdiv 256)))))))++List.take 2 (List.drop 0 (((cx [0] 2).set 0 (u8.wrap ((u16.wrap y).tmod 256))).set 1 (u8.wrap (u16.wrap ((u16.wrap y).tdiv 256)))))))++List.take 2 (List.drop 0 (((cx [0] 2).set 0 (u8.wrap ((u16.wrap z).tmod 256))).set 1 (u8.wrap (u16.wrap ((u16.wrap z).tdiv 256)))))
def XE(x y z:Int)(Q:RV->Prop):ai:=(bif cW (aY x y z) !=0 then(some ((aw []/\Q (RV.aF [AV.ints u8 bA 54,AV.c (Cell.int i64 (cW (aY x y z)))]))))else(some ((aw []/\Q (RV.aF [AV.ints u8 (83::67::85::80::(jm x y z).getD 4 0::(jm x y z).getD 5 0::(jm x y z).getD 6 0::(jm x y z).getD 7 0::(jm x y z).getD 8 0::(jm x y z).getD 9 0::Xo) 54,AV.c (Cell.int i64 0)])))))
theorem LA(x y z:Int)(Q:RV->Prop):aeQ x y z Q=XE x y z Q:=by kernel_rfl
def Ug(g:Int)(Q:RV->Prop):ai:=(bif decide (g<0)then(some ((aw []/\Q (RV.aF [AV.ints u8 bA 54,AV.c (Cell.int i64 2)]))))else((bif decide (g>7)then(some ((aw []/\Q (RV.aF [AV.ints u8 bA 54,AV.c (Cell.int i64 2)]))))else(some ((aw []/\Q (RV.aF [AV.ints u8 (u8.wrap g::z53) 54,AV.c (Cell.int i64 0)])))))))
theorem It(g:Int)(Q:RV->Prop):Z4 g Q=Ug g Q:=by kernel_rfl
theorem mh{x:Int}(h:0<=x/\x<=200):u8.wrap ((u16.wrap x).tmod 256)=x/\u8.wrap (u16.wrap ((u16.wrap x).tdiv 256))=0:=by
 have h1:u16.wrap x=x:=by unfold IntKind.wrap;simp only[IntKind.bits,IntKind.signed];simp;omega
 rw[h1,Int.tmod_eq_emod_of_nonneg (by omega),Int.tdiv_eq_ediv_of_nonneg (by omega),yK,yK,wrap_u16]
 omega
theorem Gq:cg prog 80 uV:=by
 intro args v ps h hp ρ w vs ha;unfold uV at h;split at h<;>try(cases h;done)
 rename_i x y z;cases h;refine cU Xe (by rfl) (by rfl) (.of_eq (LA x y z _) ?_) ρ w vs ha
 refine .fork (fun h=>⟨trivial,?_⟩) (fun h=>⟨trivial,?_⟩)
 ·rw[jP]at h;have hg:aY x y z=false:=by simpa using h
  unfold sup;rw[hg];rfl
 ·rw[jP]at h;have hg:aY x y z=true:=by simpa using h
  obtain⟨h1,h2,h3,h4,h5,h6⟩:=b8.1 hg;unfold sup;rw[if_pos hg,hg,cV];have e:jm x y z= [83,67,85,80,x,0,y,0,z,0]:=by
   unfold jm;rw[(mh (x:=x) (by omega)).1,(mh (x:=x) (by omega)).2,(mh (x:=y) (by omega)).1,(mh (x:=y) (by omega)).2,(mh (x:=z) (by omega)).1,(mh (x:=z) (by omega)).2]
   rfl
  rw[e];rfl
theorem PG:cg prog 84 wJ:=by
 intro args v ps h hp ρ w vs ha;unfold wJ at h;split at h<;>try(cases h;done)
 rename_i g;simp only[ae,af]at h;obtain⟨rfl,rfl⟩:=h;refine cU Xe (by rfl) (by rfl) (.of_eq (It g _) ?_) ρ w vs ha
 have no:ph g=false->RV.aF [AV.ints u8 bA 54,AV.c (Cell.int i64 2)]=RV.aF [AV.ints u8 (eO g) 54,AV.c (Cell.int i64 (if ph g then 0 else 2))]:=fun e=>by unfold eO;rw[e];rfl
 refine .fork (fun h=>⟨trivial,no (by unfold ph;simp at h ⊢;omega)⟩) (fun h=> .fork (fun h1=>⟨trivial,no (by unfold ph;simp at h1 ⊢;omega)⟩) (fun h1=>⟨trivial,?_⟩))
 have e:ph g=true:=by unfold ph;simp at h h1 ⊢;omega
 have h8:u8.wrap g=g:=u8_in (by simp at h;omega) (by simp at h1;omega)
 unfold eO;rw[e,h8];rfl
def UR:FuncId->Option bg:=fun f=>match f with| 80=>some (aL uV)|_=>none
theorem ac3:Fit prog (fun f=>(UR f).map bj):=⟨bM,aV,aI.sum fun f sm h=>by
 unfold UR at h;split at h
 ·cases h;exact Gq.sum ⟨_,func80,rfl⟩
 ·cases h⟩
def ae2(p:aj)(Q:RV->Prop):ai:=cO prog UR 300 190 [.one (.ints .u8 p 54)] s0 aO fun v _ Z=>some (aw Z.ob/\Q v)
end Go.Sx
