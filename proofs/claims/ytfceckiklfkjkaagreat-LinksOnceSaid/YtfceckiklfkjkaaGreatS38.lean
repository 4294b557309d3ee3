import Derived.Test.YtfceckiklfkjkaaGreatS37
import Derived.Test.YtfceckiklfkjkaaGreatS29
noncomputable section
open Go.Proofs Go.RowKit
set_option maxRecDepth 100000
open Go.IntKind(i64 u8 u64 u32 u16)
open Go.Proofs.Tryz
namespace Go.Sx
def wkE(hp:T ax)(nw:Nat):Option ((Int×Int×Int×Nat×Int)×Wk×Cell×(Nat×Nat×Nat×Nat×Nat×Nat×Nat×Nat)):=match bn hp.get nw with
 |some (_,_,_,.cells [.ptr ni 0,.ptr nf 0,.map nb])=>match bn hp.get ni,bn hp.get nf,hp.get nb with
  |some (_,_,_,.cells [.int .i64 a,.int .i64 b,.int .i64 c,.aC nl 64 0 n,.int .u32 sc,.map nm,.int .i64 al]),some (_,_,_,.cells [.map nn,.map no,dc]),some (.eE ay)=>match bn hp.get nl,hp.get no,hp.get nm,hp.get nn with
   |some (_,_,_,.ints .u8 L _),some (.aQ (some .i64) aq),some (.aQ none lm),some (.aQ (some .i64) av)=>match dc with
    | .aC nd 1 0 _=>match bn hp.get nd with
     |some (_,_,_,.ints .i64 ds _)=>some ((a,b,c,n,sc),((L,lm,al),aq,av,ay,ds),dc,(ni,nl,nf,no,nm,nb,nn,nd))
     |_=>none
    | .bf=>some ((a,b,c,n,sc),((L,lm,al),aq,av,ay,[]),dc,(ni,nl,nf,no,nm,nb,nn,1000000000))
    |_=>none
   |_,_,_,_=>none
  |_,_,_=>none
 |_=>none
def Wh(v:Bool):List RV->T ax->Nat->Option GS:=fun args hp _=>match args with
 | [.one (.c (.ptr nw 0)),.one (.c (.int .i64 au))]=>match wkE hp nw with
  |some ((a,b,c,n,sc),(st,aq,av,ay,ds),dc,(ni,nl,nf,no,nm,nb,nn,nd))=>match dc with
   | .bf=>match v with
    |false=>some ⟨9,[nw,ni,nl,nf,no,nm,nb,nn,nd],rA au,tt a b c n sc st aq av ay .bf [],9,
      tt a b c n sc (dO a b c n sc au (st,aq,av,ay,[])).1 (dO a b c n sc au (st,aq,av,ay,[])).2.1 (dO a b c n sc au (st,aq,av,ay,[])).2.2.1 (dO a b c n sc au (st,aq,av,ay,[])).2.2.2.1 .bf [],.aF [],[st.1.length=64*n,(dO a b c n sc au (st,aq,av,ay,[])).2.2.2.2= []]⟩
    |true=>some ⟨9,[nw,ni,nl,nf,no,nm,nb,nn,nd],rA au,tt a b c n sc st aq av ay .bf [],10,
      eK a b c n sc (dO a b c n sc au (st,aq,av,ay,[])).1 (dO a b c n sc au (st,aq,av,ay,[])).2.1 (dO a b c n sc au (st,aq,av,ay,[])).2.2.1 (dO a b c n sc au (st,aq,av,ay,[])).2.2.2.1 (dO a b c n sc au (st,aq,av,ay,[])).2.2.2.2 9 [],.aF [],[st.1.length=64*n,(dO a b c n sc au (st,aq,av,ay,[])).2.2.2.2≠ []]⟩
   |_=>some ⟨9,[nw,ni,nl,nf,no,nm,nb,nn,nd],rA au,eK a b c n sc st aq av ay ds 8 [],10,
      eK a b c n sc (dO a b c n sc au (st,aq,av,ay,ds)).1 (dO a b c n sc au (st,aq,av,ay,ds)).2.1 (dO a b c n sc au (st,aq,av,ay,ds)).2.2.1 (dO a b c n sc au (st,aq,av,ay,ds)).2.2.2.1 (dO a b c n sc au (st,aq,av,ay,ds)).2.2.2.2 9 [],.aF [],[st.1.length=64*n,ds≠ [],ds.length<=1000]⟩
  |none=>none
 |_=>none
theorem Wr(v:Bool):aI prog 98 (cC (Wh v)):=dT ⟨_,func98,rfl⟩ fun args hp nx g h bB=>by
 unfold Wh at h;split at h<;>try(cases h;done)
 split at h<;>try(cases h;done)
 rename_i au _ a b c n sc st aq av ay ds dc ni nl nf no nm nb nn nd _;split at h
 ·cases v with
  |false=>
   cases h;obtain⟨h1,h2,_⟩:=bB;have:=Ar (a:=a) (b:=b) (c:=c) (sc:=sc) (au:=au) (w:=(st,aq,av,ay,[])) h1 (by simp)
   rw[MD (w:=(st,aq,av,ay,[])) rfl,MD h2,h2]at this;exact⟨this,fun i x hx=>zS (k:=9) (by omega) (fun p hp=>absurd hp List.not_mem_nil) hx⟩
  |true=>
   cases h;obtain⟨h1,h2,_⟩:=bB;have:=Ar (a:=a) (b:=b) (c:=c) (sc:=sc) (au:=au) (w:=(st,aq,av,ay,[])) h1 (by simp)
   rw[MD (w:=(st,aq,av,ay,[])) rfl,Ac h2,iG h2]at this;exact⟨this,fun i x hx=>zS (k:=9) (by omega) (fun p hp=>absurd hp List.not_mem_nil) hx⟩
 ·cases h;obtain⟨h1,h2,h3,_⟩:=bB;have:=Ar (a:=a) (b:=b) (c:=c) (sc:=sc) (au:=au) (w:=(st,aq,av,ay,ds)) h1 h3;have bT:=Ef (a:=a) (b:=b) (c:=c) (n:=n) (sc:=sc) (au:=au) (w:=(st,aq,av,ay,ds)) h2;rw[Ac (w:=(st,aq,av,ay,ds)) h2,Ac bT,iG bT]at this;exact⟨this,fun i x hx=>oo (m:=8) (k:=9) (by omega) (by omega) (fun p hp=>absurd hp List.not_mem_nil) hx⟩
def VE:FuncId->Option bg:=fun f=>match f with| 227=>some (aL deA)| 21=>some (mC w8)| 98=>some (cC (Wh true))|_=>none
theorem aej:Fit prog (fun f=>(VE f).map bj):=⟨bM,aV,aI.sum fun f sm h=>by
 unfold VE at h;split at h
 ·cases h;exact ack.sum ⟨_,func227,rfl⟩
 ·cases h;exact sO
 ·cases h;exact Wr true
 ·cases h⟩
def Mr:Code:=gB 166
def wx(p:aj)(i:Int):List RV:= [.one (.c (.ptr 0 0)),.one (.ints .u8 p 54),.one (.c (.int .i64 i)),.one (.c (.map 8))]
def DL(p:aj)(i:Int):T RV:=match setArgs 58 (wx p i) 0 .nil some with|some t=>t|none=> .nil
theorem SL(p:aj)(i:Int):setArgs 58 (wx p i) 0 .nil some=some (DL p i):=by kernel_rfl
section
variable(a b c:Int)(n:Nat)(sc:Int)(st:St)(aq av:ak)(ay:List (Int×List Int))(ds:aj)(seen:List ByteArray)(p:aj)(i:Int)(t:Bool)
def m9:S:=aE [8] 58 ⟨aN [(8,.one (.c (.bool t)))],eK a b c n sc st aq av ay ds 10 [(8,.di seen)],11,[]⟩
def WA:S:=zB 9 3 (cj ds) (.row 137 false none (.cells ([.map 7,.map 4,.aC 9 1 0 ds.length].set 2 (.aC 10 1 0 ds.length)))) ⟨DL p i,eK a b c n sc st aq av ay ds 9 [(8,.di seen)],10,[]⟩
def ae0(Q:ag):ai:=az prog VE 300 58 Mr (WA a b c n sc st aq av ay ds seen p i) aO (bN 10 [8] 58 (fun s=>AL s.hp) Q)
def Gw(a b c:Int)(n:Nat)(sc:Int)(st:St)(aq av:ak)(ay:List (Int×List Int))(ds:aj)(seen:List ByteArray)(p:aj)(i:Int)(Q:ag):ai:=(bif (bX (t54 p) i).2.2==0 then(some ((aw [0<=i/\i<4,U8 ((iU (t54 p) i).getD 2 0)]/\Q (X.ret) (m9 a b c n sc st aq av ay ds seen true))))else((bif (bX (t54 p) i).2.2 !=1 then(some ((aw [0<=i/\i<4,U8 ((iU (t54 p) i).getD 2 0)]/\Q (X.ret) (m9 a b c n sc st aq av ay ds seen false))))else((bif !bG a b c st.1 n (bX (t54 p) i).1 then(some ((aw [st.1.length=64*n,64*n=64*n,0<=i/\i<4,U8 ((iU (t54 p) i).getD 2 0)]/\Q (X.ret) (m9 a b c n sc st aq av ay ds seen false))))else((bif (aW a b c st.1 n (bX (t54 p) i).1).k==0 then(some ((aw [st.1.length=64*n,64*n=64*n,0<=i/\i<4,U8 ((iU (t54 p) i).getD 2 0)]/\Q (X.ret) (m9 a b c n sc st aq av ay ds seen false))))else((bif nC seen (bX (t54 p) i).2.1 then(some ((aw [st.1.length=64*n,64*n=64*n,0<=i/\i<4,U8 ((iU (t54 p) i).getD 2 0)]/\Q (X.ret) (m9 a b c n sc st aq av ay ds seen false))))else((bif (aW a b c st.1 n (bX (t54 p) i).1).k==2 then((bif decide (bp av (bX (t54 p) i).1>0)then(some ((aw [st.1.length=64*n,64*n=64*n,0<=i/\i<4,U8 ((iU (t54 p) i).getD 2 0)]/\Q (X.ret) (m9 a b c n sc st aq av ay ds seen false))))else((bif !decide (bp av (bX (t54 p) i).1<200)then(some ((aw [st.1.length=64*n,64*n=64*n,0<=i/\i<4,U8 ((iU (t54 p) i).getD 2 0)]/\Q (X.ret) (m9 a b c n sc st aq av ay ds seen false))))else((bif !decide (bp av (bX (t54 p) i).1>0)then(some ((aw [(bX (t54 p) i).1=(bX (t54 p) i).1,ds=ds,ds.length=ds.length,bC av (bX (t54 p) i).1 (i64.wrap (bp av (bX (t54 p) i).1+1))=bC av (bX (t54 p) i).1 (i64.wrap (bp av (bX (t54 p) i).1+1)),ay=ay,st.2.1=st.2.1,aq=aq,ds.length=ds.length,st.1=st.1,64*n=64*n,a=a,b=b,c=c,n=n,sc=sc,st.2.2=st.2.2,st.1.length=64*n,ds≠ [],ds.length<=1000,st.1.length=64*n,64*n=64*n,0<=i/\i<4,U8 ((iU (t54 p) i).getD 2 0)]/\Q (X.ret) (m9 a b c n sc (dO a b c n sc (bX (t54 p) i).1 (st,aq,bC av (bX (t54 p) i).1 (i64.wrap (bp av (bX (t54 p) i).1+1)),ay,ds)).1 (dO a b c n sc (bX (t54 p) i).1 (st,aq,bC av (bX (t54 p) i).1 (i64.wrap (bp av (bX (t54 p) i).1+1)),ay,ds)).2.1 (dO a b c n sc (bX (t54 p) i).1 (st,aq,bC av (bX (t54 p) i).1 (i64.wrap (bp av (bX (t54 p) i).1+1)),ay,ds)).2.2.1 (dO a b c n sc (bX (t54 p) i).1 (st,aq,bC av (bX (t54 p) i).1 (i64.wrap (bp av (bX (t54 p) i).1+1)),ay,ds)).2.2.2.1 (dO a b c n sc (bX (t54 p) i).1 (st,aq,bC av (bX (t54 p) i).1 (i64.wrap (bp av (bX (t54 p) i).1+1)),ay,ds)).2.2.2.2 (lJ seen (bX (t54 p) i).2.1) true))))else(some ((aw [st.1.length=64*n,64*n=64*n,0<=i/\i<4,U8 ((iU (t54 p) i).getD 2 0)]/\Q (X.ret) (m9 a b c n sc st aq (bC av (bX (t54 p) i).1 (i64.wrap (bp av (bX (t54 p) i).1+1))) ay ds (lJ seen (bX (t54 p) i).2.1) true))))))))))else((bif !decide (bp av (bX (t54 p) i).1<200)then(some ((aw [st.1.length=64*n,64*n=64*n,0<=i/\i<4,U8 ((iU (t54 p) i).getD 2 0)]/\Q (X.ret) (m9 a b c n sc st aq av ay ds seen false))))else((bif !decide (bp av (bX (t54 p) i).1>0)then(some ((aw [(bX (t54 p) i).1=(bX (t54 p) i).1,ds=ds,ds.length=ds.length,bC av (bX (t54 p) i).1 (i64.wrap (bp av (bX (t54 p) i).1+1))=bC av (bX (t54 p) i).1 (i64.wrap (bp av (bX (t54 p) i).1+1)),ay=ay,st.2.1=st.2.1,aq=aq,ds.length=ds.length,st.1=st.1,64*n=64*n,a=a,b=b,c=c,n=n,sc=sc,st.2.2=st.2.2,st.1.length=64*n,ds≠ [],ds.length<=1000,st.1.length=64*n,64*n=64*n,0<=i/\i<4,U8 ((iU (t54 p) i).getD 2 0)]/\Q (X.ret) (m9 a b c n sc (dO a b c n sc (bX (t54 p) i).1 (st,aq,bC av (bX (t54 p) i).1 (i64.wrap (bp av (bX (t54 p) i).1+1)),ay,ds)).1 (dO a b c n sc (bX (t54 p) i).1 (st,aq,bC av (bX (t54 p) i).1 (i64.wrap (bp av (bX (t54 p) i).1+1)),ay,ds)).2.1 (dO a b c n sc (bX (t54 p) i).1 (st,aq,bC av (bX (t54 p) i).1 (i64.wrap (bp av (bX (t54 p) i).1+1)),ay,ds)).2.2.1 (dO a b c n sc (bX (t54 p) i).1 (st,aq,bC av (bX (t54 p) i).1 (i64.wrap (bp av (bX (t54 p) i).1+1)),ay,ds)).2.2.2.1 (dO a b c n sc (bX (t54 p) i).1 (st,aq,bC av (bX (t54 p) i).1 (i64.wrap (bp av (bX (t54 p) i).1+1)),ay,ds)).2.2.2.2 (lJ seen (bX (t54 p) i).2.1) true))))else(some ((aw [st.1.length=64*n,64*n=64*n,0<=i/\i<4,U8 ((iU (t54 p) i).getD 2 0)]/\Q (X.ret) (m9 a b c n sc st aq (bC av (bX (t54 p) i).1 (i64.wrap (bp av (bX (t54 p) i).1+1))) ay ds (lJ seen (bX (t54 p) i).2.1) true)))))))))))))))))))
theorem Qj(a b c:Int)(n:Nat)(sc:Int)(st:St)(aq av:ak)(ay:List (Int×List Int))(ds:aj)(seen:List ByteArray)(p:aj)(i:Int)(Q:ag):ae0 a b c n sc st aq av ay ds seen p i Q=Gw a b c n sc st aq av ay ds seen p i Q:=by kernel_rfl
theorem XN:ba prog 58 (m9 a b c n sc st aq av ay ds seen t) f166.results.toList=some [.c (.bool t)]/\(m9 a b c n sc st aq av ay ds seen t).hp=eK a b c n sc st aq av ay ds 10 [(8,.di seen)]/\(m9 a b c n sc st aq av ay ds seen t).nx=11:=⟨by kernel_rfl,by kernel_rfl,by kernel_rfl⟩
theorem abb:(⟨DL p i,eK a b c n sc st aq av ay ds 9 [(8,.di seen)],10,[]⟩:S).hp.get 9=some (cj ds)/\(⟨DL p i,eK a b c n sc st aq av ay ds 9 [(8,.di seen)],10,[]⟩:S).hp.get 3=some (.row 137 false none (.cells [.map 7,.map 4,.aC 9 1 0 ds.length])):=⟨by kernel_rfl,by kernel_rfl⟩
def mI(e:Int×ByteArray×Int):Bool:=
 bG a b c st.1 n e.1 &&(!((aW a b c st.1 n e.1).k==0) &&(!nC seen e.2.1 &&(!((aW a b c st.1 n e.1).k==2 && decide (bp av e.1>0)) && decide (bp av e.1<200))))
def dR(e:Int×ByteArray×Int)(seen:List ByteArray)(w:Wk):Bool×List ByteArray×Wk:=
 bif e.2.2==0 then(true,seen,w)
 else bif e.2.2 !=1|| !mI a b c n w.1 w.2.2.1 seen e then(false,seen,w)
 else(true,lJ seen e.2.1,bif decide (bp w.2.2.1 e.1>0)then(w.1,w.2.1,bC w.2.2.1 e.1 (i64.wrap (bp w.2.2.1 e.1+1)),w.2.2.2)else dO a b c n sc e.1 (w.1,w.2.1,bC w.2.2.1 e.1 (i64.wrap (bp w.2.2.1 e.1+1)),w.2.2.2))
end
section
variable{a b c:Int}{n:Nat}{sc:Int}{st:St}{aq av:ak}{ay:List (Int×List Int)}{ds:aj}{seen:List ByteArray}{p:aj}{i:Int}
def stW(a b c:Int)(n:Nat)(sc:Int)(x:Bool×List ByteArray×Wk):S:=m9 a b c n sc x.2.2.1 x.2.2.2.1 x.2.2.2.2.1 x.2.2.2.2.2.1 x.2.2.2.2.2.2 x.2.1 x.1
theorem Xz(hl:st.1.length=64*n)(bT:ds≠ [])(hds:ds.length<=1000)(hp:p.length=54)(hi:0<=i/\i<4)(hu:U8 ((iU p i).getD 2 0)){Q:ag}
  (hQ:Q .ret (stW a b c n sc (dR a b c n sc (bX p i) seen (st,aq,av,ay,ds)))):dG (Gw a b c n sc st aq av ay ds seen p i Q):=by
 unfold Gw;rw[show t54 p=p from aJ hp]
 generalize hE:dR a b c n sc (bX p i) seen (st,aq,av,ay,ds)=r at hQ;generalize he:bX p i=e at hE;have F:dR a b c n sc e seen (st,aq,av,ay,ds)=(false,seen,(st,aq,av,ay,ds))->Q .ret (m9 a b c n sc st aq av ay ds seen false):=fun h=>by
  rw[<-hE,h]at hQ;exact hQ
 have o1:aw [0<=i/\i<4,U8 ((iU p i).getD 2 0)]:=⟨hi,hu,trivial⟩;have o2:aw [st.1.length=64*n,64*n=64*n,0<=i/\i<4,U8 ((iU p i).getD 2 0)]:=⟨hl,rfl,hi,hu,trivial⟩;have T: ∀k2:Bool,((aW a b c st.1 n e.1).k==2)=k2->(e.2.2==0)=false->(e.2.2 !=1)=false->mI a b c n st av seen e=true->
   dG (bif !decide (bp av e.1>0)then
    some (aw [e.1=e.1,ds=ds,ds.length=ds.length,bC av e.1 (i64.wrap (bp av e.1+1))=bC av e.1 (i64.wrap (bp av e.1+1)),ay=ay,st.2.1=st.2.1,aq=aq,ds.length=ds.length,st.1=st.1,64*n=64*n,a=a,b=b,c=c,n=n,sc=sc,st.2.2=st.2.2,st.1.length=64*n,ds≠ [],ds.length<=1000,st.1.length=64*n,64*n=64*n,0<=i/\i<4,U8 ((iU p i).getD 2 0)]/\
     Q .ret (stW a b c n sc (true,lJ seen e.2.1,dO a b c n sc e.1 (st,aq,bC av e.1 (i64.wrap (bp av e.1+1)),ay,ds))))
   else some (aw [st.1.length=64*n,64*n=64*n,0<=i/\i<4,U8 ((iU p i).getD 2 0)]/\Q .ret (stW a b c n sc (true,lJ seen e.2.1,(st,aq,bC av e.1 (i64.wrap (bp av e.1+1)),ay,ds))))):=fun k2 h2 h0 h1 hg=>by
  unfold dR at hE;rw[h0,h1,hg]at hE;refine .fork (fun h=>⟨⟨rfl,rfl,rfl,rfl,rfl,rfl,rfl,rfl,rfl,rfl,rfl,rfl,rfl,rfl,rfl,rfl,hl,bT,hds,hl,rfl,hi,hu,trivial⟩,?_⟩) (fun h=>⟨o2,?_⟩)
  ·rw[<-hE]at hQ;have h':decide (bp av e.1>0)=false:=by simpa using h
   simp only[h',cond_false,Bool.not_true,Bool.or_false]at hQ;exact hQ
  ·rw[<-hE]at hQ;have h':decide (bp av e.1>0)=true:=by simpa using h
   simp only[h',cond_false,cond_true,Bool.not_true,Bool.or_false]at hQ;exact hQ
 refine .fork (fun h=>⟨o1,?_⟩) fun h0=> .fork (fun h=>⟨o1,F ?_⟩) fun h1=> .fork (fun h=>⟨o2,F ?_⟩) fun h2=> .fork (fun h=>⟨o2,F ?_⟩) fun h3=> .fork (fun h=>⟨o2,F ?_⟩) fun h4=> .fork (fun h5=> .fork (fun h=>⟨o2,F ?_⟩) fun h6=> .fork (fun h=>⟨o2,F ?_⟩) fun h7=>T true h5 h0 h1 ?_) (fun h5=> .fork (fun h=>⟨o2,F ?_⟩) fun h7=>T false h5 h0 h1 ?_)
 ·rw[<-hE]at hQ;unfold dR at hQ;rw[h]at hQ;exact hQ
 ·unfold dR;rw[h0,h];rfl
 ·have h':bG a b c st.1 n e.1=false:=by simpa using h
  unfold dR mI;rw[h0,h1];simp only[h',Bool.false_and,Bool.not_false,Bool.or_true,cond_true,cond_false]
 ·unfold dR mI;rw[h0,h1];simp only[h,Bool.not_true,Bool.false_and,Bool.and_false,Bool.not_false,Bool.or_true,cond_true,cond_false]
 ·unfold dR mI;rw[h0,h1];simp only[h,Bool.not_true,Bool.false_and,Bool.and_false,Bool.not_false,Bool.or_true,cond_true,cond_false]
 ·unfold dR mI;rw[h0,h1];simp only[h5,h,Bool.and_self,Bool.not_true,Bool.false_and,Bool.and_false,Bool.not_false,Bool.or_true,cond_true,cond_false]
 ·have h':decide (bp av e.1<200)=false:=by simpa using h
  unfold dR mI;rw[h0,h1];simp only[h',Bool.and_false,Bool.not_false,Bool.or_true,cond_true,cond_false]
 ·have h2':bG a b c st.1 n e.1=true:=by simpa using h2
  have h7':decide (bp av e.1<200)=true:=by simpa using h7
  unfold mI;simp only[h2',h3,h4,h5,h6,h7',Bool.and_false,Bool.not_false,Bool.and_true]
 ·have h':decide (bp av e.1<200)=false:=by simpa using h
  unfold dR mI;rw[h0,h1];simp only[h',Bool.and_false,Bool.not_false,Bool.or_true,cond_true,cond_false]
 ·have h2':bG a b c st.1 n e.1=true:=by simpa using h2
  have h7':decide (bp av e.1<200)=true:=by simpa using h7
  unfold mI;simp only[h2',h3,h4,h5,h7',Bool.false_and,Bool.not_false,Bool.and_true]
theorem NJ:f166.body=some Mr:=by kernel_rfl
theorem Vv(hl:st.1.length=64*n)(bT:ds≠ [])(hds:ds.length<=1000)(hp:p.length=54)(hi:0<=i/\i<4)(hu:U8 ((iU p i).getD 2 0)){r:Bool×List ByteArray×Wk}(hr:dR a b c n sc (bX p i) seen (st,aq,av,ay,ds)=r):
  cd prog 166 (wx p i) 10 (eK a b c n sc st aq av ay ds 9 [(8,.di seen)]) 11 (eK a b c n sc r.2.2.1 r.2.2.2.1 r.2.2.2.2.1 r.2.2.2.2.2.1 r.2.2.2.2.2.2 10 [(8,.di r.2.1)]) (.one (.c (.bool r.1))):=by
 subst hr;refine TO.c8 (fn:=f166) (c:=Mr) func166 NJ [] (fq fun i x h=>oo (k:=10) (by omega) (by omega) (fun p hp=>by rw[List.mem_singleton.1 hp];show 8<10;omega) h) (SL p i) ?_
 have g:=abb a b c n sc st aq av ay ds seen p i;refine TO.nT (dJ.mv 9 3 (by omega) g.1 rfl g.2 (j:=2) rfl) ?_
 show TO prog 58 [] [] _ Mr (WA a b c n sc st aq av ay ds seen p i) _;refine TO.aP aej (k0:=10) rfl (.of_eq (Qj a b c n sc st aq av ay ds seen p i _) (Xz hl bT hds hp hi hu ⟨.inr rfl,?_⟩));generalize dR a b c n sc (bX p i) seen (st,aq,av,ay,ds)=r;obtain⟨e1,e2,e3⟩:=XN a b c n sc r.2.2.1 r.2.2.2.1 r.2.2.2.2.1 r.2.2.2.2.2.1 r.2.2.2.2.2.2 r.2.1 r.1;exact⟨_,e1,rfl,e2,e3⟩
end
theorem xp(l:ak)(k v j:Int):bp (bC l k v) j=if j=k then v else bp l j:=by
 induction l with
 |nil=>
  simp only[bC,bp];by_cases h:k=j
  ·rw[if_pos h,if_pos h.symm]
  ·rw[if_neg h,if_neg (fun e=>h e.symm)]
 |cons x l ih=>
  obtain⟨x,y⟩:=x;simp only[bC];split
  ·rename_i h;subst h;simp only[bp];by_cases h:x=j
   ·rw[if_pos h,if_pos h.symm]
   ·rw[if_neg h,if_neg (fun e=>h e.symm),if_neg h]
  ·rename_i h;simp only[bp,ih];by_cases h':x=j
   ·subst h';rw[if_pos rfl,if_neg h,if_pos rfl]
   ·rw[if_neg h',if_neg h']
theorem Ee(l:List (Int×List Int))(k:Int)(v:aj)(j:Int):gY (iF l k v) j=if j=k then v else gY l j:=by
 induction l with
 |nil=>
  simp only[iF,gY];by_cases h:k=j
  ·rw[if_pos h,if_pos h.symm]
  ·rw[if_neg h,if_neg (fun e=>h e.symm)]
 |cons x l ih=>
  obtain⟨x,y⟩:=x;simp only[iF];split
  ·rename_i h;subst h;simp only[gY];by_cases h:x=j
   ·rw[if_pos h,if_pos h.symm]
   ·rw[if_neg h,if_neg (fun e=>h e.symm),if_neg h]
  ·rename_i h;simp only[gY,ih];by_cases h':x=j
   ·subst h';rw[if_pos rfl,if_neg h,if_pos rfl]
   ·rw[if_neg h',if_neg h']
theorem EP: ∀(N:Nat) (l:aj),l.Nodup->(∀x∈l,1<=x/\x<=N)->l.length<=N
 | 0,l,_,h=>by
  cases l with
  |nil=>exact Nat.le_refl _
  |cons x l=>have:=h x (by simp);omega
 |N+1,l,hn,h=>by
  have h1:=EP N (l.erase ((N+1:Nat):Int)) (hn.erase _) (fun x hx=>by
   have:=h x (List.mem_of_mem_erase hx);have bT:x≠((N+1:Nat):Int):=fun e=>by
    rw[hn.mem_erase_iff]at hx;exact hx.1 e
   omega)
  have h2:=List.length_erase (a:=((N+1:Nat):Int)) (l:=l);split at h2<;>omega
def raw(a b c s:Int):Bool:=(pl a b c s).2.2.2==0 &&(pl a b c s).1==0
section
variable{a b c:Int}{n:Nat}{sc:Int}{st:St}{L:aj}{aq av:ak}{au ar kd s k:Int}{p:aj}
theorem wz(h:dE a b c n L aq s kd=true):raw a b c s=true:=by
 unfold dE at h;unfold raw;simp only[Bool.and_eq_true]at h ⊢;exact⟨h.1,h.2.1⟩
theorem Yd(hm:(n:Int)=2+a*(2+b+c))(h:raw a b c s=true):2<=s/\s<n/\(pl a b c s).1=0:=by
 unfold raw at h;simp only[Bool.and_eq_true,beq_iff_eq]at h;obtain⟨h1,h2⟩:=h;refine⟨?_,?_,h2⟩
 ·unfold pl at h1 h2;split at h1
  ·rename_i hc;rw[if_pos hc]at h2;split at h2
   ·simp at h2
   ·omega
  ·simp at h1
 ·unfold pl at h1;split at h1
  ·rename_i hc;omega
  ·simp at h1
theorem mo(hy:nQ L n):Bytes (aR L n s k):=by
 unfold aR;split
 ·rename_i hs;obtain⟨h0,h1⟩:=dU.1 hs;unfold cb;split
  ·exact fun x hx=>hy s h0 h1 x (List.mem_of_mem_drop (List.mem_of_mem_take hx))
  ·exact Ck
 ·exact Ck
theorem FA(hl:st.1.length=64*n)(hy:nQ st.1 n)(hp:p.length=54)(hb:Bytes p):nQ (fP a b c n sc st s k p).1 n:=by
 refine te (Q:=fun r=>nQ r.2.1 n) (fun _=>hy) (fun _ _ _=>hy) (fun _ _=>hy) (fun _ _ _=>hy) fun h hk j j0 j1=> ?_
 obtain⟨h0,h1⟩:=dU.1 h;show Bytes (bL (aB st.1 (s.toNat*64) (dw k (bL st.1 (s.toNat*64)) p)) (j.toNat*64));by_cases e:j=s
 ·subst e;rw[vC (gi hp) (by omega)]
  exact zi hk hb
 ·rw[nH (gi hp) (by omega) (by omega)]
  exact hy j j0 j1
theorem TV(hl:st.1.length=64*n)(hp:p.length=54){j:Int}(hj:j≠s)(j0:0<=j):bk (fP a b c n sc st s k p).1 j=bk st.1 j:=by
 refine te (Q:=fun r=>bk r.2.1 j=bk st.1 j) (fun _=>rfl) (fun _ _ _=>rfl) (fun _ _=>rfl) (fun _ _ _=>rfl) fun h hk=> ?_
 obtain⟨h0,h1⟩:=dU.1 h;exact nH (gi hp) (by omega) (by omega)
theorem ZB(hl:st.1.length=64*n)(hm:(n:Int)=2+a*(2+b+c))(hs:raw a b c s=true)(hp:p.length=54)(i:Int):
  bG a b c (fP a b c n sc st s k p).1 n i=bG a b c st.1 n i/\aW a b c (fP a b c n sc st s k p).1 n i=aW a b c st.1 n i:=by
 obtain⟨r1,r2,r3⟩:=Yd hm hs;have hb:cq a b c i=true->bk (fP a b c n sc st s k p).1 (aK b c i).1=bk st.1 (aK b c i).1:=fun hB=>by
  obtain⟨p1,p2,p3,p4,_,_⟩:=vv hB;exact TV hl hp (fun e=>by rw[e,r3]at p1;cases p1) (by omega)
 have hok:bG a b c (fP a b c n sc st s k p).1 n i=bG a b c st.1 n i:=by
  rw[pZ,pZ];cases hB:cq a b c i with
  |false=>rfl
  |true=>rw[hb hB]
 refine⟨hok,?_⟩;unfold aW;rw[hok];cases ho:bG a b c st.1 n i with
 |false=>rfl
 |true=>
  simp only[if_true];rw[ud (hok.trans ho),ud ho,hb (fV ho).1]
def iB(a b c:Int)(n:Nat)(sc:Int)(R:St->Prop):Prop:= ∀(st:St) (s k:Int) (p:aj),R st->raw a b c s=true->(k=5\/k=6)->p.length=54->Bytes p->R (fP a b c n sc st s k p)
structure pg(y z:Fi.bD):Prop where
 k:y.k=z.k
 l:y.l=z.l
 s:y.s=z.s
 i:gW y
def nA(a b c:Int)(n:Nat)(sc:Int)(R:St->Prop):Prop:= ∀(st:St) (i:Int) (y:Fi.bD),R st->bG a b c st.1 n i=true->pg y (aW a b c st.1 n i)->R (c4 a b c n sc st i y).2
structure iq(n:Nat)(R:St->Prop):Prop where
 len: ∀st,R st->st.1.length=64*n
 byt: ∀st,R st->nQ st.1 n
variable{R:St->Prop}{first:Int}{bl:aj}
theorem QU(L:aj): ∀(m i:Nat) (x:Tb),Bytes x.2.2->Bytes (pj a b c n L au ar kd first p m i x).2.2
 | 0,_,_,h=>h
 |m+1,i,x,h=>QU L m (i+1) _ (by
  unfold lu;split
  ·exact h
  ·split
   ·exact h
   ·exact jS h (fun x hx=>by simp only[List.mem_cons,List.not_mem_nil,or_false,or_self]at hx;subst hx;omega))
theorem Jw(L:aj): ∀(m i:Nat) (x:Tb),(∀t∈x.2.1,raw a b c t=true)->∀t∈(pj a b c n L au ar kd first p m i x).2.1,raw a b c t=true
 | 0,_,_,h=>h
 |m+1,i,x,h=>Jw L m (i+1) _ (by
  unfold lu;split
  ·exact h
  ·split
   ·rename_i ht;intro s hs;rcases List.mem_append.1 hs with hs|hs
    ·exact h s hs
    ·rw[List.mem_singleton.1 hs];exact wz ht.2
   ·exact h)
theorem aa8(hS:iq n R)(hC:iB a b c n sc R)(h:R st)(hs:raw a b c s=true)(hb: ∀t∈bl,raw a b c t=true):
  R (bZ a b c n sc st au ar kd first s aq bl).1/\∀t∈(bZ a b c n sc st au ar kd first s aq bl).2.2,raw a b c t=true:=by
 have hl:=hS.len _ h;exact⟨hC _ _ 5 _ h hs (.inl rfl) (DF 27 0 _ rfl (eH hl)) (QU st.1 27 0 _ (mo (hS.byt _ h))),Jw st.1 27 0 _ hb⟩
theorem Wx(hS:iq n R)(hC:iB a b c n sc R)(h:R st)(hb: ∀t∈bl,raw a b c t=true):
  R (bm a b c n sc st au ar kd first s aq bl).2.1/\∀t∈(bm a b c n sc st au ar kd first s aq bl).2.2.2,raw a b c t=true:=by
 unfold bm;by_cases h1:first>=ar
 ·rw[if_pos h1];exact⟨h,hb⟩
 ·rw[if_neg h1];by_cases ht:dE a b c n st.1 aq s 5=true
  ·rw[if_pos ht];exact aa8 hS hC h (wz ht) hb
  ·rw[if_neg ht];exact⟨h,hb⟩
theorem V4(hS:iq n R)(hC:iB a b c n sc R): ∀(m i:Nat) (x:Md),R x.1->(∀t∈x.2.2.1,raw a b c t=true)->Bytes x.2.2.2->
  R (kL a b c n sc au ar kd p m i x).1/\(∀t∈(kL a b c n sc au ar kd p m i x).2.2.1,raw a b c t=true)/\Bytes (kL a b c n sc au ar kd p m i x).2.2.2
 | 0,_,_,h1,h2,h3=>⟨h1,h2,h3⟩
 |m+1,i,x,h1,h2,h3=>by
  have g:R (nu a b c n sc au ar kd p i x).1/\(∀t∈(nu a b c n sc au ar kd p i x).2.2.1,raw a b c t=true)/\Bytes (nu a b c n sc au ar kd p i x).2.2.2:=by
   unfold nu;by_cases h0:dM p i=0
   ·rw[if_pos h0];exact⟨h1,h2,h3⟩
   ·rw[if_neg h0];obtain⟨g1,g2⟩:=Wx (au:=au) (ar:=ar) (kd:=kd) (first:=31+27*i) (s:=dM p i) (aq:=x.2.1) hS hC h1 h2
    refine⟨g1,g2,?_⟩;show Bytes (if _ then _ else _)
    split
    ·exact h3
    ·exact jS h3 (fun x hx=>by simp only[List.mem_cons,List.not_mem_nil,or_false,or_self]at hx;subst hx;omega)
  exact V4 hS hC m (i+1) _ g.1 g.2.1 g.2.2
theorem aet(hS:iq n R)(hC:iB a b c n sc R)(h:R st)(hb: ∀t∈bl,raw a b c t=true):
  R (bQ a b c n sc st au ar kd s aq bl).2.1/\∀t∈(bQ a b c n sc st au ar kd s aq bl).2.2.2,raw a b c t=true:=by
 unfold bQ;by_cases h1:(31:Int)>=ar
 ·rw[if_pos h1];exact⟨h,hb⟩
 ·rw[if_neg h1];by_cases ht:dE a b c n st.1 aq s 5=true
  ·rw[if_pos ht];have hl:=hS.len _ h;obtain⟨g1,g2,g3⟩:=V4 (p:=aR st.1 n s 5) (au:=au) (ar:=ar) (kd:=kd) hS hC 27 0 (st,bC aq s au,bl,aR st.1 n s 5) h hb (mo (hS.byt _ h));have g4:=(sj (a:=a) (b:=b) (c:=c) (sc:=sc) (au:=au) (ar:=ar) (kd:=kd) (p:=aR st.1 n s 5) 27 0 (st,bC aq s au,bl,aR st.1 n s 5) rfl hl (eH hl)).2;exact⟨hC _ _ 5 _ g1 (wz ht) (.inl rfl) g4 g3,g2⟩
  ·rw[if_neg ht];exact⟨h,hb⟩
theorem pg.refl {y:Fi.bD}(h:gW y):pg y y:=⟨rfl,rfl,rfl,h⟩
theorem Bx(hl:L.length=64*n)(hy:nQ L n)(i:Int):gW (aW a b c L n i):=by
 unfold aW;split
 ·rename_i h;obtain⟨_,hs,_⟩:=fV h;obtain⟨h0,h1⟩:=dU.1 hs;exact wM hl h (hy _ h0 h1)
 ·exact⟨⟨by decide,by decide⟩,⟨by decide,by decide⟩,⟨by decide,by decide⟩,Fi.u0,Fi.u0,Fi.u0,Fi.u0,Fi.u0,Fi.u0⟩
theorem aaL{j:Nat}{y z:Fi.bD}(h:pg y z):pg (zd j y) z:=by
 obtain⟨h1,h2,h3,h4⟩:=h;unfold zd;split
 ·exact⟨h1,h2,h3,⟨h4.k,h4.l,h4.s,Fi.u0,h4.d1,h4.d2,h4.d3,h4.sg,h4.db⟩⟩
 ·exact⟨h1,h2,h3,⟨h4.k,h4.l,h4.s,h4.d0,Fi.u0,h4.d2,h4.d3,h4.sg,h4.db⟩⟩
 ·exact⟨h1,h2,h3,⟨h4.k,h4.l,h4.s,h4.d0,h4.d1,Fi.u0,h4.d3,h4.sg,h4.db⟩⟩
 ·exact⟨h1,h2,h3,⟨h4.k,h4.l,h4.s,h4.d0,h4.d1,h4.d2,Fi.u0,h4.sg,h4.db⟩⟩
theorem VU{A:aj}{z:Fi.bD}: ∀(m j:Nat) (x:Rb),(∀t∈x.2.1,raw a b c t=true)->pg x.2.2 z->
  (∀t∈(ru a b c n L au ar kd A m j x).2.1,raw a b c t=true)/\pg (ru a b c n L au ar kd A m j x).2.2 z
 | 0,_,_,h1,h2=>⟨h1,h2⟩
 |m+1,j,x,h1,h2=>by
  have g:(∀t∈(ku a b c n L au ar kd A j x).2.1,raw a b c t=true)/\pg (ku a b c n L au ar kd A j x).2.2 z:=by
   unfold ku;split
   ·exact⟨h1,h2⟩
   ·split
    ·rename_i ht;refine⟨fun s hs=> ?_,h2⟩
     rcases List.mem_append.1 hs with hs|hs
     ·exact h1 s hs
     ·rw[List.mem_singleton.1 hs];exact wz ht.2
    ·exact⟨h1,aaL h2⟩
  exact VU m (j+1) _ g.1 g.2
theorem aeT{x:Vb}{z:Fi.bD}(hS:iq n R)(hC:iB a b c n sc R)(h:R x.1)(hb: ∀t∈x.2.2.1,raw a b c t=true)(hz:pg x.2.2.2 z):
  R (pH a b c n sc au ar kd x).1/\(∀t∈(pH a b c n sc au ar kd x).2.2.1,raw a b c t=true)/\pg (pH a b c n sc au ar kd x).2.2.2 z:=by
 unfold pH;by_cases h0:x.2.2.2.sg=0
 ·rw[if_pos h0];exact⟨h,hb,hz⟩
 ·rw[if_neg h0];obtain⟨g1,g2⟩:=Wx (au:=au) (ar:=ar) (kd:=kd) (first:=4) (s:=x.2.2.2.sg) (aq:=x.2.1) hS hC h hb
  refine⟨g1,g2,?_⟩;show pg (if _ then _ else _) z
  split
  ·exact hz
  ·exact⟨hz.k,hz.l,hz.s,⟨hz.i.k,hz.i.l,hz.i.s,hz.i.d0,hz.i.d1,hz.i.d2,hz.i.d3,Fi.u0,hz.i.db⟩⟩
theorem aeG{x:Vb}{z:Fi.bD}(hS:iq n R)(hC:iB a b c n sc R)(h:R x.1)(hb: ∀t∈x.2.2.1,raw a b c t=true)(hz:pg x.2.2.2 z):
  R (p9 a b c n sc au ar kd x).1/\(∀t∈(p9 a b c n sc au ar kd x).2.2.1,raw a b c t=true)/\pg (p9 a b c n sc au ar kd x).2.2.2 z:=by
 unfold p9;by_cases h0:x.2.2.2.db=0
 ·rw[if_pos h0];exact⟨h,hb,hz⟩
 ·rw[if_neg h0];obtain⟨g1,g2⟩:=aet (au:=au) (ar:=ar) (kd:=kd) (s:=x.2.2.2.db) (aq:=x.2.1) hS hC h hb;refine⟨g1,g2,?_⟩;show pg (if _ then _ else _) z
  split
  ·exact hz
  ·exact⟨hz.k,hz.l,hz.s,⟨hz.i.k,hz.i.l,hz.i.s,hz.i.d0,hz.i.d1,hz.i.d2,hz.i.d3,hz.i.sg,Fi.u0⟩⟩
theorem adv(hS:iq n R)(hC:iB a b c n sc R)(hI:nA a b c n sc R)(hm:(n:Int)=2+a*(2+b+c))(h:R st):
  R (dg a b c n sc st au aq).1/\∀t∈(dg a b c n sc st au aq).2.2,raw a b c t=true:=by
 have hl:=hS.len _ h;have hy:=hS.byt _ h
 let R':St->Prop:=fun st'=>R st'/\bG a b c st'.1 n au=bG a b c st.1 n au/\aW a b c st'.1 n au=aW a b c st.1 n au
 have hS':iq n R':=⟨fun _ h=>hS.len _ h.1,fun _ h=>hS.byt _ h.1⟩
 have hC':iB a b c n sc R':=fun st' s k p h1 h2 h3 h4 h5=>by
  obtain⟨e1,e2⟩:=ZB (sc:=sc) (k:=k) (hS.len _ h1.1) hm h2 h4 au;exact⟨hC st' s k p h1.1 h2 h3 h4 h5,e1.trans h1.2.1,e2.trans h1.2.2⟩
 obtain⟨b1,z1⟩:=VU (a:=a) (b:=b) (c:=c) (n:=n) (L:=st.1) (au:=au) (ar:=tn a b c n st au) (kd:=nO a b c n st au) (A:=xe a b c n st au) (z:=aW a b c st.1 n au) 4 0 (aq,[],aW a b c st.1 n au) (fun _ h=>absurd h List.not_mem_nil) (pg.refl (Bx hl hy au))
 obtain⟨r2,b2,z2⟩:=aeT (x:=zb a b c n st au aq) (au:=au) (ar:=tn a b c n st au) (kd:=nO a b c n st au) hS' hC' (show R' st from⟨h,rfl,rfl⟩) b1 z1
 obtain⟨r3,b3,z3⟩:=aeG (au:=au) (ar:=tn a b c n st au) (kd:=nO a b c n st au) hS' hC' r2 b2 z2;refine⟨?_,b3⟩;show R (c4 a b c n sc (pM a b c n sc st au aq).1 au (pM a b c n sc st au aq).2.2.2).2;obtain⟨q1,q2,q3⟩:R' (pM a b c n sc st au aq).1:=r3;by_cases ho:bG a b c (pM a b c n sc st au aq).1.1 n au=true
 ·exact hI _ _ _ q1 ho (by rw[q3];exact z3)
 ·unfold c4;rw[if_neg ho];exact q1
end
end Go.Sx
