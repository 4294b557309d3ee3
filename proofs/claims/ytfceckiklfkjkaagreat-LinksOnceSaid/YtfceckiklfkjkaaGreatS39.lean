import Derived.Test.YtfceckiklfkjkaaGreatS38
import Derived.Test.YtfceckiklfkjkaaGreatS32
noncomputable section
set_option maxRecDepth 100000
open Go.IntKind(i64 u8 u64 u32 u16)
open Go.Proofs.Tryz
namespace Go.Sx
open Go.Proofs Go.RowKit
structure il(a b c:Int)(R:St->Prop)(w:Wk):Prop where
 r:R w.1
 nm: ∀i,0<=bp w.2.2.1 i/\bp w.2.2.1 i<=200
 nd:w.2.2.2.2.Nodup
 dr: ∀d∈w.2.2.2.2,cq a b c d=true/\0<bp w.2.2.1 d
 bk: ∀k,∀t∈gY w.2.2.2.1 k,raw a b c t=true
 bl: ∀k,(gY w.2.2.2.1 k).length<=760
abbrev Sl:Type:=List Int×List ByteArray×Wk
section
variable(a b c:Int)(n:Nat)(sc:Int)(p:aj)
def yu(i:Int)(x:Sl):Sl:=
 (bif (dR a b c n sc (bX p i) x.2.1 x.2.2).1 then x.1 else uI x.1 i,(dR a b c n sc (bX p i) x.2.1 x.2.2).2.1,(dR a b c n sc (bX p i) x.2.1 x.2.2).2.2)
def o5:Nat->Int->Sl->Sl
 | 0,_,x=>x
 |m+1,i,x=>o5 m (i+1) (yu a b c n sc p i x)
def Ey(s:Int)(x:List ByteArray×Wk):List ByteArray×Wk:=
  ((o5 a b c n sc (aR x.2.1.1 n s 6) 4 0 (aR x.2.1.1 n s 6,x)).2.1,
    (fP a b c n sc (o5 a b c n sc (aR x.2.1.1 n s 6) 4 0 (aR x.2.1.1 n s 6,x)).2.2.1 s 6 (o5 a b c n sc (aR x.2.1.1 n s 6) 4 0 (aR x.2.1.1 n s 6,x)).1,(o5 a b c n sc (aR x.2.1.1 n s 6) 4 0 (aR x.2.1.1 n s 6,x)).2.2.2))
def Ax:List Int->List ByteArray×Wk->List ByteArray×Wk
 | [],x=>x
 |s::l,x=>Ax l (Ey a b c n sc s x)
def nM(d:Int)(w:Wk):Wk:=(Ax a b c n sc (gY w.2.2.2.1 d) ([],w)).2
def tq:Nat->Nat->Wk->Wk
 | 0,_,w=>w
 |m+1,i,w=>if i<w.2.2.2.2.length then tq m (i+1) (nM a b c n sc (w.2.2.2.2.getD i 0) w)else w
def JT(st:St):Wk:=dO a b c n sc 1 (st,[],[(1,1)],[],[])
def eT(st:St):Wk:=if(aW a b c st.1 n 1).k=2 then tq a b c n sc 200 0 (JT a b c n sc st)else(st,[],[],[],[])
end
section
variable{a b c:Int}{n:Nat}{sc:Int}{R:St->Prop}{w:Wk}{au:Int}{p:aj}
theorem IS{i:Int}(h:cq a b c i=true):1<=i/\i<=192/\i<=3*a*b:=by
 unfold cq at h;simp only[Bool.and_eq_true,decide_eq_true_eq]at h;have:=fX h.1;omega
theorem il.aS (h:il a b c R w):w.2.2.2.2.length<=192:=
 EP 192 _ h.nd fun x hx=>⟨(IS (h.dr x hx).1).1,(IS (h.dr x hx).1).2.1⟩
theorem Xd(hS:iq n R)(hC:iB a b c n sc R)(hI:nA a b c n sc R)(hm:(n:Int)=2+a*(2+b+c))(h:il a b c R w)(hB:cq a b c au=true)(hn:0<bp w.2.2.1 au)(hd:au∉w.2.2.2.2):il a b c R (dO a b c n sc au w):=by
 obtain⟨r1,r2⟩:=adv (aq:=w.2.1) (au:=au) hS hC hI hm h.r;have e:(dO a b c n sc au w).2.2.2.2=w.2.2.2.2\/(dO a b c n sc au w).2.2.2.2=w.2.2.2.2++ [au]:=by
  unfold dO;by_cases hk:(aW a b c (dg a b c n sc w.1 au w.2.1).1.1 n au).k=2
  ·exact .inr (if_pos hk)
  ·exact .inl (if_neg hk)
 refine⟨r1,h.nm,?_,fun d hd'=> ?_,fun k t ht=> ?_,fun k=> ?_⟩
 ·rcases e with e|e
  ·rw[e];exact h.nd
  ·rw[e,List.nodup_append];exact⟨h.nd,by simp,fun x hx y hy=>by rw[List.mem_singleton.1 hy];rintro rfl;exact hd hx⟩
 ·rcases e with e|e
  ·rw[e]at hd';exact h.dr d hd'
  ·rw[e]at hd';rcases List.mem_append.1 hd' with hd'|hd'
   ·exact h.dr d hd'
   ·rw[List.mem_singleton.1 hd'];exact⟨hB,hn⟩
 ·have ht':t∈gY (iF w.2.2.2.1 au (dg a b c n sc w.1 au w.2.1).2.2) k:=ht;rw[Ee]at ht';split at ht'
  ·exact r2 t ht'
  ·exact h.bk k t ht'
 ·show(gY (iF w.2.2.2.1 au (dg a b c n sc w.1 au w.2.1).2.2) k).length<=760;rw[Ee];split
  ·exact(E4 (hS.len _ h.r)).2
  ·exact h.bl k
theorem Jt{st:St}{av:ak}{seen:List ByteArray}{e:Int×ByteArray×Int}(h:mI a b c n st av seen e=true):
  bG a b c st.1 n e.1=true/\(aW a b c st.1 n e.1).k≠0/\nC seen e.2.1=false/\¬((aW a b c st.1 n e.1).k=2/\bp av e.1>0)/\bp av e.1<200:=by
 unfold mI at h;simp only[Bool.and_eq_true,Bool.not_eq_true',beq_eq_false_iff_ne,Bool.and_eq_false_iff,decide_eq_true_eq,decide_eq_false_iff_not,ne_eq]at h;obtain⟨h1,h2,h3,h4,h5⟩:=h;refine⟨h1,h2,h3,fun⟨x,y⟩=> ?_,h5⟩
 rcases h4 with h4|h4
 ·exact h4 x
 ·exact h4 y
theorem CA{e:Int×ByteArray×Int}{seen:List ByteArray}(Q:Bool×List ByteArray×Wk->Prop)(h0:e.2.2=0->Q (true,seen,w))(h1:e.2.2≠0->¬(e.2.2=1/\mI a b c n w.1 w.2.2.1 seen e=true)->Q (false,seen,w))
  (h2:e.2.2=1->mI a b c n w.1 w.2.2.1 seen e=true->bp w.2.2.1 e.1>0->Q (true,lJ seen e.2.1,(w.1,w.2.1,bC w.2.2.1 e.1 (i64.wrap (bp w.2.2.1 e.1+1)),w.2.2.2)))
  (h3:e.2.2=1->mI a b c n w.1 w.2.2.1 seen e=true->¬bp w.2.2.1 e.1>0->Q (true,lJ seen e.2.1,dO a b c n sc e.1 (w.1,w.2.1,bC w.2.2.1 e.1 (i64.wrap (bp w.2.2.1 e.1+1)),w.2.2.2))):Q (dR a b c n sc e seen w):=by
 unfold dR;cases x0:e.2.2==0 with
 |true=>exact h0 (by simpa using x0)
 |false=>
 have x0':e.2.2≠0:=by simpa using x0
 cases x1:e.2.2 !=1 with
 |true=>exact h1 x0' (fun h=>by rw[h.1]at x1;simp at x1)
 |false=>
 have x1':e.2.2=1:=by simpa using x1
 cases g:mI a b c n w.1 w.2.2.1 seen e with
 |false=>exact h1 x0' (fun h=>by rw[g]at h;cases h.2)
 |true=>
 cases x3:decide (bp w.2.2.1 e.1>0)with
 |true=>exact h2 x1' g (by simpa using x3)
 |false=>exact h3 x1' g (by simpa using x3)
theorem Wn(hS:iq n R)(hC:iB a b c n sc R)(hI:nA a b c n sc R)(hm:(n:Int)=2+a*(2+b+c))(h:il a b c R w){e:Int×ByteArray×Int}{seen:List ByteArray}:il a b c R (dR a b c n sc e seen w).2.2:=by
 have up:mI a b c n w.1 w.2.2.1 seen e=true->il a b c R (w.1,w.2.1,bC w.2.2.1 e.1 (i64.wrap (bp w.2.2.1 e.1+1)),w.2.2.2)/\bp (bC w.2.2.1 e.1 (i64.wrap (bp w.2.2.1 e.1+1))) e.1=bp w.2.2.1 e.1+1:=fun g=>by
  have g5:=(Jt g).2.2.2.2;have hb:=h.nm e.1;have hw:i64.wrap (bp w.2.2.1 e.1+1)=bp w.2.2.1 e.1+1:=IntWalk.i64_in _ (by omega)
  rw[hw];refine⟨⟨h.r,fun i=> ?_,h.nd,fun d hd=>⟨(h.dr d hd).1,?_⟩,h.bk,h.bl⟩,by rw[xp,if_pos rfl]⟩
  ·show 0<=bp (bC w.2.2.1 e.1 (bp w.2.2.1 e.1+1)) i/\_;rw[xp];split
   ·omega
   ·exact h.nm i
  ·show 0<bp (bC w.2.2.1 e.1 (bp w.2.2.1 e.1+1)) d;rw[xp];split
   ·omega
   ·exact(h.dr d hd).2
 refine CA (Q:=fun r=>il a b c R r.2.2) (fun _=>h) (fun _ _=>h) (fun _ g _=>(up g).1) fun _ g hz=> ?_
 obtain⟨u1,u2⟩:=up g;have hb:=h.nm e.1;refine Xd hS hC hI hm u1 (fV (Jt g).1).1 (by show 0<bp _ e.1;rw[u2];omega) (fun hd=> ?_)
 exact hz (h.dr e.1 hd).2
theorem Hy(hS:iq n R)(hC:iB a b c n sc R)(hI:nA a b c n sc R)(hm:(n:Int)=2+a*(2+b+c)): ∀(m:Nat) (i:Int) (x:Sl),0<=i->i+m<=4->il a b c R x.2.2->x.1.length=54->Bytes x.1->
  il a b c R (o5 a b c n sc p m i x).2.2/\(o5 a b c n sc p m i x).1.length=54/\Bytes (o5 a b c n sc p m i x).1
 | 0,_,_,_,_,h,h1,h2=>⟨h,h1,h2⟩
 |m+1,i,x,h0,hi,h,h1,h2=>by
  have q:(bif (dR a b c n sc (bX p i) x.2.1 x.2.2).1 then x.1 else uI x.1 i).length=54/\Bytes (bif (dR a b c n sc (bX p i) x.2.1 x.2.2).1 then x.1 else uI x.1 i):=by
   cases (dR a b c n sc (bX p i) x.2.1 x.2.2).1 with
   |true=>exact⟨h1,h2⟩
   |false=>exact⟨wH h1 (by push_cast at hi;omega),jS h2 (fun _ hx=>by simp only[qb,List.mem_cons,List.not_mem_nil,or_false,or_self]at hx;subst hx;omega)⟩
  exact Hy hS hC hI hm m (i+1) (yu a b c n sc p i x) (by omega) (by push_cast at hi;omega) (Wn hS hC hI hm h) q.1 q.2
theorem Sf(hS:iq n R)(hC:iB a b c n sc R)(hI:nA a b c n sc R)(hm:(n:Int)=2+a*(2+b+c)){s:Int}(hs:raw a b c s=true){x:List ByteArray×Wk}(h:il a b c R x.2):il a b c R (Ey a b c n sc s x).2:=by
 obtain⟨g1,g2,g3⟩:=Hy (p:=aR x.2.1.1 n s 6) hS hC hI hm 4 0 (aR x.2.1.1 n s 6,x) (by omega) (by omega) h (eH (hS.len _ h.r)) (mo (hS.byt _ h.r))
 exact⟨hC _ _ 6 _ g1.r hs (.inr rfl) g2 g3,g1.nm,g1.nd,g1.dr,g1.bk,g1.bl⟩
theorem Oq(hS:iq n R)(hC:iB a b c n sc R)(hI:nA a b c n sc R)(hm:(n:Int)=2+a*(2+b+c)): ∀(l:aj) (x:List ByteArray×Wk),(∀t∈l,raw a b c t=true)->il a b c R x.2->il a b c R (Ax a b c n sc l x).2
 | [],_,_,h=>h
 |s::l,x,hl,h=>Oq hS hC hI hm l _ (fun t ht=>hl t (List.mem_cons_of_mem _ ht)) (Sf hS hC hI hm (hl s List.mem_cons_self) h)
theorem VQ(hS:iq n R)(hC:iB a b c n sc R)(hI:nA a b c n sc R)(hm:(n:Int)=2+a*(2+b+c)){d:Int}(h:il a b c R w):il a b c R (nM a b c n sc d w):=Oq hS hC hI hm _ ([],w) (h.bk d) h
theorem WO(hS:iq n R)(hC:iB a b c n sc R)(hI:nA a b c n sc R)(hm:(n:Int)=2+a*(2+b+c)): ∀(m i:Nat) (w:Wk),il a b c R w->il a b c R (tq a b c n sc m i w)
 | 0,_,_,h=>h
 |m+1,i,w,h=>by
  unfold tq;split
  ·exact WO hS hC hI hm m (i+1) _ (VQ hS hC hI hm h)
  ·exact h
theorem aez(hg:aY a b c=true):cq a b c 1=true:=by
 unfold cq;have:=fX hg;simp only[hg,Bool.true_and,Bool.and_eq_true,decide_eq_true_eq];omega
theorem Xg(hS:iq n R)(hC:iB a b c n sc R)(hI:nA a b c n sc R)(hm:(n:Int)=2+a*(2+b+c))(hg:aY a b c=true){st:St}(h:R st):il a b c R (JT a b c n sc st):=by
 have h1: ∀i,bp [(1,1)] i=if i=1 then 1 else 0:=fun i=>by
  simp only[bp];by_cases e:(1:Int)=i
  ·rw[if_pos e,if_pos e.symm]
  ·rw[if_neg e,if_neg (fun e'=>e e'.symm)]
 exact Xd hS hC hI hm ⟨h,fun i=>by show 0<=bp [(1,1)] i/\bp [(1,1)] i<=200;rw[h1];split<;>omega,List.nodup_nil,fun d hd=>absurd hd List.not_mem_nil,fun k t ht=>absurd ht (by show t∉([]:aj);exact List.not_mem_nil),fun k=>by show([]:aj).length<=760;simp⟩ (aez hg)
  (by show 0<bp [(1,1)] 1;rw[h1];simp) List.not_mem_nil
theorem aeC(hS:iq n R)(hC:iB a b c n sc R)(hI:nA a b c n sc R)(hm:(n:Int)=2+a*(2+b+c))(hg:aY a b c=true){st:St}(h:R st):il a b c R (eT a b c n sc st):=by
 unfold eT;split
 ·exact WO hS hC hI hm _ _ _ (Xg hS hC hI hm hg h)
 ·exact⟨h,fun i=>by show 0<=bp [] i/\bp [] i<=200;simp[bp],List.nodup_nil,fun d hd=>absurd hd List.not_mem_nil,fun k t ht=>absurd ht (by show t∉([]:aj);exact List.not_mem_nil),fun k=>by show([]:aj).length<=760;simp⟩
theorem lI{e:Int×ByteArray×Int}{seen:List ByteArray}(h:w.2.2.2.2≠ []):(dR a b c n sc e seen w).2.2.2.2.2.2≠ []:=
 CA (Q:=fun r=>r.2.2.2.2.2.2≠ []) (fun _=>h) (fun _ _=>h) (fun _ _ _=>h) (fun _ _ _=>Ef (w:=(w.1,w.2.1,bC w.2.2.1 e.1 (i64.wrap (bp w.2.2.1 e.1+1)),w.2.2.2)) h)
def j4(n:Nat):St->Prop:=fun st=>st.1.length=64*n/\nQ st.1 n
theorem yT:iq n (j4 n):=⟨fun _ h=>h.1,fun _ h=>h.2⟩
theorem vS:iB a b c n sc (j4 n):=fun _ _ _ _ h _ _ h4 h5=>⟨fR h.1 h4,FA h.1 h.2 h4 h5⟩
theorem Oi{L:aj}{i:Int}{y:Fi.bD}(hy:nQ L n)(h:gW y):Bytes (ic a b c L n i y):=jS (mo hy) (vB h.k h.l)
theorem Ke{st:St}{i:Int}{y:Fi.bD}(h:bG a b c st.1 n i=true):(c4 a b c n sc st i y).2=fP a b c n sc st (aK b c i).1 4 (ic a b c st.1 n i y):=by unfold c4;rw[if_pos h]
theorem vV:nA a b c n sc (j4 n):=fun st i y h ho hy=>by
 rw[Ke ho];exact⟨fR h.1 (jF h.1),FA h.1 h.2 (jF h.1) (Oi h.2 hy.i)⟩
end
end Go.Sx
namespace Go.Sx
open Go.Proofs Go.RowKit
theorem DY{m k:Nat}{x:ax}(h:m<k): ∀p∈ [(m,x)],p.1<k:=fun p hp=>by rw[List.mem_singleton.1 hp];exact h
def UK:List RV->T ax->Nat->Option GS:=fun args hp _=>match args with
 | [.one (.c (.ptr nw 0)),.one (.ints .u8 p 54),.one (.c (.int .i64 i)),.one (.c (.map ns))]=>match wkE hp nw,hp.get ns with
  |some ((a,b,c,n,sc),(st,aq,av,ay,ds),_,(ni,nl,nf,no,nm,nb,nn,nd)),some (.di seen)=>
   some ⟨10,[nw,ni,nl,nf,no,nm,nb,nn,ns,nd],wx p i,eK a b c n sc st aq av ay ds 9 [(8,.di seen)],11,
    eK a b c n sc (dR a b c n sc (bX p i) seen (st,aq,av,ay,ds)).2.2.1 (dR a b c n sc (bX p i) seen (st,aq,av,ay,ds)).2.2.2.1 (dR a b c n sc (bX p i) seen (st,aq,av,ay,ds)).2.2.2.2.1 (dR a b c n sc (bX p i) seen (st,aq,av,ay,ds)).2.2.2.2.2.1 (dR a b c n sc (bX p i) seen (st,aq,av,ay,ds)).2.2.2.2.2.2 10 [(8,.di (dR a b c n sc (bX p i) seen (st,aq,av,ay,ds)).2.1)],
    .one (.c (.bool (dR a b c n sc (bX p i) seen (st,aq,av,ay,ds)).1)),[st.1.length=64*n,ds≠ [],ds.length<=1000,p.length=54,0<=i/\i<4,U8 ((iU p i).getD 2 0)]⟩
  |_,_=>none
 |_=>none
theorem abk:aI prog 166 (cC UK):=dT ⟨_,func166,rfl⟩ fun args hp nx g h bB=>by
 unfold UK at h;split at h<;>try(cases h;done)
 split at h<;>try(cases h;done)
 cases h;obtain⟨h1,h2,h3,h4,h5,h6,_⟩:=bB;exact⟨Vv h1 h2 h3 h4 h5 h6 rfl,fun i x hx=>oo (m:=9) (k:=10) (by omega) (by omega) (DY (m:=8) (k:=10) (by omega)) hx⟩
def pe:FuncId->Option bg:=fun f=>match f with| 166=>some (cC UK)| 167=>some (aL deW)| 47=>some mB| 78=>some p8|_=>none
theorem lz:Fit prog (fun f=>(pe f).map bj):=⟨bM,aV,aI.sum fun f sm h=>by
 unfold pe at h;split at h
 ·cases h;exact abk
 ·cases h;exact aaC.sum ⟨_,func167,rfl⟩
 ·cases h;exact jx
 ·cases h;exact mi
 ·cases h⟩
def RT:Code:=gB 99
def zf(d:Int):List RV:= [.one (.c (.ptr 0 0)),.one (.c (.int .i64 d))]
def Mk(d:Int):T RV:=match setArgs 57 (zf d) 0 .nil some with|some t=>t|none=> .nil
theorem Y7(d:Int):setArgs 57 (zf d) 0 .nil some=some (Mk d):=by kernel_rfl
def nv:Code:=match aG 2 RT with| .block _ (.loop c)=>c|_=> .skip
def tJ:Code:=match gL (aG 2 nv)with| .block _ c=>c|_=> .skip
def Mu:Code:=match gR (gL (aG 3 tJ))with| .block _ (.loop c)=>c|_=> .skip
def ZM(sl:T RV)(i:Nat):List Nat:=match sl.get i with|some (.one (.c (.map nm)))=> [nm]|_=> []
def abB:S->List Nat:=fun s=>ZM s.sl 4++gg s.sl 7++gg s.sl 9++AL s.hp
def LP:S->List Nat:=fun s=>ZM s.sl 4++AL s.hp
section
variable(a b c:Int)(n:Nat)(sc:Int)(st:St)(aq av:ak)(ay:List (Int×List Int))(ds:aj)(seen:List ByteArray)(p q l:aj)(s i j d:Int)(t:Bool)
def PT(l:aj)(j:Int):List (Nat×RV):= [(0,.one (.c (.ptr 0 0))),(4,.one (.c (.map 9))),(17,.one (.c (.dI l))),(18,.one (.c (.int .i64 l.length))),(19,.one (.c (.int .i64 j)))]
def sU:S:=aE [0,4,17,18,19] 57 ⟨aN (PT l j),eK a b c n sc st aq av ay ds 10 [(9,.di seen)],11,[]⟩
def sUo:S:=aE [0,4,17,18,19] 57 ⟨aN (PT l j),eK a b c n sc st aq av ay ds 10 [(9,.map [])],11,[]⟩
def Wl:S:=aE [0,4,17,18,19,20] 57 ⟨aN (PT l j++ [(20,.one (.c (.bool t)))]),eK a b c n sc st aq av ay ds 10 [(9,.di seen)],11,[]⟩
def sJ0:S:=aE [0,4,6,7,9,17,18,19] 57 ⟨aN (PT l j++ [(6,.one (.c (.int .i64 s))),(7,.one (.c (.ptr 10 0))),(9,.one (.c (.ptr 11 0)))]),eK a b c n sc st aq av ay ds 12 [(9,.di seen),(10,qB p),(11,qB q)],13,[]⟩
def sJ:S:=aE [0,4,6,7,9,17,18,19,33] 57 ⟨aN (PT l j++ [(6,.one (.c (.int .i64 s))),(7,.one (.c (.ptr 10 0))),(9,.one (.c (.ptr 11 0))),(33,.one (.c (.int .i64 i)))]),eK a b c n sc st aq av ay ds 12 [(9,.di seen),(10,qB p),(11,qB q)],13,[]⟩
def E5:S:=aE [] 57 ⟨.nil,eK a b c n sc st aq av ay ds 9 [],10,[]⟩
def acj:S:=zB 8 3 (cj ds) (.row 137 false none (.cells ([.map 7,.map 4,.aC 8 1 0 ds.length].set 2 (.aC 9 1 0 ds.length)))) ⟨Mk d,eK a b c n sc st aq av ay ds 8 [],9,[]⟩
def i99(M:S->Prop)(R:ah):ai:=dk prog pe 300 57 2 RT (acj a b c n sc st aq av ay ds d) aO (iR 9 [0,4,17,18,19] 57 [10,9] f99.results.toList prog M R)
def u99(Q:ag):ai:=az prog pe 300 57 (gL nv) (sU a b c n sc st aq av ay ds seen l j) aO (bN 9 [0,4,17,18,19,20] 57 LP Q)
def k99(Q:ag):ai:=az prog pe 300 57 .skip (Wl a b c n sc st aq av ay ds seen l j t) aO (bN 9 [0,4,17,18,19] 57 LP Q)
def x99(Q:ag):ai:=az prog pe 300 57 (.exit 0) (Wl a b c n sc st aq av ay ds seen l j t) aO (bN 9 [] 57 (fun s=>AL s.hp) Q)
def b99(M:S->Prop)(R:ah):ai:=dk prog pe 300 57 3 tJ (sU a b c n sc st aq av ay ds seen l j) aO (iR 9 [0,4,6,7,9,17,18,19] 57 [9,11,12,10] f99.results.toList prog M R)
def z99(Q:ag):ai:=az prog pe 300 57 (gL (gL (aG 3 tJ))) (sJ0 a b c n sc st aq av ay ds seen p q l s j) aO (bN 9 [0,4,6,7,9,17,18,19,33] 57 abB Q)
def r99(Q:ag):ai:=az prog pe 300 57 Mu (sJ a b c n sc st aq av ay ds seen p q l s i j) aO (bN 9 [0,4,6,7,9,17,18,19,33] 57 abB Q)
def w99(Q:ag):ai:=az prog pe 300 57 (gR (aG 3 tJ)) (sJ a b c n sc st aq av ay ds seen p q l s i j) aO (bN 9 [0,4,17,18,19] 57 LP Q)
def n99(Q:ag):ai:=az prog pe 300 57 (gR (aG 2 nv)) (sU a b c n sc st aq av ay ds seen l j) aO (bN 9 [0,4,17,18,19] 57 LP Q)
def aeH(a b c:Int)(n:Nat)(sc:Int)(st:St)(aq av:ak)(ay:List (Int×List Int))(ds:aj)(d:Int)(M:S->Prop)(R:ah):ai:=some ((aw []/\M (sUo a b c n sc st aq av ay ds (gY ay d) 0)))
theorem Uy(a b c:Int)(n:Nat)(sc:Int)(st:St)(aq av:ak)(ay:List (Int×List Int))(ds:aj)(d:Int)(M:S->Prop)(R:ah):i99 a b c n sc st aq av ay ds d M R=aeH a b c n sc st aq av ay ds d M R:=by kernel_rfl
def adG(a b c:Int)(n:Nat)(sc:Int)(st:St)(aq av:ak)(ay:List (Int×List Int))(ds:aj)(seen:List ByteArray)(l:aj)(j:Int)(Q:ag):ai:=some ((aw []/\Q (X.normal) (Wl a b c n sc st aq av ay ds seen l j (decide (j<(l.length:Int))))))
theorem Fv(a b c:Int)(n:Nat)(sc:Int)(st:St)(aq av:ak)(ay:List (Int×List Int))(ds:aj)(seen:List ByteArray)(l:aj)(j:Int)(Q:ag):u99 a b c n sc st aq av ay ds seen l j Q=adG a b c n sc st aq av ay ds seen l j Q:=by kernel_rfl
def adu(a b c:Int)(n:Nat)(sc:Int)(st:St)(aq av:ak)(ay:List (Int×List Int))(ds:aj)(seen:List ByteArray)(l:aj)(j:Int)(t:Bool)(Q:ag):ai:=some ((aw []/\Q (X.normal) (sU a b c n sc st aq av ay ds seen l j)))
theorem Ur(a b c:Int)(n:Nat)(sc:Int)(st:St)(aq av:ak)(ay:List (Int×List Int))(ds:aj)(seen:List ByteArray)(l:aj)(j:Int)(t:Bool)(Q:ag):k99 a b c n sc st aq av ay ds seen l j t Q=adu a b c n sc st aq av ay ds seen l j t Q:=by kernel_rfl
def adW(a b c:Int)(n:Nat)(sc:Int)(st:St)(aq av:ak)(ay:List (Int×List Int))(ds:aj)(seen:List ByteArray)(l:aj)(j:Int)(t:Bool)(Q:ag):ai:=some ((aw []/\Q (X.exit 0) (E5 a b c n sc st aq av ay ds)))
theorem To(a b c:Int)(n:Nat)(sc:Int)(st:St)(aq av:ak)(ay:List (Int×List Int))(ds:aj)(seen:List ByteArray)(l:aj)(j:Int)(t:Bool)(Q:ag):x99 a b c n sc st aq av ay ds seen l j t Q=adW a b c n sc st aq av ay ds seen l j t Q:=by kernel_rfl
def ade(a b c:Int)(n:Nat)(sc:Int)(st:St)(aq av:ak)(ay:List (Int×List Int))(ds:aj)(seen:List ByteArray)(l:aj)(j:Int)(M:S->Prop)(R:ah):ai:=(bif decide (0<=j/\j<(l.length:Int))then((bif decide (j.toNat<l.length)then(some ((aw [st.1.length=64*n,64*n=64*n]/\M (sJ0 a b c n sc st aq av ay ds seen (aB bA 0 (aR st.1 n (l.getD j.toNat 0) 6)) (aB bA 0 (t54 (aB bA 0 (aR st.1 n (l.getD j.toNat 0) 6)))) l (l.getD j.toNat 0) j))))else none))else none)
theorem U6(a b c:Int)(n:Nat)(sc:Int)(st:St)(aq av:ak)(ay:List (Int×List Int))(ds:aj)(seen:List ByteArray)(l:aj)(j:Int)(M:S->Prop)(R:ah):b99 a b c n sc st aq av ay ds seen l j M R=ade a b c n sc st aq av ay ds seen l j M R:=by kernel_rfl
def aeA(a b c:Int)(n:Nat)(sc:Int)(st:St)(aq av:ak)(ay:List (Int×List Int))(ds:aj)(seen:List ByteArray)(p q l:aj)(s j:Int)(Q:ag):ai:=some ((aw []/\Q (X.normal) (sJ a b c n sc st aq av ay ds seen p q l s 0 j)))
theorem Sr(a b c:Int)(n:Nat)(sc:Int)(st:St)(aq av:ak)(ay:List (Int×List Int))(ds:aj)(seen:List ByteArray)(p q l:aj)(s j:Int)(Q:ag):z99 a b c n sc st aq av ay ds seen p q l s j Q=aeA a b c n sc st aq av ay ds seen p q l s j Q:=by kernel_rfl
def adU(a b c:Int)(n:Nat)(sc:Int)(st:St)(aq av:ak)(ay:List (Int×List Int))(ds:aj)(seen:List ByteArray)(p q l:aj)(s i j:Int)(Q:ag):ai:=(bif decide (i<4)then((bif !(dR a b c n sc (bX (t54 p) i) seen (st,aq,av,ay,ds)).1 then(some ((aw [0<=i/\i<4,t54 p=t54 p,(54:Nat)=54,i=i,ds=ds,ds.length=ds.length,seen=seen,av=av,ay=ay,st.2.1=st.2.1,aq=aq,ds.length=ds.length,st.1=st.1,64*n=64*n,a=a,b=b,c=c,n=n,sc=sc,st.2.2=st.2.2,st.1.length=64*n,ds≠ [],ds.length<=1000,(t54 p).length=54,0<=i/\i<4,U8 ((iU (t54 p) i).getD 2 0)]/\Q (X.normal) (sJ a b c n sc (dR a b c n sc (bX (t54 p) i) seen (st,aq,av,ay,ds)).2.2.1 (dR a b c n sc (bX (t54 p) i) seen (st,aq,av,ay,ds)).2.2.2.1 (dR a b c n sc (bX (t54 p) i) seen (st,aq,av,ay,ds)).2.2.2.2.1 (dR a b c n sc (bX (t54 p) i) seen (st,aq,av,ay,ds)).2.2.2.2.2.1 (dR a b c n sc (bX (t54 p) i) seen (st,aq,av,ay,ds)).2.2.2.2.2.2 (dR a b c n sc (bX (t54 p) i) seen (st,aq,av,ay,ds)).2.1 p (aB q 0 (uI (t54 q) i)) l s (i64.wrap (i+1)) j))))else(some ((aw [t54 p=t54 p,(54:Nat)=54,i=i,ds=ds,ds.length=ds.length,seen=seen,av=av,ay=ay,st.2.1=st.2.1,aq=aq,ds.length=ds.length,st.1=st.1,64*n=64*n,a=a,b=b,c=c,n=n,sc=sc,st.2.2=st.2.2,st.1.length=64*n,ds≠ [],ds.length<=1000,(t54 p).length=54,0<=i/\i<4,U8 ((iU (t54 p) i).getD 2 0)]/\Q (X.normal) (sJ a b c n sc (dR a b c n sc (bX (t54 p) i) seen (st,aq,av,ay,ds)).2.2.1 (dR a b c n sc (bX (t54 p) i) seen (st,aq,av,ay,ds)).2.2.2.1 (dR a b c n sc (bX (t54 p) i) seen (st,aq,av,ay,ds)).2.2.2.2.1 (dR a b c n sc (bX (t54 p) i) seen (st,aq,av,ay,ds)).2.2.2.2.2.1 (dR a b c n sc (bX (t54 p) i) seen (st,aq,av,ay,ds)).2.2.2.2.2.2 (dR a b c n sc (bX (t54 p) i) seen (st,aq,av,ay,ds)).2.1 p q l s (i64.wrap (i+1)) j))))))else(some ((aw []/\Q (X.exit 2) (sJ a b c n sc st aq av ay ds seen p q l s i j)))))
theorem HP(a b c:Int)(n:Nat)(sc:Int)(st:St)(aq av:ak)(ay:List (Int×List Int))(ds:aj)(seen:List ByteArray)(p q l:aj)(s i j:Int)(Q:ag):r99 a b c n sc st aq av ay ds seen p q l s i j Q=adU a b c n sc st aq av ay ds seen p q l s i j Q:=by kernel_rfl
def adb(a b c:Int)(n:Nat)(sc:Int)(st:St)(aq av:ak)(ay:List (Int×List Int))(ds:aj)(seen:List ByteArray)(p q l:aj)(s i j:Int)(Q:ag):ai:=some ((aw [st.1.length=64*n,64*n=64*n,(t54 q).length=54]/\Q (X.normal) (sU a b c n sc (bF a b c n sc st.2.2 st.1 st.2.1 s 6 (t54 q)).2 aq av ay ds seen l j)))
theorem TF(a b c:Int)(n:Nat)(sc:Int)(st:St)(aq av:ak)(ay:List (Int×List Int))(ds:aj)(seen:List ByteArray)(p q l:aj)(s i j:Int)(Q:ag):w99 a b c n sc st aq av ay ds seen p q l s i j Q=adb a b c n sc st aq av ay ds seen p q l s i j Q:=by kernel_rfl
def adm(a b c:Int)(n:Nat)(sc:Int)(st:St)(aq av:ak)(ay:List (Int×List Int))(ds:aj)(seen:List ByteArray)(l:aj)(j:Int)(Q:ag):ai:=some ((aw []/\Q (X.normal) (sU a b c n sc st aq av ay ds seen l (i64.wrap (j+1)))))
theorem Uh(a b c:Int)(n:Nat)(sc:Int)(st:St)(aq av:ak)(ay:List (Int×List Int))(ds:aj)(seen:List ByteArray)(l:aj)(j:Int)(Q:ag):n99 a b c n sc st aq av ay ds seen l j Q=adm a b c n sc st aq av ay ds seen l j Q:=by kernel_rfl
theorem S0:ba prog 57 (E5 a b c n sc st aq av ay ds) f99.results.toList=some []/\(E5 a b c n sc st aq av ay ds).hp=eK a b c n sc st aq av ay ds 9 []/\(E5 a b c n sc st aq av ay ds).nx=10:=⟨by kernel_rfl,by kernel_rfl,by kernel_rfl⟩
theorem adF:(⟨Mk d,eK a b c n sc st aq av ay ds 8 [],9,[]⟩:S).hp.get 8=some (cj ds)/\(⟨Mk d,eK a b c n sc st aq av ay ds 8 [],9,[]⟩:S).hp.get 3=some (.row 137 false none (.cells [.map 7,.map 4,.aC 8 1 0 ds.length])):=⟨by kernel_rfl,by kernel_rfl⟩
theorem ad2:(sUo a b c n sc st aq av ay ds l j).hp.get 9=some (.map []):=by kernel_rfl
theorem afy:rm 9 (.di []) (sUo a b c n sc st aq av ay ds l j)=sU a b c n sc st aq av ay ds [] l j:=by kernel_rfl
theorem aaB:eval 57 (Wl a b c n sc st aq av ay ds seen l j t).sl (.tmp 20)=some (.one (.c (.bool t))):=by kernel_rfl
def stJ(p l:aj)(s i j:Int)(x:Sl):S:=sJ a b c n sc x.2.2.1 x.2.2.2.1 x.2.2.2.2.1 x.2.2.2.2.2.1 x.2.2.2.2.2.2 x.2.1 p x.1 l s i j
def stU(l:aj)(j:Int)(x:List ByteArray×Wk):S:=sU a b c n sc x.2.1 x.2.2.1 x.2.2.2.1 x.2.2.2.2.1 x.2.2.2.2.2 x.1 l j
end
section
variable{a b c:Int}{n:Nat}{sc:Int}{st:St}{aq av:ak}{ay:List (Int×List Int)}{ds:aj}{p l:aj}{s j d:Int}{w:Wk}
theorem E2(hm:(n:Int)=2+a*(2+b+c))(hp:p.length=54)(hb:Bytes p){s0:S}(bP:s0.nx=9){Q:ag}: ∀(m:Nat) (i:Int) (x:Sl),0<=i->i+m=4->il a b c (j4 n) x.2.2->x.2.2.2.2.2.2≠ []->x.1.length=54->
  Q (.exit 2) (stJ a b c n sc p l s 4 j (o5 a b c n sc p m i x))->TO prog 57 [] [] s0 (.loop Mu) (stJ a b c n sc p l s i j x) Q
 | 0,i,x,h0,hi,hw,hn,hq,hQ=>by
  obtain rfl:i=4:=by simpa using hi
  exact TO.loop (TO.aP lz (k0:=9) bP (.of_eq (HP ..) (.no (by simp) ⟨trivial,hQ⟩)))
 |m+1,i,x,h0,hi,hw,hn,hq,hQ=>by
  push_cast at hi
  have hi4:0<=i/\i<4:=by omega
  have next:=E2 hm hp hb bP m (i+1) (yu a b c n sc p i x) (by omega) (by omega) (Wn yT vS vV hm hw) (lI hn) (by
   show(bif _ then _ else _:aj).length=54
   cases (dR a b c n sc (bX p i) x.2.1 x.2.2).1 with
   |true=>exact hq
   |false=>exact wH hq hi4.2) hQ
  have hu:U8 ((iU p i).getD 2 0):=Bytes.getD (fun x hx=>hb x (List.mem_of_mem_drop (List.mem_of_mem_take hx))) 2
  have hds:=hw.aS;have hl:=hw.r.1;have hw1:i64.wrap (i+1)=i+1:=IntWalk.i64_in _ (by omega)
  obtain⟨q,seen,st,aq,av,ay,ds⟩:=x;simp only at hn hq hds hl;refine TO.loop (TO.aP lz (k0:=9) bP (.of_eq (HP ..) (.yes (by simp;omega) ?_)))
  dsimp only;rw[show t54 p=p from aJ hp,show t54 q=q from aJ hq,hw1]
  cases hr:(dR a b c n sc (bX p i) seen (st,aq,av,ay,ds)).1 with
  |true=>
   have e:yu a b c n sc p i (q,seen,st,aq,av,ay,ds)=(q,(dR a b c n sc (bX p i) seen (st,aq,av,ay,ds)).2):=by
    unfold yu;simp only;rw[hr];rfl
   rw[e]at next
   refine .no rfl ⟨⟨rfl,rfl,rfl,rfl,rfl,rfl,rfl,rfl,rfl,rfl,rfl,rfl,rfl,rfl,rfl,rfl,rfl,rfl,rfl,hl,hn,by omega,hp,hi4,hu,trivial⟩,?_⟩
   exact next
  |false=>
   have e:yu a b c n sc p i (q,seen,st,aq,av,ay,ds)=(uI q i,(dR a b c n sc (bX p i) seen (st,aq,av,ay,ds)).2):=by
    unfold yu;simp only;rw[hr];rfl
   rw[e]at next
   refine .yes rfl ⟨⟨hi4,rfl,rfl,rfl,rfl,rfl,rfl,rfl,rfl,rfl,rfl,rfl,rfl,rfl,rfl,rfl,rfl,rfl,rfl,rfl,hl,hn,by omega,hp,hi4,hu,trivial⟩,?_⟩
   have hwl:=wH hq hi4.2;rw[ij,hwl,show q.drop 54= []from by rw[List.drop_of_length_le (by omega)],List.append_nil]
   exact next
theorem Kq(hm:(n:Int)=2+a*(2+b+c))(hr: ∀t∈l,raw a b c t=true)(hb:l.length<=760){s0:S}(bP:s0.nx=9){Q:ag}: ∀(k j:Nat) (x:List ByteArray×Wk),j+k=l.length->il a b c (j4 n) x.2->x.2.2.2.2.2≠ []->
  (∀y,y=(Ax a b c n sc (l.drop j) x).2->Q (.exit 0) (E5 a b c n sc y.1 y.2.1 y.2.2.1 y.2.2.2.1 y.2.2.2.2))->TO prog 57 [] [] s0 (.loop nv) (stU a b c n sc l j x) Q
 | 0,j,x,hj,hw,hn,hQ=>by
  obtain rfl:j=l.length:=by omega
  refine TO.loop (TO.seq (c:=gL nv) (d:=gR nv) (TO.aP lz (k0:=9) bP (.of_eq (Fv ..) ⟨trivial,?_⟩)));refine TO.seq (c:= .cond (.tmp 20) .skip (.exit 0)) (d:=aG 2 nv) (TO.cond (aaB ..) (fun h=>absurd h (by simp)) (fun _=>TO.aP lz (k0:=9) bP (.of_eq (To ..) ⟨trivial,?_⟩)))
  have e:Ax a b c n sc (l.drop l.length) x=x:=by rw[List.drop_length];rfl
  rw[e]at hQ;exact hQ _ rfl
 |k+1,j,x,hj,hw,hn,hQ=>by
  have hjl:j<l.length:=by omega
  have hd:l.drop j=l.getD j 0::l.drop (j+1):=by
   rw[List.drop_eq_getElem_cons hjl];simp[List.getD,List.getElem?_eq_getElem hjl]
  have hrs:raw a b c (l.getD j 0)=true:=hr _ (by rw[show l.getD j 0=l[j]by simp[List.getD,List.getElem?_eq_getElem hjl]];exact List.getElem_mem hjl)
  have hw1:i64.wrap ((j:Int)+1)=((j+1:Nat):Int):=by rw[IntWalk.i64_in _ (by omega)];simp
  have hl:=hw.r.1;have hy:=hw.r.2;have hp:(aR x.2.1.1 n (l.getD j 0) 6).length=54:=eH hl;have ht:t54 (aR x.2.1.1 n (l.getD j 0) 6)=aR x.2.1.1 n (l.getD j 0) 6:=aJ hp;obtain⟨i1,i2,i3⟩:=Hy (sc:=sc) (p:=aR x.2.1.1 n (l.getD j 0) 6) yT vS vV hm 4 0 (aR x.2.1.1 n (l.getD j 0) 6,x) (by omega) (by omega) hw hp (mo hy)
  have bT:(o5 a b c n sc (aR x.2.1.1 n (l.getD j 0) 6) 4 0 (aR x.2.1.1 n (l.getD j 0) 6,x)).2.2.2.2.2.2≠ []:=lI (lI (lI (lI hn)));have next:=Kq hm hr hb bP k (j+1) (Ey a b c n sc (l.getD j 0) x) (by omega) (Sf yT vS vV hm hrs hw) bT (by rw[hd]at hQ;exact hQ)
  refine TO.loop (TO.seq (c:=gL nv) (d:=gR nv) (TO.aP lz (k0:=9) bP (.of_eq (Fv ..) ⟨trivial,?_⟩)));refine TO.seq (c:= .cond (.tmp 20) .skip (.exit 0)) (d:=aG 2 nv) (TO.cond (aaB ..) (fun _=>TO.aP lz (k0:=9) bP (.of_eq (Ur ..) ⟨trivial,?_⟩)) (fun h=>absurd h (by simp;omega)))
  refine TO.seq (c:= .block 1 tJ) (d:=gR (aG 2 nv)) (TO.block ?_);refine TO.eZ lz (m:=3) (k0:=9) bP (aH:= [0,4,6,7,9,17,18,19]) (ord:= [9,11,12,10]) f99.results.toList (.of_eq (U6 ..) (.aZ (by simp;omega) (.aZ (by simp;omega) ⟨⟨hl,rfl,trivial⟩,?_⟩)))
  simp only[Int.toNat_natCast];rw[ck hp,ht,ck hp];refine TO.seq (c:=gL (aG 3 tJ)) (d:=gR (aG 3 tJ)) (TO.seq (c:=gL (gL (aG 3 tJ))) (d:= .block 2 (.loop Mu)) (TO.aP lz (k0:=9) bP (.of_eq (Sr ..) ⟨trivial,?_⟩)));generalize hz:o5 a b c n sc (aR x.2.1.1 n (l.getD j 0) 6) 4 0 (aR x.2.1.1 n (l.getD j 0) 6,x)=z at i1 i2 i3 bT;have hq':t54 z.1=z.1:=aJ i2;refine TO.block (E2 hm hp (mo hy) bP 4 0 (aR x.2.1.1 n (l.getD j 0) 6,x) (by omega) (by omega) hw hn hp ?_)
  simp only[if_true];rw[hz];refine TO.aP lz (k0:=9) bP (.of_eq (TF ..) ⟨⟨i1.r.1,rfl,by rw[hq'];exact i2,trivial⟩,?_⟩)
  rw[hq'];refine TO.aP lz (k0:=9) bP (.of_eq (Uh ..) ⟨trivial,?_⟩);rw[hw1];have e:Ey a b c n sc (l.getD j 0) x=(z.2.1,(fP a b c n sc z.2.2.1 (l.getD j 0) 6 z.1,z.2.2.2)):=by unfold Ey;rw[hz]
  rw[e]at next
  exact next
theorem OW:f99.body=some RT:=by kernel_rfl
theorem XP(hm:(n:Int)=2+a*(2+b+c))(hw:il a b c (j4 n) w)(hn:w.2.2.2.2≠ []){y:Wk}(hy:y=nM a b c n sc d w):
  cd prog 99 (zf d) 9 (eK a b c n sc w.1 w.2.1 w.2.2.1 w.2.2.2.1 w.2.2.2.2 8 []) 10 (eK a b c n sc y.1 y.2.1 y.2.2.1 y.2.2.2.1 y.2.2.2.2 9 []) (.aF []):=by
 have hr:=hw.bk d;have hb:=hw.bl d;refine TO.c8 (fn:=f99) (c:=RT) func99 OW [] (fq fun i x h=>oo (m:=8) (k:=9) (by omega) (by omega) (fun p hp=>absurd hp List.not_mem_nil) h) (Y7 d) ?_
 obtain⟨st,aq,av,ay,ds⟩:=w;have g:=adF a b c n sc st aq av ay ds d;refine TO.nT (dJ.mv 8 3 (by omega) g.1 rfl g.2 (j:=2) rfl) ?_
 show TO prog 57 [] [] _ RT (acj a b c n sc st aq av ay ds d) _;refine TO.eZ lz (m:=2) (k0:=9) rfl (aH:= [0,4,17,18,19]) (ord:= [10,9]) f99.results.toList (.of_eq (Uy ..) ⟨trivial,?_⟩);refine TO.nT (dJ.aa 9 (.di []) (ad2 ..) rfl rfl fun ρ c o h=>YZ ρ c o h) ?_
 rw[afy];refine TO.block (id:=0) (c:= .loop nv) (Kq (sc:=sc) (l:=gY ay d) hm hr hb rfl (gY ay d).length 0 ([],(st,aq,av,ay,ds)) (by omega) hw hn fun z hz=> ?_)
 simp only[if_true];obtain⟨e1,e2,e3⟩:=S0 a b c n sc z.1 z.2.1 z.2.2.1 z.2.2.2.1 z.2.2.2.2;have:z=y:=by rw[hz,hy];rfl
 subst this;exact⟨by simp,_,e1,rfl,e2,e3⟩
end
end Go.Sx
namespace Go.Sx
open Go.RowKit
variable{P:Program}
def tW(nm j:Nat)(l:aj)(s:S):S:=match s with|⟨sl,hp,nx,_⟩=>match T.set (β:=T ax) depth hp nm none some with
 |some t=>(match T.set (β:=T RV) depth sl j (some (.one (.c (.dI l)))) some with|some sl'=>⟨sl',t,nx,[]⟩|none=>⟨sl,hp,nx,[]⟩)
 |none=>⟨sl,hp,nx,[]⟩
theorem dJ.tW {n:Nat}{s:S}(nm j:Nat){t:TypeId}{o:Option Nat}{l:aj}{k:Nat}(hx:s.hp.get nm=some (.row t false o (.ints .i64 l k)))(hj:s.sl.get j=some (.one (.c (.aC nm 1 0 k))))(hk:k≠0):dJ n s (Sx.tW nm j l s):=by
 obtain⟨sl,hp,nx,lg⟩:=s;unfold Sx.tW;simp only;cases hs1:T.set (β:=T ax) depth hp nm none some with
 |none=>exact dJ.nil
 |some t1=>
 simp only;cases hs2:T.set (β:=T RV) depth sl j (some (.one (.c (.dI l)))) some with
 |none=>exact dJ.nil
 |some sl'=>
 simp only;obtain⟨t1,e,hg⟩:=T.bR _ _ _ _ _ _ hs1;simp only[ae]at e;subst e;obtain⟨sl',e,hgs⟩:=T.bR _ _ _ _ _ _ hs2;simp only[ae]at e;subst e;have hx':hp.get nm=some (.row t false o (.ints .i64 l k)):=hx;have hj':sl.get j=some (.one (.c (.aC nm 1 0 k))):=hj;have lt:cJ ⟨sl,hp,nx,lg⟩->nm<nx:=fun ht=>by
  rcases Nat.lt_or_ge nm nx with h'|h'
  ·exact h'
  ·have:hp.get nm=none:=ht nm h';rw[this]at hx';cases hx'
 refine dJ.step (L1:= [nm]) (fun ht=>⟨Nat.le_refl _,fun i _ hn=> ?_,fun i hn=> ?_,fun i hn=> ?_⟩) (fun ht ρ a w R=> ?_)
 ·show t1.get i=hp.get i;rw[hg,if_neg (by simpa using hn)]
 ·have hn':nx<=i:=hn;have:=lt ht;show t1.get i=none;rw[hg,if_neg (by omega)]
  exact ht i hn'
 ·rw[List.mem_singleton.1 hn];exact lt ht
 ·obtain⟨b,cp,ob,k1,k2,vs,tail,fr,rfl,⟨k3,k4⟩,k5,k6⟩:=R.hp.ok nm _ hx';subst k4
  let ρ1:aM:=⟨ρ.nm,fun b'=>if b'=b then some (l.map (Value.int .i64))else ρ.fz b'⟩
  have hno:ρ.fz b=none:=by
   cases hz:ρ.fz b with
   |none=>rfl
   |some l0=>exact absurd k1 ((R.hp.fz b l0 hz).2 nm _ cp hx' rfl)
  have hsub:Sub ρ ρ1:=⟨fun _ _ h=>h,fun b' l' h=>by
   show(if b'=b then _ else ρ.fz b')=_
   split
   ·rename_i e;subst e;rw[hno]at h;cases h
   ·exact h⟩
  have hl:l≠ []:=fun e=>by subst e;simp at k3;omega
  have hcell: ∀v,CR ρ1 (.aC nm 1 0 k) v->CR ρ1 (.dI l) v:=fun v hv=>by
   obtain⟨b',c',off,e1,e2,e3,e4⟩:=hv;have e1':ρ nm=some (b',c'):=e1;rw[k1]at e1';simp only[ae,af]at e1';obtain⟨rfl,rfl⟩:=e1';refine .inr ⟨hl,b,cp,by show(if b=b then _ else _)=_;rw[if_pos rfl],?_⟩
   rw[e4,k3];rcases e3 with rfl|⟨_,h0⟩
   ·rfl
   ·omega
  have hr:bu ρ1 t1.get w:=by
   refine⟨fun i z hz=> ?_,fun i i' z z' b0 c0 c0' hz hz' hzw e1 e2=> ?_,fun b' l' hb'=>⟨?_,fun i z c0 hz hzw e1=> ?_⟩⟩
   ·rw[hg]at hz;split at hz
    ·cases hz
    ·obtain⟨b0,c0,o0,q1,q2,q3⟩:=R.hp.ok i z hz;exact⟨b0,c0,o0,q1,q2,q3.mono hsub⟩
   ·have q: ∀m z,t1.get m=some z->hp.get m=some z:=fun m z hz=>by
     rw[hg]at hz;split at hz
     ·cases hz
     ·exact hz
    exact R.hp.inj i i' z z' b0 c0 c0' (q _ _ hz) (q _ _ hz') hzw e1 e2
   ·have hb2:(if b'=b then some (l.map (Value.int .i64))else ρ.fz b')=some l':=hb'
    split at hb2
    ·rename_i e;subst e;simp only[ae]at hb2;subst hb2;exact⟨_,_,_,k2,by simp⟩
    ·exact(R.hp.fz b' l' hb2).1
   ·have hb2:(if b'=b then some (l.map (Value.int .i64))else ρ.fz b')=some l':=hb'
    have e1':ρ i=some (b',c0):=e1;have hz0:i≠nm/\hp.get i=some z:=by
     rw[hg]at hz;split at hz
     ·cases hz
     ·rename_i e;exact⟨e,hz⟩
    split at hb2
    ·rename_i e;subst e;exact hz0.1 (R.hp.inj i nm z _ b' c0 cp hz0.2 hx' hzw e1' k1)
    ·exact(R.hp.fz b' l' hb2).2 i z c0 hz0.2 hzw e1'
  have hsl: ∀i,bE ρ1 (slot n sl' i) (a.tmps.getD i undef):=fun i=>by
   have h0:=R.sl i;unfold slot at h0 ⊢;split
   ·rename_i hi;rw[if_pos hi]at h0;rw[hgs];split
    ·rename_i e;subst e;have h0':bE ρ ((sl.get i).getD fc) (a.tmps.getD i undef):=h0;rw[hj']at h0';exact hcell _ (CR.mono hsub h0')
    ·exact h0.mono hsub
   ·rename_i hi;rw[if_neg hi]at h0;exact h0.mono hsub
  refine⟨ρ1,⟨R.sz,R.df,hsl,hr,R.fresh⟩,?_⟩;refine⟨Nat.le_refl _,fun _ _=>rfl,fun i _ hn=>by show t1.get i=hp.get i;rw[hg,if_neg (by simpa using hn)],Nat.le_refl _,fun _ _ _=>rfl,(fun i b0 c0 h1 h2=>by rw[R.fresh i h1]at h2;cases h2),(fun i h1 _=>by rw[List.mem_singleton.1 h1];exact⟨_,hx',rfl⟩),rfl,rfl,rfl,hsub.fz,fun b' l' hb'=> ?_⟩
  have hb2:(if b'=b then some (l.map (Value.int .i64))else ρ.fz b')=some l':=hb'
  split at hb2
  ·rename_i e;subst e;exact .inr (.inr ⟨nm,cp,by simp,lt ht,k1⟩)
  ·exact .inl hb2
def ub(j:Nat)(s:S):S:=match s with|⟨sl,hp,nx,_⟩=>match T.set (β:=T RV) depth sl j (some (.one (.c (.dI [])))) some with|some sl'=>⟨sl',hp,nx,[]⟩|none=>⟨sl,hp,nx,[]⟩
theorem dJ.ub {n:Nat}{s:S}(j:Nat)(hj:s.sl.get j=some (.one (.c .bf))):dJ n s (Sx.ub j s):=by
 obtain⟨sl,hp,nx,lg⟩:=s;unfold Sx.ub;simp only;cases hs2:T.set (β:=T RV) depth sl j (some (.one (.c (.dI [])))) some with
 |none=>exact dJ.nil
 |some sl'=>
 simp only;obtain⟨sl',e,hgs⟩:=T.bR _ _ _ _ _ _ hs2;simp only[ae]at e;subst e;have hj':sl.get j=some (.one (.c .bf)):=hj;refine dJ.step (L1:= []) (fun ht=>⟨Nat.le_refl _,fun _ _ _=>rfl,ht,fun _ h=>absurd h List.not_mem_nil⟩) (fun ht ρ a w R=>⟨ρ,⟨R.sz,R.df,fun i=> ?_,R.hp,R.fresh⟩,dN.refl R.fresh⟩)
 have h0:=R.sl i;unfold slot at h0 ⊢;split
 ·rename_i hi;rw[if_pos hi]at h0;rw[hgs];split
  ·rename_i e;subst e;have h0':bE ρ ((sl.get i).getD fc) (a.tmps.getD i undef):=h0;rw[hj']at h0';exact .inl ⟨rfl,h0'⟩
  ·exact h0
 ·rename_i hi;rw[if_neg hi]at h0;exact h0
theorem TO.Sv {n:Nat}{s0 s:S}{c:Code}{Q Q':ag}(h:TO P n [] [] s0 c s Q')(hs: ∀x s',Q' x s'->∃s1,dJ n s' s1/\Q x s1):TO P n [] [] s0 c s Q:=fun ρ0 w0 hr hf pins hpn a w C=>
 (h ρ0 w0 hr hf pins hpn a w C).mono fun e a' w' ⟨x,s',h1,h2,C'⟩=>by
  obtain⟨s1,hsee,q⟩:=hs x s' h2;obtain⟨ρ,L,ab0,hK,R,st,hp⟩:=C'.it;obtain⟨L1,ab,hs⟩:=hsee.it ab0.top;obtain⟨ρ1,R1,mW⟩:=hs ρ a' w' R;exact⟨x,s1,h1,q,⟨ρ1,L1++L,ab0.trans ab,fun _ h=>absurd h List.not_mem_nil,R1,st.trans mW,hp.step R.hp R.fresh mW⟩⟩
end Go.Sx
