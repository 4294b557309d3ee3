import Derived.Test.YtfceckiklfkjkaaGreatS28
import Derived.Test.YtfceckiklfkjkaaGreatS12
noncomputable section
set_option maxRecDepth 100000
open Go.IntKind(i64 u8 u64 u32 u16)
open Go.Proofs.Tryz
namespace Go.Sx
open Go.Proofs Go.RowKit
abbrev iP(n:Nat):Nat:=64*n
abbrev nk(a b:Int)(c i:Int):Int:=cH (cq a b c i) (aK b c i).fst
abbrev uJ(a b c:Int)(L:aj)(n:Nat)(i:Int):List Int:=aB bA 0 (List.take 54 (List.drop 0 (aB bA 0 (List.take 54 (List.drop 0 (aB bA 0 (aR L n (nk a b c i) 4)))))))
abbrev vj(a b:Int)(c i:Int):Int:=cH (cq a b c i) (aK b c i).snd.fst
abbrev qM(a b c:Int)(L:aj)(n:Nat)(i k:Int)(l s:Int)(d0 d1:Int)(d2 d3:Int)(sg db:Int):List Int:=List.take 54 (List.drop 0 (aB (uJ a b c L n i) 0 (aB (List.take 54 (List.drop 0 (uJ a b c L n i))) (18*(vj a b c i).toNat) (eP {k:=k,l:=l,s:=s,d0:=d0,d1:=d1,d2:=d2,d3:=d3,sg:=sg,db:=db}))))
def Wo(a b c:Int)(L:aj)(n:Nat)(sc al:Int)(lm:ak)(i k:Int)(l s:Int)(d0 d1:Int)(d2 d3:Int)(sg db:Int)(Q:X->Option (List AV)->T ax->Nat->Prop):ai:=(bif (if cq a b c i=true then(0:Int)else 2) !=0 then(some ((aw []/\((true=true)/\Q (X.ret) (some [AV.c (Cell.bool false)]) (aN [(0,ax.row 113 false none (Body.cells [Cell.int i64 a,Cell.int i64 b,Cell.int i64 c,Cell.aC 1 64 0 n,Cell.int u32 sc,Cell.map 2,Cell.int i64 al])),(1,ax.row 95 false (some 64) (Body.ints u8 L (iP n))),(2,ax.aQ none lm)]) (3)))))else((bif !cI L n (nk a b c i) 4 then(some ((aw [L.length=(iP n),(iP n)=(iP n)]/\((true=true)/\Q (X.ret) (some [AV.c (Cell.bool false)]) (aN [(0,ax.row 113 false none (Body.cells [Cell.int i64 a,Cell.int i64 b,Cell.int i64 c,Cell.aC 1 64 0 n,Cell.int u32 sc,Cell.map 2,Cell.int i64 al])),(1,ax.row 95 false (some 64) (Body.ints u8 L (iP n))),(2,ax.aQ none lm)]) (3)))))else(some ((aw [L.length=(iP n),(iP n)=(iP n),(qM a b c L n i k l s d0 d1 d2 d3 sg db).length=54,0<=(vj a b c i)/\(vj a b c i)<=2,L.length=(iP n),(iP n)=(iP n)]/\((true=true)/\Q (X.ret) (some [AV.c (Cell.bool (bF a b c n sc al L lm (nk a b c i) 4 (qM a b c L n i k l s d0 d1 d2 d3 sg db)).fst)]) (aN [(0,ax.row 113 false none (Body.cells [Cell.int i64 a,Cell.int i64 b,Cell.int i64 c,Cell.aC 1 64 0 n,Cell.int u32 sc,Cell.map 2,Cell.int i64 (bF a b c n sc al L lm (nk a b c i) 4 (qM a b c L n i k l s d0 d1 d2 d3 sg db)).snd.snd.snd])),(1,ax.row 95 false (some 64) (Body.ints u8 (bF a b c n sc al L lm (nk a b c i) 4 (qM a b c L n i k l s d0 d1 d2 d3 sg db)).snd.fst (iP n))),(2,ax.aQ none (bF a b c n sc al L lm (nk a b c i) 4 (qM a b c L n i k l s d0 d1 d2 d3 sg db)).snd.snd.fst)]) (3))))))))
theorem TU(a b c:Int)(L:aj)(n:Nat)(sc al:Int)(lm:ak)(i k:Int)(l s:Int)(d0 d1:Int)(d2 d3:Int)(sg db:Int)(Q:X->Option (List AV)->T ax->Nat->Prop):r63 a b c L n sc al lm i k l s d0 d1 d2 d3 sg db Q=Wo a b c L n sc al lm i k l s d0 d1 d2 d3 sg db Q:=by kernel_rfl
def ic(a b c:Int)(L:aj)(n:Nat)(i:Int)(y:Fi.bD):List Int:=aB (aR L n (aK b c i).1 4) (18*(aK b c i).2.1.toNat) (eP y)
def c4(a b c:Int)(n:Nat)(sc:Int)(st:St)(i:Int)(y:Fi.bD):Bool×St:=
 if bG a b c st.1 n i then((bF a b c n sc st.2.2 st.1 st.2.1 (aK b c i).1 4 (ic a b c st.1 n i y)).1,fP a b c n sc st (aK b c i).1 4 (ic a b c st.1 n i y))else(false,st)
theorem jF{a b c:Int}{L:aj}{n:Nat}{i:Int}{y:Fi.bD}(hl:L.length=64*n):(ic a b c L n i y).length=54:=by
 have h:=jK b c i;exact td (eH hl) (oB y) (by omega)
theorem uu:f23.body=some Ci:=by kernel_rfl
theorem Br{a b c:Int}{n:Nat}{sc:Int}{st:St}{i:Int}{y:Fi.bD}(hl:st.1.length=64*n):fC prog 23 (jr i y.k y.l y.s y.d0 y.d1 y.d2 y.d3 y.sg y.db) 3 (ca a b c n sc st) (ca a b c n sc (c4 a b c n sc st i y).2) (.one (.c (.bool (c4 a b c n sc st i y).1))):=by
 refine mE (fn:=f23) (aH:= [6]) adq func23 uu rfl (by rw[ca,bJ];exact gh) (BB ..) (.of_eq (TU a b c st.1 n sc st.2.2 st.2.1 i y.k y.l y.s y.d0 y.d1 y.d2 y.d3 y.sg y.db _) ?_)
 unfold Wo;have same:HM (.one (.c (.bool false))) (ca a b c n sc st) 3 .ret (some [AV.c (Cell.bool false)]) (ca a b c n sc st) 3:=⟨.inr rfl,⟨_,rfl,rfl⟩,rfl,rfl⟩;unfold c4 bG;cases hB:cq a b c i with
 |false=>exact .yes (by simp) ⟨trivial,rfl,same⟩
 |true=>
  refine .no (by simp) ?_
  have x1:nk a b c i=(aK b c i).1:=by show cH (cq a b c i) _=_;rw[hB];rfl
  rw[x1];cases hL:cI st.1 n (aK b c i).1 4 with
  |false=>exact .yes rfl ⟨⟨hl,rfl,trivial⟩,rfl,same⟩
  |true=>
   have hp:(aR st.1 n (aK b c i).1 4).length=54:=eH hl;have x2:uJ a b c st.1 n i=aR st.1 n (aK b c i).1 4:=by
    show aB bA 0 (t54 (aB bA 0 (t54 (aB bA 0 (aR st.1 n (nk a b c i) 4)))))=_;rw[x1,ck hp,show t54 (aR st.1 n (aK b c i).1 4)=_ from aJ hp,ck hp,show t54 (aR st.1 n (aK b c i).1 4)=_ from aJ hp,ck hp]
   have x3:vj a b c i=(aK b c i).2.1:=by show cH (cq a b c i) _=_;rw[hB];rfl
   have hw:(ic a b c st.1 n i y).length=54:=jF hl;have x4:qM a b c st.1 n i y.k y.l y.s y.d0 y.d1 y.d2 y.d3 y.sg y.db=ic a b c st.1 n i y:=by
    show t54 (aB (uJ a b c st.1 n i) 0 (aB (t54 (uJ a b c st.1 n i)) (18*(vj a b c i).toNat) (eP y)))=_;rw[x2,x3,show t54 (aR st.1 n (aK b c i).1 4)=_ from aJ hp]
    show t54 (aB (aR st.1 n (aK b c i).1 4) 0 (ic a b c st.1 n i y))=_;rw[ij,hw,show(aR st.1 n (aK b c i).1 4).drop 54= []from by rw[List.drop_of_length_le (by omega)],List.append_nil]
    exact aJ hw
   refine .no rfl ?_;rw[x3,x4];exact⟨⟨hl,rfl,hw,jK b c i,hl,rfl,trivial⟩,rfl,.inr rfl,⟨_,rfl,rfl⟩,rfl,rfl⟩
def HA:List RV->Int->Int->Int->Nat->Int->St->Option (RV×St×List Prop):=fun xs a b c n sc st=>match xs with
 | [.one (.c (.int .i64 i)),.one (.agg [.int .u8 k,.int .u8 l,.int .u32 s,.int .u16 d0,.int .u16 d1,.int .u16 d2,.int .u16 d3,.int .u16 sg,.int .u16 db])]=>
  some (.one (.c (.bool (c4 a b c n sc st i ⟨k,l,s,d0,d1,d2,d3,sg,db⟩).1)),(c4 a b c n sc st i ⟨k,l,s,d0,d1,d2,d3,sg,db⟩).2,[])
 |_=>none
theorem DN:aI prog 23 (lG HA):=by
 refine Cy ⟨_,func23,rfl⟩ (fun xs a b c n sc st v st' ps h bB hl=> ?_) fun xs a b c n sc st v st' ps h=> ?_
 ·unfold HA at h;split at h<;>try(cases h;done)
  rename_i i k l s d0 d1 d2 d3 sg db;simp only[ae,af]at h;obtain⟨rfl,rfl,rfl⟩:=h;exact Br (y:=⟨k,l,s,d0,d1,d2,d3,sg,db⟩) hl
 ·unfold HA at h;split at h<;>try(cases h;done)
  simp only[ae,af]at h;obtain⟨rfl,rfl,rfl⟩:=h;exact⟨rfl,rfl⟩
def Lr:FuncId->Option bg:=fun f=>match f with| 93=>some (aL nE)| 92=>some (aL xD)| 21=>some (mC w8)| 44=>some sI| 75=>some (aL Fi.Jz)| 23=>some (lG HA)|_=>none
theorem LV:Fit prog (fun f=>(Lr f).map bj):=⟨bM,aV,aI.sum fun f sm h=>by
 unfold Lr at h;split at h
 ·cases h;exact zp.sum ⟨_,func93,rfl⟩
 ·cases h;exact Qq.sum ⟨_,func92,rfl⟩
 ·cases h;exact sO
 ·cases h;exact pE
 ·cases h;exact Fi.YM.sum ⟨_,func75,rfl⟩
 ·cases h;exact DN
 ·cases h⟩
def JN:Code:=gB 26
def qU:List RV:= [.one (.c (.ptr 0 0))]
def Vm:T RV:=match setArgs 45 qU 0 .nil some with|some t=>t|none=> .nil
theorem Y6:setArgs 45 qU 0 .nil some=some Vm:=by kernel_rfl
def Be:Code:=match gR (gR JN)with| .block _ (.loop c)=>c|_=> .skip
section
variable(a b c:Int)(L:aj)(n:Nat)(sc al i N:Int)(lm:ak)
def aa5:T ax:=aN [(0,.row 113 false none (.cells (tj a b c n sc al))),(1,.row 95 false (some 64) (.ints .u8 L (64*n))),(2,.aQ none lm),(3,.row 62 false none (.cells [.int .i64 a,.int .i64 b,.int .i64 c])),(4,.row 62 false none (.cells [.int .i64 a,.int .i64 b,.int .i64 c]))]
def wU:S:=low 45 5 (aE [0,2,12,13] 45 ⟨aN [(0,.one (.c (.ptr 0 0))),(2,.one (.c (.ptr 4 0))),(12,.one (.c (.int .i64 N))),(13,.one (.c (.int .i64 i)))],aa5 a b c L n sc al lm,5,[]⟩)
def adr(M:S->Prop)(R:ah):ai:=dk prog Lr 300 45 2 JN ⟨Vm,jc a b c L n sc al lm,3,[]⟩ aO (fun x s Z=>some (aw Z.ob/\match x with| .normal=>M (aE [0,2,12,13] 45 s)|x=>R x (ba prog 45 s f26.results.toList)))
def aew(Q:ag):ai:=az prog Lr 300 45 Be (wU a b c L n sc al i N lm) aO (fun x s Z=>some (aw Z.ob/\(Nat.ble 5 s.nx=true/\Q x (low 45 5 (aE [0,2,12,13] 45 s)))))
end
end Go.Sx
namespace Go.Sx
open Go.Proofs Go.RowKit
section
variable(a b c:Int)(n:Nat)(sc:Int)
def j9(st:St)(i:Int):St:=if bG a b c st.1 n i=true/\cN a sc (aK b c i).2.2.1=true then(c4 a b c n sc st i (Fi.sh a b c i (gP b c st.1 n i))).2 else st
def lf:Nat->St->Int->St
 | 0,st,_=>st
 |m+1,st,i=>lf m (j9 a b c n sc st i) (i+1)
def uy(st:St):St:=lf a b c n sc (aX a b c).toNat st 1
end
def ZF(a b c:Int)(L:aj)(n:Nat)(sc al i N:Int)(lm:ak)(Q:ag):ai:=bif decide (i<N)then bif bG a b c L n (i64.wrap (i+1))then bif cN a sc (cH (cq a b c (i64.wrap (i+1))) (aK b c (i64.wrap (i+1))).2.2.1)then some (aw [L.length=64*n,64*n=64*n,(aW a b c L n (i64.wrap (i+1))).Ok,L.length=64*n,64*n=64*n]/\(true=true/\Q .normal (wU a b c (c4 a b c n sc (L,lm,al) (i64.wrap (i+1)) (Fi.sh a b c (i64.wrap (i+1)) (aW a b c L n (i64.wrap (i+1))))).2.1 n sc (c4 a b c n sc (L,lm,al) (i64.wrap (i+1)) (Fi.sh a b c (i64.wrap (i+1)) (aW a b c L n (i64.wrap (i+1))))).2.2.2 (i64.wrap (i+1)) N (c4 a b c n sc (L,lm,al) (i64.wrap (i+1)) (Fi.sh a b c (i64.wrap (i+1)) (aW a b c L n (i64.wrap (i+1))))).2.2.1)))else some (aw [L.length=64*n,64*n=64*n]/\(true=true/\Q .normal (wU a b c L n sc al (i64.wrap (i+1)) N lm)))else some (aw [L.length=64*n,64*n=64*n]/\(true=true/\Q .normal (wU a b c L n sc al (i64.wrap (i+1)) N lm)))else some (aw []/\(true=true/\Q (.exit 0) (wU a b c L n sc al i N lm)))
theorem zW(a b c:Int)(L:aj)(n:Nat)(sc al i N:Int)(lm:ak)(Q:ag):aew a b c L n sc al i N lm Q=ZF a b c L n sc al i N lm Q:=by kernel_rfl
def aa2(a b c:Int)(L:aj)(n:Nat)(sc al i N:Int)(lm:ak):S:=aE [0,2,12,13] 45 ⟨aN [(0,.one (.c (.ptr 0 0))),(2,.one (.c (.ptr 4 0))),(12,.one (.c (.int .i64 N))),(13,.one (.c (.int .i64 i)))],aa5 a b c L n sc al lm,5,[]⟩
theorem Ll(a b c:Int)(L:aj)(n:Nat)(sc al:Int)(lm:ak)(M:S->Prop)(R:ah):adr a b c L n sc al lm M R=some (aw []/\M (aa2 a b c L n sc al 0 (aX a b c) lm)):=by kernel_rfl
theorem Rl(a b c:Int)(L:aj)(n:Nat)(sc al i N:Int)(lm:ak):(wU a b c L n sc al i N lm).nx=5:=by kernel_rfl
def e33(a b c:Int)(L:aj)(n:Nat)(sc al i N:Int)(lm:ak):S:=low 45 3 (aE [] 45 (wU a b c L n sc al i N lm))
theorem aak(a b c:Int)(L:aj)(n:Nat)(sc al i N:Int)(lm:ak):(e33 a b c L n sc al i N lm).hp=jc a b c L n sc al lm:=by kernel_rfl
def nQ(L:aj)(n:Nat):Prop:= ∀s:Int,0<=s->s<n->Bytes (bk L s)
section
variable{a b c sc:Int}{m:Nat}{st:St}
theorem Sb(hl:st.1.length=64*m){g k:Int}{p:aj}(h0:0<=g)(hm:g<m)(hk:cr k=true)(hp:p.length=54)(hin:g<2\/cN a sc (pl a b c g).2.1=true):
  (∀s:Int,0<=s->s<m->bk (fP a b c m sc st g k p).1 s=if s=g then xc k p (bk st.1 g)else bk st.1 s)/\(fP a b c m sc st g k p).2.2=st.2.2/\(gV k (bk st.1 g)=true/\t54 (bk st.1 g)=p->fP a b c m sc st g k p=st):=by
 have hs:dP m g=true:=dU.2 ⟨h0,hm⟩;have hok:cI st.1 m g k=gV k (bk st.1 g):=by
  unfold cI;rw[hs,Bool.true_and];show(dh k (bk st.1 g)==0)=_;rw[ri hk]
 have hld:gV k (bk st.1 g)=true->aR st.1 m g k=t54 (bk st.1 g):=fun hi=>by
  unfold aR;rw[hs,if_pos rfl];show cb k (bk st.1 g)=_;unfold cb;rw[if_pos hi]
 by_cases hc:gV k (bk st.1 g)=true/\t54 (bk st.1 g)=p
 ·have e:fP a b c m sc st g k p=st:=by
   show(bF a b c m sc st.2.2 st.1 st.2.1 g k p).2=st;unfold bF;rw[hs,if_pos rfl,hok,hc.1,hld hc.1,hc.2];simp
  rw[e];refine⟨fun s _ _=> ?_,rfl,fun _=>rfl⟩
  split
  ·rename_i hs;subst hs;unfold xc;rw[if_pos (by simp[hc.1,hc.2])]
  ·rfl
 ·have hcb:(cI st.1 m g k &&(aR st.1 m g k==p))=false:=by
   rw[hok];cases hi:gV k (bk st.1 g)with
   |false=>rfl
   |true=>
    rw[hld hi,Bool.true_and];simp;exact fun e=>hc ⟨hi,e⟩
  have hio:(decide (g>=2) && !cN a sc (pl a b c g).2.1)=false:=by
   rcases hin with hin|hin
   ·have:decide (g>=2)=false:=by simp;omega
    rw[this];rfl
   ·rw[hin];simp
  have e:fP a b c m sc st g k p=(aB st.1 (g.toNat*64) (dw k (bk st.1 g) p),bC st.2.1 g 1,st.2.2):=by
   show(bF a b c m sc st.2.2 st.1 st.2.1 g k p).2=_;unfold bF;rw[hs,if_pos rfl,hcb,r8.2 hk,hio]
   rfl
  rw[e];refine⟨fun s s0 s1=> ?_,rfl,fun h=>absurd h hc⟩
  show bL (aB st.1 (g.toNat*64) (dw k (bk st.1 g) p)) (s.toNat*64)=_;by_cases hy:s=g
  ·subst hy;rw[vC (gi hp) (by omega),if_pos rfl]
   unfold xc;rw[if_neg (by simpa using hc)]
  ·rw[nH (gi hp) (by omega) (by omega),if_neg hy]
theorem vv{i:Int}(hB:cq a b c i=true):(pl a b c (aK b c i).1).1=4/\(pl a b c (aK b c i).1).2.1=(aK b c i).2.2.1/\2<=(aK b c i).1/\(aK b c i).1<2+a*(2+b+c)/\0<=(aK b c i).2.2.1/\(aK b c i).2.2.1<a:=by
 unfold cq at hB;simp only[Bool.and_eq_true,decide_eq_true_eq]at hB;obtain⟨hg,h0,h1⟩:=hB;obtain⟨g1,g2,g3,g4,g5,g6⟩:=b8.1 hg;obtain⟨f1,f2,f3,f4,f5,f6,f7,f8⟩:=Vw hg h0 h1;have e:(aK b c i).1=2+(i - 1) /(3*b)*(2+b+c)+(2+(i - 1) %(3*b) / 3):=by unfold aK;simp only;omega
 have hp:=z8 hg f1 f2 (j:=2+(i - 1) %(3*b) / 3) (by omega) (by omega)
 rw[if_neg (by omega),if_neg (by omega),if_pos (by omega)]at hp
 rw[e,hp];refine⟨rfl,rfl,by omega,by omega,f1,f2⟩
end
theorem aaE(a b c:Int)(L:aj)(n:Nat)(sc al i N:Int)(lm:ak):(e33 a b c L n sc al i N lm).nx=3:=by kernel_rfl
theorem aaK(a b c:Int)(L:aj)(n:Nat)(sc al i N:Int)(lm:ak):(aE [] 45 (wU a b c L n sc al i N lm)).nx=5:=by kernel_rfl
theorem X9(a b c:Int)(L:aj)(n:Nat)(sc al i N:Int)(lm:ak):ba prog 45 (e33 a b c L n sc al i N lm) f26.results.toList=some []:=by kernel_rfl
section
variable{a b c sc:Int}{m:Nat}{st:St}
theorem fV{L:aj}{i:Int}(hok:bG a b c L m i=true):cq a b c i=true/\dP m (aK b c i).1=true/\gV 4 (bk L (aK b c i).1)=true/\aR L m (aK b c i).1 4=t54 (bk L (aK b c i).1):=by
 unfold bG at hok;simp only[Bool.and_eq_true]at hok;obtain⟨h1,h2⟩:=hok;have h2':=h2;unfold cI at h2;simp only[Bool.and_eq_true]at h2;obtain⟨h3,h4⟩:=h2;have h5:gV 4 (bk L (aK b c i).1)=true:=by rw[<-ri rfl];exact h4
 refine⟨h1,h3,h5,?_⟩;unfold aR;rw[if_pos h3];show cb 4 (bk L (aK b c i).1)=_;unfold cb;rw[if_pos h5]
theorem pZ{L:aj}{i:Int}:bG a b c L m i=(cq a b c i &&(dP m (aK b c i).1 && gV 4 (bk L (aK b c i).1))):=by
 unfold bG cI;rw[show dh 4 (bL L ((aK b c i).1.toNat*64))=dh 4 (bk L (aK b c i).1)from rfl,ri rfl]
theorem rS{L:aj}{i:Int}(hl:L.length=64*m)(hok:bG a b c L m i=true)(hy:Bytes (bk L (aK b c i).1)):Bytes (eu (aR L m (aK b c i).1 4) (18*(aK b c i).2.1.toNat))/\(eu (aR L m (aK b c i).1 4) (18*(aK b c i).2.1.toNat)).length=18:=by
 have hp:(aR L m (aK b c i).1 4).length=54:=eH hl;have hs:=jK b c i;refine⟨fun x hx=> ?_,by simp only[eu,List.length_take,List.length_drop];omega⟩
 rw[(fV hok).2.2.2]at hx;exact hy x (List.mem_of_mem_drop (List.mem_of_mem_take (List.mem_of_mem_drop (List.mem_of_mem_take hx))))
theorem wM{L:aj}{i:Int}(hl:L.length=64*m)(hok:bG a b c L m i=true)(hy:Bytes (bk L (aK b c i).1)):gW (gP b c L m i):=aco (rS hl hok hy).1
theorem DH{i:Int}{y:Fi.bD}(h:gW y):gW (Fi.sh a b c i y):=by
 have z:gW Fi.bD.zero:=⟨⟨by decide,by decide⟩,⟨by decide,by decide⟩,⟨by decide,by decide⟩,Fi.u0,Fi.u0,Fi.u0,Fi.u0,Fi.u0,Fi.u0⟩
 have h1:gW (if y.aZ then y else Fi.bD.zero):=by split<;>assumption
 exact Fi.SD (Q:=gW) (fun _=>⟨⟨by decide,by decide⟩,⟨by decide,by decide⟩,⟨by decide,by decide⟩,Fi.u0,Fi.u0,Fi.u0,Fi.u0,Fi.u0,Fi.u0⟩)
  (fun _=>⟨h1.k,h1.l,h1.s,Fi.qK h1.d0,Fi.qK h1.d1,Fi.qK h1.d2,Fi.qK h1.d3,Fi.qK h1.sg,Fi.qK h1.db⟩)
theorem jS{p e:aj}{o:Nat}(hp:Bytes p)(he:Bytes e):Bytes (aB p o e):=
 mP (mP (fun x hx=>hp x (List.mem_of_mem_take hx)) he) (fun x hx=>hp x (List.mem_of_mem_drop hx))
theorem XH(hl:st.1.length=64*m)(hm:(m:Int)=2+a*(2+b+c))(hy:nQ st.1 m)(i:Int):(j9 a b c m sc st i).1.length=64*m/\nQ (j9 a b c m sc st i).1 m/\(j9 a b c m sc st i).2.2=st.2.2/\
  (∀s:Int,0<=s->s<m->bk (j9 a b c m sc st i).1 s=if bG a b c st.1 m i=true/\cN a sc (aK b c i).2.2.1=true/\s=(aK b c i).1 then xc 4 (ic a b c st.1 m i (Fi.sh a b c i (gP b c st.1 m i))) (bk st.1 s)else bk st.1 s)/\
  (bG a b c st.1 m i=true->cN a sc (aK b c i).2.2.1=true->Fi.sh a b c i (gP b c st.1 m i)=gP b c st.1 m i->j9 a b c m sc st i=st):=by
 unfold j9;by_cases hc:bG a b c st.1 m i=true/\cN a sc (aK b c i).2.2.1=true
 ·rw[if_pos hc];obtain⟨hok,hin⟩:=hc;obtain⟨hB,hs,hi,hld⟩:=fV hok;obtain⟨p1,p2,p3,p4,_,_⟩:=vv hB;obtain⟨s0,s1⟩:=dU.1 hs;have hY:=hy _ s0 s1;obtain⟨sb,sl⟩:=rS hl hok hY;have hV:=wM hl hok hY;have hw:(ic a b c st.1 m i (Fi.sh a b c i (gP b c st.1 m i))).length=54:=jF hl;have e:(c4 a b c m sc st i (Fi.sh a b c i (gP b c st.1 m i))).2=fP a b c m sc st (aK b c i).1 4 (ic a b c st.1 m i (Fi.sh a b c i (gP b c st.1 m i))):=by unfold c4;rw[if_pos hok]
  rw[e];obtain⟨w1,w2,w3⟩:=Sb (sc:=sc) hl (g:=(aK b c i).1) (k:=4) s0 s1 rfl hw (.inr (by rw[p2];exact hin))
  have hbw:Bytes (ic a b c st.1 m i (Fi.sh a b c i (gP b c st.1 m i))):=by
   unfold ic;rw[hld];refine jS (fun x hx=>hY x (List.mem_of_mem_drop (List.mem_of_mem_take hx))) (vB (DH hV).k (DH hV).l)
  refine⟨fR hl hw,fun s h0 h1=> ?_,w2,fun s h0 h1=> ?_,fun _ _ hsh=>w3 ⟨hi,?_⟩⟩
  ·rw[w1 s h0 h1];split
   ·exact UH rfl hbw hY
   ·exact hy s h0 h1
  ·rw[w1 s h0 h1];by_cases hs:s=(aK b c i).1
   ·rw[if_pos hs,if_pos ⟨hok,hin,hs⟩,hs]
   ·rw[if_neg hs,if_neg (fun h=>hs h.2.2)]
  ·rw[hsh];unfold ic gP;rw[IT sl sb,hld];have hp:(t54 (bk st.1 (aK b c i).1)).length=54:=by rw[<-hld];exact eH hl
   have hs:=jK b c i;exact(Cc (by omega)).symm
 ·rw[if_neg hc];exact⟨hl,hy,rfl,fun s _ _=>by rw[if_neg (fun h=>hc ⟨h.1,h.2.1⟩)],fun h1 h2=>absurd ⟨h1,h2⟩ hc⟩
end
end Go.Sx
namespace Go.Sx
open Go.Proofs Go.RowKit
section
variable{a b c sc:Int}{m:Nat}
theorem Zz(a b c:Int)(L:aj)(n:Nat)(sc al i N:Int)(lm:ak):aa2 a b c L n sc al i N lm=wU a b c L n sc al i N lm:=by kernel_rfl
abbrev Ti(a b c:Int)(m:Nat)(sc:Int)(N i:Int)(st:St):S:=wU a b c st.1 m sc st.2.2 i N st.2.1
theorem QX(hm:(m:Int)=2+a*(2+b+c))(hN:aX a b c<=192): ∀(k:Nat) (i:Int) (st:St),st.1.length=64*m->nQ st.1 m->0<=i->i+k=aX a b c->
  Tr prog 45 (.loop Be) (Ti a b c m sc (aX a b c) i st) (fun x s'=>x= .exit 0/\s'=Ti a b c m sc (aX a b c) (aX a b c) (lf a b c m sc k st (i+1)))
 | 0,i,st,hl,hy,h0,hk=>by
  have:i=aX a b c:=by simpa using hk
  refine Tr.loop (Tr.zG LV (m:=5) (by rw[Rl];exact Nat.le_refl _) (.of_eq (zW a b c st.1 m sc st.2.2 i (aX a b c) st.2.1 _) (.no (by simp;omega) ⟨trivial,rfl,?_⟩)))
  refine⟨rfl,?_⟩;rw[lf, <-this]
 |k+1,i,st,hl,hy,h0,hk=>by
  push_cast at hk
  have hi1:i64.wrap (i+1)=i+1:=IntWalk.i64_in _ (by omega)
  obtain⟨l1,y1,_⟩:=XH (sc:=sc) hl hm hy (i+1);have ih:=QX hm hN k (i+1) (j9 a b c m sc st (i+1)) l1 y1 (by omega) (by omega)
  have tl:64*m=64*m:=rfl;refine Tr.loop (Tr.zG LV (m:=5) (by rw[Rl];exact Nat.le_refl _) (.of_eq (zW a b c st.1 m sc st.2.2 i (aX a b c) st.2.1 _) (.yes (by simp;omega) ?_)))
  rw[hi1];cases hok:bG a b c st.1 m (i+1)with
  |false=>
   refine .no rfl ⟨⟨hl,tl,trivial⟩,rfl,?_⟩;have e:j9 a b c m sc st (i+1)=st:=by unfold j9;rw[if_neg (by rw[hok];simp)]
   rw[e]at ih;show Tr prog 45 (.loop Be) _ _;rw[lf,e];exact ih
  |true=>
   obtain⟨hB,hs,hi,hld⟩:=fV hok;obtain⟨s0,s1⟩:=dU.1 hs;refine .yes rfl ?_;rw[hB];show dG (bif cN a sc (aK b c (i+1)).2.2.1 then _ else _)
   cases hin:cN a sc (aK b c (i+1)).2.2.1 with
   |false=>
    refine .no rfl ⟨⟨hl,tl,trivial⟩,rfl,?_⟩;have e:j9 a b c m sc st (i+1)=st:=by unfold j9;rw[if_neg (by rw[hin];simp)]
    rw[e]at ih;show Tr prog 45 (.loop Be) _ _;rw[lf,e];exact ih
   |true=>
    have hG:aW a b c st.1 m (i+1)=gP b c st.1 m (i+1):=by unfold aW;rw[if_pos hok]
    refine .yes rfl ?_;rw[hG];refine⟨⟨hl,tl,(wM hl hok (hy _ s0 s1)).ok,hl,tl,trivial⟩,rfl,?_⟩;have e:j9 a b c m sc st (i+1)=(c4 a b c m sc st (i+1) (Fi.sh a b c (i+1) (gP b c st.1 m (i+1)))).2:=by unfold j9;rw[if_pos ⟨hok,hin⟩]
    rw[e]at ih;show Tr prog 45 (.loop Be) _ _;rw[lf,e];exact ih
theorem RC:f26.body=some JN:=by kernel_rfl
theorem acB{st:St}(hm:(m:Int)=2+a*(2+b+c))(hg:aY a b c=true)(hl:st.1.length=64*m)(hy:nQ st.1 m){Q:ag}(hq:Q .normal (Ti a b c m sc (aX a b c) (aX a b c) (uy a b c m sc st))):
  Tr prog 45 JN ⟨Vm,jc a b c st.1 m sc st.2.2 st.2.1,3,[]⟩ Q:=by
 have hab:=fX hg;have hN:aX a b c=3*a*b:=by unfold aX;rw[if_pos hg]
 have lp:=QX (sc:=sc) hm (by rw[hN];omega) (aX a b c).toNat 0 st hl hy (by omega) (by omega)
 have h1:=Ll a b c st.1 m sc st.2.2 st.2.1 (fun s=>Tr prog 45 (aG 2 JN) s Q) (fun _ _=>False)
 refine Tr.Jc (m:=2) (aH:= [0,2,12,13]) (res:=f26.results.toList) LV (dG.of_eq h1 ⟨trivial,?_⟩);rw[Zz];refine Tr.block (id:=0) (c:= .loop Be) (lp.mono fun x s' hx=> ?_)
 obtain⟨rfl,rfl⟩:=hx;simp only[if_true];exact hq
theorem Zs{st:St}(hm:(m:Int)=2+a*(2+b+c))(hg:aY a b c=true)(hl:st.1.length=64*m)(hy:nQ st.1 m):fC prog 26 qU 3 (ca a b c m sc st) (ca a b c m sc (uy a b c m sc st)) (.aF []):=by
 refine Tr.mZ (fn:=f26) (c:=JN) func26 RC (by rw[ca,bJ];exact gh) Y6 ?_
 refine Tr.low (n:=45) (m:=3) (Nat.le_refl _) (Tr.aE (n:=45) [] (acB hm hg hl hy ?_));exact⟨by rw[aaK];omega,.inl rfl,_,X9 ..,rfl,aak ..,aaE ..⟩
end
def WE:List RV->Int->Int->Int->Nat->Int->St->Option (RV×St×List Prop):=fun xs a b c n sc st=>match xs with
 | []=>some (.aF [],uy a b c n sc st,[(n:Int)=2+a*(2+b+c),aY a b c=true,nQ st.1 n])
 |_=>none
theorem aeV:aI prog 26 (lG WE):=by
 refine Cy ⟨_,func26,rfl⟩ (fun xs a b c n sc st v st' ps h bB hl=> ?_) fun xs a b c n sc st v st' ps h=> ?_
 ·unfold WE at h;split at h<;>try(cases h;done)
  simp only[ae,af]at h;obtain⟨rfl,rfl,rfl⟩:=h;obtain⟨h1,h2,h3,_⟩:=bB;exact Zs h1 h2 hl h3
 ·unfold WE at h;split at h<;>try(cases h;done)
  simp only[ae,af]at h;obtain⟨rfl,rfl,rfl⟩:=h;exact⟨rfl,rfl⟩
end Go.Sx
namespace Go.Sx
open Go.Proofs Go.RowKit
section
variable{a b c sc:Int}{m:Nat}{st0 st:St}{X:Int}
theorem Zl{i j:Int}(hi:cq a b c i=true)(hj:cq a b c j=true)(h1:(aK b c i).1=(aK b c j).1)(h2:(aK b c i).2.1=(aK b c j).2.1):i=j:=by
 obtain⟨_,p2,_⟩:=vv hi;obtain⟨_,q2,_⟩:=vv hj;have hk:(aK b c i).2.2.1=(aK b c j).2.2.1:=by rw[<-p2, <-q2,h1]
 unfold cq at hi hj;simp only[Bool.and_eq_true,decide_eq_true_eq]at hi hj;obtain⟨hg,i0,i1⟩:=hi;obtain⟨_,j0,j1⟩:=hj;obtain⟨g1,g2,g3,g4,g5,g6⟩:=b8.1 hg;unfold aK at h1 h2 hk;simp only at h1 h2 hk;rw[hk]at h1;have hr:(i - 1) %(3*b)=(j - 1) %(3*b):=by omega
 have e1:=Int.emod_add_mul_ediv (i - 1) (3*b);have e2:=Int.emod_add_mul_ediv (j - 1) (3*b);rw[hk,hr]at e1;omega
theorem ud{L:aj}{i:Int}(hok:bG a b c L m i=true):gP b c L m i=gf (eu (t54 (bk L (aK b c i).1)) (18*(aK b c i).2.1.toNat)):=by
 unfold gP;rw[(fV hok).2.2.2]
theorem acJ{L:aj}{i:Int}(hok:bG a b c L m i=true):1<=i/\i<1+((aX a b c).toNat:Int):=by
 obtain⟨hB,_⟩:=fV hok;unfold cq at hB;simp only[Bool.and_eq_true,decide_eq_true_eq]at hB;obtain⟨hg,h0,h1⟩:=hB;unfold aX;rw[if_pos hg];omega
end
end Go.Sx
namespace Go.Sx
open Go.RowKit
variable{P:Program}
structure ChW(w w':World)(t:Option Nat):Prop where
 size:w.heap.size<=w'.heap.size
 other: ∀k,k<w.heap.size->t≠some k->w'.heap[k]? =w.heap[k]?
 os:w'.os=w.os
 tape:w'.tape=w.tape
 al:w'.output=w.output
theorem Below.chW {w w':World}(b:Below w.heap.size w w')(t:Option Nat):ChW w w' t:=⟨b.size,fun k hk _=>b.block k hk,b.os,b.tape,b.output⟩
theorem bu.aeR {ρ:aM}{hp:Hp}{nx:Nat}{w w':World}{b c:Nat}{y:ax}{o:Obj}{v:RV}{V:Value}(hr:bu ρ hp w)(hf:bW ρ nx)
  (hbw:w.heap.size<=b) (ho:cD (ext ρ nx b c) c y o) (hat:w'.heap[b]? =some o) (hW:ChW w w' Option.none) (hv:bE (ext ρ nx b c) v V):Out ρ hp nx w (.new y) v V (ext ρ nx b c) w':=by
 have old: ∀i b' c',i≠nx->ext ρ nx b c i=some (b',c')->ρ i=some (b',c'):=by
  intro i b' c' h e;simpa[ext,h]using e
 constructor
 ·exact hv
 ·constructor
  ·intro i z hz;by_cases h:i=nx
   ·subst h;simp only[cf.hp,kF,ae]at hz;subst hz;exact⟨b,c,o,by simp[ext],hat,ho⟩
   ·simp only[cf.hp,cu _ _ h]at hz;obtain⟨b',c',o',h1,h2,h3⟩:=hr.ok i z hz;exact⟨b',c',o',by simp[ext,h,h1],(hW.other b' (bS h2) (by simp)).trans h2,h3.mono (fW hf _ _)⟩
  ·intro i j p q b1 c1 c2 hp1 hq1 hpw h1 h2;by_cases hi:i=nx<;>by_cases hj:j=nx
   ·rw[hi,hj]
   ·subst hi;simp only[cf.hp,cu _ _ hj]at hq1;obtain⟨b',c',o',g1,g2,_⟩:=hr.ok j q hq1;rw[old j _ _ hj h2]at g1;simp only[ae,af]at g1;have:=bS g2;simp[ext]at h1;omega
   ·subst hj;simp only[cf.hp,cu _ _ hi]at hp1;obtain⟨b',c',o',g1,g2,_⟩:=hr.ok i p hp1;rw[old i _ _ hi h1]at g1;simp only[ae,af]at g1;have:=bS g2;simp[ext]at h2;omega
   ·simp only[cf.hp,cu _ _ hi]at hp1;simp only[cf.hp,cu _ _ hj]at hq1;exact hr.inj _ _ _ _ _ _ _ hp1 hq1 hpw (old i _ _ hi h1) (old j _ _ hj h2)
  ·refine hr.fz.of (fun _ _ h=>h) (fun b' l h=>hW.other b' (hr.fz b' l h).1.lt (by simp)) fun i z b' c' hz hzw he=> ?_
   by_cases h:i=nx
   ·subst h;simp[ext]at he;right;omega
   ·simp only[cf.hp,cu _ _ h]at hz;exact .inl ⟨i,z,c',hz,hzw,old i _ _ h he⟩
 ·intro i hi;simp only[cf.nx]at hi;have:i≠nx:=by omega
  simp[ext,this,hf i (by omega)]
 ·constructor
  ·simp[cf.nx]
  ·intro i hi;have:i≠nx:=by omega
   simp[ext,this]
  ·intro i hi _;have:i≠nx:=by omega
   simp[cf.hp,cu _ _ this]
  ·exact hW.size
  ·intro i hi _;exact hW.other i hi (by simp)
  ·intro i b' c' hi he;by_cases h:i=nx
   ·subst h;simp[ext]at he;left;omega
   ·have he:=old i _ _ h he;rw[hf i (by omega)]at he;cases he
  ·intro i hi;cases hi
  ·exact hW.os
  ·exact hW.tape
  ·exact hW.al
  ·exact fun _ _ h=>h
  ·exact fun _ _ h=> .inl h
theorem aU.mS {f:FuncId}{args:List RV}{s:S}{v:RV}{u:cf}{hp':T ax}{nx':Nat}{lg':List Nat}(ht:cJ s)(hfn: ∃fn,P.funcs[f]? =some fn/\fn.body.isNone=false)
  (hlog: ∀nm,nm∈u.log->nm<s.nx) (hh: ∀i,hp'.get i=u.hp s.hp.get s.nx i) (hnx:nx'=u.nx s.nx) (hlg:lg'=u.log)
  (h: ∀(ρ:aM) (w:World) (vs:List Value),bu ρ s.hp.get w->bW ρ s.nx->bo ρ args vs->Calls P f vs.toArray w fun e w'=> ∃V ρ',e= .returned V/\Out ρ s.hp.get s.nx w u v V ρ' w'):
  aU P f args s v {s with hp:=hp',nx:=nx',lg:=lg'++s.lg} lg':=by
 subst hnx hlg;have hle:s.nx<=u.nx s.nx:=by cases u<;>simp[cf.nx]
 have he:hp'.get=u.hp s.hp.get s.nx:=funext hh;refine⟨hfn,rfl,⟨rfl,hle,fun nm h1 h2=> ?_,fun nm hn=> ?_,fun nm h=>Nat.lt_of_lt_of_le (hlog nm h) hle⟩,fun ρ w vs hr hf ha=> ?_⟩
 ·show hp'.get nm=s.hp.get nm;rw[hh];cases u with
  |none=>rfl
  |new b=>exact cu _ _ (by omega)
  |wr n b=>exact cu _ _ (by simpa[cf.log]using h2)
  |mv n b=>
   have:nm≠n:=by simpa[cf.log]using h2
   simp only[cf.hp];rw[cu _ _ (show nm≠s.nx by omega),cu _ _ this]
 ·show hp'.get nm=none;rw[hh];have hn':u.nx s.nx<=nm:=hn;cases u with
  |none=>exact ht nm hn'
  |new b=>
   simp only[cf.nx]at hn';simp only[cf.hp];rw[cu _ _ (show nm≠s.nx by omega)];exact ht nm (by omega)
  |wr n b=>
   simp only[cf.nx]at hn';have:=hlog n (by simp[cf.log])
   simp only[cf.hp];rw[cu _ _ (show nm≠n by omega)];exact ht nm hn'
  |mv n b=>
   simp only[cf.nx]at hn';have:=hlog n (by simp[cf.log])
   simp only[cf.hp];rw[cu _ _ (show nm≠s.nx by omega),cu _ _ (show nm≠n by omega)];exact ht nm (by omega)
 ·refine(h ρ w vs hr hf ha).mono fun e w' ⟨V,ρ',h1,o⟩=>⟨V,ρ',h1,o.val,?_,o.fresh,?_⟩
  ·show bu ρ' hp'.get w';rw[he];exact o.rel
  ·show dN ρ s.hp.get s.nx w ρ' hp'.get _ w' _;rw[he];exact o.ff
end Go.Sx
