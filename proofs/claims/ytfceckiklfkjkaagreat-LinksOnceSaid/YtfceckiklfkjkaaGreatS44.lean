import Derived.Test.YtfceckiklfkjkaaGreatS43
import Derived.Test.YtfceckiklfkjkaaGreatS31
import Derived.Test.YtfceckiklfkjkaaGreatS25
noncomputable section
set_option maxRecDepth 100000
open Go.IntKind(i64 u8 u64 u32 u16)
open Go.Proofs.Tryz
namespace Go.Sx
open Go.Proofs Go.RowKit
theorem YS(t0:TypeId)(op:Option Nat)(t1:TypeId)(a b c:Int)(L:aj)(N n:Nat)(sc al:Int)(m1 m2:Nat)(i:Int)(Q:RV->Prop):r22 t0 op t1 a b c L N n sc al m1 m2 i Q=
 (bif (if cq a b c i=true then(0:Int)else 2) !=0 then some (aw []/\Q (.aF [.agg Fi.bD.zero.L,.c (.bool false)]))
  else bif !cI L n (cH (cq a b c i) (aK b c i).1) 4 then some (aw [L.length=N,N=64*n,Bytes L]/\Q (.aF [.agg Fi.bD.zero.L,.c (.bool false)]))
  else some (aw [0<=cH (cq a b c i) (aK b c i).2.1/\cH (cq a b c i) (aK b c i).2.1<=2,Bytes (t54 (aB bA 0 (aR L n (cH (cq a b c i) (aK b c i).1) 4))),L.length=N,N=64*n,Bytes L]/\Q (.aF [.agg (gf (eu (t54 (aB bA 0 (aR L n (cH (cq a b c i) (aK b c i).1) 4))) (18*(cH (cq a b c i) (aK b c i).2.1).toNat))).L,.c (.bool true)]))):=by kernel_rfl
def g22:List RV->Int->Int->Int->List Int->Nat->Int->Option (RV×List Prop):=fun xs a b c L n _=>match xs with
 | [.one (.c (.int .i64 i))]=>some (.aF [.agg (aW a b c L n i).L,.c (.bool (bG a b c L n i))],[Bytes L])
 |_=>none
theorem Cr{L:aj}{n:Nat}{s k:Int}(hy:Bytes L):Bytes (aR L n s k):=by
 unfold aR;have z:Bytes bA:=by unfold Bytes;decide
 split
 ·unfold cb;split
  ·exact fun x hx=>hy x (List.mem_of_mem_drop (List.mem_of_mem_take (List.mem_of_mem_drop (List.mem_of_mem_take hx))))
  ·exact z
 ·exact z
theorem aer:aI prog 22 (lN g22):=by
 refine Ct ⟨_,func22,rfl⟩ (fun xs a b c L n sc v ps h=> ?_) fun xs a b c L n sc v ps h bB hl t0 op t1 al m1 m2=> ?_
 ·unfold g22 at h;split at h<;>try(cases h;done)
  simp only[ae,af]at h;obtain⟨rfl,rfl⟩:=h;exact⟨rfl,rfl⟩
 ·unfold g22 at h;split at h<;>try(cases h;done)
  rename_i i;simp only[ae,af]at h;obtain⟨rfl,rfl⟩:=h;obtain⟨hy,_⟩:=bB;refine k9 aeM gA (.of_eq (YS t0 op t1 a b c L (64*n) n sc al m1 m2 i _) ?_);unfold aW bG;cases hB:cq a b c i with
  |false=>exact .yes (by simp) ⟨trivial,rfl⟩
  |true=>
   refine .no (by simp) ?_
   show dG (bif !cI L n (aK b c i).1 4 then _ else _)
   have hp:(aR L n (aK b c i).1 4).length=54:=eH hl;have e:t54 (aB bA 0 (aR L n (aK b c i).1 4))=aR L n (aK b c i).1 4:=by rw[ck hp];exact aJ hp
   have hb:Bytes (t54 (aB bA 0 (aR L n (aK b c i).1 4))):=by rw[e];exact Cr hy
   cases hL:cI L n (aK b c i).1 4 with
   |false=>exact .yes rfl ⟨⟨hl,rfl,hy,trivial⟩,rfl⟩
   |true=>
    refine .no rfl ⟨⟨jK b c i,hb,hl,rfl,hy,trivial⟩,?_⟩;show RV.aF [.agg (gf (eu (t54 (aB bA 0 (aR L n (aK b c i).1 4))) (18*(aK b c i).2.1.toNat))).L,.c (.bool true)]=_;rw[e]
    rfl
def c24:Code:=gB 24
def aas(i k l s d0 d1 d2 d3 sg db:Int):T RV:=match setArgs 46 (jr i k l s d0 d1 d2 d3 sg db) 0 .nil some with|some t=>t|none=> .nil
theorem XT(i k l s d0 d1 d2 d3 sg db:Int):setArgs 46 (jr i k l s d0 d1 d2 d3 sg db) 0 .nil some=some (aas i k l s d0 d1 d2 d3 sg db):=by kernel_rfl
def r24(a b c:Int)(n:Nat)(sc:Int)(L:aj)(W:List Bool)(al i k l s d0 d1 d2 d3 sg db:Int)(Q:X->Option (List AV)->T ax->Nat->Prop):ai:=
 az prog TA 300 46 c24 ⟨aas i k l s d0 d1 d2 d3 sg db,dZ a b c n sc (L,W,al),3,[]⟩ aO (fun x s Z=>some (aw Z.ob/\(Nat.ble 3 s.nx=true/\Q x (ba prog 46 (low 46 3 (aE [6] 46 s)) f24.results.toList) (low 46 3 (aE [6] 46 s)).hp (low 46 3 (aE [6] 46 s)).nx)))
end Go.Sx
namespace Go.Sx
open Go.Proofs Go.RowKit
abbrev iN(n:Nat):Nat:=64*n
abbrev nt(a b:Int)(c i:Int):Int:=cH (cq a b c i) (aK b c i).fst
abbrev tU(a b:Int)(c i:Int):Int:=cH (cq a b c i) (aK b c i).snd.fst
abbrev qC(a b c:Int)(n:Nat)(L:aj)(i k:Int)(l s:Int)(d0 d1:Int)(d2 d3:Int)(sg db:Int):List Int:=List.take 54 (List.drop 0 (aB bA 0 (aB (List.take 54 (List.drop 0 (aB bA 0 (aR L n (nt a b c i) 4)))) (18*(tU a b c i).toNat) (eP {k:=k,l:=l,s:=s,d0:=d0,d1:=d1,d2:=d2,d3:=d3,sg:=sg,db:=db}))))
def Xc(a b c:Int)(n:Nat)(sc:Int)(L:aj)(W:List Bool)(al i:Int)(k l:Int)(s d0:Int)(d1 d2:Int)(d3 sg db:Int)(Q:X->Option (List AV)->T ax->Nat->Prop):ai:=(bif (if cq a b c i=true then(0:Int)else 2) !=0 then(some ((aw []/\((true=true)/\Q (X.ret) (some [AV.c (Cell.bool false)]) (aN [(0,ax.row 65 false none (Body.cells [Cell.int i64 a,Cell.int i64 b,Cell.int i64 c,Cell.aC 1 64 0 n,Cell.int u32 sc,Cell.sl 2 0 n n,Cell.int i64 al])),(1,ax.row 95 false (some 64) (Body.ints u8 L (iN n))),(2,ax.row 4 false none (Body.aT W n))]) (3)))))else((bif !cI L n (nt a b c i) 4 then(some ((aw [L.length=(iN n),(iN n)=(iN n),Bytes L]/\((true=true)/\Q (X.ret) (some [AV.c (Cell.bool false)]) (aN [(0,ax.row 65 false none (Body.cells [Cell.int i64 a,Cell.int i64 b,Cell.int i64 c,Cell.aC 1 64 0 n,Cell.int u32 sc,Cell.sl 2 0 n n,Cell.int i64 al])),(1,ax.row 95 false (some 64) (Body.ints u8 L (iN n))),(2,ax.row 4 false none (Body.aT W n))]) (3)))))else(some ((aw [L.length=(iN n),(iN n)=(iN n),n=n,n=n,n=n,W.length=n,Bytes L,a<9223372036854775808,cF sc,(qC a b c n L i k l s d0 d1 d2 d3 sg db).length=54,0<=(tU a b c i)/\(tU a b c i)<=2,gW {k:=k,l:=l,s:=s,d0:=d0,d1:=d1,d2:=d2,d3:=d3,sg:=sg,db:=db},L.length=(iN n),(iN n)=(iN n),Bytes L]/\((true=true)/\Q (X.ret) (some [AV.c (Cell.bool (eC a b c n sc (L,W,al) (nt a b c i) 4 (qC a b c n L i k l s d0 d1 d2 d3 sg db)).fst)]) (aN [(0,ax.row 65 false none (Body.cells [Cell.int i64 a,Cell.int i64 b,Cell.int i64 c,Cell.aC 1 64 0 n,Cell.int u32 sc,Cell.sl 2 0 n n,Cell.int i64 (eC a b c n sc (L,W,al) (nt a b c i) 4 (qC a b c n L i k l s d0 d1 d2 d3 sg db)).snd.snd.snd])),(1,ax.row 95 false (some 64) (Body.ints u8 (eC a b c n sc (L,W,al) (nt a b c i) 4 (qC a b c n L i k l s d0 d1 d2 d3 sg db)).snd.fst (iN n))),(2,ax.row 4 false none (Body.aT (eC a b c n sc (L,W,al) (nt a b c i) 4 (qC a b c n L i k l s d0 d1 d2 d3 sg db)).snd.snd.fst n))]) (3))))))))
theorem U2(a b c:Int)(n:Nat)(sc:Int)(L:aj)(W:List Bool)(al i:Int)(k l:Int)(s d0:Int)(d1 d2:Int)(d3 sg db:Int)(Q:X->Option (List AV)->T ax->Nat->Prop):r24 a b c n sc L W al i k l s d0 d1 d2 d3 sg db Q=Xc a b c n sc L W al i k l s d0 d1 d2 d3 sg db Q:=by kernel_rfl
def kJ(a b c:Int)(n:Nat)(sc:Int)(st:dA)(i:Int)(y:Fi.bD):Bool×dA:=
 if bG a b c st.1 n i then eC a b c n sc st (aK b c i).1 4 (ic a b c st.1 n i y)else(false,st)
theorem PI:f24.body=some c24:=by kernel_rfl
theorem Yn{a b c:Int}{n:Nat}{sc:Int}{L:aj}{W:List Bool}{al i:Int}{y:Fi.bD}(hl:L.length=64*n)(hW:W.length=n)(hy:Bytes L)(ha:a<9223372036854775808)(hsc:cF sc)(hI:gW y):
  fC prog 24 (jr i y.k y.l y.s y.d0 y.d1 y.d2 y.d3 y.sg y.db) 3 (dZ a b c n sc (L,W,al)) (dZ a b c n sc (kJ a b c n sc (L,W,al) i y).2) (.one (.c (.bool (kJ a b c n sc (L,W,al) i y).1))):=by
 refine mE (fn:=f24) (aH:= [6]) ac5 func24 PI rfl (by rw[fA];exact gh) (XT ..) (.of_eq (U2 a b c n sc L W al i y.k y.l y.s y.d0 y.d1 y.d2 y.d3 y.sg y.db _) ?_)
 unfold Xc;have same:HM (.one (.c (.bool false))) (dZ a b c n sc (L,W,al)) 3 .ret (some [AV.c (Cell.bool false)]) (dZ a b c n sc (L,W,al)) 3:=⟨.inr rfl,⟨_,rfl,rfl⟩,rfl,rfl⟩;unfold kJ bG;cases hB:cq a b c i with
 |false=>exact .yes (by simp) ⟨trivial,rfl,same⟩
 |true=>
  refine .no (by simp) ?_
  have x1:nt a b c i=(aK b c i).1:=by show cH (cq a b c i) _=_;rw[hB];rfl
  rw[x1];show dG (bif !cI L n (aK b c i).1 4 then _ else _)
  cases hL:cI L n (aK b c i).1 4 with
  |false=>exact .yes rfl ⟨⟨hl,rfl,hy,trivial⟩,rfl,same⟩
  |true=>
   have hp:(aR L n (aK b c i).1 4).length=54:=eH hl;have e:t54 (aB bA 0 (aR L n (aK b c i).1 4))=aR L n (aK b c i).1 4:=by rw[ck hp];exact aJ hp
   have x2:tU a b c i=(aK b c i).2.1:=by show cH (cq a b c i) _=_;rw[hB];rfl
   have hw:(ic a b c L n i y).length=54:=jF hl;have x3:qC a b c n L i y.k y.l y.s y.d0 y.d1 y.d2 y.d3 y.sg y.db=ic a b c L n i y:=by
    show t54 (aB bA 0 (aB (t54 (aB bA 0 (aR L n (nt a b c i) 4))) (18*(tU a b c i).toNat) (eP y)))=_;rw[x1,x2,e];show t54 (aB bA 0 (ic a b c L n i y))=_;rw[ck hw];exact aJ hw
   refine .no rfl ?_;rw[x2,x3];exact⟨⟨hl,rfl,rfl,rfl,rfl,hW,hy,ha,hsc,hw,jK b c i,hI,hl,rfl,hy,trivial⟩,rfl,.inr rfl,⟨_,rfl,rfl⟩,rfl,rfl⟩
def g24:List RV->Int->Int->Int->Nat->Int->dA->Option (RV×dA×List Prop):=fun xs a b c n sc st=>match xs with
 | [.one (.c (.int .i64 i)),.one (.agg [.int .u8 k,.int .u8 l,.int .u32 s,.int .u16 d0,.int .u16 d1,.int .u16 d2,.int .u16 d3,.int .u16 sg,.int .u16 db])]=>
  some (.one (.c (.bool (kJ a b c n sc st i ⟨k,l,s,d0,d1,d2,d3,sg,db⟩).1)),(kJ a b c n sc st i ⟨k,l,s,d0,d1,d2,d3,sg,db⟩).2,[Bytes st.1,a<9223372036854775808,cF sc,gW ⟨k,l,s,d0,d1,d2,d3,sg,db⟩])
 |_=>none
theorem ael:aI prog 24 (lA g24):=by
 refine mV ⟨_,func24,rfl⟩ (fun xs a b c n sc st v st' ps h bB hl hW=> ?_) fun xs a b c n sc st v st' ps h=> ?_
 ·unfold g24 at h;split at h<;>try(cases h;done)
  rename_i i k l s d0 d1 d2 d3 sg db;simp only[ae,af]at h;obtain⟨rfl,rfl,rfl⟩:=h;obtain⟨h1,h2,h3,h4,_⟩:=bB;exact Yn (y:=⟨k,l,s,d0,d1,d2,d3,sg,db⟩) hl hW h1 h2 h3 h4
 ·unfold g24 at h;split at h<;>try(cases h;done)
  simp only[ae,af]at h;obtain⟨rfl,rfl,rfl⟩:=h;exact⟨rfl,rfl⟩
def KF:FuncId->Option bg:=fun f=>match f with| 52=>some (aL nE)| 51=>some (aL xD)| 22=>some (lN g22)| 83=>some yZ| 94=>some (aL Fi.Jz)| 24=>some (lA g24)|_=>none
theorem MU:Fit prog (fun f=>(KF f).map bj):=⟨bM,aV,aI.sum fun f sm h=>by
 unfold KF at h;split at h
 ·cases h;exact Ah.sum ⟨_,func52,rfl⟩
 ·cases h;exact aaW.sum ⟨_,func51,rfl⟩
 ·cases h;exact aer
 ·cases h;exact tF
 ·cases h;exact Fi.Tk.sum ⟨_,func94,rfl⟩
 ·cases h;exact ael
 ·cases h⟩
def Ot:Code:=gB 27
def acx:T RV:=match setArgs 48 qU 0 .nil some with|some t=>t|none=> .nil
theorem Y9:setArgs 48 qU 0 .nil some=some acx:=by kernel_rfl
def K3:Code:=match gR Ot with| .block _ (.loop c)=>c|_=> .skip
section
variable(a b c:Int)(n:Nat)(sc:Int)(L:aj)(W:List Bool)(al i:Int)
def qE:S:=low 48 3 (aE [0,2] 48 ⟨aN [(0,.one (.c (.ptr 0 0))),(2,.one (.c (.int .i64 i)))],dZ a b c n sc (L,W,al),3,[]⟩)
def adp(M:S->Prop)(R:ah):ai:=dk prog KF 300 48 1 Ot ⟨acx,dZ a b c n sc (L,W,al),3,[]⟩ aO (fun x s Z=>some (aw Z.ob/\match x with| .normal=>M (aE [0,2] 48 s)|x=>R x (ba prog 48 s f27.results.toList)))
def ad6(Q:ag):ai:=az prog KF 300 48 K3 (qE a b c n sc L W al i) aO (fun x s Z=>some (aw Z.ob/\(Nat.ble 3 s.nx=true/\Q x (low 48 3 (aE [0,2] 48 s)))))
end
end Go.Sx
namespace Go.Sx
open Go.Proofs Go.RowKit
def YQ(a b c:Int)(n:Nat)(sc:Int)(L:aj)(W:List Bool)(al i:Int)(Q:ag):ai:=bif decide (i<=aX a b c)then bif bG a b c L n i then bif cN a sc (cH (cq a b c i) (aK b c i).2.2.1)then some (aw [L.length=64*n,64*n=64*n,n=n,n=n,n=n,W.length=n,Bytes L,a<9223372036854775808,cF sc,gW (Fi.sh a b c i (aW a b c L n i)),(aW a b c L n i).Ok,L.length=64*n,64*n=64*n,n=n,n=n,n=n,W.length=n,a<9223372036854775808,cF sc,L.length=64*n,64*n=64*n,Bytes L]/\(true=true/\Q .normal (qE a b c n sc (kJ a b c n sc (L,W,al) i (Fi.sh a b c i (aW a b c L n i))).2.1 (kJ a b c n sc (L,W,al) i (Fi.sh a b c i (aW a b c L n i))).2.2.1 (kJ a b c n sc (L,W,al) i (Fi.sh a b c i (aW a b c L n i))).2.2.2 (i64.wrap (i+1)))))else some (aw [L.length=64*n,64*n=64*n,n=n,n=n,n=n,W.length=n,a<9223372036854775808,cF sc,L.length=64*n,64*n=64*n,Bytes L]/\(true=true/\Q .normal (qE a b c n sc L W al (i64.wrap (i+1)))))else some (aw [L.length=64*n,64*n=64*n,Bytes L]/\(true=true/\Q .normal (qE a b c n sc L W al (i64.wrap (i+1)))))else some (aw []/\(true=true/\Q (.exit 0) (qE a b c n sc L W al i)))
theorem zQ(a b c:Int)(n:Nat)(sc:Int)(L:aj)(W:List Bool)(al i:Int)(Q:ag):ad6 a b c n sc L W al i Q=YQ a b c n sc L W al i Q:=by kernel_rfl
theorem Lu(a b c:Int)(n:Nat)(sc:Int)(L:aj)(W:List Bool)(al:Int)(M:S->Prop)(R:ah):adp a b c n sc L W al M R=some (aw []/\M (qE a b c n sc L W al 1)):=by kernel_rfl
theorem Oh(a b c:Int)(n:Nat)(sc:Int)(L:aj)(W:List Bool)(al i:Int):(qE a b c n sc L W al i).nx=3:=by kernel_rfl
theorem XZ(a b c:Int)(n:Nat)(sc:Int)(L:aj)(W:List Bool)(al i:Int):ba prog 48 (qE a b c n sc L W al i) f27.results.toList=some []/\(qE a b c n sc L W al i).hp=dZ a b c n sc (L,W,al)/\(qE a b c n sc L W al i).nx=3:=⟨by kernel_rfl,by kernel_rfl,by kernel_rfl⟩
section
variable(a b c:Int)(n:Nat)(sc:Int)
def rY(st:dA)(i:Int):dA:=if bG a b c st.1 n i=true/\cN a sc (aK b c i).2.2.1=true then(kJ a b c n sc st i (Fi.sh a b c i (gP b c st.1 n i))).2 else st
def sV:Nat->dA->Int->dA
 | 0,st,_=>st
 |m+1,st,i=>sV m (rY a b c n sc st i) (i+1)
def nZ(st:dA):dA:=sV a b c n sc (aX a b c).toNat st 1
end
section
variable{a b c:Int}{n:Nat}{sc:Int}
theorem Sd{L:aj}{i:Int}{y:Fi.bD}(hy:Bytes L)(hI:gW y):Bytes (ic a b c L n i y):=jS (Cr hy) (vB hI.k hI.l)
theorem dS.w24 {st:dA}{i:Int}{y:Fi.bD}(h:dS n st)(hI:gW y):dS n (kJ a b c n sc st i y).2:=by
 unfold kJ;split
 ·exact h.wr (jF h.len) (Sd h.byt hI)
 ·exact h
theorem Hs{L:aj}{i:Int}(hl:L.length=64*n)(hok:bG a b c L n i=true)(hy:Bytes L):gW (gP b c L n i):=
 wM hl hok (fun x hx=>hy x (by
  have:bk L (aK b c i).1=bL L ((aK b c i).1.toNat*64):=rfl;rw[this]at hx;exact List.mem_of_mem_drop (List.mem_of_mem_take hx)))
theorem dS.WB {st:dA}(h:dS n st)(i:Int):dS n (rY a b c n sc st i):=by
 unfold rY;split
 ·rename_i hc;exact h.w24 (DH (Hs h.len hc.1 h.byt))
 ·exact h
theorem wh:aX a b c<=192:=by
 unfold aX;split
 ·rename_i hg;have:=fX hg;omega
 ·omega
theorem YH:0<=aX a b c:=by
 unfold aX;split
 ·rename_i hg;have:=fX hg;omega
 ·omega
theorem Km(ha:a<9223372036854775808)(hsc:cF sc){Q:ag}: ∀(m:Nat) (i:Int) (st:dA),1<=i->i+m=aX a b c+1->dS n st->
  Q (.exit 0) (qE a b c n sc (sV a b c n sc m st i).1 (sV a b c n sc m st i).2.1 (sV a b c n sc m st i).2.2 (aX a b c+1))->Tr prog 48 (.loop K3) (qE a b c n sc st.1 st.2.1 st.2.2 i) Q
 | 0,i,(L,W,al),h0,hi,hk,hq=>by
  obtain rfl:i=aX a b c+1:=by simpa using hi
  exact Tr.loop (Tr.zG MU (m:=3) (by rw[Oh];exact Nat.le_refl _) (.of_eq (zQ ..) (.no (by simp;omega) ⟨trivial,rfl,hq⟩)))
 |m+1,i,(L,W,al),h0,hi,hk,hq=>by
  push_cast at hi
  have hN:=wh (a:=a) (b:=b) (c:=c);have hw:i64.wrap (i+1)=i+1:=IntWalk.i64_in _ (by omega)
  have hl:=hk.len;have hW:=hk.wro;have hy:=hk.byt;have next: ∀st':dA,rY a b c n sc (L,W,al) i=st'->Tr prog 48 (.loop K3) (qE a b c n sc st'.1 st'.2.1 st'.2.2 (i+1)) Q:=fun st' e=>by
   subst e;exact Km ha hsc m (i+1) _ (by omega) (by omega) (hk.WB i) hq
  refine Tr.loop (Tr.zG MU (m:=3) (by rw[Oh];exact Nat.le_refl _) (.of_eq (zQ ..) (.yes (by simp;omega) ?_)))
  rw[hw];cases hok:bG a b c L n i with
  |false=>
   refine .no rfl ⟨⟨hl,rfl,hy,trivial⟩,rfl,next (L,W,al) ?_⟩
   unfold rY;rw[if_neg (by simp[hok])]
  |true=>
   have hB:=(fV hok).1;refine .yes rfl ?_;rw[hB];show dG (bif cN a sc (aK b c i).2.2.1 then _ else _)
   cases hin:cN a sc (aK b c i).2.2.1 with
   |false=>
    refine .no rfl ⟨⟨hl,rfl,rfl,rfl,rfl,hW,ha,hsc,hl,rfl,hy,trivial⟩,rfl,next (L,W,al) ?_⟩
    unfold rY;rw[if_neg (by simp[hin])]
   |true=>
    have hG:aW a b c L n i=gP b c L n i:=by unfold aW;rw[if_pos hok]
    have hV:=Hs hl hok hy;refine .yes rfl ?_;rw[hG];refine⟨⟨hl,rfl,rfl,rfl,rfl,hW,hy,ha,hsc,DH hV,hV.ok,hl,rfl,rfl,rfl,rfl,hW,ha,hsc,hl,rfl,hy,trivial⟩,rfl,next (kJ a b c n sc (L,W,al) i (Fi.sh a b c i (gP b c L n i))).2 ?_⟩
    unfold rY;rw[if_pos ⟨hok,hin⟩]
theorem dS.lf: ∀(m:Nat) (st:dA) (i:Int),dS n st->dS n (sV a b c n sc m st i)
 | 0,_,_,h=>h
 |m+1,_,i,h=>dS.lf m _ (i+1) (h.WB i)
theorem O4:f27.body=some Ot:=by kernel_rfl
theorem Ya{st:dA}(ha:a<9223372036854775808)(hsc:cF sc)(hk:dS n st):fC prog 27 qU 3 (dZ a b c n sc st) (dZ a b c n sc (nZ a b c n sc st)) (.aF []):=by
 obtain⟨L,W,al⟩:=st;refine Tr.mZ (fn:=f27) (c:=Ot) func27 O4 (by rw[fA];exact gh) Y9 ?_
 have h1:=Lu a b c n sc L W al (fun s=>Tr prog 48 (aG 1 Ot) s (fun x s1=>(x= .normal\/x= .ret)/\∃l,ba prog 48 s1 f27.results.toList=some l/\(c6 l= .aF []/\s1.hp=dZ a b c n sc (nZ a b c n sc (L,W,al))/\s1.nx=3))) (fun _ _=>False)
 refine Tr.Jc (m:=1) (aH:= [0,2]) (res:=f27.results.toList) MU (dG.of_eq h1 ⟨trivial,?_⟩);refine Tr.block (id:=0) (c:= .loop K3) (Km ha hsc (aX a b c).toNat 1 (L,W,al) (by omega) (by have:=YH (a:=a) (b:=b) (c:=c);omega) hk ?_)
 obtain⟨e1,e2,e3⟩:=XZ a b c n sc (nZ a b c n sc (L,W,al)).1 (nZ a b c n sc (L,W,al)).2.1 (nZ a b c n sc (L,W,al)).2.2 (aX a b c+1);exact⟨.inl rfl,_,e1,rfl,e2,e3⟩
end
def VZ:List RV->Int->Int->Int->Nat->Int->dA->Option (RV×dA×List Prop):=fun xs a b c n sc st=>match xs with
 | []=>some (.aF [],nZ a b c n sc st,[Bytes st.1,a<9223372036854775808,cF sc])
 |_=>none
theorem adf:aI prog 27 (lA VZ):=by
 refine mV ⟨_,func27,rfl⟩ (fun xs a b c n sc st v st' ps h bB hl hW=> ?_) fun xs a b c n sc st v st' ps h=> ?_
 ·unfold VZ at h;split at h<;>try(cases h;done)
  simp only[ae,af]at h;obtain⟨rfl,rfl,rfl⟩:=h;obtain⟨h1,h2,h3,_⟩:=bB;exact Ya h2 h3 ⟨hl,hW,h1⟩
 ·unfold VZ at h;split at h<;>try(cases h;done)
  simp only[ae,af]at h;obtain⟨rfl,rfl,rfl⟩:=h;exact⟨rfl,rfl⟩
end Go.Sx
namespace Go.Sx
open Go.Proofs Go.RowKit
def OF:Code:=gB 15
def SC(cl:Cell):T RV:=match setArgs 10 [.one (.c cl)] 0 .nil some with|some t=>t|none=> .nil
theorem JS(cl:Cell):setArgs 10 [.one (.c cl)] 0 .nil some=some (SC cl):=by kernel_rfl
def afF(off n cap:Nat)(L:aj)(Q:ag):ai:=az prog (fun _=>none) 300 10 OF ⟨SC (.sl 0 off n cap),aN [(0,.dK off .u8 L)],1,[]⟩ aO (Fb 1 [] [] [2] 10 [2] Q)
def ae4(op:Option Nat)(n N:Nat)(L:aj)(Q:ag):ai:=az prog (fun _=>none) 300 10 OF ⟨SC (.aC 0 64 0 n),aN [(0,.row 95 true op (.ints .u8 L N))],1,[]⟩ aO (Fb 1 [] [] [2] 10 [2] Q)
def c44:Code:=gB 74
def aat(cl:Cell):T RV:=match setArgs 8 [.one (.c cl)] 0 .nil some with|some t=>t|none=> .nil
theorem YC(cl:Cell):setArgs 8 [.one (.c cl)] 0 .nil some=some (aat cl):=by kernel_rfl
def q44(op:Option Nat)(n N:Nat)(L:aj)(Q:ag):ai:=az prog (fun _=>none) 300 8 c44 ⟨aat (.aC 0 64 0 n),aN [(0,.row 95 true op (.ints .u8 L N))],1,[]⟩ aO (Fb 1 [] [] [2] 8 [2] Q)
end Go.Sx
namespace Go.Sx
open Go.Proofs Go.RowKit
abbrev qQ(n:Nat):Int:=if 140<(↑n:Int)then 140 else(↑n:Int)
abbrev wk(off cap:Nat):Nat:=if cap=0 then off else off+0
abbrev vY(off cap:Nat):Nat:=(wk off cap) - off
abbrev ou(n:Nat):Nat:=(qQ n).toNat - 0
abbrev rb(n:Nat):Nat:=(ou n)*64
abbrev I3(off n cap:Nat):Nat:=(vY off cap)+(rb n)
abbrev qH(n:Nat):Nat:=0+(ou n)
abbrev JC(n:Nat):Bool:=fits prog.types[95] (qH n)
def Pd(off n cap:Nat)(L:aj)(Q:ag):ai:=(bif decide (0<=(qQ n)/\(qQ n)<=(↑cap:Int))then((bif decide (off<=(wk off cap)/\(I3 off n cap)<=L.length)then((bif (ou n).beq 0 then(none)else((bif decide (0<(qH n)/\(JC n)=true)then(some ((aw []/\((true=true)/\Q (X.ret) {sl:=(((T.nil.node (some RV.any) T.nil).node (some RV.any) T.nil).node (some RV.any) ((T.nil.node (some RV.any) T.nil).node (some RV.any) T.nil)).node (some RV.any) (((T.nil.node (some RV.any) T.nil).node (some RV.any) T.nil).node (some (RV.one (AV.c (Cell.aC 1 64 0 (qH n))))) (T.nil.node (some RV.any) T.nil)),hp:=(T.nil.node (some (ax.row 95 false (some 64) (Body.ints u8 (List.take 0 (List.drop 0 (cx eN 0))++List.take (rb n) (List.drop (vY off cap) L)) (0+(rb n))))) T.nil).node (some (ax.dK off u8 L)) T.nil,nx:=2,lg:= []}))))else none))))else none))else none)
theorem OB(off n cap:Nat)(L:aj)(Q:ag):afF off n cap L Q=Pd off n cap L Q:=by kernel_rfl
abbrev rB(n:Nat):Int:=if 140<(↑n:Int)then 140 else(↑n:Int)
abbrev lU(n:Nat):Nat:=(rB n).toNat - 0
abbrev wC(n:Nat):Nat:=(lU n)*64
abbrev BV(n:Nat):Nat:=0+(wC n)
abbrev qO(n:Nat):Nat:=0+(lU n)
abbrev Kk(n:Nat):Bool:=fits prog.types[95] (qO n)
def OM(op:Option Nat)(n N:Nat)(L:aj)(Q:ag):ai:=(bif decide (0<=(rB n)/\(rB n)<=(↑n:Int))then((bif decide ((lU n)≠0)then((bif decide ((BV n)<=N)then((bif (lU n).beq 0 then(none)else((bif decide (0<(qO n)/\(Kk n)=true)then(some ((aw []/\((true=true)/\Q (X.ret) {sl:=(((T.nil.node (some RV.any) T.nil).node (some RV.any) T.nil).node (some RV.any) ((T.nil.node (some RV.any) T.nil).node (some RV.any) T.nil)).node (some RV.any) (((T.nil.node (some RV.any) T.nil).node (some RV.any) T.nil).node (some (RV.one (AV.c (Cell.aC 1 64 0 (qO n))))) (T.nil.node (some RV.any) T.nil)),hp:=(T.nil.node (some (ax.row 95 false (some 64) (Body.ints u8 (List.take 0 (List.drop 0 (cx eN 0))++List.take (wC n) (List.drop 0 L)) (BV n)))) T.nil).node (some (ax.row 95 true op (Body.ints u8 L N))) T.nil,nx:=2,lg:= []}))))else none))))else none))else none))else none)
theorem Pb(op:Option Nat)(n N:Nat)(L:aj)(Q:ag):ae4 op n N L Q=OM op n N L Q:=by kernel_rfl
abbrev An(n:Nat):Nat:=n*64
abbrev Fo(n:Nat):Nat:=0+(An n)
abbrev ux(n:Nat):Nat:=0+n
abbrev OH(n:Nat):Bool:=fits prog.types[95] (ux n)
def Ws(op:Option Nat)(n N:Nat)(L:aj)(Q:ag):ai:=(bif decide (n≠0)then((bif decide ((Fo n)<=N)then((bif n.beq 0 then(none)else((bif decide (0<(ux n)/\(OH n)=true)then(some ((aw []/\((true=true)/\Q (X.ret) {sl:=(((T.nil.node (some RV.any) T.nil).node (some RV.any) T.nil).node (some RV.any) (T.nil.node (some RV.any) T.nil)).node (some RV.any) ((T.nil.node (some RV.any) T.nil).node (some (RV.one (AV.c (Cell.aC 1 64 0 (ux n))))) (T.nil.node (some RV.any) T.nil)),hp:=(T.nil.node (some (ax.row 95 false (some 64) (Body.ints u8 (List.take 0 (List.drop 0 (cx eN 0))++List.take (An n) (List.drop 0 L)) (Fo n)))) T.nil).node (some (ax.row 95 true op (Body.ints u8 L N))) T.nil,nx:=2,lg:= []}))))else none))))else none))else none)
theorem U1(op:Option Nat)(n N:Nat)(L:aj)(Q:ag):q44 op n N L Q=Ws op n N L Q:=by kernel_rfl
theorem Cl:f15.body=some OF:=by kernel_rfl
theorem PZ:f74.body=some c44:=by kernel_rfl
def aS(n:Nat):Nat:=min n 140
theorem mU(n:Nat):aS n<=140/\aS n<=n:=by unfold aS;omega
theorem oN{n:Nat}(h:n≠0):aS n≠0:=by unfold aS;omega
theorem Za{n:Nat}(h:n<=140):aS n=n:=by unfold aS;omega
theorem SU(x:ax):cJ ⟨.nil,aN [(0,x)],1,[]⟩:=fun i hi=>by
 have hi':1<=i:=hi;show(aN [(0,x)]:T ax).get i=none;cases h:(aN [(0,x)]:T ax).get i with
 |none=>rfl
 |some y=>obtain⟨rfl,_⟩:=l7 h;omega
theorem DT{X:aj}{k:Nat}:List.take 0 (List.drop 0 (cx eN 0))++List.take (k*64) X=X.take (64*k):=by
 show []++List.take (k*64) X=_;rw[List.nil_append,Nat.mul_comm]
section
variable{off n cap N:Nat}{L:aj}{op:Option Nat}
abbrev vz(x:ax)(L:aj)(k:Nat):T ax:=aN [(0,x),(1,.row 95 false (some 64) (.ints .u8 (L.take (64*k)) (64*k)))]
theorem Ua(hL:L.length=64*n)(hc:n<=cap)(hn:n≠0):cd prog 15 [.one (.c (.sl 0 off n cap))] 1 (aN [(0,.dK off .u8 L)]) 2 (vz (.dK off .u8 L) L (aS n)) (.one (.c (.aC 1 64 0 (aS n)))):=by
 have hk:=mU n;have hk0:=oN hn;refine TO.c8 (fn:=f15) (c:=OF) func15 Cl [] (SU _) (JS _) (TO.tree eM (k0:=1) (aH:= [2]) (ord:= [2]) rfl (.of_eq (OB ..) ?_));unfold Pd;have x0:qQ n=(aS n:Int):=by show(if(140:Int)<(n:Int)then(140:Int)else(n:Int))=_;unfold aS;split<;>omega
 have x1:wk off cap=off:=by show(if cap=0 then off else off+0)=off;split<;>rfl
 have x2:vY off cap=0:=by show wk off cap - off=0;rw[x1];omega
 have x3:ou n=aS n:=by show(qQ n).toNat - 0=_;rw[x0];simp
 have x4:rb n=aS n*64:=by show ou n*64=_;rw[x3]
 have x5:I3 off n cap=aS n*64:=by show vY off cap+rb n=_;rw[x2,x4];omega
 have x6:qH n=aS n:=by show 0+ou n=_;rw[x3];omega
 have x7:JC n=true:=by show fits prog.types[95]! (qH n)=true;rw[x6];exact yE (by omega)
 rw[x0,x1,x3,x4,x5,x6,x7,x2];refine .aZ (by simp;omega) (.aZ (by simp;omega) (.no (A0 (by omega)) (.aZ (by simp;omega) ⟨trivial,rfl,.inr rfl,[.c (.aC 1 64 0 (aS n))],rfl,rfl,?_,rfl⟩)))
 rw[vz,uR,DT,List.drop_zero,Nat.zero_add,Nat.mul_comm (aS n) 64]
theorem Ui(hL:L.length=N)(hN:N=64*n)(hn:n≠0):cd prog 15 [.one (.c (.aC 0 64 0 n))] 1 (aN [(0,.row 95 true op (.ints .u8 L N))]) 2 (vz (.row 95 true op (.ints .u8 L N)) L (aS n)) (.one (.c (.aC 1 64 0 (aS n)))):=by
 have hk:=mU n;have hk0:=oN hn;refine TO.c8 (fn:=f15) (c:=OF) func15 Cl [] (SU _) (JS _) (TO.tree eM (k0:=1) (aH:= [2]) (ord:= [2]) rfl (.of_eq (Pb ..) ?_));unfold OM;have x0:rB n=(aS n:Int):=by show(if(140:Int)<(n:Int)then(140:Int)else(n:Int))=_;unfold aS;split<;>omega
 have x1:lU n=aS n:=by show(rB n).toNat - 0=_;rw[x0];simp
 have x2:wC n=aS n*64:=by show lU n*64=_;rw[x1]
 have x3:BV n=aS n*64:=by show 0+wC n=_;rw[x2];omega
 have x4:qO n=aS n:=by show 0+lU n=_;rw[x1];omega
 have x5:Kk n=true:=by show fits prog.types[95]! (qO n)=true;rw[x4];exact yE (by omega)
 rw[x0,x1,x2,x3,x4,x5];refine .aZ (by simp;omega) (.aZ (by simp;omega) (.aZ (by simp;omega) (.no (A0 (by omega)) (.aZ (by simp;omega) ⟨trivial,rfl,.inr rfl,[.c (.aC 1 64 0 (aS n))],rfl,rfl,?_,rfl⟩))))
 rw[vz,uR,DT,List.drop_zero,Nat.mul_comm (aS n) 64]
theorem XY(hL:L.length=N)(hN:N=64*n)(hn:n≠0)(h140:n<=140):cd prog 74 [.one (.c (.aC 0 64 0 n))] 1 (aN [(0,.row 95 true op (.ints .u8 L N))]) 2 (vz (.row 95 true op (.ints .u8 L N)) L n) (.one (.c (.aC 1 64 0 n))):=by
 refine TO.c8 (fn:=f74) (c:=c44) func74 PZ [] (SU _) (YC _) (TO.tree eM (k0:=1) (aH:= [2]) (ord:= [2]) rfl (.of_eq (U1 ..) ?_));unfold Ws;have x0:An n=n*64:=rfl;have x1:Fo n=n*64:=by show 0+An n=_;rw[x0];omega
 have x2:ux n=n:=by show 0+n=_;omega
 have x3:OH n=true:=by show fits prog.types[95]! (ux n)=true;rw[x2];exact yE (by omega)
 rw[x1,x2,x3,x0];refine .aZ (by simp;omega) (.aZ (by simp;omega) (.no (A0 (by omega)) (.aZ (by simp;omega) ⟨trivial,rfl,.inr rfl,[.c (.aC 1 64 0 n)],rfl,rfl,?_,rfl⟩)))
 rw[vz,uR,DT,List.drop_zero,Nat.mul_comm n 64]
end
def vq(nx:Nat)(hp:T ax)(X:aj)(k:Nat)(ps:List Prop):Option (RV×T ax×Nat×List Nat×List Prop):=
 T.set depth hp nx (some (.row 95 false (some 64) (.ints .u8 X (64*k)))) fun hp=>some (.one (.c (.aC nx 64 0 k)),hp,nx+1,[],ps)
def Fg:bg:=fun args hp nx=>match args with
 | [.one (.c (.sl nm off n cap))]=>match hp.get nm with
  |some (.dK o .u8 L)=>vq nx hp (L.take (64*aS n)) (aS n) [off=o,L.length=64*n,n<=cap,n≠0]
  |_=>none
 | [.one (.c (.aC nm 64 0 n))]=>match bn hp.get nm with
  |some (95,_,_,.ints .u8 L N)=>vq nx hp L n [L.length=N,N=64*n,n≠0,n<=140]
  |_=>none
 |_=>none
def so:bg:=fun args hp nx=>match args with
 | [.one (.c (.aC nm 64 0 n))]=>match bn hp.get nm with
  |some (95,_,_,.ints .u8 L N)=>vq nx hp L n [L.length=N,N=64*n,n≠0,n<=140]
  |_=>none
 |_=>none
theorem uA{nx:Nat}{hp:T ax}{L:aj}{k:Nat}{ps0:List Prop}{v:RV}{hp':T ax}{nx':Nat}{lg:List Nat}{ps:List Prop}(h:vq nx hp L k ps0=some (v,hp',nx',lg,ps)):
  v= .one (.c (.aC nx 64 0 k))/\nx'=nx+1/\lg= []/\ps=ps0/\∀i,hp'.get i=if i=nx then some (.row 95 false (some 64) (.ints .u8 L (64*k)))else hp.get i:=by
 unfold vq at h;obtain⟨t',h,q⟩:=T.bR _ _ _ _ _ _ h;simp only[ae,af]at h;obtain⟨rfl,rfl,rfl,rfl,rfl⟩:=h;exact⟨rfl,rfl,rfl,rfl,q⟩
theorem PX:aI prog 15 Fg:=by
 intro args s v hp nx lg ps ht h bB;unfold Fg at h;split at h<;>try(cases h;done)
 ·rename_i nm off n cap;split at h<;>try(cases h;done)
  rename_i o L hz;obtain⟨rfl,rfl,rfl,rfl,q⟩:=uA h;obtain⟨rfl,h1,h2,h3,_⟩:=bB;exact aU.Hx (z:= .dK off .u8 L) ht ⟨_,func15,rfl⟩ (Ua h1 h2 h3) (by rfl) hz ft.dK q
 ·rename_i nm n;split at h<;>try(cases h;done)
  rename_i ro op L N hz;obtain⟨rfl,rfl,rfl,rfl,q⟩:=uA h;obtain⟨h1,h2,h3,h4,_⟩:=bB;have:=Ui (op:=op) h1 h2 h3;rw[Za h4,vz,List.take_of_length_le (by omega)]at this
  exact aU.Hx ht ⟨_,func15,rfl⟩ this (by rfl) (cT hz) ft.ints q
theorem wT:aI prog 74 so:=by
 intro args s v hp nx lg ps ht h bB;unfold so at h;split at h<;>try(cases h;done)
 rename_i nm n;split at h<;>try(cases h;done)
 rename_i ro op L N hz;obtain⟨rfl,rfl,rfl,rfl,q⟩:=uA h;obtain⟨h1,h2,h3,h4,_⟩:=bB;have:=XY (op:=op) h1 h2 h3 h4;rw[vz,List.take_of_length_le (by omega)]at this
 exact aU.Hx ht ⟨_,func74,rfl⟩ this (by rfl) (cT hz) ft.ints q
end Go.Sx
namespace Go.Sx
open Go.RowKit
variable{P:Program}
theorem Ap{x y z:ax}{i:Nat}(h:(aN [(0,x),(1,y)]:T ax).get i=some z):(i=0/\z=x)\/(i=1/\z=y):=by
 rw[uR,T.dq]at h;by_cases e:i=0
 ·rw[if_pos e]at h;cases h;exact .inl ⟨e,rfl⟩
 ·rw[if_neg e]at h;by_cases e2:i % 2=1
  ·rw[if_pos e2,T.dq]at h;by_cases e3:i / 2=0
   ·rw[if_pos e3]at h;cases h;exact .inr ⟨by omega,rfl⟩
   ·rw[if_neg e3]at h;split at h<;>(rw[T.get_nil]at h;cases h)
  ·rw[if_neg e2,T.get_nil]at h;cases h
def NY(b0 c0 b1 c1:Nat):aM:=⟨fun nm=>if nm=0 then some (b0,c0)else if nm=1 then some (b1,c1)else none,fun _=>none⟩
theorem JR{g:FuncId}{fn:Func}{c:Code}(hf:P.funcs[g]? =some fn)(hb:fn.body=some c){args:List RV}{sl:T RV}{x y:ax}{v:RV}(hset:setArgs fn.ntmps args 0 .nil some=some sl)(hx:x.wr=false)(hy:y.wr=false)(hv:ej v=true)
  (hT:Tr P fn.ntmps c ⟨sl,aN [(0,x),(1,y)],2,[]⟩ (pt P fn.ntmps fn.results.toList v)) {w:World} {b0 c0 b1 c1:Nat} {o0 o1:Obj} (k0:w.heap[b0]? =some o0) (r0:cD (NY b0 c0 b1 c1) c0 x o0) (k1:w.heap[b1]? =some o1) (r1:cD (NY b0 c0 b1 c1) c1 y o1) {vs:List Value} (ha:bo (NY b0 c0 b1 c1) args vs):
  Calls P g vs.toArray w fun e w'=> ∃V,e= .returned V/\bE mz v V/\Below w.heap.size w w':=by
 have hg: ∀i z,(aN [(0,x),(1,y)]:T ax).get i=some z->z.wr=false:=fun i z h=>by
  rcases Ap h with⟨_,rfl⟩|⟨_,rfl⟩
  ·exact hx
  ·exact hy
 have htop:cJ ⟨sl,aN [(0,x),(1,y)],2,[]⟩:=fun i hi=>by
  have hi':2<=i:=hi;show(aN [(0,x),(1,y)]:T ax).get i=none;cases h:(aN [(0,x),(1,y)]:T ax).get i with
  |none=>rfl
  |some z=>rcases Ap h with⟨rfl,_⟩|⟨rfl,_⟩<;>omega
 refine(Tr.calls (s:=⟨.nil,aN [(0,x),(1,y)],2,[]⟩) (Q:=fun v' _=>v'=v) hf hb hset htop hT (NY b0 c0 b1 c1) w vs ?_ ?_ ha).mono fun e w' hh=> ?_
 ·refine⟨fun nm z hz=> ?_,fun nm nm' z z' b c c' hz _ hw _ _=> ?_,fun _ _ h=>by cases h⟩
  ·rcases Ap hz with⟨rfl,rfl⟩|⟨rfl,rfl⟩
   ·exact⟨b0,c0,o0,rfl,k0,r0⟩
   ·exact⟨b1,c1,o1,rfl,k1,r1⟩
  ·rw[hg _ _ hz]at hw;cases hw
 ·intro nm hn;have hn':2<=nm:=hn;show(if nm=0 then some (b0,c0)else if nm=1 then some (b1,c1)else none)=none
  rw[if_neg (by omega),if_neg (by omega)]
 ·obtain⟨v',s',L',V,ρ',rfl,ab,e1,e2,e3,e4,st⟩:=hh;refine⟨V,e1,e2.indep hv,st.os,st.tape,st.al,st.size,fun q hq=>st.frame q hq fun nm c hm aA _=> ?_⟩
  obtain⟨z,h1,h2⟩:=st.aq nm hm aA;rw[hg _ _ h1]at h2;cases h2
theorem Tj{g:FuncId}{fn:Func}{c:Code}(hf:P.funcs[g]? =some fn)(hb:fn.body=some c){args:List RV}{sl:T RV}{v:RV}(hset:setArgs fn.ntmps args 0 .nil some=some sl)(hv:ej v=true)
  (hT:Tr P fn.ntmps c ⟨sl,.nil,0,[]⟩ (pt P fn.ntmps fn.results.toList v)) {w:World} {vs:List Value} (ha:bo mz args vs):
  Calls P g vs.toArray w fun e w'=> ∃V,e= .returned V/\bE mz v V/\Below w.heap.size w w':=by
 refine(Tr.calls (s:=⟨.nil,.nil,0,[]⟩) (Q:=fun v' _=>v'=v) hf hb hset (fun _ _=>T.get_nil _) hT mz w vs (bu.nil _) (fun _ _=>rfl) ha).mono fun e w' hh=> ?_
 obtain⟨v',s',L',V,ρ',rfl,ab,e1,e2,e3,e4,st⟩:=hh;exact⟨V,e1,e2.indep hv,st.os,st.tape,st.al,st.size,fun q hq=>st.frame q hq fun nm c _ aA _=>absurd aA (Nat.not_lt_zero _)⟩
end Go.Sx
namespace Go.Sx
open Go.Proofs Go.RowKit
def c3:Code:=gB 3
section
variable(n off cap:Nat)(sc i:Int)(k l s d0 d1 d2 d3 sg db:Int)(fs:Bool)(L:aj)
end
end Go.Sx
namespace Go.Sx
open Go.Proofs Go.RowKit
section
variable(off:Nat)(G F:aj)(n:Nat)(a b c sc:Int)(i k l s d0 d1 d2 d3 sg db:Int)(fs:Bool)(L:aj)(lm:ak)(W:List Bool)(al:Int)(mp:ax)(L':aj)(out':Int)
abbrev geB(a b c:Int):ax:= .row 62 false none (.cells [.int .i64 a,.int .i64 b,.int .i64 c])
abbrev qY(F:aj)(n:Nat):ax:= .row 95 false (some 64) (.ints .u8 F (64*n))
abbrev Q3(a b c sc:Int)(n:Nat)(al:Int)(nl nw:Nat):ax:= .row 113 false none (.cells [.int .i64 a,.int .i64 b,.int .i64 c,.aC nl 64 0 n,.int .u32 sc,.map nw,.int .i64 al])
abbrev Wq(a b c sc:Int)(n:Nat)(al:Int)(nl nw:Nat):ax:= .row 65 false none (.cells [.int .i64 a,.int .i64 b,.int .i64 c,.aC nl 64 0 n,.int .u32 sc,.sl nw 0 n n,.int .i64 al])
abbrev aeJ(k l s d0 d1 d2 d3 sg db:Int):ax:= .row 27 false none (.cells [.int .u8 k,.int .u8 l,.int .u32 s,.int .u16 d0,.int .u16 d1,.int .u16 d2,.int .u16 d3,.int .u16 sg,.int .u16 db])
def rD:T ax:=aN [(0,.dK off .u8 G),(1,.dK off .u8 G),(2,aeJ k l s d0 d1 d2 d3 sg db),(3,qY F n),(4,qY F n),(5,geB a b c),(6,qY L n),(7,mp),(8,Q3 a b c sc n al 6 7),(9,geB a b c),(10,.row 95 false none (.ints .u8 [] 0)),(11,qY L' n),(12,.row 4 false none (.aT W n)),(13,Wq a b c sc n out' 11 12)]
end
section
variable{a b c:Int}{n:Nat}{sc:Int}{st:St}{sr:dA}
theorem fh.VN (h:fh n st sr)(i:Int)(y:Fi.bD):(c4 a b c n sc st i y).1=(kJ a b c n sc sr i y).1/\fh n (c4 a b c n sc st i y).2 (kJ a b c n sc sr i y).2:=by
 unfold c4 kJ;rw[<-h.img];split
 ·exact h.wr _ _ _
 ·exact⟨rfl,h⟩
theorem fh.WB (h:fh n st sr)(i:Int):fh n (j9 a b c n sc st i) (rY a b c n sc sr i):=by
 unfold j9 rY;rw[<-h.img];split
 ·exact(h.VN _ _).2
 ·exact h
theorem fh.lf: ∀(m:Nat) (st:St) (sr:dA) (i:Int),fh n st sr->fh n (Sx.lf a b c n sc m st i) (sV a b c n sc m sr i)
 | 0,_,_,_,h=>h
 |m+1,_,_,i,h=>fh.lf m _ _ (i+1) (h.WB i)
theorem fh.uy (h:fh n st sr):fh n (Sx.uy a b c n sc st) (nZ a b c n sc sr):=fh.lf _ _ _ _ h
end
end Go.Sx
namespace Go.Sx
open Go.Proofs Go.RowKit
section
variable{off n cap:Nat}{sc i k l s d0 d1 d2 d3 sg db:Int}{fs:Bool}{L:aj}
end
section
variable{off:Nat}{G F:aj}{n:Nat}{a b c sc:Int}{i k l s d0 d1 d2 d3 sg db:Int}
end
end Go.Sx
namespace Go.Sx
open Go.Proofs Go.RowKit
theorem Vh(n i:Nat):(cx [false] n).getD i false=false:=by
 induction n generalizing i with
 |zero=>rfl
 |succ n ih=>
  show([false]++cx [false] n).getD i false=false;cases i with
  |zero=>rfl
  |succ i=>simpa using ih i
theorem xx(n:Nat):(cx [false] n).length=n:=by
 induction n with
 |zero=>rfl
 |succ n ih=>show([false]++cx [false] n).length=n+1;simp[ih]
theorem abv(n:Nat)(F:aj):fh n (F,[],0) (F,cx [false] n,0):=
 ⟨rfl,rfl,xx n,List.nodup_nil,fun x=>⟨fun h=>absurd h List.not_mem_nil,fun⟨_,_,h⟩=>by rw[Vh]at h;cases h⟩⟩
section
variable{off:Nat}{G F:aj}{n:Nat}{a b c sc:Int}{i k l s d0 d1 d2 d3 sg db:Int}{fs:Bool}
theorem Qm{sr:dA}(h:dS n sr):dS n (lO a b c n sc sr):=by
 have k1:=h.wr (a:=a) (b:=b) (c:=c) (sc:=sc) (g:=0) (k:=1) (p:=sup a b c) (gC _ _ _) (pX _ _ _);have k2:=k1.wr (a:=a) (b:=b) (c:=c) (sc:=sc) (g:=1) (k:=1) (p:=sup a b c) (gC _ _ _) (pX _ _ _);have: ∀(m:Nat) (st:dA) (i:Int),dS n st->dS n (gd a b c n sc m st i):=by
  intro m
  induction m with
  |zero=>exact fun _ _ h=>h
  |succ m ih=>exact fun _ i h=>ih _ (i+1) (h.sec i)
 exact this _ _ _ k2
end
section
variable{off n cap:Nat}{sc i k l s d0 d1 d2 d3 sg db:Int}{fs:Bool}{L:aj}
end
section
variable(sc i k l s d0 d1 d2 d3 sg db:Int)(fs:Bool)(off cap:Nat)
end
end Go.Sx
