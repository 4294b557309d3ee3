import Derived.Test.YtfceckiklfkjkaaGreatS41
noncomputable section
open Go.Proofs Go.RowKit
set_option maxRecDepth 100000
open Go.IntKind(i64 u8 u64 u32 u16)
open Go.Proofs.Tryz
namespace Go.Sx
abbrev Eb(g:Int):Nat:=0+g.toNat*64
abbrev Sn(g:Int):Nat:=(Eb g)+64
abbrev zU(L:aj)(g:Int):List Int:=List.take 64 (List.drop (Eb g) L)
def Dl(t0:TypeId)(op:Option Nat)(t1:TypeId)(a b c:Int)(L:aj)(N n:Nat)(sc al:Int)(m1 m2:Nat)(g k:Int)(Q:RV->Prop):ai:=(bif decide (g<0)then(some ((aw []/\Q (RV.aF [AV.ints u8 bA 54,AV.c (Cell.bool false)]))))else((bif decide (g>=(↑n:Int))then(some ((aw []/\Q (RV.aF [AV.ints u8 bA 54,AV.c (Cell.bool false)]))))else((bif decide (n≠0)then((bif decide (0<=g/\g<(↑n:Int))then((bif decide ((Sn g)<=N)then(some ((aw [Bytes (zU L g)]/\Q (RV.aF [AV.ints u8 (List.take 54 (List.drop 0 (aB bA 0 (List.take 54 (List.drop 0 (aB bA 0 (cb k (zU L g)))))))) 54,AV.c (Cell.bool (dh k (zU L g)==0))]))))else none))else none))else none)))))
theorem xI(t0:TypeId)(op:Option Nat)(t1:TypeId)(a b c:Int)(L:aj)(N n:Nat)(sc al:Int)(m1 m2:Nat)(g k:Int)(Q:RV->Prop):ZQ t0 op t1 a b c L N n sc al m1 m2 g k Q=Dl t0 op t1 a b c L N n sc al m1 m2 g k Q:=by kernel_rfl
def GO:List RV->Int->Int->Int->List Int->Nat->Int->Option (RV×List Prop):=fun xs _ _ _ L n _=>match xs with
 | [.one (.c (.int .i64 g)),.one (.c (.int .i64 k))]=>some (.aF [.ints .u8 (aR L n g k) 54,.c (.bool (cI L n g k))],[Bytes L])
 |_=>none
theorem wO{n:Nat}{g:Int}(h: ¬(0<=g/\g<(n:Int))):dP n g=false:=by
 cases h1:dP n g with
 |false=>rfl
 |true=>exact absurd (dU.1 h1) h
theorem Dp:aI prog 85 (lN GO):=by
 refine Ct ⟨_,func85,rfl⟩ (fun xs a b c L n sc v ps h=> ?_) fun xs a b c L n sc v ps h bB hl t0 op t1 al m1 m2=> ?_
 ·unfold GO at h;split at h<;>try(cases h;done)
  simp only[ae,af]at h;obtain⟨rfl,rfl⟩:=h;exact⟨rfl,rfl⟩
 ·unfold GO at h;split at h<;>try(cases h;done)
  rename_i g k;simp only[ae,af]at h;obtain⟨rfl,rfl⟩:=h;obtain⟨hy,_⟩:=bB;refine k9 aeb gA (.of_eq (xI t0 op t1 a b c L (64*n) n sc al m1 m2 g k _) ?_);unfold Dl zU Sn Eb;have no:dP n g=false->RV.aF [AV.ints u8 bA 54,AV.c (Cell.bool false)]= .aF [.ints .u8 (aR L n g k) 54,.c (.bool (cI L n g k))]:=fun e=>by unfold aR cI;rw[e];rfl
  refine .fork (fun h=>⟨trivial,no (wO (by simp at h;omega))⟩) (fun h=> .fork (fun h1=>⟨trivial,no (wO (by simp at h1;omega))⟩) (fun h1=> ?_))
  have g0:0<=g:=by simpa using h
  have g1:g<n:=by simpa using h1
  refine .aZ (by simp;omega) ?_
  refine .aZ (by simp;omega) ?_
  refine .aZ (by simp;omega) ⟨⟨?_,trivial⟩,?_⟩
  ·rw[Nat.zero_add];exact hy.cX _
  ·rw[Nat.zero_add,show List.take 64 (List.drop (g.toNat*64) L)=bL L (g.toNat*64)from rfl]
   have hs:dP n g=true:=dU.2 ⟨g0,g1⟩;have hp:(cb k (bL L (g.toNat*64))).length=54:=jn (ig (by omega))
   have e:List.take 54 (List.drop 0 (cb k (bL L (g.toNat*64))))=cb k (bL L (g.toNat*64)):=aJ hp;unfold aR cI;rw[hs,ck hp,e,ck hp,e]
   rfl
def TD:FuncId->Option bg:=fun f=>match f with| 83=>some yZ| 155=>some (aL Hj)| 82=>some (aL mY)| 85=>some (lN GO)|_=>none
theorem adC:Fit prog (fun f=>(TD f).map bj):=⟨bM,aV,aI.sum fun f sm h=>by
 unfold TD at h;split at h
 ·cases h;exact tF
 ·cases h;exact Ri.sum ⟨_,func155,rfl⟩
 ·cases h;exact(kP 82 sf).sum ⟨_,func82,rfl⟩
 ·cases h;exact Dp
 ·cases h⟩
def c29:Code:=gB 81
def FH(g k:Int)(p:aj):List RV:= [.one (.c (.ptr 0 0)),.one (.c (.int .i64 g)),.one (.c (.int .i64 k)),.one (.ints .u8 p 54)]
def aaV(g k:Int)(p:aj):T RV:=match setArgs 98 (FH g k p) 0 .nil some with|some t=>t|none=> .nil
theorem YF(g k:Int)(p:aj):setArgs 98 (FH g k p) 0 .nil some=some (aaV g k p):=by kernel_rfl
theorem Q6:f81.body=some c29:=by kernel_rfl
def r29(a b c:Int)(n:Nat)(sc:Int)(L:aj)(W:List Bool)(al g k:Int)(p:aj)(Q:X->Option (List AV)->T ax->Nat->Prop):ai:=
 az prog TD 300 98 c29 ⟨aaV g k p,dZ a b c n sc (L,W,al),3,[]⟩ aO (fun x s Z=>some (aw Z.ob/\(Nat.ble 3 s.nx=true/\Q x (ba prog 98 (low 98 3 (aE [8] 98 s)) f81.results.toList) (low 98 3 (aE [8] 98 s)).hp (low 98 3 (aE [8] 98 s)).nx)))
abbrev b9(n:Nat):Nat:=64*n
abbrev Gj(g:Int):Bool:=decide (g>1)
abbrev EB(a b:Int)(c sc g:Int):Bool:= !cN a sc (pl a b c g).snd.fst
abbrev ll(n:Nat):Bool:=decide (n≠0)
abbrev gZ(n:Nat)(g:Int):Bool:=decide ((0:Int)<=g/\g<(↑n:Int))
abbrev pB(g:Int):Nat:=0+g.toNat*64
abbrev Pj(g:Int):Nat:=(pB g)+64
abbrev lH(n:Nat)(g:Int):Bool:=decide ((Pj g)<=(b9 n))
abbrev rj(g:Int):Nat:=0+g.toNat*1
abbrev tK(n:Nat)(g:Int):Bool:=decide ((rj g)<n)
abbrev jV(L:aj)(g:Int):List Int:=List.take 64 (List.drop (pB g) L)
def V9(a b c:Int)(n:Nat)(sc:Int)(L:aj)(W:List Bool)(al g k:Int)(p:aj)(Q:X->Option (List AV)->T ax->Nat->Prop):ai:=(bif decide (g<0)then(some ((aw []/\((true=true)/\Q (X.ret) (some [AV.c (Cell.bool false)]) (aN [(0,ax.row 65 false none (Body.cells [Cell.int i64 a,Cell.int i64 b,Cell.int i64 c,Cell.aC 1 64 0 n,Cell.int u32 sc,Cell.sl 2 0 n n,Cell.int i64 al])),(1,ax.row 95 false (some 64) (Body.ints u8 L (b9 n))),(2,ax.row 4 false none (Body.aT W n))]) (3)))))else((bif decide (g>=(↑n:Int))then(some ((aw []/\((true=true)/\Q (X.ret) (some [AV.c (Cell.bool false)]) (aN [(0,ax.row 65 false none (Body.cells [Cell.int i64 a,Cell.int i64 b,Cell.int i64 c,Cell.aC 1 64 0 n,Cell.int u32 sc,Cell.sl 2 0 n n,Cell.int i64 al])),(1,ax.row 95 false (some 64) (Body.ints u8 L (b9 n))),(2,ax.row 4 false none (Body.aT W n))]) (3)))))else((bif decide (k<1)then(some ((aw []/\((true=true)/\Q (X.ret) (some [AV.c (Cell.bool false)]) (aN [(0,ax.row 65 false none (Body.cells [Cell.int i64 a,Cell.int i64 b,Cell.int i64 c,Cell.aC 1 64 0 n,Cell.int u32 sc,Cell.sl 2 0 n n,Cell.int i64 al])),(1,ax.row 95 false (some 64) (Body.ints u8 L (b9 n))),(2,ax.row 4 false none (Body.aT W n))]) (3)))))else((bif decide (k>6)then(some ((aw []/\((true=true)/\Q (X.ret) (some [AV.c (Cell.bool false)]) (aN [(0,ax.row 65 false none (Body.cells [Cell.int i64 a,Cell.int i64 b,Cell.int i64 c,Cell.aC 1 64 0 n,Cell.int u32 sc,Cell.sl 2 0 n n,Cell.int i64 al])),(1,ax.row 95 false (some 64) (Body.ints u8 L (b9 n))),(2,ax.row 4 false none (Body.aT W n))]) (3)))))else((bif cI L n g k then((bif List.take 54 (List.drop 0 (aB bA 0 (aR L n g k)))==List.take 54 (List.drop 0 p)then(some ((aw [L.length=(b9 n),(b9 n)=(b9 n),Bytes L]/\((true=true)/\Q (X.ret) (some [AV.c (Cell.bool true)]) (aN [(0,ax.row 65 false none (Body.cells [Cell.int i64 a,Cell.int i64 b,Cell.int i64 c,Cell.aC 1 64 0 n,Cell.int u32 sc,Cell.sl 2 0 n n,Cell.int i64 al])),(1,ax.row 95 false (some 64) (Body.ints u8 L (b9 n))),(2,ax.row 4 false none (Body.aT W n))]) (3)))))else((bif (Gj g)then((bif (EB a b c sc g)then(some ((aw [L.length=(b9 n),(b9 n)=(b9 n),n=n,n=n,n=n,W.length=n,a<9223372036854775808,cF sc,L.length=(b9 n),(b9 n)=(b9 n),Bytes L]/\((true=true)/\Q (X.ret) (some [AV.c (Cell.bool false)]) (aN [(0,ax.row 65 false none (Body.cells [Cell.int i64 a,Cell.int i64 b,Cell.int i64 c,Cell.aC 1 64 0 n,Cell.int u32 sc,Cell.sl 2 0 n n,Cell.int i64 (i64.wrap (al+1))])),(1,ax.row 95 false (some 64) (Body.ints u8 L (b9 n))),(2,ax.row 4 false none (Body.aT W n))]) (3)))))else((bif (ll n)then((bif (gZ n g)then((bif (lH n g)then((bif (ll n)then((bif (gZ n g)then((bif (lH n g)then((bif (gZ n g)then((bif (tK n g)then(some ((aw [Bytes (jV L g),L.length=(b9 n),(b9 n)=(b9 n),n=n,n=n,n=n,W.length=n,a<9223372036854775808,cF sc,L.length=(b9 n),(b9 n)=(b9 n),Bytes L]/\((true=true)/\Q (X.ret) (some [AV.c (Cell.bool true)]) (aN [(0,ax.row 65 false none (Body.cells [Cell.int i64 a,Cell.int i64 b,Cell.int i64 c,Cell.aC 1 64 0 n,Cell.int u32 sc,Cell.sl 2 0 n n,Cell.int i64 al])),(1,ax.row 95 false (some 64) (Body.ints u8 (aB L (pB g) (List.take 64 (List.drop 0 (aB eN 0 (dw k (jV L g) (List.take 54 (List.drop 0 p))))))) (b9 n))),(2,ax.row 4 false none (Body.aT (W.set (rj g) true) n))]) (3)))))else none))else none))else none))else none))else none))else none))else none))else none))))else((bif (ll n)then((bif (gZ n g)then((bif (lH n g)then((bif (ll n)then((bif (gZ n g)then((bif (lH n g)then((bif (gZ n g)then((bif (tK n g)then(some ((aw [Bytes (jV L g),L.length=(b9 n),(b9 n)=(b9 n),Bytes L]/\((true=true)/\Q (X.ret) (some [AV.c (Cell.bool true)]) (aN [(0,ax.row 65 false none (Body.cells [Cell.int i64 a,Cell.int i64 b,Cell.int i64 c,Cell.aC 1 64 0 n,Cell.int u32 sc,Cell.sl 2 0 n n,Cell.int i64 al])),(1,ax.row 95 false (some 64) (Body.ints u8 (aB L (pB g) (List.take 64 (List.drop 0 (aB eN 0 (dw k (jV L g) (List.take 54 (List.drop 0 p))))))) (b9 n))),(2,ax.row 4 false none (Body.aT (W.set (rj g) true) n))]) (3)))))else none))else none))else none))else none))else none))else none))else none))else none))))))else((bif (Gj g)then((bif (EB a b c sc g)then(some ((aw [L.length=(b9 n),(b9 n)=(b9 n),n=n,n=n,n=n,W.length=n,a<9223372036854775808,cF sc,L.length=(b9 n),(b9 n)=(b9 n),Bytes L]/\((true=true)/\Q (X.ret) (some [AV.c (Cell.bool false)]) (aN [(0,ax.row 65 false none (Body.cells [Cell.int i64 a,Cell.int i64 b,Cell.int i64 c,Cell.aC 1 64 0 n,Cell.int u32 sc,Cell.sl 2 0 n n,Cell.int i64 (i64.wrap (al+1))])),(1,ax.row 95 false (some 64) (Body.ints u8 L (b9 n))),(2,ax.row 4 false none (Body.aT W n))]) (3)))))else((bif (ll n)then((bif (gZ n g)then((bif (lH n g)then((bif (ll n)then((bif (gZ n g)then((bif (lH n g)then((bif (gZ n g)then((bif (tK n g)then(some ((aw [Bytes (jV L g),L.length=(b9 n),(b9 n)=(b9 n),n=n,n=n,n=n,W.length=n,a<9223372036854775808,cF sc,L.length=(b9 n),(b9 n)=(b9 n),Bytes L]/\((true=true)/\Q (X.ret) (some [AV.c (Cell.bool true)]) (aN [(0,ax.row 65 false none (Body.cells [Cell.int i64 a,Cell.int i64 b,Cell.int i64 c,Cell.aC 1 64 0 n,Cell.int u32 sc,Cell.sl 2 0 n n,Cell.int i64 al])),(1,ax.row 95 false (some 64) (Body.ints u8 (aB L (pB g) (List.take 64 (List.drop 0 (aB eN 0 (dw k (jV L g) (List.take 54 (List.drop 0 p))))))) (b9 n))),(2,ax.row 4 false none (Body.aT (W.set (rj g) true) n))]) (3)))))else none))else none))else none))else none))else none))else none))else none))else none))))else((bif (ll n)then((bif (gZ n g)then((bif (lH n g)then((bif (ll n)then((bif (gZ n g)then((bif (lH n g)then((bif (gZ n g)then((bif (tK n g)then(some ((aw [Bytes (jV L g),L.length=(b9 n),(b9 n)=(b9 n),Bytes L]/\((true=true)/\Q (X.ret) (some [AV.c (Cell.bool true)]) (aN [(0,ax.row 65 false none (Body.cells [Cell.int i64 a,Cell.int i64 b,Cell.int i64 c,Cell.aC 1 64 0 n,Cell.int u32 sc,Cell.sl 2 0 n n,Cell.int i64 al])),(1,ax.row 95 false (some 64) (Body.ints u8 (aB L (pB g) (List.take 64 (List.drop 0 (aB eN 0 (dw k (jV L g) (List.take 54 (List.drop 0 p))))))) (b9 n))),(2,ax.row 4 false none (Body.aT (W.set (rj g) true) n))]) (3)))))else none))else none))else none))else none))else none))else none))else none))else none)))))))))))))
theorem Ut(a b c:Int)(n:Nat)(sc:Int)(L:aj)(W:List Bool)(al g k:Int)(p:aj)(Q:X->Option (List AV)->T ax->Nat->Prop):r29 a b c n sc L W al g k p Q=V9 a b c n sc L W al g k p Q:=by kernel_rfl
theorem SH{L:aj}{n:Nat}{s k:Int}(hl:L.length=64*n):(aR L n s k).length=54:=by
 unfold aR;cases hs:dP n s with
 |false=>rfl
 |true=>
  have:=dU.1 hs;exact jn (ig (by omega))
def eC(a b c:Int)(n:Nat)(sc:Int)(st:dA)(g k:Int)(p:aj):Bool×dA:=
 if dP n g && cr k then
  if cI st.1 n g k &&(aR st.1 n g k==p)then(true,st)
  else if decide (g>=2) && !cN a sc (pl a b c g).2.1 then(false,(st.1,st.2.1,i64.wrap (st.2.2+1)))
  else(true,(aB st.1 (g.toNat*64) (dw k (bL st.1 (g.toNat*64)) p),st.2.1.set g.toNat true,st.2.2))
 else(false,st)
theorem X4{a b c:Int}{n:Nat}{sc:Int}{L:aj}{W:List Bool}{al g k:Int}{p:aj}(hl:L.length=64*n)(hW:W.length=n)(hy:Bytes L)(ha:a<9223372036854775808)(hsc:cF sc)(hp:p.length=54):
  fC prog 81 (FH g k p) 3 (dZ a b c n sc (L,W,al)) (dZ a b c n sc (eC a b c n sc (L,W,al) g k p).2) (.one (.c (.bool (eC a b c n sc (L,W,al) g k p).1))):=by
 refine mE (fn:=f81) (aH:= [8]) adC func81 Q6 rfl (by rw[fA];exact gh) (YF ..) (.of_eq (Ut a b c n sc L W al g k p _) ?_)
 have fin: ∀(v:Bool) (st:dA),eC a b c n sc (L,W,al) g k p=(v,st)->HM (.one (.c (.bool (eC a b c n sc (L,W,al) g k p).1))) (dZ a b c n sc (eC a b c n sc (L,W,al) g k p).2) 3 .ret (some [AV.c (Cell.bool v)]) (dZ a b c n sc st) 3:=fun v st h=>by
  rw[h];exact⟨.inr rfl,⟨_,rfl,rfl⟩,rfl,rfl⟩
 unfold V9 jV tK rj lH Pj pB gZ ll EB Gj b9;have e1:List.take 54 (List.drop 0 p)=p:=aJ hp;have e2:List.take 54 (List.drop 0 (aB bA 0 (aR L n g k)))=aR L n g k:=by
  have:=SH (s:=g) (k:=k) hl;rw[ck this];exact aJ this
 have e3: ∀B,List.take 64 (List.drop 0 (aB eN 0 (dw k B p)))=dw k B p:=fun B=>by
  have:=gi (k:=k) (b:=B) hp;rw[iE this];exact aJ this
 rw[e1,e2,e3,Nat.zero_add,Nat.zero_add,Nat.mul_one,show List.take 64 (List.drop (g.toNat*64) L)=bL L (g.toNat*64)from rfl]
 have hb:Bytes (bL L (g.toNat*64)):=hy.cX _;refine .fork (fun h=>⟨trivial,rfl,fin false (L,W,al) ?_⟩) (fun h=> .fork (fun h1=>⟨trivial,rfl,fin false (L,W,al) ?_⟩) (fun h1=> .fork (fun h2=>⟨trivial,rfl,fin false (L,W,al) ?_⟩) (fun h2=> .fork (fun h3=>⟨trivial,rfl,fin false (L,W,al) ?_⟩) (fun h3=> ?_))))
 ·unfold eC;rw[wO (by simp at h;omega)];rfl
 ·unfold eC;rw[wO (by simp at h1;omega)];rfl
 ·unfold eC;rw[show cr k=false by unfold cr;simp at h2 ⊢;omega,Bool.and_false];rfl
 ·unfold eC;rw[show cr k=false by unfold cr;simp at h3 ⊢;omega,Bool.and_false];rfl
 have g0:0<=g:=by simpa using h
 have g1:g<n:=by simpa using h1
 have hs:(dP n g && cr k)=true:=by
  rw[dU.2 ⟨g0,g1⟩,show cr k=true by unfold cr;simp at h2 h3 ⊢;omega];rfl
 have t3:decide (n≠0)=true:=by simp;omega
 have t4:decide ((0:Int)<=g/\g<(n:Int))=true:=by simp;omega
 have t7:decide (g.toNat*64+64<=64*n)=true:=by simp;omega
 have t9:decide (g.toNat<n)=true:=by simp;omega
 rw[t3,t4,t7,t9];have h12:decide (g>1)=decide (g>=2):=by rw[decide_eq_decide];omega
 have way:eC a b c n sc (L,W,al) g k p=if cI L n g k &&(aR L n g k==p)then(true,(L,W,al))else if decide (g>1) && !cN a sc (pl a b c g).2.1 then(false,(L,W,i64.wrap (al+1)))else(true,(aB L (g.toNat*64) (dw k (bL L (g.toNat*64)) p),W.set g.toNat true,al)):=by
  unfold eC;rw[hs,h12];rfl
 have f1:=fin true (L,W,al);have f2:=fin false (L,W,i64.wrap (al+1));have f3:=fin true (aB L (g.toNat*64) (dw k (bL L (g.toNat*64)) p),W.set g.toNat true,al);rw[way]at f1 f2 f3 ⊢;refine .fork (fun h4=> .fork (fun h5=>⟨⟨hl,rfl,hy,trivial⟩,rfl,f1 (by rw[h4,h5];rfl)⟩) (fun h5=> ?_)) (fun h4=> ?_)
 ·refine .fork (fun h6=> .fork (fun h7=>⟨⟨hl,rfl,rfl,rfl,rfl,hW,ha,hsc,hl,rfl,hy,trivial⟩,rfl,f2 (by rw[h4,h5,h6,h7];rfl)⟩) (fun h7=>⟨⟨hb,hl,rfl,rfl,rfl,rfl,hW,ha,hsc,hl,rfl,hy,trivial⟩,rfl,f3 (by rw[h4,h5,h6,h7];rfl)⟩)) (fun h6=>⟨⟨hb,hl,rfl,hy,trivial⟩,rfl,f3 (by rw[h4,h5,h6];rfl)⟩)
 ·refine .fork (fun h6=> .fork (fun h7=>⟨⟨hl,rfl,rfl,rfl,rfl,hW,ha,hsc,hl,rfl,hy,trivial⟩,rfl,f2 (by rw[h4,h6,h7];rfl)⟩) (fun h7=>⟨⟨hb,hl,rfl,rfl,rfl,rfl,hW,ha,hsc,hl,rfl,hy,trivial⟩,rfl,f3 (by rw[h4,h6,h7];rfl)⟩)) (fun h6=>⟨⟨hb,hl,rfl,hy,trivial⟩,rfl,f3 (by rw[h4,h6];rfl)⟩)
def Gm:bg:=lA fun xs a b c n sc st=>match xs with
 | [.one (.c (.int .i64 g)),.one (.c (.int .i64 k)),.one (.ints .u8 p 54)]=>some (.one (.c (.bool (eC a b c n sc st g k p).1)),(eC a b c n sc st g k p).2,[Bytes st.1,a<9223372036854775808,cF sc,p.length=54])
 |_=>none
theorem CK:aI prog 81 Gm:=by
 refine mV ⟨_,func81,rfl⟩ (fun xs a b c n sc st v st' ps h hp hl hW=> ?_) (fun xs a b c n sc st v st' ps h=> ?_)
 ·split at h<;>try(cases h;done)
  simp only[ae,af]at h;obtain⟨rfl,rfl,rfl⟩:=h;exact X4 hl hW hp.1 hp.2.1 hp.2.2.1 hp.2.2.2.1
 ·split at h<;>try(cases h;done)
  simp only[ae,af]at h;obtain⟨rfl,rfl,rfl⟩:=h;exact⟨rfl,rfl⟩
def xC:FuncId->Option bg:=fun f=>match f with| 80=>some (aL uV)| 84=>some (aL wJ)| 82=>some (aL mY)| 85=>some (lN GO)| 81=>some Gm| 83=>some yZ|_=>none
theorem wm:Fit prog (fun f=>(xC f).map bj):=⟨bM,aV,aI.sum fun f sm h=>by
 unfold xC at h;split at h
 ·cases h;exact Gq.sum ⟨_,func80,rfl⟩
 ·cases h;exact PG.sum ⟨_,func84,rfl⟩
 ·cases h;exact(kP 82 sf).sum ⟨_,func82,rfl⟩
 ·cases h;exact Dp
 ·cases h;exact CK
 ·cases h;exact tF
 ·cases h⟩
def pY:Code:=gB 20
def VL:Code:=match gR (aG 3 pY)with| .block _ (.loop c)=>c|_=> .skip
def aaO:T RV:=match setArgs 82 [.one (.c (.ptr 0 0))] 0 .nil some with|some t=>t|none=> .nil
section
variable(a b c:Int)(n:Nat)(sc:Int)(L:aj)(W:List Bool)(al i:Int)
def nR:S:=low 82 3 (aE [0,4] 82 ⟨aN [(0,.one (.c (.ptr 0 0))),(4,.one (.c (.int .i64 i)))],dZ a b c n sc (L,W,al),3,[]⟩)
def afG(Q:ag):ai:=az prog xC 300 82 (gL pY) ⟨aaO,dZ a b c n sc (L,W,al),3,[]⟩ aO (fun x s Z=>some (aw Z.ob/\match x with| .ret=>False|x=>Q x (aE [0,2] 82 s)))
def Bq(P:aj):S:=aE [0,2] 82 ⟨aN [(0,.one (.c (.ptr 0 0))),(2,.one (.c (.ptr 3 0)))],aN [(0,.row 65 false none (.cells [.int .i64 a,.int .i64 b,.int .i64 c,.aC 1 64 0 n,.int .u32 sc,.sl 2 0 n n,.int .i64 al])),(1,.row 95 false (some 64) (.ints .u8 L (64*n))),(2,.row 4 false none (.aT W n)),(3,.row 59 false none (.ints .u8 P 54))],4,[]⟩
def agI(P:aj)(Q:ag):ai:=az prog xC 300 82 (gL (gR pY)) (Bq a b c n sc L W al P) aO (fun x s Z=>some (aw Z.ob/\match x with| .ret=>False|x=>Q x (aE [0,2] 82 s)))
def agH(P:aj)(Q:ag):ai:=az prog xC 300 82 (gL (gR (gR pY))) (Bq a b c n sc L W al P) aO (fun x s Z=>some (aw Z.ob/\match x with| .ret=>False|x=>Q x (aE [0,2] 82 s)))
def agr(P:aj)(Q:ag):ai:=az prog xC 300 82 (gL (aG 3 pY)) (Bq a b c n sc L W al P) aO (Fb 3 [] [] [0,4] 82 [] Q)
theorem Vk(P:aj)(Q:ag):agr a b c n sc L W al P Q=some (aw []/\(true=true/\Q .normal (nR a b c n sc L W al 2))):=by kernel_rfl
def t31(Q:ag):ai:=az prog xC 300 82 VL (nR a b c n sc L W al i) aO (fun x s Z=>some (aw Z.ob/\match x with| .ret=>False|x=>Nat.ble 3 s.nx=true/\Q x (low 82 3 (aE [0,4] 82 s))))
end
def acd(a b c:Int)(n:Nat)(sc:Int)(L:aj)(W:List Bool)(al:Int)(Q:ag):ai:=some ((aw []/\Q (X.normal) (Bq a b c n sc L W al (aB bA 0 (sup a b c)))))
theorem OK(a b c:Int)(n:Nat)(sc:Int)(L:aj)(W:List Bool)(al:Int)(Q:ag):afG a b c n sc L W al Q=acd a b c n sc L W al Q:=by kernel_rfl
abbrev BI(n:Nat):Nat:=64*n
def abJ(a b c:Int)(n:Nat)(sc:Int)(L:aj)(W:List Bool)(al:Int)(P:aj)(Q:ag):ai:=some ((aw [L.length=(BI n),(BI n)=(BI n),n=n,n=n,n=n,W.length=n,Bytes L,a<9223372036854775808,cF sc,(List.take 54 (List.drop 0 P)).length=54]/\Q (X.normal) (Bq a b c n sc (eC a b c n sc (L,W,al) 0 1 (List.take 54 (List.drop 0 P))).2.1 (eC a b c n sc (L,W,al) 0 1 (List.take 54 (List.drop 0 P))).2.2.1 (eC a b c n sc (L,W,al) 0 1 (List.take 54 (List.drop 0 P))).2.2.2 P)))
theorem QF(a b c:Int)(n:Nat)(sc:Int)(L:aj)(W:List Bool)(al:Int)(P:aj)(Q:ag):agI a b c n sc L W al P Q=abJ a b c n sc L W al P Q:=by kernel_rfl
abbrev AA(n:Nat):Nat:=64*n
def abG(a b c:Int)(n:Nat)(sc:Int)(L:aj)(W:List Bool)(al:Int)(P:aj)(Q:ag):ai:=some ((aw [L.length=(AA n),(AA n)=(AA n),n=n,n=n,n=n,W.length=n,Bytes L,a<9223372036854775808,cF sc,(List.take 54 (List.drop 0 P)).length=54]/\Q (X.normal) (Bq a b c n sc (eC a b c n sc (L,W,al) 1 1 (List.take 54 (List.drop 0 P))).2.1 (eC a b c n sc (L,W,al) 1 1 (List.take 54 (List.drop 0 P))).2.2.1 (eC a b c n sc (L,W,al) 1 1 (List.take 54 (List.drop 0 P))).2.2.2 P)))
theorem P1(a b c:Int)(n:Nat)(sc:Int)(L:aj)(W:List Bool)(al:Int)(P:aj)(Q:ag):agH a b c n sc L W al P Q=abG a b c n sc L W al P Q:=by kernel_rfl
abbrev RL(a b:Int)(c i:Int):Int:=(pl a b c i).snd.fst
abbrev dC(n:Nat):Nat:=64*n
abbrev qJ(a b:Int)(c i:Int):Int:=(pl a b c i).fst
abbrev acO(a b:Int)(c i:Int):List Int:=aB bA 0 (eO (RL a b c i))
abbrev uT(a b:Int)(c i:Int):List Int:=List.take 54 (List.drop 0 (acO a b c i))
def acZ(a b c:Int)(n:Nat)(sc:Int)(L:aj)(W:List Bool)(al i:Int)(Q:ag):ai:=(bif decide (i<(↑n:Int))then((bif !cN a sc (RL a b c i)then(some ((aw [L.length=(dC n),(dC n)=(dC n),n=n,n=n,n=n,W.length=n,a<9223372036854775808,cF sc]/\((true=true)/\Q (X.normal) (nR a b c n sc L W al (i64.wrap (i+1)))))))else((bif (qJ a b c i)==0 then(some ((aw [L.length=(dC n),(dC n)=(dC n),n=n,n=n,n=n,W.length=n,a<9223372036854775808,cF sc]/\((true=true)/\Q (X.normal) (nR a b c n sc L W al (i64.wrap (i+1)))))))else((bif (qJ a b c i)==2 then(some ((aw [L.length=(dC n),(dC n)=(dC n),n=n,n=n,n=n,W.length=n,Bytes L,a<9223372036854775808,cF sc,(uT a b c i).length=54,L.length=(dC n),(dC n)=(dC n),n=n,n=n,n=n,W.length=n,a<9223372036854775808,cF sc]/\((true=true)/\Q (X.normal) (nR a b c n sc (eC a b c n sc (L,W,al) i 2 (uT a b c i)).2.1 (eC a b c n sc (L,W,al) i 2 (uT a b c i)).2.2.1 (eC a b c n sc (L,W,al) i 2 (uT a b c i)).2.2.2 (i64.wrap (i+1)))))))else((bif !cI L n i (qJ a b c i)then(some ((aw [L.length=(dC n),(dC n)=(dC n),n=n,n=n,n=n,W.length=n,Bytes L,a<9223372036854775808,cF sc,54=54,L.length=(dC n),(dC n)=(dC n),Bytes L,L.length=(dC n),(dC n)=(dC n),n=n,n=n,n=n,W.length=n,a<9223372036854775808,cF sc]/\((true=true)/\Q (X.normal) (nR a b c n sc (eC a b c n sc (L,W,al) i (qJ a b c i) bA).2.1 (eC a b c n sc (L,W,al) i (qJ a b c i) bA).2.2.1 (eC a b c n sc (L,W,al) i (qJ a b c i) bA).2.2.2 (i64.wrap (i+1)))))))else(some ((aw [L.length=(dC n),(dC n)=(dC n),Bytes L,L.length=(dC n),(dC n)=(dC n),n=n,n=n,n=n,W.length=n,a<9223372036854775808,cF sc]/\((true=true)/\Q (X.normal) (nR a b c n sc L W al (i64.wrap (i+1)))))))))))))))else(some ((aw []/\((true=true)/\Q (X.exit 0) (nR a b c n sc L W al i))))))
theorem E3(a b c:Int)(n:Nat)(sc:Int)(L:aj)(W:List Bool)(al i:Int)(Q:ag):t31 a b c n sc L W al i Q=acZ a b c n sc L W al i Q:=by kernel_rfl
theorem UD(x:Int):0<=u8.wrap x/\u8.wrap x<256:=by rw[yK];omega
theorem Bytes.dv (t:Int):Bytes (dv t):=by
 intro x hx;unfold Sx.dv at hx;simp only[List.mem_cons,List.not_mem_nil,or_false]at hx;rcases hx with rfl|rfl|rfl|rfl<;>exact UD _
theorem Bytes.append {x y:aj}(h:Bytes x)(g:Bytes y):Bytes (x++y):=fun a ha=>by
 rcases List.mem_append.1 ha with h1|h1
 ·exact h a h1
 ·exact g a h1
theorem Bytes.next {k:Int}{b p:aj}(hk:cr k=true)(hp:Bytes p):Bytes (dw k b p):=by
 have hk':1<=k/\k<=6:=by simpa[cr]using hk
 unfold dw eh;rw[hk];show Bytes (dV _ _ _);unfold dV;refine hp.append (Bytes.append (Bytes.append ?_ (Bytes.dv _)) (Bytes.dv _));intro x hx;simp only[List.mem_cons,List.not_mem_nil,or_false]at hx;rcases hx with rfl|rfl<;>omega
theorem Bytes.aB {l x:aj}(o:Nat)(h:Bytes l)(g:Bytes x):Bytes (aB l o x):=by
 unfold Sx.aB;refine Bytes.append (Bytes.append ?_ g) ?_
 ·intro y hy;exact h y (List.mem_of_mem_take hy)
 ·intro y hy;exact h y (List.mem_of_mem_drop hy)
structure dS(n:Nat)(st:dA):Prop where
 len:st.1.length=64*n
 wro:st.2.1.length=n
 byt:Bytes st.1
theorem dS.wr {a b c:Int}{n:Nat}{sc:Int}{st:dA}{g k:Int}{p:aj}(h:dS n st)(hp:p.length=54)(hb:Bytes p):dS n (eC a b c n sc st g k p).2:=by
 unfold eC;split
 ·rename_i hs;simp only[Bool.and_eq_true]at hs;have hh:=dU.1 hs.1;split
  ·exact h
  ·split
   ·exact⟨h.len,h.wro,h.byt⟩
   ·refine⟨?_,by simp[h.wro],h.byt.aB _ (Bytes.next hs.2 hb)⟩
    show(aB st.1 _ _).length=_;rw[pJ (by rw[gi hp,h.len];omega)]
    exact h.len
 ·exact h
theorem u7:Bytes bA:=by
 have: ∀x∈bA,(0:Int)<=x/\x<256:=by decide
 exact this
theorem HW(g:Int):Bytes (eO g):=by
 unfold eO;split
 ·rename_i h;unfold ph at h;simp only[Bool.and_eq_true,decide_eq_true_eq]at h;intro x hx;rcases List.mem_cons.1 hx with rfl|hx
  ·omega
  ·have: ∀x∈(0::Xq:aj),(0:Int)<=x/\x<256:=by decide
   exact this x hx
 ·exact u7
theorem pX(a b c:Int):Bytes (sup a b c):=by
 unfold sup;split
 ·rename_i h;obtain⟨h1,h2,h3,h4,h5,h6⟩:=b8.1 h;intro x hx;have hz: ∀x∈Xo,(0:Int)<=x/\x<256:=by decide
  simp only[List.mem_cons]at hx;rcases hx with rfl|rfl|rfl|rfl|rfl|rfl|rfl|rfl|rfl|rfl|hx<;>first|exact hz x hx|omega
 ·exact u7
theorem n5(g:Int):(eO g).length=54:=by unfold eO;split<;>rfl
section
variable(a b c:Int)(n:Nat)(sc:Int)
def iD(st:dA)(i:Int):dA:=
 if cN a sc (pl a b c i).2.1 then
  if(pl a b c i).1==0 then st
  else if(pl a b c i).1==2 then(eC a b c n sc st i 2 (eO (pl a b c i).2.1)).2
  else if cI st.1 n i (pl a b c i).1 then st
  else(eC a b c n sc st i (pl a b c i).1 bA).2
 else st
def gd:Nat->dA->Int->dA
 | 0,st,_=>st
 |m+1,st,i=>gd m (iD a b c n sc st i) (i+1)
def lO(st:dA):dA:=gd a b c n sc (n - 2) (eC a b c n sc (eC a b c n sc st 0 1 (sup a b c)).2 1 1 (sup a b c)).2 2
end
section
variable{a b c:Int}{n:Nat}{sc:Int}
theorem dS.sec {st:dA}(h:dS n st)(i:Int):dS n (iD a b c n sc st i):=by
 unfold iD;split
 ·split
  ·exact h
  ·split
   ·exact h.wr (n5 _) (HW _)
   ·split
    ·exact h
    ·exact h.wr rfl u7
 ·exact h
theorem aaw{L:aj}{W:List Bool}{al i:Int}:(nR a b c n sc L W al i).nx<=3:=by
 have:(nR a b c n sc L W al i).nx=3:=by kernel_rfl
 omega
theorem abK(ha:a<9223372036854775808)(hsc:cF sc)(hn:n<9223372036854775807){Q:ag}: ∀(m:Nat) (i:Int) (st:dA),0<=i->i+m=n->dS n st->
  Q (.exit 0) (nR a b c n sc (gd a b c n sc m st i).1 (gd a b c n sc m st i).2.1 (gd a b c n sc m st i).2.2 n)->Tr prog 82 (.loop VL) (nR a b c n sc st.1 st.2.1 st.2.2 i) Q
 | 0,i,(L,W,al),h0,hi,hk,hq=>by
  obtain rfl:i=n:=by simpa using hi
  exact Tr.loop (Tr.QY wm aaw (.of_eq (E3 ..) (.no (by simp) ⟨trivial,rfl,hq⟩)))
 |m+1,i,(L,W,al),h0,hi,hk,hq=>by
  push_cast at hi
  have hw:i64.wrap (i+1)=i+1:=IntWalk.i64_in _ (by omega)
  have hl:=hk.len;have hW:=hk.wro;have hy:=hk.byt;have next: ∀st':dA,iD a b c n sc (L,W,al) i=st'->Tr prog 82 (.loop VL) (nR a b c n sc st'.1 st'.2.1 st'.2.2 (i+1)) Q:=fun st' e=>by
   subst e;exact abK ha hsc hn m (i+1) _ (by omega) (by omega) (hk.sec i) hq
  refine Tr.loop (Tr.QY wm aaw (.of_eq (E3 ..) (.yes (by simp;omega) ?_)))
  have e4:uT a b c i=eO (pl a b c i).2.1:=by
   show List.take 54 (List.drop 0 (aB bA 0 (eO _)))=_;rw[ck (n5 _)];exact aJ (n5 _)
  rw[e4,hw];refine .fork (fun h1=>⟨⟨hl,rfl,rfl,rfl,rfl,hW,ha,hsc,trivial⟩,rfl,next (L,W,al) ?_⟩) (fun h1=> .fork (fun h2=>⟨⟨hl,rfl,rfl,rfl,rfl,hW,ha,hsc,trivial⟩,rfl,next (L,W,al) ?_⟩) (fun h2=> .fork (fun h3=>⟨⟨hl,rfl,rfl,rfl,rfl,hW,hy,ha,hsc,n5 _,hl,rfl,rfl,rfl,rfl,hW,ha,hsc,trivial⟩,rfl,next (eC a b c n sc (L,W,al) i 2 (eO (pl a b c i).2.1)).2 ?_⟩)
   (fun h3=> .fork (fun h4=>⟨⟨hl,rfl,rfl,rfl,rfl,hW,hy,ha,hsc,rfl,hl,rfl,hy,hl,rfl,rfl,rfl,rfl,hW,ha,hsc,trivial⟩,rfl,next (eC a b c n sc (L,W,al) i (pl a b c i).1 bA).2 ?_⟩) (fun h4=>⟨⟨hl,rfl,hy,hl,rfl,rfl,rfl,rfl,hW,ha,hsc,trivial⟩,rfl,next (L,W,al) ?_⟩))))
  ·unfold iD;rw[show cN a sc (pl a b c i).2.1=false by simpa using h1];rfl
  ·unfold iD;rw[show cN a sc (pl a b c i).2.1=true by simpa using h1,h2];rfl
  ·unfold iD;rw[show cN a sc (pl a b c i).2.1=true by simpa using h1,h2,h3];rfl
  ·unfold iD;rw[show cN a sc (pl a b c i).2.1=true by simpa using h1,h2,h3,show cI (L,W,al).1 n i (pl a b c i).1=false by simpa using h4];rfl
  ·unfold iD;rw[show cN a sc (pl a b c i).2.1=true by simpa using h1,h2,h3,show cI (L,W,al).1 n i (pl a b c i).1=true by simpa using h4];rfl
theorem Qn:f20.body=some pY:=by kernel_rfl
theorem YU:setArgs 82 [.one (.c (.ptr 0 0))] 0 .nil some=some aaO:=by kernel_rfl
theorem AP{L:aj}{W:List Bool}{al i:Int}:ba prog 82 (nR a b c n sc L W al i) f20.results.toList=some []/\(nR a b c n sc L W al i).hp=dZ a b c n sc (L,W,al)/\(nR a b c n sc L W al i).nx=3:=⟨by kernel_rfl,by kernel_rfl,by kernel_rfl⟩
theorem Zv{st:dA}(ha:a<9223372036854775808)(hsc:cF sc)(h2:2<=n)(hn:n<9223372036854775807)(hk:dS n st):
  fC prog 20 [.one (.c (.ptr 0 0))] 3 (dZ a b c n sc st) (dZ a b c n sc (lO a b c n sc st)) (.aF []):=by
 obtain⟨L,W,al⟩:=st;refine Tr.mZ (fn:=f20) (c:=pY) func20 Qn (by rw[fA];exact gh) YU ?_
 have es:List.take 54 (List.drop 0 (aB bA 0 (sup a b c)))=sup a b c:=by
  rw[ck (gC _ _ _)];exact aJ (gC _ _ _)
 have k1:dS n (eC a b c n sc (L,W,al) 0 1 (sup a b c)).2:=hk.wr (gC _ _ _) (pX _ _ _);have k2:dS n (eC a b c n sc (eC a b c n sc (L,W,al) 0 1 (sup a b c)).2 1 1 (sup a b c)).2:=k1.wr (gC _ _ _) (pX _ _ _);refine Tr.abq ?_;refine TO.seq (c:=gL pY) (d:=gR pY) (TO.Bf (Tr.aP wm (.of_eq (OK ..) (.pS ⟨trivial,?_⟩))));refine TO.seq (c:=gL (gR pY)) (d:=gR (gR pY)) (TO.Bf (Tr.aP wm (.of_eq (QF ..) (.pS ⟨⟨hk.len,rfl,rfl,rfl,rfl,hk.wro,hk.byt,ha,hsc,by rw[es];exact gC _ _ _,trivial⟩,?_⟩))))
 rw[es];refine TO.seq (c:=gL (gR (gR pY))) (d:=aG 3 pY) (TO.Bf (Tr.aP wm (.of_eq (P1 ..) (.pS ⟨⟨k1.len,rfl,rfl,rfl,rfl,k1.wro,k1.byt,ha,hsc,by rw[es];exact gC _ _ _,trivial⟩,?_⟩))))
 rw[es];refine TO.seq (c:=gL (aG 3 pY)) (d:= .block 0 (.loop VL)) (TO.tree wm (k0:=3) (aH:= [0,4]) (ord:= []) rfl (.of_eq (Vk ..) (.pS ⟨trivial,rfl,?_⟩)));refine TO.Bf (Tr.block (abK ha hsc hn (n - 2) 2 _ (by omega) (by omega) k2 ?_))
 exact⟨.inl rfl,_,AP.1,rfl,AP.2.1,AP.2.2⟩
end
end Go.Sx
