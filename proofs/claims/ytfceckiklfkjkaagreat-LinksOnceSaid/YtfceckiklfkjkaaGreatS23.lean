import Derived.Test.YtfceckiklfkjkaaGreatS22
import Derived.Test.YtfceckiklfkjkaaGreatS16
import Derived.Test.YtfceckiklfkjkaaGreatS19
noncomputable section
set_option maxRecDepth 100000
open Go.IntKind(i64 u8 u64 u32 u16)
open Go.Proofs.Tryz
namespace Go.Sx
open Go.Proofs Go.RowKit
def dP(n:Nat)(g:Int):Bool:=decide (g>=0) && decide (g<(n:Int))
def xL(L:aj)(n:Nat)(g:Int):List Int:=if dP n g then bL L (g.toNat*64)else eN
def aR(L:aj)(n:Nat)(g k:Int):List Int:=if dP n g then cb k (bL L (g.toNat*64))else bA
def cI(L:aj)(n:Nat)(g k:Int):Bool:=dP n g &&(dh k (bL L (g.toNat*64))==0)
abbrev gn(n:Nat)(g:Int):Bool:=if true=true then decide (g<(n:Int))else false
abbrev ta(L:aj)(g:Int):List Int:=(L.drop (0+g.toNat*64)).take 64
section
variable(t0:TypeId)(op:Option Nat)(t1:TypeId)(a b c:Int)(L:aj)(N n:Nat)(sc al g k:Int)
def Vr(o:List (Nat×Bool)):Option (RV×List Prop):=cO prog OR 300 162 [.one (.c (.ptr 0 0)),.one (.c (.int .i64 g))] ⟨.nil,oT t0 op t1 a b c L N n sc al,3,[]⟩ ⟨0,o,[]⟩ fun v _ Z=>some (v,Z.ob)
theorem ac9:Vr t0 op t1 a b c L N n sc al g (tT [3,4,5,6,7,8,9,10]++((11,false)::tT [12,13,14]))=some (.one (.ints .u8 (t64 (aB eN 0 (ta L g))) 64),
 [decide (0+g.toNat*64+64<=N)=true,decide (0<=g/\g<(n:Int))=true,decide (n≠0)=true,(!gn n g)=false]++rep 8 (g0 g=true)):=by kernel_rfl
theorem adX:Vr t0 op t1 a b c L N n sc al g (tT [3,4,5,6,7,8,9,10,11])=some (.one (.ints .u8 eN 64),[(!gn n g)=true]++rep 8 (g0 g=true)):=by kernel_rfl
theorem aeP:Vr t0 op t1 a b c L N n sc al g (fF [3,4,5,6,7,8,9,10])=some (.one (.ints .u8 eN 64),rep 8 (g0 g=false)):=by kernel_rfl
def rLd(o:List (Nat×Bool)):Option (RV×List Prop):=cO prog OR 300 47 [.one (.c (.ptr 0 0)),.one (.c (.int .i64 g)),.one (.c (.int .i64 k))] ⟨.nil,oT t0 op t1 a b c L N n sc al,3,[]⟩ ⟨0,o,[]⟩ fun v _ Z=>some (v,Z.ob)
theorem agE:rLd t0 op t1 a b c L N n sc al g k (tT [3,4,5,6,7,8,9,10]++((11,false)::tT [12,13,14]))=some (.aF [.ints .u8 (t54 (aB bA 0 (t54 (aB bA 0 (cb k (ta L g)))))) 54,.c (.bool (dh k (ta L g)==0))],
 [decide (0+g.toNat*64+64<=N)=true,decide (0<=g/\g<(n:Int))=true,decide (n≠0)=true,(!gn n g)=false]++rep 8 (g0 g=true)):=by kernel_rfl
theorem afD:rLd t0 op t1 a b c L N n sc al g k (tT [3,4,5,6,7,8,9,10,11])=some (.aF [.ints .u8 bA 54,.c (.bool false)],[(!gn n g)=true]++rep 8 (g0 g=true)):=by kernel_rfl
theorem aeY:rLd t0 op t1 a b c L N n sc al g k (fF [3,4,5,6,7,8,9,10])=some (.aF [.ints .u8 bA 54,.c (.bool false)],rep 8 (g0 g=false)):=by kernel_rfl
end
def GV:bg:=fun args hp nx=>match args with
 | [.one (.c (.ptr nm 0)),.one (.c (.int .i64 g))]=>match rF hp.get nm with
  |some (_,_,_,L,N,n,_,_,_,_,_)=>some (.one (.ints .u8 (xL L n g) 64),hp,nx,[],[L.length=N,N=64*n])
  |none=>none
 |_=>none
def mB:bg:=fun args hp nx=>match args with
 | [.one (.c (.ptr nm 0)),.one (.c (.int .i64 g)),.one (.c (.int .i64 k))]=>match rF hp.get nm with
  |some (_,_,_,L,N,n,_,_,_,_,_)=>some (.aF [.ints .u8 (aR L n g k) 54,.c (.bool (cI L n g k))],hp,nx,[],[L.length=N,N=64*n])
  |none=>none
 |_=>none
theorem vf{L:aj}{N n:Nat}{g:Int}(hl:L.length=N)(hN:N=64*n)(h0:decide (g>=0)=true)(h1:decide (g<(n:Int))=true):
  g.toNat*64+64<=L.length/\aw ([decide (0+g.toNat*64+64<=N)=true,decide (0<=g/\g<(n:Int))=true,decide (n≠0)=true,(!gn n g)=false]++rep 8 (g0 g=true)):=by
 have e0:g>=0:=of_decide_eq_true h0;have e1:g<(n:Int):=of_decide_eq_true h1;have e2:gn n g=true:=by simp[gn];exact e1
 have e3:g0 g=true:=by simp[g0];exact e0
 have:g.toNat<n:=by omega
 refine⟨by omega,(bH _ _).2 ⟨⟨decide_eq_true (by omega),decide_eq_true ⟨e0,e1⟩,decide_eq_true (by omega),by rw[e2];rfl,trivial⟩,cS e3 8⟩⟩
theorem Rr:aI prog 162 GV:=by
 intro args s v hp nx lg ps ht h bB;unfold GV at h;split at h<;>try(cases h;done)
 rename_i nm g;split at h<;>try(cases h;done)
 rename_i a b c L N n sc al t0 op t1 hi;simp only[ae,af]at h;obtain⟨rfl,rfl,rfl,rfl,rfl⟩:=h;obtain⟨hl,hN,_⟩:=bB;obtain⟨θ,e0,hin⟩:=qi hi;have fin:=fun(v:RV) (hv:ej v=true) h0=>aU.small (P:=prog) (f:=162) (args:= [.one (.c (.ptr 0 0)),.one (.c (.int .i64 g))]) (v:=v) (k:=3) (hs:=oT t0 op t1 a b c L N n sc al) (θ:=θ) (s:=s) ht ⟨_,func162,rfl⟩ h0 hin (by rfl) hv
 have ea:([.one (.c (.ptr 0 0)),.one (.c (.int .i64 g))]:List RV).map (dB θ)= [.one (.c (.ptr nm 0)),.one (.c (.int .i64 g))]:=by simp[dB,jq,jy,e0]
 rw[ea]at fin;have e1:g0 g=decide (g>=0):=by simp[g0]
 have e2:gn n g=decide (g<(n:Int)):=by simp[gn]
 cases h0:decide (g>=0)with
 |false=>
  rw[show xL L n g=eN by unfold xL dP;rw[h0];rfl]
  exact fin _ (by rfl) (fx sn gA (aeP t0 op t1 a b c L N n sc al g) (cS (by rw[e1,h0]) 8))
 |true=>
  cases h1:decide (g<(n:Int))with
  |false=>
   rw[show xL L n g=eN by unfold xL dP;rw[h0,h1];rfl]
   exact fin _ (by rfl) (fx sn gA (adX t0 op t1 a b c L N n sc al g) ((bH _ _).2 ⟨⟨by rw[e2,h1];rfl,trivial⟩,cS (by rw[e1,h0]) 8⟩))
  |true=>
   obtain⟨f1,f2⟩:=vf hl hN h0 h1;have hr:=ac9 t0 op t1 a b c L N n sc al g;have hb:=ig f1;rw[show ta L g=bL L (g.toNat*64)by rw[ta,Nat.zero_add];rfl,iE hb,t64,aJ hb]at hr
   rw[show xL L n g=bL L (g.toNat*64)by unfold xL dP;rw[h0,h1];rfl]
   exact fin _ (by rfl) (fx sn gA hr f2)
theorem jx:aI prog 47 mB:=by
 intro args s v hp nx lg ps ht h bB;unfold mB at h;split at h<;>try(cases h;done)
 rename_i nm g k;split at h<;>try(cases h;done)
 rename_i a b c L N n sc al t0 op t1 hi;simp only[ae,af]at h;obtain⟨rfl,rfl,rfl,rfl,rfl⟩:=h;obtain⟨hl,hN,_⟩:=bB;obtain⟨θ,e0,hin⟩:=qi hi;have fin:=fun(v:RV) (hv:ej v=true) h0=>aU.small (P:=prog) (f:=47) (args:= [.one (.c (.ptr 0 0)),.one (.c (.int .i64 g)),.one (.c (.int .i64 k))]) (v:=v) (k:=3) (hs:=oT t0 op t1 a b c L N n sc al) (θ:=θ) (s:=s) ht ⟨_,func47,rfl⟩ h0 hin (by rfl) hv
 have ea:([.one (.c (.ptr 0 0)),.one (.c (.int .i64 g)),.one (.c (.int .i64 k))]:List RV).map (dB θ)= [.one (.c (.ptr nm 0)),.one (.c (.int .i64 g)),.one (.c (.int .i64 k))]:=by simp[dB,jq,jy,e0]
 rw[ea]at fin;have e1:g0 g=decide (g>=0):=by simp[g0]
 have e2:gn n g=decide (g<(n:Int)):=by simp[gn]
 cases h0:decide (g>=0)with
 |false=>
  rw[show aR L n g k=bA by unfold aR dP;rw[h0];rfl,show cI L n g k=false by unfold cI dP;rw[h0];rfl]
  exact fin _ (by rfl) (fx sn gA (aeY t0 op t1 a b c L N n sc al g k) (cS (by rw[e1,h0]) 8))
 |true=>
  cases h1:decide (g<(n:Int))with
  |false=>
   rw[show aR L n g k=bA by unfold aR dP;rw[h0,h1];rfl,show cI L n g k=false by unfold cI dP;rw[h0,h1];rfl]
   exact fin _ (by rfl) (fx sn gA (afD t0 op t1 a b c L N n sc al g k) ((bH _ _).2 ⟨⟨by rw[e2,h1];rfl,trivial⟩,cS (by rw[e1,h0]) 8⟩))
  |true=>
   obtain⟨f1,f2⟩:=vf hl hN h0 h1;have hr:=agE t0 op t1 a b c L N n sc al g k;have hb:=jn (kind:=k) (ig f1);rw[show ta L g=bL L (g.toNat*64)by rw[ta,Nat.zero_add];rfl,ck hb,show t54 (cb k (bL L (g.toNat*64)))=_ from aJ hb,ck hb,show t54 (cb k (bL L (g.toNat*64)))=_ from aJ hb]at hr
   rw[show aR L n g k=cb k (bL L (g.toNat*64))by unfold aR dP;rw[h0,h1];rfl,show cI L n g k=(dh k (bL L (g.toNat*64))==0)by unfold cI dP;rw[h0,h1];rfl]
   exact fin _ (by rfl) (fx sn gA hr f2)
def sgW:FuncId->Option bg:=fun f=>match f with
 | 44=>some sI| 162=>some GV| 47=>some mB| 150=>some (aL Nk)| 151=>some (aL mY)| 82=>some (aL mY)| 73=>some vU|_=>none
theorem yj:Fit prog (fun f=>(sgW f).map bj):=⟨bM,aV,aI.sum fun f sm h=>by
 unfold sgW at h;split at h
 ·cases h;exact pE
 ·cases h;exact Rr
 ·cases h;exact jx
 ·cases h;exact T1.sum ⟨_,func150,rfl⟩
 ·cases h;exact(kP 151 sq).sum ⟨_,func151,rfl⟩
 ·cases h;exact(kP 82 sf).sum ⟨_,func82,rfl⟩
 ·cases h;exact zO
 ·cases h⟩
end Go.Sx
namespace Go.Sx
open Go.Proofs Go.RowKit
def jc(a b c:Int)(L:aj)(n:Nat)(sc al:Int)(l:ak):T ax:=aN [(0,.row 113 false none (.cells (tj a b c n sc al))),(1,.row 95 false (some 64) (.ints .u8 L (64*n))),(2,.aQ none l)]
def OG:Code:=gB 78
theorem Rf:f78.body=some OG:=by kernel_rfl
def Ae(g k:Int)(p:aj):List RV:= [.one (.c (.ptr 0 0)),.one (.c (.int .i64 g)),.one (.c (.int .i64 k)),.one (.ints .u8 p 54)]
def aby(g k:Int)(p:aj):T RV:=match setArgs 84 (Ae g k p) 0 .nil some with|some t=>t|none=> .nil
theorem X7(g k:Int)(p:aj):setArgs 84 (Ae g k p) 0 .nil some=some (aby g k p):=by kernel_rfl
section
variable(a b c:Int)(L p:aj)(n:Nat)(sc al g k:Int)(l:ak)
def Xk:S:=⟨aby g k p,jc a b c L n sc al l,3,[]⟩
def lk(v:Bool):S:=low 84 3 (aE [8] 84 ⟨aN [(8,.one (.c (.bool v)))],jc a b c L n sc al l,3,[]⟩)
theorem acR(v:Bool):ba prog 84 (lk a b c L n sc al l v) f78.results.toList=some [.c (.bool v)]:=by kernel_rfl
def oG(o:List (Nat×Bool)):Option (X×Bool×S×List Prop):=az prog sgW 300 84 OG (Xk a b c L p n sc al g k l) ⟨0,o,[]⟩ fun x s Z=>some (x,Nat.ble 3 s.nx,low 84 3 (aE [8] 84 s),Z.ob)
abbrev eqP:Bool:=if true=true then List.take 54 (List.drop 0 (aB bA 0 (aR L n g k)))==List.take 54 (List.drop 0 p)else false
abbrev t25:List Prop:= [L.length=64*n,64*n=64*n,(!gn n g)=false]++rep 8 (g0 g=true)
abbrev km:List Prop:= [decide (0+g.toNat*64+64<=64*n)=true,decide (0<=g/\g<(n:Int))=true,decide (n≠0)=true]
abbrev u1:List Prop:= [eqP L p n g k=false]++rep 4 (cI L n g k=true)
abbrev u2:List Prop:=rep 4 (cI L n g k=false)
abbrev sQ:List Int:=aB L (0+g.toNat*64) (List.take 64 (List.drop 0 (aB eN 0 (dw k (List.take 64 (List.drop (0+g.toNat*64) L)) (List.take 54 (List.drop 0 p))))))
abbrev oS:Bool:=if true=true then !cN a sc (pl a b c g).2.1 else false
abbrev h25:List (Nat×Bool):=tT [3,4,5,6,7,8,9,10]++ [(11,false)]
abbrev k1:List (Nat×Bool):=h25++(tT [13,15,17,18]++((19,false)::tT [20,21,22]))
abbrev k2:List (Nat×Bool):=h25++(fF [13,14,15,16]++tT [18,19,20])
theorem agh:oG a b c L p n sc al g k l (h25++tT [13,15,17,18,19])=some (.ret,true,lk a b c L n sc al l true,[eqP L p n g k=true]++(rep 4 (cI L n g k=true)++t25 L n g)):=by kernel_rfl
theorem ae6:oG a b c L p n sc al g k l (k1++ [(25,true)])=some (.ret,true,lk a b c L n sc al l false,[(cP k !=0)=true]++(km n g++(u1 L p n g k++t25 L n g))):=by kernel_rfl
theorem agt:oG a b c L p n sc al g k l (k1++((25,false)::(tT [26,27,28,29,30,31]++ [(32,true)])))=some (.ret,true,lk a b c L n sc (i64.wrap (al+1)) l false,[oS a b c sc g=true]++(rep 6 (decide (g>=2)=true)++([(cP k !=0)=false]++(km n g++(u1 L p n g k++t25 L n g))))):=by kernel_rfl
theorem afP:oG a b c L p n sc al g k l (k1++((25,false)::(tT [26,27,28,29,30,31]++((32,false)::tT [34,35,36]))))=some (.ret,true,lk a b c (sQ L p g k) n sc al (bC l g 1) true,km n g++([oS a b c sc g=false]++(rep 6 (decide (g>=2)=true)++([(cP k !=0)=false]++(km n g++(u1 L p n g k++t25 L n g)))))):=by kernel_rfl
theorem afO:oG a b c L p n sc al g k l (k1++((25,false)::(fF [26,27,28,29,30,31]++tT [34,35,36])))=some (.ret,true,lk a b c (sQ L p g k) n sc al (bC l g 1) true,km n g++(rep 6 (decide (g>=2)=false)++([(cP k !=0)=false]++(km n g++(u1 L p n g k++t25 L n g))))):=by kernel_rfl
theorem ae1:oG a b c L p n sc al g k l (k2++ [(23,true)])=some (.ret,true,lk a b c L n sc al l false,[(cP k !=0)=true]++(km n g++(u2 L n g k++t25 L n g))):=by kernel_rfl
theorem af6:oG a b c L p n sc al g k l (k2++((23,false)::(tT [24,25,26,27,28,29]++ [(30,true)])))=some (.ret,true,lk a b c L n sc (i64.wrap (al+1)) l false,[oS a b c sc g=true]++(rep 6 (decide (g>=2)=true)++([(cP k !=0)=false]++(km n g++(u2 L n g k++t25 L n g))))):=by kernel_rfl
theorem af4:oG a b c L p n sc al g k l (k2++((23,false)::(tT [24,25,26,27,28,29]++((30,false)::tT [32,33,34]))))=some (.ret,true,lk a b c (sQ L p g k) n sc al (bC l g 1) true,km n g++([oS a b c sc g=false]++(rep 6 (decide (g>=2)=true)++([(cP k !=0)=false]++(km n g++(u2 L n g k++t25 L n g)))))):=by kernel_rfl
theorem ae9:oG a b c L p n sc al g k l (k2++((23,false)::(fF [24,25,26,27,28,29]++tT [32,33,34])))=some (.ret,true,lk a b c (sQ L p g k) n sc al (bC l g 1) true,km n g++(rep 6 (decide (g>=2)=false)++([(cP k !=0)=false]++(km n g++(u2 L n g k++t25 L n g))))):=by kernel_rfl
theorem agB:oG a b c L p n sc al g k l (tT [3,4,5,6,7,8,9,10,11])=some (.ret,true,lk a b c L n sc al l false,[(!gn n g)=true]++rep 8 (g0 g=true)):=by kernel_rfl
theorem ae3:oG a b c L p n sc al g k l (fF [3,4,5,6,7,8,9,10])=some (.ret,true,lk a b c L n sc al l false,rep 8 (g0 g=false)):=by kernel_rfl
end
end Go.Sx
namespace Go.Sx
open Go.Proofs Go.RowKit
def bF(a b c:Int)(n:Nat)(sc al:Int)(L:aj)(l:ak)(g k:Int)(p:aj):Bool×List Int×List (Int×Int)×Int:=
 if dP n g then
  if cI L n g k &&(aR L n g k==p)then(true,L,l,al)
  else if cP k !=0 then(false,L,l,al)
  else if decide (g>=2) && !cN a sc (pl a b c g).2.1 then(false,L,l,i64.wrap (al+1))
  else(true,aB L (g.toNat*64) (dw k (bL L (g.toNat*64)) p),bC l g 1,al)
 else(false,L,l,al)
theorem bJ(a b c:Int)(L:aj)(n:Nat)(sc al:Int)(l:ak):jc a b c L n sc al l=T.node (T.node .nil (some (.row 95 false (some 64) (.ints .u8 L (64*n)))) .nil) (some (.row 113 false none (.cells (tj a b c n sc al)))) (T.node .nil (some (.aQ none l)) .nil):=by kernel_rfl
theorem cy{x y z u:ax}{nm:Nat}(h:(T.node (T.node .nil (some y) .nil) (some x) (T.node .nil (some u) .nil):T ax).get nm=some z):(nm=0/\z=x)\/(nm=1/\z=y)\/(nm=2/\z=u):=by
 rw[T.dq]at h;by_cases e:nm=0
 ·rw[if_pos e]at h;cases h;exact .inl ⟨e,rfl⟩
 ·rw[if_neg e]at h;by_cases e2:nm % 2=1
  ·rw[if_pos e2]at h;obtain⟨h1,h2⟩:=mj h;exact .inr (.inl ⟨by omega,h2⟩)
  ·rw[if_neg e2]at h;obtain⟨h1,h2⟩:=mj h;exact .inr (.inr ⟨by omega,h2⟩)
theorem gh{x y u:ax}:cJ ⟨.nil,(T.node (T.node .nil (some y) .nil) (some x) (T.node .nil (some u) .nil):T ax),3,[]⟩:=fun nm h=>by
 cases hh:(T.node (T.node .nil (some y) .nil) (some x) (T.node .nil (some u) .nil):T ax).get nm with
 |none=>rfl
 |some z=>
  have h':3<=nm:=h;rcases cy hh with⟨h1,_⟩|⟨h1,_⟩|⟨h1,_⟩<;>omega
section
variable(a b c:Int)(L p:aj)(n:Nat)(sc al g k:Int)(l:ak)
theorem aaR(v:Bool):(lk a b c L n sc al l v).hp=jc a b c L n sc al l:=by kernel_rfl
theorem aab(v:Bool):(lk a b c L n sc al l v).nx=3:=by kernel_rfl
theorem ZS:(Xk a b c L p n sc al g k l).nx<=3:=Nat.le_refl _
end
theorem gi{k:Int}{b p:aj}(hp:p.length=54):(dw k b p).length=64:=iu hp
section
variable{a b c:Int}{L p:aj}{n:Nat}{sc al g k:Int}{l:ak}
abbrev Mf(a b c:Int)(n:Nat)(sc:Int)(r:Bool×List Int×List (Int×Int)×Int):X->S->Prop:=fun x s1=>(x= .normal\/x= .ret)/\∃q,ba prog 84 s1 f78.results.toList=some q/\(c6 q= .one (.c (.bool r.1))/\s1.hp=jc a b c r.2.1 n sc r.2.2.2 r.2.2.1/\s1.nx=3)
theorem sF(v:Bool):Mf a b c n sc (v,L,l,al) .ret (lk a b c L n sc al l v):=⟨.inr rfl,_,acR a b c L n sc al l v,rfl,aaR a b c L n sc al l v,aab a b c L n sc al l v⟩
theorem acA(hl:L.length=64*n)(hp:p.length=54):Tr prog 84 OG (Xk a b c L p n sc al g k l) (Mf a b c n sc (bF a b c n sc al L l g k p)):=by
 have hnx:=ZS a b c L p n sc al g k l;have e1:g0 g=decide (g>=0):=by simp[g0]
 have e2:gn n g=decide (g<(n:Int)):=by simp[gn]
 cases h0:decide (g>=0)with
 |false=>
  rw[show bF a b c n sc al L l g k p=(false,L,l,al)by unfold bF dP;rw[h0];rfl]
  exact Tr.eG yj hnx (ae3 a b c L p n sc al g k l) (cS (by rw[e1,h0]) 8) (sF false)
 |true=>
  cases h1:decide (g<(n:Int))with
  |false=>
   rw[show bF a b c n sc al L l g k p=(false,L,l,al)by unfold bF dP;rw[h0,h1];rfl]
   exact Tr.eG yj hnx (agB a b c L p n sc al g k l) ((bH _ _).2 ⟨⟨by rw[e2,h1];rfl,trivial⟩,cS (by rw[e1,h0]) 8⟩) (sF false)
  |true=>
   have hs:dP n g=true:=by unfold dP;rw[h0,h1];rfl
   obtain⟨f1,f2⟩:=vf hl rfl h0 h1;obtain⟨⟨d1,d2,d3,d4,_⟩,d5⟩:=(bH _ _).1 f2;have ht:aw (t25 L n g):=(bH _ _).2 ⟨⟨hl,rfl,d4,trivial⟩,d5⟩;have hb:aw (km n g):=⟨d1,d2,d3,trivial⟩;have ho:eqP L p n g k=(aR L n g k==p):=by
    have hq:(aR L n g k).length=54:=by
     unfold aR;rw[hs];exact jn (ig f1)
    show(if true=true then List.take 54 (List.drop 0 (aB bA 0 (aR L n g k)))==List.take 54 (List.drop 0 p)else false)=_
    rw[if_pos rfl,ck hq,aJ hq,aJ hp]
   have hN:sQ L p g k=aB L (g.toNat*64) (dw k (bL L (g.toNat*64)) p):=by
    show aB L (0+g.toNat*64) (List.take 64 (List.drop 0 (aB eN 0 (dw k (List.take 64 (List.drop (0+g.toNat*64) L)) (List.take 54 (List.drop 0 p))))))=_;rw[Nat.zero_add,aJ hp,iE (gi hp),aJ (gi hp)]
    rfl
   have hoS:oS a b c sc g= !cN a sc (pl a b c g).2.1:=by simp[oS]
   have go: ∀(u:List Prop),aw u->(cI L n g k &&(aR L n g k==p))=false->∀(pk po pi ps:List (Nat×Bool)),
     oG a b c L p n sc al g k l pk=some (.ret,true,lk a b c L n sc al l false,[(cP k !=0)=true]++(km n g++(u++t25 L n g)))->
     oG a b c L p n sc al g k l po=some (.ret,true,lk a b c L n sc (i64.wrap (al+1)) l false,[oS a b c sc g=true]++(rep 6 (decide (g>=2)=true)++([(cP k !=0)=false]++(km n g++(u++t25 L n g)))))->
     oG a b c L p n sc al g k l pi=some (.ret,true,lk a b c (sQ L p g k) n sc al (bC l g 1) true,km n g++([oS a b c sc g=false]++(rep 6 (decide (g>=2)=true)++([(cP k !=0)=false]++(km n g++(u++t25 L n g))))))->
     oG a b c L p n sc al g k l ps=some (.ret,true,lk a b c (sQ L p g k) n sc al (bC l g 1) true,km n g++(rep 6 (decide (g>=2)=false)++([(cP k !=0)=false]++(km n g++(u++t25 L n g)))))->
     Tr prog 84 OG (Xk a b c L p n sc al g k l) (Mf a b c n sc (bF a b c n sc al L l g k p)):=fun u hu bT pk po pi ps hk hout hin hsm=>by
    have hA:aw (km n g++(u++t25 L n g)):=(bH _ _).2 ⟨hb,(bH _ _).2 ⟨hu,ht⟩⟩;cases hK:(cP k !=0)with
    |true=>
     rw[show bF a b c n sc al L l g k p=(false,L,l,al)by unfold bF;rw[hs,bT,hK];rfl]
     exact Tr.eG yj hnx hk ((bH _ _).2 ⟨⟨hK,trivial⟩,hA⟩) (sF false)
    |false=>
     have hB:aw ([(cP k !=0)=false]++(km n g++(u++t25 L n g))):=(bH _ _).2 ⟨⟨hK,trivial⟩,hA⟩;cases h2:decide (g>=2)with
     |false=>
      rw[show bF a b c n sc al L l g k p=(true,aB L (g.toNat*64) (dw k (bL L (g.toNat*64)) p),bC l g 1,al)by unfold bF;rw[hs,bT,hK,h2];rfl]
      rw[hN]at hsm;exact Tr.eG yj hnx hsm ((bH _ _).2 ⟨hb,(bH _ _).2 ⟨cS h2 6,hB⟩⟩) (sF true)
     |true=>
      have hC:=(bH _ _).2 ⟨cS h2 6,hB⟩;cases h3:cN a sc (pl a b c g).2.1 with
      |false=>
       rw[show bF a b c n sc al L l g k p=(false,L,l,i64.wrap (al+1))by unfold bF;rw[hs,bT,hK,h2,h3];rfl]
       exact Tr.eG yj hnx hout ((bH _ _).2 ⟨⟨by rw[hoS,h3];rfl,trivial⟩,hC⟩) (sF false)
      |true=>
       rw[show bF a b c n sc al L l g k p=(true,aB L (g.toNat*64) (dw k (bL L (g.toNat*64)) p),bC l g 1,al)by unfold bF;rw[hs,bT,hK,h2,h3];rfl]
       rw[hN]at hin;exact Tr.eG yj hnx hin ((bH _ _).2 ⟨hb,(bH _ _).2 ⟨⟨by rw[hoS,h3];rfl,trivial⟩,hC⟩⟩) (sF true)
   cases hk:cI L n g k with
   |false=>exact go (u2 L n g k) (cS hk 4) (by rw[hk];rfl) _ _ _ _ (ae1 a b c L p n sc al g k l) (af6 a b c L p n sc al g k l) (af4 a b c L p n sc al g k l) (ae9 a b c L p n sc al g k l)
   |true=>
    cases hq:(aR L n g k==p)with
    |false=>exact go (u1 L p n g k) ((bH _ _).2 ⟨⟨by rw[ho,hq],trivial⟩,cS hk 4⟩) (by rw[hk,hq];rfl) _ _ _ _ (ae6 a b c L p n sc al g k l) (agt a b c L p n sc al g k l) (afP a b c L p n sc al g k l) (afO a b c L p n sc al g k l)
    |true=>
     rw[show bF a b c n sc al L l g k p=(true,L,l,al)by unfold bF;rw[hs,hk,hq];rfl]
     exact Tr.eG yj hnx (agh a b c L p n sc al g k l) ((bH _ _).2 ⟨⟨by rw[ho,hq],trivial⟩,(bH _ _).2 ⟨cS hk 4,ht⟩⟩) (sF true)
theorem XJ(hl:L.length=64*n)(hp:p.length=54):fC prog 78 (Ae g k p) 3 (jc a b c L n sc al l) (jc a b c (bF a b c n sc al L l g k p).2.1 n sc (bF a b c n sc al L l g k p).2.2.2 (bF a b c n sc al L l g k p).2.2.1) (.one (.c (.bool (bF a b c n sc al L l g k p).1))):=
 Tr.mZ (fn:=f78) (c:=OG) func78 Rf (by rw[bJ];exact gh) (X7 g k p) (acA hl hp)
end
end Go.Sx
namespace Go.Sx
open Go.Proofs Go.RowKit
theorem aU.WI {P:Program}{f:FuncId}{args:List RV}{s s':S}{v:RV}{Lw:List Nat}{t0:T ax}{nw:Nat}{l:ak}(h:aU P f args {s with hp:=t0} v s' Lw)
  (hw:nw∈Lw) (ho:s.hp.get nw=some (.aQ none l)\/(l= []/\s.hp.get nw=some (.map []))) (hg: ∀j,t0.get j=if j=nw then some (.aQ none l)else s.hp.get j):aU P f args s v s' Lw:=by
 have bT: ∀j,j≠nw->t0.get j=s.hp.get j:=fun j hj=>by rw[hg,if_neg hj]
 have hnw:t0.get nw=some (.aQ none l):=by rw[hg,if_pos rfl]
 have hto: ∀(ρ:aM) (c:Nat) (o:Obj) (x:ax),s.hp.get nw=some x->cD ρ c x o->cD ρ c (.aQ none l) o:=fun ρ c o x hx hb=>by
  rcases ho with e|⟨rfl,e⟩
  ·rw[e]at hx;cases hx;exact hb
  ·rw[e]at hx;cases hx;exact hb
 have hold: ∃x,s.hp.get nw=some x/\x.wr=true:=by
  rcases ho with e|⟨rfl,e⟩
  ·exact⟨_,e,rfl⟩
  ·exact⟨_,e,rfl⟩
 refine⟨h.fn,h.sl,⟨h.abs.lg,h.abs.le,fun nm h1 h2=> ?_,h.abs.top,h.abs.lt⟩,fun ρ w vs hr hf ha=> ?_⟩
 ·rw[h.abs.aH nm h1 h2];exact bT nm (fun e=>h2 (e▸hw))
 ·have hr':bu ρ t0.get w:=⟨fun nm x hx=>by
   by_cases e:nm=nw
   ·subst e;rw[hnw]at hx;cases hx;obtain⟨x0,e0,_⟩:=hold;obtain⟨b,c,o,g1,g2,g3⟩:=hr.ok _ _ e0;exact⟨b,c,o,g1,g2,hto _ _ _ _ e0 g3⟩
   ·rw[bT nm e]at hx;exact hr.ok nm x hx,fun nm nm' x y b c c' hx hy hw1 e1 e2=>by
   obtain⟨x0,o1,o2⟩:=hold;by_cases e:nm=nw
   ·subst e;by_cases e':nm'=nm
    ·exact e'.symm
    ·rw[bT nm' e']at hy;exact hr.inj _ _ _ _ b c c' o1 hy o2 e1 e2
   ·rw[bT nm e]at hx;by_cases e':nm'=nw
    ·subst e';exact hr.inj _ _ _ _ b c c' hx o1 hw1 e1 e2
    ·rw[bT nm' e']at hy;exact hr.inj _ _ _ _ b c c' hx hy hw1 e1 e2,
   hr.fz.of (fun _ _ h=>h) (fun _ _ _=>rfl) fun nm x b c hx hw1 e1=> .inl (by
   obtain⟨x0,o1,o2⟩:=hold;by_cases e:nm=nw
   ·subst e;exact⟨_,x0,c,o1,o2,e1⟩
   ·rw[bT nm e]at hx;exact⟨nm,x,c,hx,hw1,e1⟩)⟩
  refine(h.run ρ w vs hr' hf ha).mono fun e w' ⟨V,ρ',e1,e2,e3,e4,st⟩=>⟨V,ρ',e1,e2,e3,e4,st.le,st.rho,fun nm h1 h2=> ?_,st.size,st.frame,st.new,fun nm h1 h2=> ?_,st.os,st.tape,st.al,st.je,st.fzn⟩
  ·rw[st.aH nm h1 h2];exact bT nm (fun e=>h2 (e▸hw))
  ·by_cases e:nm=nw
   ·subst e;exact hold
   ·have:=st.aq nm h1 h2;obtain⟨x,g1,g2⟩:=this;exact⟨x,by rw[<-bT nm e];exact g1,g2⟩
def mH(hp:Hp)(nm:Nat):Option (Int×Int×Int×List Int×Nat×Nat×Int×Int×List (Int×Int)×Nat×Nat):=
 match bn hp nm with
 |some (113,false,none,.cells [.int .i64 a,.int .i64 b,.int .i64 c,.aC nl 64 0 n,.int .u32 sc,.map nw,.int .i64 al])=>match bn hp nl with
  |some (95,false,some 64,.ints .u8 L N)=>match hp nw with
   |some (.aQ none l)=>some (a,b,c,L,N,n,sc,al,l,nl,nw)
   |some (.map [])=>some (a,b,c,L,N,n,sc,al,[],nl,nw)
   |_=>none
  |_=>none
 |_=>none
theorem rW{hp:T ax}{nm:Nat}{a b c:Int}{L:aj}{N n:Nat}{sc al:Int}{l:ak}{nl nw:Nat}(h:mH hp.get nm=some (a,b,c,L,N,n,sc,al,l,nl,nw)):
  hp.get nm=some (.row 113 false none (.cells [.int .i64 a,.int .i64 b,.int .i64 c,.aC nl 64 0 n,.int .u32 sc,.map nw,.int .i64 al]))/\hp.get nl=some (.row 95 false (some 64) (.ints .u8 L N))/\(hp.get nw=some (.aQ none l)\/(l= []/\hp.get nw=some (.map []))):=by
 unfold mH at h;split at h<;>try(cases h;done)
 rename_i h0;split at h<;>try(cases h;done)
 rename_i h1;split at h<;>try(cases h;done)
 ·rename_i h2;cases h;exact⟨cT h0,cT h1,.inl h2⟩
 ·rename_i h2;cases h;exact⟨cT h0,cT h1,.inr ⟨rfl,h2⟩⟩
def p8:bg:=fun args hp nx=>match args with
 | [.one (.c (.ptr nm 0)),.one (.c (.int .i64 g)),.one (.c (.int .i64 k)),.one (.ints .u8 p 54)]=>match mH hp.get nm with
  |some (a,b,c,L,N,n,sc,al,l,nl,nw)=>
   match Nat.blt nm nx,Nat.blt nl nx,Nat.blt nw nx with
   |true,true,true=>
    T.set depth hp nw (some (.aQ none l)) fun hp=>
    T.set depth hp nm (some (.row 113 false none (.cells [.int .i64 a,.int .i64 b,.int .i64 c,.aC nl 64 0 n,.int .u32 sc,.map nw,.int .i64 (bF a b c n sc al L l g k p).2.2.2]))) fun hp=>
    T.set depth hp nl (some (.row 95 false (some 64) (.ints .u8 (bF a b c n sc al L l g k p).2.1 N))) fun hp=>
    T.set depth hp nw (some (.aQ none (bF a b c n sc al L l g k p).2.2.1)) fun hp=>
    some (.one (.c (.bool (bF a b c n sc al L l g k p).1)),hp,nx,[nm,nl,nw],[L.length=N,N=64*n,p.length=54])
   |_,_,_=>none
  |none=>none
 |_=>none
theorem mi:aI prog 78 p8:=by
 intro args s v hp nx lg ps ht h bB;unfold p8 at h;split at h<;>try(cases h;done)
 rename_i nm g k p;split at h<;>try(cases h;done)
 rename_i a b c L N n sc al l nl nw hi;split at h<;>try(cases h;done)
 rename_i b1 b2 b3;obtain⟨h1,h2,h3⟩:=rW hi;have n1:nm<s.nx:=ew b1;have n2:nl<s.nx:=ew b2;have n3:nw<s.nx:=ew b3;have d1:nm≠nl:=fun e=>by subst e;rw[h1]at h2;cases h2
 have d2:nm≠nw:=fun e=>by subst e;rw[h1]at h3;rcases h3 with h3|⟨_,h3⟩<;>cases h3
 have d3:nl≠nw:=fun e=>by subst e;rw[h2]at h3;rcases h3 with h3|⟨_,h3⟩<;>cases h3
 obtain⟨t0,h,q0⟩:=T.bR _ _ _ _ _ _ h;obtain⟨t1,h,q1⟩:=T.bR _ _ _ _ _ _ h;obtain⟨t2,h,q2⟩:=T.bR _ _ _ _ _ _ h;obtain⟨t3,h,q3⟩:=T.bR _ _ _ _ _ _ h;simp only[ae,af]at h;obtain⟨rfl,rfl,rfl,rfl,rfl⟩:=h;obtain⟨hl,hN,hp',_⟩:=bB;subst hN;have ht0:cJ {s with hp:=t0}:=fun j hj=>by
  show t0.get j=none;have:s.nx<=j:=hj;rw[q0 j,if_neg (by omega)]
  exact ht j hj
 have g1:t0.get nm=_:=(q0 nm).trans ((if_neg d2).trans h1);have g2:t0.get nl=_:=(q0 nl).trans ((if_neg d3).trans h2);have g3:t0.get nw=some (.aQ none l):=(q0 nw).trans (if_pos rfl);have hget: ∀j,t3.get j=if j=nw then some (.aQ none (bF a b c n sc al L l g k p).2.2.1)else if j=nl then some (.row 95 false (some 64) (.ints .u8 (bF a b c n sc al L l g k p).2.1 (64*n)))else if j=nm then some (.row 113 false none (.cells [.int .i64 a,.int .i64 b,.int .i64 c,.aC nl 64 0 n,.int .u32 sc,.map nw,.int .i64 (bF a b c n sc al L l g k p).2.2.2]))else t0.get j:=fun j=>by
  rw[q3 j,q2 j,q1 j]
 let θ:Nat->Nat:=fun i=>if i=0 then nm else if i=1 then nl else nw
 have ea:(Ae g k p).map (dB θ)= [.one (.c (.ptr nm 0)),.one (.c (.int .i64 g)),.one (.c (.int .i64 k)),.one (.ints .u8 p 54)]:=rfl;have hC:=XJ (a:=a) (b:=b) (c:=c) (L:=L) (p:=p) (n:=n) (sc:=sc) (al:=al) (g:=g) (k:=k) (l:=l) hl hp';have:=aU.frame (P:=prog) (f:=78) (θ:=θ) (s:= {s with hp:=t0}) (hp':=t3) (Lw:= [nm,nl,nw]) ht0 ⟨_,func78,rfl⟩ hC (by rfl)
  (fun i x hx=>by
   rw[bJ]at hx;rcases cy hx with⟨rfl,rfl⟩|⟨rfl,rfl⟩|⟨rfl,rfl⟩
   ·exact⟨by omega,rfl,rfl,n1,g1⟩
   ·exact⟨by omega,rfl,rfl,n2,g2⟩
   ·exact⟨by omega,rfl,rfl,n3,g3⟩)
  (fun i j x y hx hy he=>by
   rw[bJ]at hx hy;rcases cy hx with⟨rfl,_⟩|⟨rfl,_⟩|⟨rfl,_⟩<;>rcases cy hy with⟨rfl,_⟩|⟨rfl,_⟩|⟨rfl,_⟩<;>first|rfl|exact absurd he d1|exact absurd he d2|exact absurd he d3|exact absurd he.symm d1|exact absurd he.symm d2|exact absurd he.symm d3)
  (fun j hj=>by
   have j0:=hj 0 _ (by rw[bJ];rfl)
   have j1:=hj 1 _ (by rw[bJ];rfl)
   have j2:=hj 2 _ (by rw[bJ];rfl)
   rw[hget,if_neg (fun e=>j2 e.symm),if_neg (fun e=>j1 e.symm),if_neg (fun e=>j0 e.symm)])
  (fun i x hx=>by
   rw[bJ]at hx;rw[hget,bJ];rcases cy hx with⟨rfl,rfl⟩|⟨rfl,rfl⟩|⟨rfl,rfl⟩
   ·rw[if_neg (show θ 0≠nw from d2),if_neg (show θ 0≠nl from d1),if_pos (show θ 0=nm from rfl)];rfl
   ·rw[if_neg (show θ 1≠nw from d3),if_pos (show θ 1=nl from rfl)];rfl
   ·rw[if_pos (show θ 2=nw from rfl)];rfl)
  (fun j=>by
   constructor
   ·intro hj;rcases List.mem_cons.1 hj with rfl|hj
    ·exact⟨0,_,by rw[bJ];rfl,rfl⟩
    ·rcases List.mem_cons.1 hj with rfl|hj
     ·exact⟨1,_,by rw[bJ];rfl,rfl⟩
     ·rcases List.mem_cons.1 hj with rfl|hj
      ·exact⟨2,_,by rw[bJ];rfl,rfl⟩
      ·cases hj
   ·rintro⟨i,x,hx,rfl⟩;rw[bJ]at hx;rcases cy hx with⟨rfl,_⟩|⟨rfl,_⟩|⟨rfl,_⟩<;>simp[θ])
 rw[ea]at this;exact this.WI (by simp) h3 q0
end Go.Sx
namespace Go.Sx
open Go.Proofs Go.RowKit
abbrev wE:RV:= .aF [.agg [.int .i64 0,.int .i64 0,.int .i64 0],.c (.int .i64 0),.c (.int .i64 22)]
def sk:bg:=fun args hp nx=>match args with
 | [.one (.c (.sl _ 0 0 0))]=>some (wE,hp,nx,[],[])
 |_=>vU args hp nx
def abO:Option (RV×List Prop):=cO prog w9 300 73 [.one (.c (.sl 0 0 0 0))] ⟨.nil,.nil,1,[]⟩ ⟨0,[],[]⟩ fun v _ Z=>some (v,Z.ob)
theorem Yf:abO=some (wE,[]):=by kernel_rfl
theorem GH{k:Nat}:cJ ⟨.nil,(.nil:T ax),k,[]⟩:=fun _ _=>rfl
theorem xi:aI prog 73 sk:=by
 intro args s v hp nx lg ps ht h bB;unfold sk at h;split at h
 ·rename_i nm;simp only[ae,af]at h;obtain⟨rfl,rfl,rfl,rfl,rfl⟩:=h;exact aU.small (P:=prog) (f:=73) (args:= [.one (.c (.sl 0 0 0 0))]) (v:=wE) (k:=1) (hs:= .nil) (θ:=fun _=>nm) (s:=s) ht ⟨_,func73,rfl⟩
   (fx kE GH Yf trivial) (fun nm' x hx=>by cases hx) (by rfl) (by rfl)
 ·exact zO _ _ _ _ _ _ _ ht h bB
end Go.Sx
namespace Go.Sx
open Go.Proofs Go.RowKit
theorem wrap_u8(x:Int):u8.wrap x=x % 256:=by unfold IntKind.wrap;simp[IntKind.bits,IntKind.signed]
theorem wrap_u32(x:Int):u32.wrap x=x % 4294967296:=by unfold IntKind.wrap;simp[IntKind.bits,IntKind.signed]
theorem yG{x:Int}(h:cF x):(BitVec.ofInt 32 x).toNat=x.toNat:=by
 rw[BitVec.toNat_ofInt];obtain⟨h1,h2⟩:=h;have:x %((2 ^ 32:Nat):Int)=x:=Int.emod_eq_of_lt h1 (by simpa using h2)
 rw[this]
theorem jt{x y a:Int}(i:Nat)(hx:0<=x)(hx2:x<2 ^ i)(ha:0<=a)(hy:y=2 ^ i*a)(h:cF (x+y))(hxu:cF x)(hyu:cF y):gS x y=x+y:=by
 unfold gS;rw[BitVec.toNat_or,yG hxu,yG hyu,wrap_u32];obtain⟨xn,rfl⟩:=Int.eq_ofNat_of_zero_le hx;obtain⟨an,rfl⟩:=Int.eq_ofNat_of_zero_le ha;subst hy;have aA:xn<2 ^ i:=by exact_mod_cast hx2
 have e:=Nat.two_pow_add_eq_or_of_lt aA an;have e2:((2 ^ i*(an:Int)).toNat)=2 ^ i*an:=by
  have:(2 ^ i*(an:Int))=((2 ^ i*an:Nat):Int):=by push_cast;rfl
  rw[this];rfl
 rw[e2,show(↑xn:Int).toNat=xn from rfl,Nat.or_comm, <-e]
 obtain⟨h1,h2⟩:=h;have:((2 ^ i*an+xn:Nat):Int)= ↑xn+2 ^ i* ↑an:=by push_cast;omega
 rw[this];exact Int.emod_eq_of_lt h1 h2
theorem or4{x y z u:Int}(hx:0<=x/\x<256)(hy:0<=y/\y<256)(hz:0<=z/\z<256)(hu:0<=u/\u<256):
  gS (gS (gS (gS 0 x) (256*y)) (65536*z)) (16777216*u)=x+256*y+65536*z+16777216*u:=by
 have k0:gS 0 x=0+x:=jt (a:=x) 0 (by omega) (by decide) (by omega) (by simp) ⟨by omega,by omega⟩ ⟨by omega,by omega⟩ ⟨by omega,by omega⟩
 rw[k0,Int.zero_add];have k1:gS x (256*y)=x+256*y:=jt (a:=y) 8 (by omega) (by simpa using hx.2) (by omega) (by simp) ⟨by omega,by omega⟩ ⟨by omega,by omega⟩ ⟨by omega,by omega⟩
 rw[k1];have m2:x+256*y<65536:=by omega
 have m3:x+256*y+65536*z<16777216:=by omega
 have k2:gS (x+256*y) (65536*z)=x+256*y+65536*z:=jt (a:=z) 16 (by omega) (by simpa using m2) (by omega) (by simp) ⟨by omega,by omega⟩ ⟨by omega,by omega⟩ ⟨by omega,by omega⟩
 rw[k2];exact jt (a:=u) 24 (by omega) (by simpa using m3) (by omega) (by simp) ⟨by omega,by omega⟩ ⟨by omega,by omega⟩ ⟨by omega,by omega⟩
theorem iM{x:Int}(hx:0<=x/\x<256):jR x 0=x/\jR x 8=256*x/\jR x 16=65536*x/\jR x 24=16777216*x:=by
 unfold jR;simp only[wrap_u32];refine⟨?_,?_,?_,?_⟩<;>(simp;omega)
theorem Cu{t:Int}(h:cF t):u8.wrap (t.fdiv (2 ^ 0))=t % 256/\u8.wrap (t.fdiv (2 ^ 8))=t / 256 % 256/\u8.wrap (t.fdiv (2 ^ 16))=t / 65536 % 256/\u8.wrap (t.fdiv (2 ^ 24))=t / 16777216 % 256:=by
 simp only[wrap_u8];refine⟨?_,?_,?_,?_⟩
 ·rw[Int.fdiv_eq_ediv_of_nonneg _ (show(0:Int)<=2 ^ 0 by decide)];simp
 ·rw[Int.fdiv_eq_ediv_of_nonneg _ (show(0:Int)<=2 ^ 8 by decide)];simp
 ·rw[Int.fdiv_eq_ediv_of_nonneg _ (show(0:Int)<=2 ^ 16 by decide)];simp
 ·rw[Int.fdiv_eq_ediv_of_nonneg _ (show(0:Int)<=2 ^ 24 by decide)];simp
theorem byte(t:Int):0<=t % 256/\t % 256<256:=by omega
theorem zM{t:Int}(h:cF t):lY (u8.wrap (t.fdiv (2 ^ 0))) (u8.wrap (t.fdiv (2 ^ 8))) (u8.wrap (t.fdiv (2 ^ 16))) (u8.wrap (t.fdiv (2 ^ 24)))=t:=by
 obtain⟨p0,p1,p2,p3⟩:=Cu h;rw[p0,p1,p2,p3];unfold lY;rw[(iM (byte t)).1,(iM (byte (t / 256))).2.1,(iM (byte (t / 65536))).2.2.1,(iM (byte (t / 16777216))).2.2.2];rw[or4 (byte t) (byte _) (byte _) (byte _)];obtain⟨h1,h2⟩:=h;omega
theorem lZ{a b:aj}{n i:Nat}(h:a.length=n):(a++b).getD (n+i) 0=b.getD i 0:=by
 simp[List.getD,List.getElem?_append_right, <-h]
theorem Io{k t:Int}{p:aj}(hk:cr k=true)(ht:cF t)(hp:p.length=54):fD (dV k t p)=k/\gx (dV k t p)=t/\t54 (dV k t p)=p:=by
 have hk':=hk;simp only[cr,Bool.and_eq_true,decide_eq_true_eq]at hk';refine⟨?_,?_,?_⟩
 ·show i64.wrap ((dV k t p).getD (54+0) 0)=k;unfold dV;rw[lZ hp];show i64.wrap k=k;exact IntWalk.i64_in _ (by omega)
 ·unfold gx;show lY ((dV k t p).getD (54+2) 0) ((dV k t p).getD (54+3) 0) ((dV k t p).getD (54+4) 0) ((dV k t p).getD (54+5) 0)=t;unfold dV;rw[lZ hp,lZ hp,lZ hp,lZ hp];exact zM ht
 ·show((dV k t p).drop 0).take 54=p;unfold dV;rw[List.drop_zero,List.take_left' hp]
theorem TE{k t:Int}{p:aj}(hk:cr k=true)(ht:cF t)(hp:p.length=54):gV k (eh k t p)=true/\dh k (eh k t p)=0/\cb k (eh k t p)=p:=by
 obtain⟨h1,h2,h3⟩:=Io hk ht hp;have hi:gV k (eh k t p)=true:=by
  unfold gV fw;rw[show eh k t p=dV k t p by unfold eh;rw[hk];rfl,h1,h2,h3,hk]
  have:cP k=0:=by unfold cP;rw[hk];rfl
  rw[this];unfold eh;rw[hk];simp
 refine⟨hi,?_,?_⟩
 ·unfold dh;rw[hk,hi];rfl
 ·unfold cb;rw[hi,if_pos rfl,show eh k t p=dV k t p by unfold eh;rw[hk];rfl];exact h3
theorem UP{k:Int}{b p:aj}(hk:cr k=true)(hp:p.length=54):dh k (dw k b p)=0/\cb k (dw k b p)=p:=by
 unfold dw;refine(TE hk ?_ hp).2;split
 ·exact gb _
 ·exact⟨by decide,by decide⟩
theorem pJ{L x:aj}{o:Nat}(h:o+x.length<=L.length):(aB L o x).length=L.length:=by simp[aB];omega
theorem vC{L x:aj}{o:Nat}(hx:x.length=64)(h:o+64<=L.length):bL (aB L o x) o=x:=by
 unfold bL aB;rw[List.append_assoc,List.drop_left' (by simp;omega),List.take_left' hx]
theorem nH{L x:aj}{o o':Nat}(hx:x.length=64)(h:o+64<=L.length)(hd:o'+64<=o\/o+64<=o'):bL (aB L o x) o'=bL L o':=by
 unfold bL aB;apply List.ext_getElem?;intro j;by_cases hj:j<64
 ·rw[List.getElem?_take_of_lt hj,List.getElem?_take_of_lt hj,List.getElem?_drop,List.getElem?_drop];rcases hd with hd|hd
  ·rw[List.append_assoc,List.getElem?_append_left (by simp;omega),List.getElem?_take_of_lt (by omega)]
  ·rw[List.getElem?_append_right (by simp;omega),List.getElem?_drop]
   congr 1;simp;omega
 ·rw[List.getElem?_eq_none (by simp;omega),List.getElem?_eq_none (by simp;omega)]
end Go.Sx
namespace Go.Sx
open Go.Proofs Go.RowKit
theorem E9{L:aj}{n:Nat}(h:cM L n=true):dL (bO L n 4) (bO L n 6) (bO L n 8)=(n:Int):=by
 unfold bO cH;rw[h];simp only[if_true];unfold cM at h;simp only[Bool.and_eq_true,Bool.or_eq_true]at h;unfold xm;by_cases h0:ie L n 0=true
 ·rw[if_pos h0];unfold ie at h0;simp only[Bool.and_eq_true,beq_iff_eq]at h0;exact h0.2.2
 ·rw[if_neg h0];have h1:=h.2.resolve_left h0;unfold ie at h1;simp only[Bool.and_eq_true,beq_iff_eq]at h1;exact h1.2.2
section
variable{a b c:Int}{n:Nat}{sc al:Int}{L:aj}{l:ak}{g k:Int}{p:aj}
theorem dU:dP n g=true↔0<=g/\g<(n:Int):=by unfold dP;simp
theorem r8:(cP k !=0)=false↔cr k=true:=by unfold cP;cases cr k<;>simp
theorem te(Q:Bool×List Int×List (Int×Int)×Int->Prop)(h0:dP n g=false->Q (false,L,l,al))
  (h1:dP n g=true->cI L n g k=true->aR L n g k=p->Q (true,L,l,al))
  (h2:dP n g=true->cr k=false->Q (false,L,l,al))
  (h3:dP n g=true->decide (g>=2)=true->cN a sc (pl a b c g).2.1=false->Q (false,L,l,i64.wrap (al+1)))
  (h4:dP n g=true->cr k=true->Q (true,aB L (g.toNat*64) (dw k (bL L (g.toNat*64)) p),bC l g 1,al)):Q (bF a b c n sc al L l g k p):=by
 unfold bF;split
 ·rename_i e0;split
  ·rename_i e1;simp only[Bool.and_eq_true,beq_iff_eq]at e1;exact h1 e0 e1.1 e1.2
  ·split
   ·rename_i e2;refine h2 e0 ?_;cases hk:cr k with
    |false=>rfl
    |true=>rw[r8.2 hk]at e2;cases e2
   ·rename_i e2;split
    ·rename_i e3;simp only[Bool.and_eq_true,Bool.not_eq_true']at e3;exact h3 e0 e3.1 e3.2
    ·exact h4 e0 (r8.1 (by simpa using e2))
 ·rename_i e0;exact h0 (by simpa using e0)
theorem QA(hl:L.length=64*n)(hp:p.length=54):(bF a b c n sc al L l g k p).2.1.length=64*n:=by
 refine te (Q:=fun r=>r.2.1.length=64*n) (fun _=>hl) (fun _ _ _=>hl) (fun _ _=>hl) (fun _ _ _=>hl) fun h _=> ?_
 obtain⟨g1,g2⟩:=dU.1 h;rw[pJ (by rw[gi hp];omega)];exact hl
end
end Go.Sx
namespace Go.Sx
open Go.Proofs Go.RowKit
theorem Zk:prog.types[95]!.bytes=64:=by kernel_rfl
theorem yE{m:Nat}(h:m<=140):fits prog.types[95]! m=true:=by
 unfold fits;rw[Zk];simp only[Bool.and_eq_true,Nat.ble_eq];omega
theorem A0{m:Nat}(h:0<m):m.beq 0=false:=by
 cases m with
 |zero=>omega
 |succ m=>rfl
end Go.Sx
