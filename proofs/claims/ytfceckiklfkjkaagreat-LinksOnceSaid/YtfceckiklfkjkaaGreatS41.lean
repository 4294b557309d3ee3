import Derived.Test.YtfceckiklfkjkaaGreatS40
import Derived.Test.YtfceckiklfkjkaaGreatS25
import Derived.Test.YtfceckiklfkjkaaGreatS31
noncomputable section
open Go.Proofs Go.RowKit
set_option maxRecDepth 100000
open Go.IntKind(i64 u8 u64 u32 u16)
open Go.Proofs.Tryz
namespace Go.Sx
abbrev wF(p:aj):Int:=i64.wrap (u16.wrap (u64.wrap (u64.wrap (256*u64.wrap (0+u64.wrap (p.getD 5 0)))+u64.wrap (p.getD 4 0))))
abbrev vO(p:aj):Int:=i64.wrap (u16.wrap (u64.wrap (u64.wrap (256*u64.wrap (0+u64.wrap (p.getD 7 0)))+u64.wrap (p.getD 6 0))))
abbrev vP(p:aj):Int:=i64.wrap (u16.wrap (u64.wrap (u64.wrap (256*u64.wrap (0+u64.wrap (p.getD 9 0)))+u64.wrap (p.getD 8 0))))
def P6(p:aj)(Q:RV->Prop):ai:=(bif cW (aY (wF p) (vO p) (vP p)) !=0 then(some ((aw []/\Q (RV.aF [AV.agg [Cell.int i64 0,Cell.int i64 0,Cell.int i64 0],AV.c (Cell.int i64 22)]))))else((bif !List.take 54 (List.drop 0 (aB bA 0 (sup (wF p) (vO p) (vP p))))==List.take 54 (List.drop 0 p)then(some ((aw []/\Q (RV.aF [AV.agg [Cell.int i64 0,Cell.int i64 0,Cell.int i64 0],AV.c (Cell.int i64 22)]))))else(some ((aw []/\Q (RV.aF [AV.agg [Cell.int i64 (wF p),Cell.int i64 (vO p),Cell.int i64 (vP p)],AV.c (Cell.int i64 0)])))))))
theorem Oy(p:aj)(Q:RV->Prop):ae2 p Q=P6 p Q:=by kernel_rfl
theorem CU{x:Int}(h0:0<=x)(h1:x<65536):i64.wrap (u16.wrap x)=x:=by
 rw[wrap_u16,Int.emod_eq_of_lt h0 h1];exact IntWalk.i64_in _ (by omega)
theorem Vl{a b:Int}(ha:0<=a/\a<256)(hb:0<=b/\b<256):LX a b=a+256*b:=by
 unfold LX;rw[(iM ha).1,(iM hb).2.1];have k0:gS 0 a=0+a:=jt (a:=a) 0 (by omega) (by decide) (by omega) (by simp) ⟨by omega,by omega⟩ ⟨by omega,by omega⟩ ⟨by omega,by omega⟩
 rw[k0,Int.zero_add];have k1:gS a (256*b)=a+256*b:=jt (a:=b) 8 (by omega) (by simpa using ha.2) (by omega) (by simp) ⟨by omega,by omega⟩ ⟨by omega,by omega⟩ ⟨by omega,by omega⟩
 rw[k1];exact CU (by omega) (by omega)
theorem NT{a b:Int}(ha:0<=a/\a<256)(hb:0<=b/\b<256):
  i64.wrap (u16.wrap (u64.wrap (u64.wrap (256*u64.wrap (0+u64.wrap b))+u64.wrap a)))=LX a b:=by
 rw[Vl ha hb];have e:u64.wrap (u64.wrap (256*u64.wrap (0+u64.wrap b))+u64.wrap a)=a+256*b:=by simp only[wrap_u64];omega
 rw[e];exact CU (by omega) (by omega)
def Fk(args:List RV):Option (RV×List Prop):=match args with
 | [.one (.ints .u8 p 54)]=>some (.aF [.agg [.int .i64 (cH (cz p) (g16 p 4)),.int .i64 (cH (cz p) (g16 p 6)),.int .i64 (cH (cz p) (g16 p 8))],.c (.int .i64 (if cz p then 0 else 22))],[Bytes p])
 |_=>none
theorem Q9:cg prog 190 Fk:=by
 intro args v ps h hp ρ w vs ha;unfold Fk at h;split at h<;>try(cases h;done)
 rename_i p;simp only[ae,af]at h;obtain⟨rfl,rfl⟩:=h;obtain⟨hy,_⟩:=hp;have hl:p.length=54:=qh ha;refine cU ac3 (by rfl) (by rfl) (.of_eq (Oy p _) ?_) ρ w vs ha
 have e4:wF p=g16 p 4:=NT (hy.getD 4) (hy.getD 5);have e6:vO p=g16 p 6:=NT (hy.getD 6) (hy.getD 7);have e8:vP p=g16 p 8:=NT (hy.getD 8) (hy.getD 9);unfold P6;rw[e4,e6,e8];have e1:aB bA 0 (ke p)=ke p:=ck (gC _ _ _);have e2:t54 (ke p)=ke p:=aJ (gC _ _ _);have e3:t54 p=p:=aJ hl;have no:cz p=false->RV.aF [AV.agg [Cell.int i64 0,Cell.int i64 0,Cell.int i64 0],AV.c (Cell.int i64 22)]= .aF [.agg [.int .i64 (cH (cz p) (g16 p 4)),.int .i64 (cH (cz p) (g16 p 6)),.int .i64 (cH (cz p) (g16 p 8))],.c (.int .i64 (if cz p then 0 else 22))]:=fun e=>by rw[e];rfl
 refine .fork (fun h=>⟨trivial,no ?_⟩) (fun h=> .fork (fun h1=>⟨trivial,no ?_⟩) (fun h1=>⟨trivial,?_⟩))
 ·rw[jP]at h;unfold cz;rw[show lQ p=false from by simpa using h];rfl
 ·have h1':(!(t54 (aB bA 0 (ke p))==t54 p))=true:=h1;rw[e1,e2,e3]at h1';unfold cz;rw[show(ke p==p)=false from by simpa using h1',Bool.and_false]
 ·rw[jP]at h;have h1':(!(t54 (aB bA 0 (ke p))==t54 p))=false:=h1;rw[e1,e2,e3]at h1';have:cz p=true:=by
   unfold cz;rw[show lQ p=true from by simpa using h,show(ke p==p)=true from by simpa using h1'];rfl
  rw[this];rfl
def Ve:FuncId->Option bg:=fun f=>match f with| 156=>some (aL vN)| 190=>some (aL Fk)| 147=>some (aL AH)|_=>none
theorem ad9:Fit prog (fun f=>(Ve f).map bj):=⟨bM,aV,aI.sum fun f sm h=>by
 unfold Ve at h;split at h
 ·cases h;exact sT.sum ⟨_,func156,rfl⟩
 ·cases h;exact Q9.sum ⟨_,func190,rfl⟩
 ·cases h;exact(oz 147 gQ).sum ⟨_,func147,rfl⟩
 ·cases h⟩
def afg(b:aj)(n:Int)(Q:RV->Prop):ai:=cO prog Ve 300 133 [.one (.ints .u8 b 64),.one (.c (.int .i64 n))] s0 aO fun v _ Z=>some (aw Z.ob/\Q v)
abbrev kR(b:aj):List Int:=List.take 54 (List.drop 0 (aB bA 0 (cb 1 (List.take 64 (List.drop 0 b)))))
abbrev rl(b:aj):Bool:=cz (kR b)
abbrev wj(b:aj):Int:=cH (rl b) (g16 (kR b) 4)
abbrev vX(b:aj):Int:=cH (rl b) (g16 (kR b) 6)
abbrev vZ(b:aj):Int:=cH (rl b) (g16 (kR b) 8)
def Pe(b:aj)(n:Int)(Q:RV->Prop):ai:=(bif dh 1 (List.take 64 (List.drop 0 b)) !=0 then(some ((aw [Bytes (List.take 64 (List.drop 0 b))]/\Q (RV.aF [AV.agg [Cell.int i64 0,Cell.int i64 0,Cell.int i64 0],AV.c (Cell.bool false)]))))else((bif (if(rl b)=true then(0:Int)else 22)==0 then(some ((aw [Bytes (kR b),Bytes (List.take 64 (List.drop 0 b))]/\Q (RV.aF [AV.agg [Cell.int i64 (wj b),Cell.int i64 (vX b),Cell.int i64 (vZ b)],AV.c (Cell.bool (dL (wj b) (vX b) (vZ b)==n))]))))else(some ((aw [Bytes (kR b),Bytes (List.take 64 (List.drop 0 b))]/\Q (RV.aF [AV.agg [Cell.int i64 (wj b),Cell.int i64 (vX b),Cell.int i64 (vZ b)],AV.c (Cell.bool false)])))))))
theorem RR(b:aj)(n:Int)(Q:RV->Prop):afg b n Q=Pe b n Q:=by kernel_rfl
theorem Bytes.t54 {b:aj}(h:Bytes b):Bytes (t54 b):=fun x hx=>h x (List.mem_of_mem_drop (List.mem_of_mem_take hx))
theorem Bytes.cb {k:Int}{b:aj}(h:Bytes b):Bytes (cb k b):=by
 unfold Sx.cb;split
 ·exact h.t54
 ·intro x hx;have: ∀x∈bA,(0:Int)<=x/\x<256:=by decide
  exact this x hx
def s6(b:aj)(n:Int):Bool:=(dh 1 b==0) &&(cz (cb 1 b) &&(dL (g16 (cb 1 b) 4) (g16 (cb 1 b) 6) (g16 (cb 1 b) 8)==n))
def lE(b:aj)(i:Nat):Int:=if dh 1 b==0 then cH (cz (cb 1 b)) (g16 (cb 1 b) i)else 0
def Vy(args:List RV):Option (RV×List Prop):=match args with
 | [.one (.ints .u8 b 64),.one (.c (.int .i64 n))]=>some (.aF [.agg [.int .i64 (lE b 4),.int .i64 (lE b 6),.int .i64 (lE b 8)],.c (.bool (s6 b n))],[Bytes b])
 |_=>none
theorem Zt:cg prog 133 Vy:=by
 intro args v ps h hp ρ w vs ha;unfold Vy at h;split at h<;>try(cases h;done)
 rename_i b n;simp only[ae,af]at h;obtain⟨rfl,rfl⟩:=h;obtain⟨hy,_⟩:=hp;have hb:b.length=64:=by obtain⟨_,_,h,_⟩:=ha;exact h.1
 refine cU ad9 (by rfl) (by rfl) (.of_eq (RR b n _) ?_) ρ w vs ha
 have e0:kR b=cb 1 b:=by
  unfold kR;rw[aJ hb,ck (jn hb)];exact aJ (jn hb)
 unfold Pe vZ vX wj rl;rw[e0,aJ hb];refine .fork (fun h=>⟨⟨hy,trivial⟩,?_⟩) (fun h=> ?_)
 ·have h':(dh 1 b==0)=false:=by rw[bne]at h;simpa using h
  unfold lE s6;rw[h'];rfl
 ·have h':(dh 1 b==0)=true:=by rw[bne]at h;simpa using h
  refine .fork (fun h1=>⟨⟨hy.cb,hy,trivial⟩,?_⟩) (fun h1=>⟨⟨hy.cb,hy,trivial⟩,?_⟩)
  ·have hs:cz (cb 1 b)=true:=by
    cases hs:cz (cb 1 b)with
    |true=>rfl
    |false=>rw[hs]at h1;simp at h1
   unfold lE s6;rw[h',hs];rfl
  ·have hs:cz (cb 1 b)=false:=by
    cases hs:cz (cb 1 b)with
    |false=>rfl
    |true=>rw[hs]at h1;simp at h1
   unfold lE s6;rw[h',hs];rfl
def vi:FuncId->Option bg:=fun f=>match f with| 133=>some (aL Vy)|_=>none
theorem s4:Fit prog (fun f=>(vi f).map bj):=⟨bM,aV,aI.sum fun f sm h=>by
 unfold vi at h;split at h
 ·cases h;exact Zt.sum ⟨_,func133,rfl⟩
 ·cases h⟩
def rFi(t:TypeId)(L:aj)(N n:Nat)(Q:RV->Prop):ai:=cO prog vi 300 67 [.one (.c (.aC 0 64 0 n))] ⟨.nil,Ho t L N,1,[]⟩ aO fun v _ Z=>some (aw Z.ob/\Q v)
def xd:Code:=gB 83
def l32:Code:=match gR (gL (gR (gR (gR xd))))with| .block _ (.loop c)=>c|_=> .skip
abbrev nL:Nat:=32
def ab5(g:Int):T RV:=match setArgs nL [.one (.c (.ptr 0 0)),.one (.c (.int .i64 g))] 0 .nil some with|some t=>t|none=> .nil
abbrev GD(n:Nat):Bool:=decide ((↑n:Int)>1)
abbrev Ht(n:Nat):Bool:=decide (n≠0)
def LR(t:TypeId)(L:aj)(N n:Nat)(Q:RV->Prop):ai:=(bif (GD n)then((bif (Ht n)then((bif decide ((0:Int)<=0/\(0:Int)<(↑n:Int))then((bif decide (64<=N)then((bif s6 (List.take 64 (List.drop 0 L)) (↑n:Int)then(some ((aw [Bytes (List.take 64 (List.drop 0 L))]/\Q (RV.aF [AV.agg [Cell.int i64 (lE (List.take 64 (List.drop 0 L)) 4),Cell.int i64 (lE (List.take 64 (List.drop 0 L)) 6),Cell.int i64 (lE (List.take 64 (List.drop 0 L)) 8)],AV.c (Cell.int i64 0),AV.c (Cell.int i64 0)]))))else((bif (GD n)then((bif (Ht n)then((bif decide ((0:Int)<=1/\(1:Int)<(↑n:Int))then((bif decide (128<=N)then((bif s6 (List.take 64 (List.drop 64 L)) (↑n:Int)then(some ((aw [Bytes (List.take 64 (List.drop 64 L)),Bytes (List.take 64 (List.drop 0 L))]/\Q (RV.aF [AV.agg [Cell.int i64 (lE (List.take 64 (List.drop 64 L)) 4),Cell.int i64 (lE (List.take 64 (List.drop 64 L)) 6),Cell.int i64 (lE (List.take 64 (List.drop 64 L)) 8)],AV.c (Cell.int i64 1),AV.c (Cell.int i64 0)]))))else(some ((aw [Bytes (List.take 64 (List.drop 64 L)),Bytes (List.take 64 (List.drop 0 L))]/\Q (RV.aF [AV.agg [Cell.int i64 0,Cell.int i64 0,Cell.int i64 0],AV.c (Cell.int i64 0),AV.c (Cell.int i64 22)]))))))else none))else none))else none))else(some ((aw [Bytes (List.take 64 (List.drop 0 L))]/\Q (RV.aF [AV.agg [Cell.int i64 0,Cell.int i64 0,Cell.int i64 0],AV.c (Cell.int i64 0),AV.c (Cell.int i64 22)]))))))))else none))else none))else none))else(some ((aw []/\Q (RV.aF [AV.agg [Cell.int i64 0,Cell.int i64 0,Cell.int i64 0],AV.c (Cell.int i64 0),AV.c (Cell.int i64 22)])))))
theorem US(t:TypeId)(L:aj)(N n:Nat)(Q:RV->Prop):rFi t L N n Q=LR t L N n Q:=by kernel_rfl
theorem AG(L:aj)(n o:Nat):s6 (bL L o) n=ie L n o:=rfl
theorem Bytes.cX {L:aj}(h:Bytes L)(o:Nat):Bytes (bL L o):=fun x hx=>h x (List.mem_of_mem_drop (List.mem_of_mem_take hx))
theorem ov{b:aj}{n:Int}(h:s6 b n=true)(i:Nat):lE b i=g16 (cb 1 b) i:=by
 unfold s6 at h;simp only[Bool.and_eq_true]at h;unfold lE cH;rw[if_pos h.1,if_pos h.2.1]
theorem abl(t:TypeId)(L:aj)(N n:Nat)(hl:L.length=N)(hN:N=64*n)(hy:Bytes L){Q:RV->Prop}(hq:Q (.aF [.agg [.int .i64 (bO L n 4),.int .i64 (bO L n 6),.int .i64 (bO L n 8)],.c (.int .i64 (lV L n)),.c (.int .i64 (gz L n))])):
  dG (LR t L N n Q):=by
 have none':cM L n=false->RV.aF [AV.agg [Cell.int i64 0,Cell.int i64 0,Cell.int i64 0],AV.c (Cell.int i64 0),AV.c (Cell.int i64 22)]=
  .aF [.agg [.int .i64 (bO L n 4),.int .i64 (bO L n 6),.int .i64 (bO L n 8)],.c (.int .i64 (lV L n)),.c (.int .i64 (gz L n))]:=fun h=>by
  unfold bO lV gz;rw[h];rfl
 have y0:=hy.cX 0;have y1:=hy.cX 64;unfold LR GD Ht;refine .fork (fun h=> ?_) (fun h=>⟨trivial,?_⟩)
 ·have h2:2<=n:=by simp at h;omega
  refine .aZ (by simp;omega) ?_
  refine .aZ (by simp;omega) ?_
  refine .aZ (by simp;omega) ?_
  refine .fork (fun h0=>⟨⟨y0,trivial⟩,?_⟩) (fun h0=> ?_)
  ·have e:=h0;rw[show List.take 64 (List.drop 0 L)=bL L 0 from rfl]at e ⊢
   rw[ov e,ov e,ov e];rw[AG]at e;have hok:cM L n=true:=by unfold cM;rw[e];simp;omega
   have:RV.aF [.agg [.int .i64 (bO L n 4),.int .i64 (bO L n 6),.int .i64 (bO L n 8)],.c (.int .i64 (lV L n)),.c (.int .i64 (gz L n))]= .aF [.agg [.int .i64 (g16 (cb 1 (bL L 0)) 4),.int .i64 (g16 (cb 1 (bL L 0)) 6),.int .i64 (g16 (cb 1 (bL L 0)) 8)],.c (.int .i64 0),.c (.int .i64 0)]:=by
    unfold bO lV gz xm cH;rw[hok,e];simp
   rw[<-this];exact hq
  ·refine .yes h ?_;refine .aZ (by simp;omega) ?_
   refine .aZ (by simp;omega) ?_
   refine .aZ (by simp;omega) ?_
   refine .fork (fun h1=>⟨⟨y1,y0,trivial⟩,?_⟩) (fun h1=>⟨⟨y1,y0,trivial⟩,?_⟩)
   ·have e:=h1;have e0:=h0;rw[show List.take 64 (List.drop 64 L)=bL L 64 from rfl]at e ⊢
    rw[show List.take 64 (List.drop 0 L)=bL L 0 from rfl,AG]at e0
    rw[ov e,ov e,ov e];rw[AG]at e;have hok:cM L n=true:=by unfold cM;rw[e];simp;omega
    have:RV.aF [.agg [.int .i64 (bO L n 4),.int .i64 (bO L n 6),.int .i64 (bO L n 8)],.c (.int .i64 (lV L n)),.c (.int .i64 (gz L n))]= .aF [.agg [.int .i64 (g16 (cb 1 (bL L 64)) 4),.int .i64 (g16 (cb 1 (bL L 64)) 6),.int .i64 (g16 (cb 1 (bL L 64)) 8)],.c (.int .i64 1),.c (.int .i64 0)]:=by
     unfold bO lV gz xm cH;rw[hok,e0];simp
    rw[<-this];exact hq
   ·have e1:ie L n 64=false:=h1;have e0:ie L n 0=false:=h0;rw[none' (by unfold cM;rw[e0,e1];simp)];exact hq
 ·have h2: ¬2<=n:=by simp at h;omega
  rw[none' (by unfold cM;simp;omega)];exact hq
def agx(Q:RV->Prop):ai:=cO prog vi 300 67 [.one (.c (.sl 0 0 0 0))] ⟨.nil,.nil,1,[]⟩ aO fun v _ Z=>some (aw Z.ob/\Q v)
theorem Qv(Q:RV->Prop):agx Q=some (aw []/\Q wE):=by kernel_rfl
def yz:bg:=fun args hp nx=>match args with
 | [.one (.c (.sl _ 0 0 0))]=>some (wE,hp,nx,[],[])
 | [.one (.c (.aC nm 64 0 n))]=>match bn hp.get nm with
  |some (_,_,some 64,.ints .u8 L N)=>some (.aF [.agg [.int .i64 (bO L n 4),.int .i64 (bO L n 6),.int .i64 (bO L n 8)],.c (.int .i64 (lV L n)),.c (.int .i64 (gz L n))],hp,nx,[],[L.length=N,N=64*n,Bytes L])
  |_=>none
 |_=>none
theorem H5:aI prog 67 yz:=by
 intro args s v hp nx lg ps ht h bB;unfold yz at h;split at h<;>try(cases h;done)
 ·rename_i nm;simp only[ae,af]at h;obtain⟨rfl,rfl,rfl,rfl,rfl⟩:=h;exact aU.small (P:=prog) (f:=67) (args:= [.one (.c (.sl 0 0 0 0))]) (v:=wE) (k:=1) (hs:= .nil) (θ:=fun _=>nm) (s:=s) ht ⟨_,func67,rfl⟩
   (k9 s4 GH (.of_eq (Qv _) (.pS ⟨trivial,rfl⟩))) (fun nm' x hx=>by cases hx) (by rfl) (by rfl)
 ·rename_i nm n;split at h<;>try(cases h;done)
  rename_i t ro L N bU;simp only[ae,af]at h;obtain⟨rfl,rfl,rfl,rfl,rfl⟩:=h;have hh:=cT bU;exact aU.small (P:=prog) (f:=67) (args:=yF n) (k:=1) (hs:=Ho t L N) (θ:=fun _=>nm) (s:=s) ht ⟨_,func67,rfl⟩
   (k9 s4 JA (.of_eq (US t L N n _) (abl t L N n bB.1 bB.2.1 bB.2.2.1 rfl)))
   (fun nm' x hx=>by
    obtain⟨rfl,rfl⟩:=mj hx;exact⟨by omega,_,hh,ft.ints⟩) (by rfl) (by rfl)
abbrev dA:Type:=List Int×List Bool×Int
def dZ(a b c:Int)(n:Nat)(sc:Int)(st:dA):T ax:=aN [(0,.row 65 false none (.cells [.int .i64 a,.int .i64 b,.int .i64 c,.aC 1 64 0 n,.int .u32 sc,.sl 2 0 n n,.int .i64 st.2.2])),(1,.row 95 false (some 64) (.ints .u8 st.1 (64*n))),(2,.row 4 false none (.aT st.2.1 n))]
theorem fA(a b c:Int)(n:Nat)(sc:Int)(st:dA):dZ a b c n sc st=T.node (T.node .nil (some (.row 95 false (some 64) (.ints .u8 st.1 (64*n)))) .nil) (some (.row 65 false none (.cells [.int .i64 a,.int .i64 b,.int .i64 c,.aC 1 64 0 n,.int .u32 sc,.sl 2 0 n n,.int .i64 st.2.2]))) (T.node .nil (some (.row 4 false none (.aT st.2.1 n))) .nil):=by kernel_rfl
def LS(hp:Hp)(nm:Nat):Option (Int×Int×Int×List Int×Nat×Nat×Int×Int×List Bool×Nat×Nat):=
 match bn hp nm with
 |some (65,false,none,.cells [.int .i64 a,.int .i64 b,.int .i64 c,.aC nl 64 0 n,.int .u32 sc,.sl nw 0 _ _,.int .i64 al])=>match bn hp nl with
  |some (95,false,some 64,.ints .u8 L N)=>match bn hp nw with
   |some (4,false,none,.aT W _)=>some (a,b,c,L,N,n,sc,al,W,nl,nw)
   |_=>none
  |_=>none
 |_=>none
theorem T3{hp:T ax}{nm:Nat}{a b c:Int}{L:aj}{N n:Nat}{sc al:Int}{W:List Bool}{nl nw:Nat}(h:LS hp.get nm=some (a,b,c,L,N,n,sc,al,W,nl,nw)):
  ∃m1 m2 M,hp.get nm=some (.row 65 false none (.cells [.int .i64 a,.int .i64 b,.int .i64 c,.aC nl 64 0 n,.int .u32 sc,.sl nw 0 m1 m2,.int .i64 al]))/\hp.get nl=some (.row 95 false (some 64) (.ints .u8 L N))/\hp.get nw=some (.row 4 false none (.aT W M)):=by
 unfold LS at h;split at h<;>try(cases h;done)
 rename_i h0;split at h<;>try(cases h;done)
 rename_i h1;split at h<;>try(cases h;done)
 rename_i h2;cases h;exact⟨_,_,_,cT h0,cT h1,cT h2⟩
def TB(hp:Hp)(nm:Nat):Option (Nat×Nat×Nat):=
 match bn hp nm with
 |some (_,_,_,.cells [_,_,_,_,_,.sl nw 0 m1 m2,_])=>match bn hp nw with
  |some (_,_,_,.aT _ M)=>some (m1,m2,M)
  |_=>none
 |_=>none
def lA(G:List RV->Int->Int->Int->Nat->Int->dA->Option (RV×dA×List Prop)):bg:=fun args hp nx=>match args with
 | .one (.c (.ptr nm 0))::xs=>match LS hp.get nm with
  |some (a,b,c,L,N,n,sc,al,W,nl,nw)=>
   match Nat.blt nm nx,Nat.blt nl nx,Nat.blt nw nx with
   |true,true,true=>match TB hp.get nm,G xs a b c n sc (L,W,al)with
    |some (m1,m2,M),some (v,st,ps)=>
     T.set depth hp nm (some (.row 65 false none (.cells [.int .i64 a,.int .i64 b,.int .i64 c,.aC nl 64 0 n,.int .u32 sc,.sl nw 0 m1 m2,.int .i64 st.2.2]))) fun hp=>
     T.set depth hp nl (some (.row 95 false (some 64) (.ints .u8 st.1 N))) fun hp=>
     T.set depth hp nw (some (.row 4 false none (.aT st.2.1 M))) fun hp=>
     some (v,hp,nx,[nm,nl,nw],(L.length=N)::(N=64*n)::(m1=n)::(m2=n)::(M=n)::(W.length=n)::ps)
    |_,_=>none
   |_,_,_=>none
  |none=>none
 |_=>none
theorem X0{hp:T ax}{nm:Nat}{a b c:Int}{n:Nat}{sc al:Int}{W:List Bool}{nl nw m1 m2 M m1' m2' M':Nat}(h:TB hp.get nm=some (m1,m2,M))
  (h0:hp.get nm=some (.row 65 false none (.cells [.int .i64 a,.int .i64 b,.int .i64 c,.aC nl 64 0 n,.int .u32 sc,.sl nw 0 m1' m2',.int .i64 al]))) (h2:hp.get nw=some (.row 4 false none (.aT W M'))):m1=m1'/\m2=m2'/\M=M':=by
 unfold TB bn at h;rw[h0]at h;simp only at h;rw[h2]at h;simp only[ae,af]at h;exact⟨h.1.symm,h.2.1.symm,h.2.2.symm⟩
theorem mV{f:FuncId}(hfn: ∃fn,prog.funcs[f]? =some fn/\fn.body.isNone=false){G:List RV->Int->Int->Int->Nat->Int->dA->Option (RV×dA×List Prop)}
  (hG: ∀xs a b c n sc st v st' ps,G xs a b c n sc st=some (v,st',ps)->aw ps->st.1.length=64*n->st.2.1.length=n->fC prog f (.one (.c (.ptr 0 0))::xs) 3 (dZ a b c n sc st) (dZ a b c n sc st') v)
  (hx: ∀xs a b c n sc st v st' ps,G xs a b c n sc st=some (v,st',ps)->xs.all ej=true/\ej v=true):aI prog f (lA G):=by
 intro args s v hp nx lg ps ht h bB;unfold lA at h;split at h<;>try(cases h;done)
 rename_i nm xs;split at h<;>try(cases h;done)
 rename_i a b c L N n sc al W nl nw hi;split at h<;>try(cases h;done)
 rename_i b1 b2 b3;split at h<;>try(cases h;done)
 rename_i m1 m2 M v1 st ps1 hlw hg;obtain⟨m1',m2',M',h1,h2,h3⟩:=T3 hi;obtain⟨rfl,rfl,rfl⟩:=X0 hlw h1 h3;have n1:nm<s.nx:=ew b1;have n2:nl<s.nx:=ew b2;have n3:nw<s.nx:=ew b3;have d1:nm≠nl:=fun e=>by subst e;rw[h1]at h2;cases h2
 have d2:nm≠nw:=fun e=>by subst e;rw[h1]at h3;cases h3
 have d3:nl≠nw:=fun e=>by subst e;rw[h2]at h3;cases h3
 obtain⟨t1,h,q1⟩:=T.bR _ _ _ _ _ _ h;obtain⟨t2,h,q2⟩:=T.bR _ _ _ _ _ _ h;obtain⟨t3,h,q3⟩:=T.bR _ _ _ _ _ _ h;simp only[ae,af]at h;obtain⟨rfl,rfl,rfl,rfl,rfl⟩:=h;obtain⟨hl,hN,e1,e2,e3,hW,bB⟩:=bB
 replace e1:=e1.symm
 replace e2:=e2.symm
 replace e3:=e3.symm
 subst e1;subst e2;subst e3;subst hN;obtain⟨hfx,hfv⟩:=hx _ _ _ _ _ _ _ _ _ _ hg;have hget: ∀j,t3.get j=if j=nw then some (.row 4 false none (.aT st.2.1 n))else if j=nl then some (.row 95 false (some 64) (.ints .u8 st.1 (64*n)))else if j=nm then some (.row 65 false none (.cells [.int .i64 a,.int .i64 b,.int .i64 c,.aC nl 64 0 n,.int .u32 sc,.sl nw 0 n n,.int .i64 st.2.2]))else s.hp.get j:=fun j=>by
  rw[q3 j,q2 j,q1 j]
 let θ:Nat->Nat:=fun i=>if i=0 then nm else if i=1 then nl else nw
 have ex:xs.map (dB θ)=xs:=(List.map_congr_left fun c hc=>k8 (List.all_eq_true.1 hfx c hc)).trans (List.map_id xs)
 have ea:((.one (.c (.ptr 0 0)):RV)::xs).map (dB θ)= .one (.c (.ptr nm 0))::xs:=by
  rw[List.map_cons,ex];rfl
 have hC:fC prog f (.one (.c (.ptr 0 0))::xs) 3 (dZ a b c n sc (L,W,al)) (dZ a b c n sc st) v1:=hG _ _ _ _ _ _ _ _ _ _ hg bB hl hW;have:=aU.frame (P:=prog) (f:=f) (θ:=θ) (s:=s) (hp':=t3) (Lw:= [nm,nl,nw]) ht hfn hC
  (List.all_eq_true.2 fun c hc=>by
   rcases List.mem_cons.1 hc with rfl|hc
   ·rfl
   ·exact sW (List.all_eq_true.1 hfx c hc))
  (fun i x hx=>by
   rw[fA]at hx;rcases cy hx with⟨rfl,rfl⟩|⟨rfl,rfl⟩|⟨rfl,rfl⟩
   ·exact⟨by omega,rfl,rfl,n1,h1⟩
   ·exact⟨by omega,rfl,rfl,n2,h2⟩
   ·exact⟨by omega,rfl,rfl,n3,h3⟩)
  (fun i j x y hx hy he=>by
   rw[fA]at hx hy;rcases cy hx with⟨rfl,_⟩|⟨rfl,_⟩|⟨rfl,_⟩<;>rcases cy hy with⟨rfl,_⟩|⟨rfl,_⟩|⟨rfl,_⟩<;>first|rfl|exact absurd he d1|exact absurd he d2|exact absurd he d3|exact absurd he.symm d1|exact absurd he.symm d2|exact absurd he.symm d3)
  (fun j hj=>by
   have j0:=hj 0 _ (by rw[fA];rfl)
   have j1:=hj 1 _ (by rw[fA];rfl)
   have j2:=hj 2 _ (by rw[fA];rfl)
   rw[hget,if_neg (fun e=>j2 e.symm),if_neg (fun e=>j1 e.symm),if_neg (fun e=>j0 e.symm)])
  (fun i x hx=>by
   rw[fA]at hx;rw[hget,fA];rcases cy hx with⟨rfl,rfl⟩|⟨rfl,rfl⟩|⟨rfl,rfl⟩
   ·rw[if_neg (show θ 0≠nw from d2),if_neg (show θ 0≠nl from d1),if_pos (show θ 0=nm from rfl)];rfl
   ·rw[if_neg (show θ 1≠nw from d3),if_pos (show θ 1=nl from rfl)];rfl
   ·rw[if_pos (show θ 2=nw from rfl)];rfl)
  (fun j=>by
   constructor
   ·intro hj;rcases List.mem_cons.1 hj with rfl|hj
    ·exact⟨0,_,by rw[fA];rfl,rfl⟩
    ·rcases List.mem_cons.1 hj with rfl|hj
     ·exact⟨1,_,by rw[fA];rfl,rfl⟩
     ·rcases List.mem_cons.1 hj with rfl|hj
      ·exact⟨2,_,by rw[fA];rfl,rfl⟩
      ·cases hj
   ·rintro⟨i,x,hx,rfl⟩;rw[fA]at hx;rcases cy hx with⟨rfl,_⟩|⟨rfl,_⟩|⟨rfl,_⟩<;>simp[θ])
 rw[ea,k8 hfv]at this;exact this
section
variable(a b c:Int)(n:Nat)(sc:Int)(L:aj)(W:List Bool)(al:Int)(g s i:Int)
def Fp:S:=aE [0,1,5,6] nL ⟨aN [(0,.one (.c (.ptr 0 0))),(1,.one (.c (.int .i64 g))),(5,.one (.c (.int .u32 s))),(6,.one (.c (.int .i64 i)))],dZ a b c n sc (L,W,al),3,[]⟩
def aa1:S:=aE [0,1,5] nL ⟨aN [(0,.one (.c (.ptr 0 0))),(1,.one (.c (.int .i64 g))),(5,.one (.c (.int .u32 sc)))],dZ a b c n sc (L,W,al),3,[]⟩
def p32(M:S->Prop)(R:X->Option (List AV)->T ax->Nat->Prop):ai:=
 dk prog vi 300 nL 3 xd ⟨ab5 g,dZ a b c n sc (L,W,al),3,[]⟩ aO (fun x s Z=>some (aw Z.ob/\match x with| .normal=>M (aE [0,1,5] nL s)|x=>R x (ba prog nL s f83.results.toList) s.hp s.nx))
def i32(Q:ag):ai:=az prog vi 300 nL (gL (gL (aG 3 xd))) (aa1 a b c n sc L W al g) aO (fun x s Z=>some (aw Z.ob/\match x with| .ret=>False|x=>Q x (aE [0,1,5,6] nL s)))
def t32(Q:ag):ai:=az prog vi 300 nL l32 (Fp a b c n sc L W al g s i) aO (fun x s Z=>some (aw Z.ob/\match x with| .ret=>False|x=>Q x (aE [0,1,5,6] nL s)))
def e32(R:X->Option (List AV)->T ax->Nat->Prop):ai:=az prog vi 300 nL (gR (aG 3 xd)) (Fp a b c n sc L W al g s i) aO (fun x s Z=>some (aw Z.ob/\R x (ba prog nL s f83.results.toList) s.hp s.nx))
end
def Vn:FuncId->Option bg:=fun f=>match f with| 156=>some (aL vN)|_=>none
theorem aeb:Fit prog (fun f=>(Vn f).map bj):=⟨bM,aV,aI.sum fun f sm h=>by
 unfold Vn at h;split at h
 ·cases h;exact sT.sum ⟨_,func156,rfl⟩
 ·cases h⟩
def uC:Code:=gB 85
def o6(g k:Int):List RV:= [.one (.c (.ptr 0 0)),.one (.c (.int .i64 g)),.one (.c (.int .i64 k))]
def aeI(a b c:Int)(n:Nat)(sc:Int)(L:aj)(W:List Bool)(al g:Int)(M:S->Prop)(R:X->Option (List AV)->T ax->Nat->Prop):ai:=(bif decide (g<0)then(some ((aw []/\R (X.ret) (some [AV.c (Cell.bool false)]) (aN [(0,ax.row 65 false none (Body.cells [Cell.int i64 a,Cell.int i64 b,Cell.int i64 c,Cell.aC 1 64 0 n,Cell.int u32 sc,Cell.sl 2 0 n n,Cell.int i64 al])),(1,ax.row 95 false (some 64) (Body.ints u8 L (64*n))),(2,ax.row 4 false none (Body.aT W n))]) (3))))else((bif decide (g>=a)then(some ((aw []/\R (X.ret) (some [AV.c (Cell.bool false)]) (aN [(0,ax.row 65 false none (Body.cells [Cell.int i64 a,Cell.int i64 b,Cell.int i64 c,Cell.aC 1 64 0 n,Cell.int u32 sc,Cell.sl 2 0 n n,Cell.int i64 al])),(1,ax.row 95 false (some 64) (Body.ints u8 L (64*n))),(2,ax.row 4 false none (Body.aT W n))]) (3))))else(some ((aw []/\M (aa1 a b c n sc L W al g)))))))
theorem Uw(a b c:Int)(n:Nat)(sc:Int)(L:aj)(W:List Bool)(al g:Int)(M:S->Prop)(R:X->Option (List AV)->T ax->Nat->Prop):p32 a b c n sc L W al g M R=aeI a b c n sc L W al g M R:=by kernel_rfl
def ac7(a b c:Int)(n:Nat)(sc:Int)(L:aj)(W:List Bool)(al g:Int)(Q:ag):ai:=some ((aw []/\Q (X.normal) (Fp a b c n sc L W al g sc 0)))
theorem SE(a b c:Int)(n:Nat)(sc:Int)(L:aj)(W:List Bool)(al g:Int)(Q:ag):i32 a b c n sc L W al g Q=ac7 a b c n sc L W al g Q:=by kernel_rfl
def aem(a b c:Int)(n:Nat)(sc:Int)(L:aj)(W:List Bool)(al g:Int)(s i:Int)(Q:ag):ai:=(bif decide (i<g)then(some ((aw []/\Q (X.normal) (Fp a b c n sc L W al g (u32.wrap (s.tdiv 2)) (i64.wrap (i+1))))))else(some ((aw []/\Q (X.exit 0) (Fp a b c n sc L W al g s i)))))
theorem HI(a b c:Int)(n:Nat)(sc:Int)(L:aj)(W:List Bool)(al g:Int)(s i:Int)(Q:ag):t32 a b c n sc L W al g s i Q=aem a b c n sc L W al g s i Q:=by kernel_rfl
def aeF(a b c:Int)(n:Nat)(sc:Int)(L:aj)(W:List Bool)(al g:Int)(s i:Int)(R:X->Option (List AV)->T ax->Nat->Prop):ai:=some ((aw []/\R (X.ret) (some [AV.c (Cell.bool (s.tmod 2==1))]) (aN [(0,ax.row 65 false none (Body.cells [Cell.int i64 a,Cell.int i64 b,Cell.int i64 c,Cell.aC 1 64 0 n,Cell.int u32 sc,Cell.sl 2 0 n n,Cell.int i64 al])),(1,ax.row 95 false (some 64) (Body.ints u8 L (64*n))),(2,ax.row 4 false none (Body.aT W n))]) (3)))
theorem UQ(a b c:Int)(n:Nat)(sc:Int)(L:aj)(W:List Bool)(al g:Int)(s i:Int)(R:X->Option (List AV)->T ax->Nat->Prop):e32 a b c n sc L W al g s i R=aeF a b c n sc L W al g s i R:=by kernel_rfl
def wG:Nat->Int->Int
 | 0,s=>s
 |k+1,s=>wG k (u32.wrap (s.tdiv 2))
theorem UI{s:Int}(h:cF s):u32.wrap (s.tdiv 2)=s / 2/\cF (s / 2):=by
 obtain⟨h0,h1⟩:=h;rw[Int.tdiv_eq_ediv_of_nonneg h0,wrap_u32];exact⟨by omega,⟨by omega,by omega⟩⟩
theorem FV: ∀(k:Nat) {s:Int},cF s->wG k s=s / 2 ^ k
 | 0,s,_=>by simp[wG]
 |k+1,s,h=>by
  obtain⟨h1,h2⟩:=UI h;rw[wG,h1,FV k h2,Int.pow_succ,Int.mul_comm,Int.ediv_ediv_of_nonneg (by decide)]
theorem Zx{x:Int}(h:cF x):u32.wrap ((BitVec.ofInt 32 x &&& BitVec.ofInt 32 1).toNat:Int)=x % 2:=by
 have h1:(BitVec.ofInt 32 1:BitVec 32).toNat=1:=by decide
 rw[BitVec.toNat_and,yG h,h1,Nat.and_one_is_mod,wrap_u32];obtain⟨h0,h2⟩:=h;omega
theorem QG{a sc g:Int}(h0:0<=g)(h1:g<a)(hs:cF sc):cN a sc g=((wG g.toNat sc).tmod 2==1):=by
 have hu: ∀k:Nat,cF (sc / 2 ^ k):=fun k=>by
  obtain⟨s0,s1⟩:=hs;have hp:(0:Int)<2 ^ k:=Int.pow_pos (by decide)
  exact⟨Int.ediv_nonneg s0 (Int.le_of_lt hp),Int.lt_of_le_of_lt (Int.ediv_le_self _ s0) s1⟩
 have e:sc.fdiv (2 ^(min g.toNat 32))=sc / 2 ^ g.toNat:=by
  have hp: ∀k:Nat,(0:Int)<2 ^ k:=fun k=>Int.pow_pos (by decide)
  rw[Int.fdiv_eq_ediv_of_nonneg _ (Int.le_of_lt (hp _))];by_cases hg:g.toNat<=32
  ·rw[Nat.min_eq_left hg]
  ·rw[Nat.min_eq_right (by omega)]
   obtain⟨s0,s1⟩:=hs;rw[Int.ediv_eq_zero_of_lt s0 (by simpa using s1)]
   have:(2:Int) ^ 32<=2 ^ g.toNat:=by
    have:=Nat.pow_le_pow_right (n:=2) (by decide) (show 32<=g.toNat by omega)
    exact_mod_cast this
   rw[Int.ediv_eq_zero_of_lt s0 (by omega)]
 unfold cN;rw[e,Zx (hu _),FV _ hs,Int.tmod_eq_emod_of_nonneg (hu _).1];simp[h0,h1]
section
variable{a b c:Int}{n:Nat}{sc:Int}{L:aj}{W:List Bool}{al:Int}
theorem aa4{Q:ag}{g:Int}(hg:g<9223372036854775808): ∀(k:Nat) (i s:Int),0<=i->i+k=g->Q (.exit 0) (Fp a b c n sc L W al g (wG k s) g)->Tr prog nL (.loop l32) (Fp a b c n sc L W al g s i) Q
 | 0,i,s,h0,hi,hq=>by
  obtain rfl:i=g:=by simpa using hi
  refine Tr.loop (Tr.aP s4 (.of_eq (HI ..) (.no (by simp) ⟨trivial,hq⟩)))
 |k+1,i,s,h0,hi,hq=>by
  push_cast at hi
  refine Tr.loop (Tr.aP s4 (.of_eq (HI ..) (.yes (by simp;omega) ⟨trivial,?_⟩)))
  show Tr _ _ _ _ _;rw[IntWalk.i64_in (i+1) (by omega)]
  exact aa4 hg k (i+1) _ (by omega) (by omega) hq
theorem P2:f83.body=some xd:=by kernel_rfl
theorem YL(g:Int):setArgs nL [.one (.c (.ptr 0 0)),.one (.c (.int .i64 g))] 0 .nil some=some (ab5 g):=by kernel_rfl
theorem Zp{g:Int}(ha:a<9223372036854775808)(hs:cF sc):fC prog 83 [.one (.c (.ptr 0 0)),.one (.c (.int .i64 g))] 3 (dZ a b c n sc (L,W,al)) (dZ a b c n sc (L,W,al)) (.one (.c (.bool (cN a sc g)))):=by
 refine Tr.mZ (fn:=f83) (c:=xd) func83 P2 (by rw[fA];exact gh) (YL g) ?_
 refine Tr.Ze (aH:= [0,1,5]) s4 (m:=3) (.of_eq (Uw a b c n sc L W al g (fun s=>Tr prog nL (aG 3 xd) s (yU prog nL f83.results.toList (.one (.c (.bool (cN a sc g)))) (dZ a b c n sc (L,W,al)) 3)) (AU (.one (.c (.bool (cN a sc g)))) (dZ a b c n sc (L,W,al)) 3)) ?_)
 have no:cN a sc g=false->AU (.one (.c (.bool (cN a sc g)))) (dZ a b c n sc (L,W,al)) 3 X.ret (some [AV.c (Cell.bool false)]) (dZ a b c n sc (L,W,al)) 3:=fun e=>⟨rfl,_,rfl,by rw[e];rfl,rfl,rfl⟩
 refine .fork (fun h=>⟨trivial,no ?_⟩) (fun h=> .fork (fun h1=>⟨trivial,no ?_⟩) (fun h1=>⟨trivial,?_⟩))
 ·unfold cN;simp at h ⊢;omega
 ·unfold cN;simp at h h1 ⊢;omega
 ·have g0:0<=g:=by simpa using h
  have g1:g<a:=by simpa using h1
  refine Tr.seq (c:=gL (aG 3 xd)) (d:=gR (aG 3 xd)) (Tr.seq (c:=gL (gL (aG 3 xd))) (d:= .block 0 (.loop l32)) (Tr.aP s4 (.of_eq (SE ..) (.pS ⟨trivial,?_⟩))));refine Tr.block (aa4 (by omega) g.toNat 0 sc (by omega) (by omega) ?_)
  refine Tr.afs s4 (.of_eq (UQ a b c n sc L W al g _ _ (AU (.one (.c (.bool (cN a sc g)))) (dZ a b c n sc (L,W,al)) 3)) (.pS ⟨trivial,rfl,_,rfl,?_,rfl,rfl⟩));rw[QG g0 g1 hs];rfl
end
def yZ:bg:=lA fun xs a _ _ _ sc st=>match xs with
 | [.one (.c (.int .i64 g))]=>some (.one (.c (.bool (cN a sc g))),st,[a<9223372036854775808,cF sc])
 |_=>none
theorem tF:aI prog 83 yZ:=by
 refine mV ⟨_,func83,rfl⟩ (fun xs a b c n sc st v st' ps h hp _ _=> ?_) (fun xs a b c n sc st v st' ps h=> ?_)
 ·split at h<;>try(cases h;done)
  simp only[ae,af]at h;obtain⟨rfl,rfl,rfl⟩:=h;exact Zp hp.1 hp.2.1
 ·split at h<;>try(cases h;done)
  simp only[ae,af]at h;obtain⟨rfl,rfl,rfl⟩:=h;exact⟨rfl,rfl⟩
def A8(t0:TypeId)(op:Option Nat)(t1:TypeId)(a b c:Int)(L:aj)(N n:Nat)(sc al:Int)(m1 m2:Nat):T ax:=aN [(0,.row t0 true op (.cells [.int .i64 a,.int .i64 b,.int .i64 c,.aC 1 64 0 n,.int .u32 sc,.sl 2 0 m1 m2,.int .i64 al])),(1,.row t1 true (some 64) (.ints .u8 L N))]
def EZ(hp:Hp)(nm:Nat):Option (Int×Int×Int×List Int×Nat×Nat×Int×Int×TypeId×Option Nat×TypeId×Nat×Nat):=
 match bn hp nm with
 |some (t0,_,op,.cells [.int .i64 a,.int .i64 b,.int .i64 c,.aC nl 64 0 n,.int .u32 sc,.sl _ 0 m1 m2,.int .i64 al])=>match bn hp nl with
  |some (t1,_,some 64,.ints .u8 L N)=>some (a,b,c,L,N,n,sc,al,t0,op,t1,m1,m2)
  |_=>none
 |_=>none
theorem OP{s:S}{nm:Nat}{a b c:Int}{L:aj}{N n:Nat}{sc al:Int}{t0:TypeId}{op:Option Nat}{t1:TypeId}{m1 m2:Nat}(h:EZ s.hp.get nm=some (a,b,c,L,N,n,sc,al,t0,op,t1,m1,m2)):
  ∃θ:Nat->Nat,θ 0=nm/\∀nm' x,(A8 t0 op t1 a b c L N n sc al m1 m2).get nm'=some x->nm'<3/\∃y,s.hp.get (θ nm')=some y/\ft 3 θ x y:=by
 unfold EZ at h;split at h<;>try(cases h;done)
 rename_i t0' ro0 op' a' b' c' nl n' sc' nw m1' m2' out' h0;split at h<;>try(cases h;done)
 rename_i t1' ro1 L' N' h1;cases h;refine⟨fun i=>if i=0 then nm else if i=1 then nl else nw,rfl,fun nm' x hx=> ?_⟩
 rcases A4 hx with⟨rfl,rfl⟩|⟨rfl,rfl⟩
 ·exact⟨by omega,_,cT h0,ft.cells (by rfl)⟩
 ·exact⟨by omega,_,cT h1,ft.ints⟩
def lN(G:List RV->Int->Int->Int->List Int->Nat->Int->Option (RV×List Prop)):bg:=fun args hp nx=>match args with
 | .one (.c (.ptr nm 0))::xs=>match EZ hp.get nm with
  |some (a,b,c,L,N,n,sc,_,_,_,_,_,_)=>match G xs a b c L n sc with
   |some (v,ps)=>some (v,hp,nx,[],(L.length=N)::(N=64*n)::ps)
   |none=>none
  |none=>none
 |_=>none
theorem Ct{f:FuncId}(hfn: ∃fn,prog.funcs[f]? =some fn/\fn.body.isNone=false){G:List RV->Int->Int->Int->List Int->Nat->Int->Option (RV×List Prop)}
  (hx: ∀xs a b c L n sc v ps,G xs a b c L n sc=some (v,ps)->xs.all ej=true/\ej v=true)
  (hG: ∀xs a b c L n sc v ps,G xs a b c L n sc=some (v,ps)->aw ps->L.length=64*n->∀(t0:TypeId) (op:Option Nat) (t1:TypeId) (al:Int) (m1 m2:Nat) (ρ:aM) (w:World) (vs:List Value),bu ρ (A8 t0 op t1 a b c L (64*n) n sc al m1 m2).get w->bW ρ 3->bo ρ (.one (.c (.ptr 0 0))::xs) vs->
   Calls prog f vs.toArray w fun e w'=> ∃V ρ' hp' nx' L',e= .returned V/\bE ρ' v V/\dN ρ (A8 t0 op t1 a b c L (64*n) n sc al m1 m2).get 3 w ρ' hp' nx' w' L'):aI prog f (lN G):=by
 intro args s v hp nx lg ps ht h bB;unfold lN at h;split at h<;>try(cases h;done)
 rename_i nm xs;split at h<;>try(cases h;done)
 rename_i a b c L N n sc al t0 op t1 m1 m2 hi;split at h<;>try(cases h;done)
 rename_i v1 ps1 hg;simp only[ae,af]at h;obtain⟨rfl,rfl,rfl,rfl,rfl⟩:=h;obtain⟨hl,hN,bB⟩:=bB;subst hN;obtain⟨hfx,hfv⟩:=hx _ _ _ _ _ _ _ _ _ hg;obtain⟨θ,e0,hin⟩:=OP hi;have ex:xs.map (dB θ)=xs:=(List.map_congr_left fun c hc=>k8 (List.all_eq_true.1 hfx c hc)).trans (List.map_id xs)
 have ea:((.one (.c (.ptr 0 0)):RV)::xs).map (dB θ)= .one (.c (.ptr nm 0))::xs:=by
  rw[List.map_cons,ex];simp[dB,jq,jy,e0]
 have:=aU.small (P:=prog) (f:=f) (args:= .one (.c (.ptr 0 0))::xs) (v:=v1) (k:=3) (hs:=A8 t0 op t1 a b c L (64*n) n sc al m1 m2) (θ:=θ) (s:=s) ht hfn (hG _ _ _ _ _ _ _ _ _ hg bB hl t0 op t1 al m1 m2) hin
  (List.all_eq_true.2 fun c hc=>by
   rcases List.mem_cons.1 hc with rfl|hc
   ·rfl
   ·exact sW (List.all_eq_true.1 hfx c hc)) hfv
 rw[ea]at this;exact this
def ZQ(t0:TypeId)(op:Option Nat)(t1:TypeId)(a b c:Int)(L:aj)(N n:Nat)(sc al:Int)(m1 m2:Nat)(g k:Int)(Q:RV->Prop):ai:=cO prog Vn 300 85 [.one (.c (.ptr 0 0)),.one (.c (.int .i64 g)),.one (.c (.int .i64 k))] ⟨.nil,A8 t0 op t1 a b c L N n sc al m1 m2,3,[]⟩ aO fun v _ Z=>some (aw Z.ob/\Q v)
end Go.Sx
