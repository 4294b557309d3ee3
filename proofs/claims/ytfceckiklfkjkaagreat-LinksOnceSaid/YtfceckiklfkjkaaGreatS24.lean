import Derived.Test.YtfceckiklfkjkaaGreatS23
noncomputable section
open Go.Proofs Go.RowKit
set_option maxRecDepth 100000
open Go.IntKind(i64 u8 u64 u32 u16)
open Go.Proofs.Tryz
namespace Go.Sx
def Mw(g:Int)(o:List (Nat×Bool)):Option (RV×List Prop):=cO prog (fun _=>none) 300 152 [.one (.c (.int .i64 g))] s0 ⟨0,o,[]⟩ fun v _ Z=>some (v,Z.ob)
def Xq:List Int:=List.replicate 52 0
theorem ZL(g:Int):Mw g [(0,true),(1,true),(2,true)]=some (.aF [.ints .u8 bA 54,.c (.int .i64 2)],rep 3 (decide (g<0)=true)):=by kernel_rfl
theorem aai(g:Int):Mw g [(0,false),(1,false),(2,false),(3,true)]=some (.aF [.ints .u8 bA 54,.c (.int .i64 2)],[decide (g>=8)=true]++rep 3 (decide (g<0)=false)):=by kernel_rfl
theorem acN(g:Int):Mw g [(0,false),(1,false),(2,false),(3,false)]=some (.aF [.ints .u8 (u8.wrap (u16.wrap g)::u8.wrap ((u16.wrap g).fdiv 256)::Xq) 54,.c (.int .i64 0)],[decide (g>=8)=false]++rep 3 (decide (g<0)=false)):=by kernel_rfl
def ph(g:Int):Bool:=decide (0<=g) && decide (g<8)
def eO(g:Int):List Int:=if ph g then g::0::Xq else bA
def wJ(args:List RV):Option (RV×List Prop):=match args with
 | [.one (.c (.int .i64 g))]=>some (.aF [.ints .u8 (eO g) 54,.c (.int .i64 (if ph g then 0 else 2))],[])
 |_=>none
theorem wrap_u16(x:Int):u16.wrap x=x % 65536:=by unfold IntKind.wrap;simp[IntKind.bits,IntKind.signed]
theorem SF:cg prog 152 wJ:=by
 intro args v ps h hp ρ w vs ha;unfold wJ at h;split at h<;>try(cases h;done)
 rename_i g;simp only[ae,af]at h;obtain⟨rfl,rfl⟩:=h;cases h0:decide (g<0)with
 |true=>
  have e:ph g=false:=by unfold ph;simp at h0 ⊢;omega
  unfold eO;rw[e];exact cm eM (by rfl) (by rfl) (ZL g) (cS h0 3) ρ w vs ha
 |false=>
  cases h1:decide (g>=8)with
  |true=>
   have e:ph g=false:=by unfold ph;simp at h1 ⊢;omega
   unfold eO;rw[e];exact cm eM (by rfl) (by rfl) (aai g) ((bH _ _).2 ⟨⟨h1,trivial⟩,cS h0 3⟩) ρ w vs ha
  |false=>
   have hg:0<=g/\g<8:=by simp at h0 h1;omega
   have e:ph g=true:=by unfold ph;simp;omega
   unfold eO;rw[e];have hr:=acN g;have e1:u16.wrap g=g:=by rw[wrap_u16];omega
   have e2:u8.wrap g=g:=by rw[wrap_u8];omega
   have e3:u8.wrap (g.fdiv 256)=0:=by rw[Int.fdiv_eq_ediv_of_nonneg _ (by decide),wrap_u8];omega
   rw[e1,e2,e3]at hr;exact cm eM (by rfl) (by rfl) hr ((bH _ _).2 ⟨⟨h1,trivial⟩,cS h0 3⟩) ρ w vs ha
def AX:FuncId->Option bg:=fun f=>match f with| 108=>some (aL tL)|_=>none
def Le(a b c g:Int)(o:List (Nat×Bool)):Option (RV×List Prop):=cO prog AX 300 153 [.one (.agg [.int .i64 a,.int .i64 b,.int .i64 c]),.one (.c (.int .i64 g))] s0 ⟨0,o,[]⟩ fun v _ Z=>some (v,Z.ob)
theorem adB(a b c g:Int):Le a b c g (tT [0,1,2])=some (.aF [.c (.int .i64 0),.c (.int .i64 2)],rep 3 ((cW (aY a b c) !=0)=true)):=by kernel_rfl
theorem ad1(a b c g:Int):Le a b c g (fF [0,1,2]++tT [3,4,5,6,7])=some (.aF [.c (.int .i64 0),.c (.int .i64 2)],rep 5 (decide (g<0)=true)++rep 3 ((cW (aY a b c) !=0)=false)):=by kernel_rfl
theorem aef(a b c g:Int):Le a b c g (fF [0,1,2,3,4,5,6,7]++ [(8,true)])=some (.aF [.c (.int .i64 0),.c (.int .i64 2)],[decide (g>=a)=true]++(rep 5 (decide (g<0)=false)++rep 3 ((cW (aY a b c) !=0)=false))):=by kernel_rfl
theorem acW(a b c g:Int):Le a b c g (fF [0,1,2,3,4,5,6,7]++ [(8,false)])=some (.aF [.c (.int .i64 (i64.wrap (i64.wrap (2+i64.wrap (g*i64.wrap (i64.wrap (2+b)+c)))+0))),.c (.int .i64 0)],[decide (g>=a)=false]++(rep 5 (decide (g<0)=false)++rep 3 ((cW (aY a b c) !=0)=false))):=by kernel_rfl
def jB(a b c g:Int):Bool:=aY a b c &&(decide (0<=g) && decide (g<a))
def jd(a b c g:Int):Int:=if jB a b c g then 2+g*(2+b+c)else 0
def Tt(args:List RV):Option (RV×List Prop):=match args with
 | [.one (.agg [.int .i64 a,.int .i64 b,.int .i64 c]),.one (.c (.int .i64 g))]=>some (.aF [.c (.int .i64 (jd a b c g)),.c (.int .i64 (if jB a b c g then 0 else 2))],[])
 |_=>none
theorem gj(x:Bool):(cW x !=0)= !x:=by cases x<;>simp[cV,bK]
theorem N0:Fit prog (fun f=>(AX f).map bj):=⟨bM,aV,aI.sum fun f sm h=>by
 unfold AX at h;split at h
 ·cases h;exact(kS 108 lW).sum ⟨_,func108,rfl⟩
 ·cases h⟩
theorem Y1:cg prog 153 Tt:=by
 intro args v ps h hp ρ w vs ha;unfold Tt at h;split at h<;>try(cases h;done)
 rename_i a b c g;simp only[ae,af]at h;obtain⟨rfl,rfl⟩:=h;cases hgeo:aY a b c with
 |false=>
  unfold jd jB;rw[hgeo];exact cm N0 (by rfl) (by rfl) (adB a b c g) (cS (by rw[gj,hgeo];rfl) 3) ρ w vs ha
 |true=>
  have hE:(cW (aY a b c) !=0)=false:=by rw[gj,hgeo];rfl
  cases h0:decide (g<0)with
  |true=>
   have e:jB a b c g=false:=by unfold jB;simp at h0 ⊢;omega
   unfold jd;rw[e];exact cm N0 (by rfl) (by rfl) (ad1 a b c g) ((bH _ _).2 ⟨cS h0 5,cS hE 3⟩) ρ w vs ha
  |false=>
   cases h1:decide (g>=a)with
   |true=>
    have e:jB a b c g=false:=by unfold jB;simp at h1 ⊢;omega
    unfold jd;rw[e];exact cm N0 (by rfl) (by rfl) (aef a b c g) ((bH _ _).2 ⟨⟨h1,trivial⟩,(bH _ _).2 ⟨cS h0 5,cS hE 3⟩⟩) ρ w vs ha
   |false=>
    have hg:0<=g/\g<a:=by simp at h0 h1;omega
    have e:jB a b c g=true:=by unfold jB;rw[hgeo];simp;omega
    unfold jd;rw[e];have hr:=acW a b c g;obtain⟨g1,g2,g3,g4,g5,g6⟩:=b8.1 hgeo;have m1:0<=g*(2+b+c):=Int.mul_nonneg hg.1 (by omega)
    have m2:g*(2+b+c)<=8*138:=Int.mul_le_mul (by omega) (by omega) (by omega) (by omega)
    rw[IntWalk.i64_in (2+b) (by omega),IntWalk.i64_in (2+b+c) (by omega),IntWalk.i64_in (g*(2+b+c)) (by omega),IntWalk.i64_in (2+g*(2+b+c)) (by omega),IntWalk.i64_in _ (by omega),Int.add_zero]at hr
    exact cm N0 (by rfl) (by rfl) hr ((bH _ _).2 ⟨⟨h1,trivial⟩,(bH _ _).2 ⟨cS h0 5,cS hE 3⟩⟩) ρ w vs ha
abbrev St:=List Int×List (Int×Int)×Int
section
variable(a b c:Int)(n:Nat)(sc:Int)
abbrev fP(st:St)(g k:Int)(p:aj):St:=(bF a b c n sc st.2.2 st.1 st.2.1 g k p).2
def sy(st:St)(s:Int):St:=if cI st.1 n s (pl a b c s).1 then st else fP a b c n sc st s (pl a b c s).1 bA
def j8:Nat->St->Int->St
 | 0,st,_=>st
 |m+1,st,s=>j8 m (sy a b c n sc st s) (s+1)
def lv(st:St)(g:Int):St:=j8 a b c n sc (b+1).toNat (fP a b c n sc st (jd a b c g) 2 (eO g)) (jd a b c g+1)
abbrev ca(st:St):T ax:=jc a b c st.1 n sc st.2.2 st.2.1
end
def WS:FuncId->Option bg:=fun f=>match f with| 152=>some (aL wJ)| 153=>some (aL Tt)| 151=>some (aL mY)| 47=>some mB| 78=>some p8|_=>none
theorem yo:Fit prog (fun f=>(WS f).map bj):=⟨bM,aV,aI.sum fun f sm h=>by
 unfold WS at h;split at h
 ·cases h;exact SF.sum ⟨_,func152,rfl⟩
 ·cases h;exact Y1.sum ⟨_,func153,rfl⟩
 ·cases h;exact(kP 151 sq).sum ⟨_,func151,rfl⟩
 ·cases h;exact jx
 ·cases h;exact mi
 ·cases h⟩
def o7:Code:=gB 79
def ym:Code:=match gR (gR (gR o7))with| .seq _ (.block _ (.loop c))=>c|_=> .skip
def zj(g:Int):List RV:= [.one (.c (.ptr 0 0)),.one (.c (.int .i64 g))]
def aaX(g:Int):T RV:=match setArgs 70 (zj g) 0 .nil some with|some t=>t|none=> .nil
theorem XF(g:Int):setArgs 70 (zj g) 0 .nil some=some (aaX g):=by kernel_rfl
abbrev Ss(aH:List Nat)(c:Code)(s:S)(o:List (Nat×Bool)):Option (X×S×List Prop):=az prog WS 300 70 c s ⟨0,o,[]⟩ fun x s Z=>some (x,aE aH 70 s,Z.ob)
abbrev No(aH:List Nat)(c:Code)(s:S)(o:List (Nat×Bool)):Option (X×Bool×S×List Prop):=az prog WS 300 70 c s ⟨0,o,[]⟩ fun x s Z=>some (x,Nat.ble 4 s.nx,low 70 4 (aE aH 70 s),Z.ob)
section
variable(a b c:Int)(L:aj)(n:Nat)(sc al g f s:Int)(l:ak)(h:aj)
abbrev agc(h:aj):ax:= .row 59 false none (.ints .u8 h 54)
def yl:T ax:=aN [(0,.row 113 false none (.cells (tj a b c n sc al))),(1,.row 95 false (some 64) (.ints .u8 L (64*n))),(2,.aQ none l),(3,agc h)]
def aa7:S:=⟨aaX g,jc a b c L n sc al l,3,[]⟩
def aae:S:=aE [0,1,4] 70 ⟨aN [(0,.one (.c (.ptr 0 0))),(1,.one (.c (.int .i64 g))),(4,.one (.c (.ptr 3 0)))],yl a b c L n sc al l h,4,[]⟩
def abz:S:=aE [0,4,6] 70 ⟨aN [(0,.one (.c (.ptr 0 0))),(4,.one (.c (.ptr 3 0))),(6,.one (.c (.int .i64 f)))],yl a b c L n sc al l h,4,[]⟩
def acv:S:=aE [0,6] 70 ⟨aN [(0,.one (.c (.ptr 0 0))),(6,.one (.c (.int .i64 f)))],yl a b c L n sc al l h,4,[]⟩
def wZ:S:=low 70 4 (aE [0,6,8] 70 ⟨aN [(0,.one (.c (.ptr 0 0))),(6,.one (.c (.int .i64 f))),(8,.one (.c (.int .i64 s)))],yl a b c L n sc al l h,4,[]⟩)
theorem q0:Ss [0,1,4] (gL o7) (aa7 a b c L n sc al g l) []=some (.normal,aae a b c L n sc al g l (aB bA 0 (eO g)),[]):=by kernel_rfl
theorem q1:Ss [0,4,6] (gL (gR o7)) (aae a b c L n sc al g l h) []=some (.normal,abz a b c L n sc al (jd a b c g) l h,[]):=by kernel_rfl
theorem q2:Ss [0,6] (gL (gR (gR o7))) (abz a b c L n sc al f l h) []=some (.normal,acv a b c (bF a b c n sc al L l f 2 ((h.drop 0).take 54)).2.1 n sc (bF a b c n sc al L l f 2 ((h.drop 0).take 54)).2.2.2 f (bF a b c n sc al L l f 2 ((h.drop 0).take 54)).2.2.1 h,[L.length=64*n,64*n=64*n,((h.drop 0).take 54).length=54]):=by kernel_rfl
theorem q3:No [0,6,8] (gL (gR (gR (gR o7)))) (acv a b c L n sc al f l h) []=some (.normal,true,wZ a b c L n sc al f (i64.wrap (f+1)) l h,[]):=by kernel_rfl
abbrev BK:Bool:=decide (s<i64.wrap (i64.wrap (f+2)+b))
theorem q4a:No [0,6,8] ym (wZ a b c L n sc al f s l h) [(0,true),(2,true)]=some (.normal,true,wZ a b c (bF a b c n sc al L l s (pl a b c s).1 bA).2.1 n sc (bF a b c n sc al L l s (pl a b c s).1 bA).2.2.2 f (i64.wrap (s+1)) (bF a b c n sc al L l s (pl a b c s).1 bA).2.2.1 h,
 [L.length=64*n,64*n=64*n,54=54,(!cI L n s (pl a b c s).1)=true,L.length=64*n,64*n=64*n,BK b f s=true]):=by kernel_rfl
theorem q4b:No [0,6,8] ym (wZ a b c L n sc al f s l h) [(0,true),(2,false)]=some (.normal,true,wZ a b c L n sc al f (i64.wrap (s+1)) l h,
 [(!cI L n s (pl a b c s).1)=false,L.length=64*n,64*n=64*n,BK b f s=true]):=by kernel_rfl
theorem q4c:No [0,6,8] ym (wZ a b c L n sc al f s l h) [(0,false)]=some (.exit 0,true,wZ a b c L n sc al f s l h,[BK b f s=false]):=by kernel_rfl
theorem yA:(wZ a b c L n sc al f s l h).nx=4:=by kernel_rfl
def e46:S:=low 70 3 (wZ a b c L n sc al f s l h)
theorem abI:(e46 a b c L n sc al f s l h).hp=jc a b c L n sc al l:=by kernel_rfl
theorem acn:(e46 a b c L n sc al f s l h).nx=3:=by kernel_rfl
theorem X1:ba prog 70 (e46 a b c L n sc al f s l h) f79.results.toList=some []:=by kernel_rfl
end
section
variable{a b c:Int}{n:Nat}{sc f g:Int}{h:aj}
theorem fR{st:St}{g k:Int}{p:aj}(hl:st.1.length=64*n)(hp:p.length=54):(fP a b c n sc st g k p).1.length=64*n:=QA hl hp
theorem Th{st:St}{s:Int}(hl:st.1.length=64*n):(sy a b c n sc st s).1.length=64*n:=by
 unfold sy;split
 ·exact hl
 ·exact fR hl rfl
theorem GJ: ∀ {m:Nat} {st:St} {s:Int},st.1.length=64*n->(j8 a b c n sc m st s).1.length=64*n
 | 0,_,_,hl=>hl
 |m+1,st,s,hl=>by rw[j8];exact GJ (Th hl)
abbrev aaU(a b c:Int)(n:Nat)(sc f:Int)(h:aj)(st:St)(s:Int):S:=wZ a b c st.1 n sc st.2.2 f s st.2.1 h
theorem E1(hf:0<=f/\f<=100000)(hb:0<=b/\b<=1000): ∀(m:Nat) (st:St) (s:Int),st.1.length=64*n->0<=s->s+m=f+2+b->Tr prog 70 (.loop ym) (aaU a b c n sc f h st s) (fun x s'=>x= .exit 0/\s'=aaU a b c n sc f h (j8 a b c n sc m st s) (f+2+b))
 | 0,st,s,hl,h0,hm=>by
  have e:i64.wrap (i64.wrap (f+2)+b)=f+2+b:=by rw[IntWalk.i64_in (f+2) (by omega),IntWalk.i64_in _ (by omega)]
  refine Tr.loop (Tr.eG yo (by rw[yA];exact Nat.le_refl _) (q4c a b c st.1 n sc st.2.2 f s st.2.1 h) ⟨by unfold BK;rw[e];simp;omega,trivial⟩ ?_)
  refine⟨rfl,?_⟩;have:s=f+2+b:=by simpa using hm
  subst this
  rfl
 |m+1,st,s,hl,h0,hm=>by
  have e:i64.wrap (i64.wrap (f+2)+b)=f+2+b:=by rw[IntWalk.i64_in (f+2) (by omega),IntWalk.i64_in _ (by omega)]
  have aA:BK b f s=true:=by unfold BK;rw[e];simp;omega
  have hs1:i64.wrap (s+1)=s+1:=IntWalk.i64_in _ (by omega)
  cases hk:cI st.1 n s (pl a b c s).1 with
  |true=>
   have hsec:sy a b c n sc st s=st:=by unfold sy;rw[if_pos hk]
   refine Tr.loop (Tr.eG yo (by rw[yA];exact Nat.le_refl _) (q4b a b c st.1 n sc st.2.2 f s st.2.1 h) ⟨by rw[hk];rfl,hl,rfl,aA,trivial⟩ ?_)
   have ih:=E1 hf hb m st (s+1) hl (by omega) (by push_cast at hm;omega)
   show Tr prog 70 (.loop ym) _ _;rw[hs1,show j8 a b c n sc (m+1) st s=j8 a b c n sc m st (s+1)by rw[j8,hsec]]
   exact ih
  |false=>
   have hsec:sy a b c n sc st s=fP a b c n sc st s (pl a b c s).1 bA:=by unfold sy;rw[hk];rfl
   refine Tr.loop (Tr.eG yo (by rw[yA];exact Nat.le_refl _) (q4a a b c st.1 n sc st.2.2 f s st.2.1 h) ⟨hl,rfl,rfl,by rw[hk];rfl,hl,rfl,aA,trivial⟩ ?_)
   have ih:=E1 hf hb m (fP a b c n sc st s (pl a b c s).1 bA) (s+1) (fR hl rfl) (by omega) (by push_cast at hm;omega)
   show Tr prog 70 (.loop ym) _ _;rw[hs1,show j8 a b c n sc (m+1) st s=j8 a b c n sc m (fP a b c n sc st s (pl a b c s).1 bA) (s+1)by rw[j8,hsec]]
   exact ih
theorem mT:(eO g).length=54:=by unfold eO;split<;>rfl
theorem abU{st:St}(hl:st.1.length=64*n)(hg:aY a b c=true)(hf:jB a b c g=true):Tr prog 70 o7 (aa7 a b c st.1 n sc st.2.2 g st.2.1) (fun x s1=>(x= .normal\/x= .ret)/\∃q,ba prog 70 s1 f79.results.toList=some q/\(c6 q= .aF []/\s1.hp=ca a b c n sc (lv a b c n sc st g)/\s1.nx=3)):=by
 obtain⟨g1,g2,g3,g4,g5,g6⟩:=b8.1 hg;have hf':=hf;unfold jB at hf';simp only[Bool.and_eq_true,decide_eq_true_eq]at hf';obtain⟨_,f1,f2⟩:=hf';have m1:0<=g*(2+b+c):=Int.mul_nonneg f1 (by omega)
 have m2:g*(2+b+c)<=8*138:=Int.mul_le_mul (by omega) (by omega) (by omega) (by omega)
 have hF:jd a b c g=2+g*(2+b+c):=by unfold jd;rw[if_pos hf]
 have hh:((aB bA 0 (eO g)).drop 0).take 54=eO g:=by rw[ck mT,aJ mT]
 refine Tr.low (m:=3) (Nat.le_refl _) ?_;refine Tr.seq (c:=gL o7) (d:=gR o7) (Tr.path yo (q0 a b c st.1 n sc st.2.2 g st.2.1) trivial ?_);refine Tr.seq (c:=gL (gR o7)) (d:=gR (gR o7)) (Tr.path yo (q1 a b c st.1 n sc st.2.2 g st.2.1 _) trivial ?_);refine Tr.seq (c:=gL (gR (gR o7))) (d:=gR (gR (gR o7))) (Tr.path yo (q2 a b c st.1 n sc st.2.2 (jd a b c g) st.2.1 _) ⟨hl,rfl,by rw[hh];exact mT,trivial⟩ ?_)
 rw[hh];refine Tr.seq (c:=gL (gR (gR (gR o7)))) (d:= .block 0 (.loop ym)) (Tr.eG yo (Nat.le_refl _) (q3 ..) trivial ?_);refine Tr.block ?_;have hs1:i64.wrap (jd a b c g+1)=jd a b c g+1:=IntWalk.i64_in _ (by omega)
 rw[hs1];have hlp:=E1 (a:=a) (b:=b) (c:=c) (n:=n) (sc:=sc) (f:=jd a b c g) (h:=aB bA 0 (eO g)) (by omega) (by omega) (b+1).toNat (fP a b c n sc st (jd a b c g) 2 (eO g)) (jd a b c g+1) (fR hl mT) (by omega) (by omega)
 refine hlp.mono fun x s' hx=> ?_
 obtain⟨rfl,rfl⟩:=hx;simp only[if_true];refine⟨by rw[yA];omega,by simp,_,X1 ..,rfl,abI ..,acn ..⟩
theorem O5:f79.body=some o7:=by kernel_rfl
theorem YV{st:St}(hl:st.1.length=64*n)(hg:aY a b c=true)(hf:jB a b c g=true):fC prog 79 (zj g) 3 (ca a b c n sc st) (ca a b c n sc (lv a b c n sc st g)) (.aF []):=
 Tr.mZ (fn:=f79) (c:=o7) func79 O5 (by rw[ca,bJ];exact gh) (XF g) (abU hl hg hf)
end
def GR:bg:=fun args hp nx=>match args with
 | [.one (.c (.ptr nm 0)),.one (.c (.int .i64 g))]=>match mH hp.get nm with
  |some (a,b,c,L,N,n,sc,al,l,nl,nw)=>
   match Nat.blt nm nx,Nat.blt nl nx,Nat.blt nw nx with
   |true,true,true=>
    T.set depth hp nw (some (.aQ none l)) fun hp=>
    T.set depth hp nm (some (.row 113 false none (.cells [.int .i64 a,.int .i64 b,.int .i64 c,.aC nl 64 0 n,.int .u32 sc,.map nw,.int .i64 (lv a b c n sc (L,l,al) g).2.2]))) fun hp=>
    T.set depth hp nl (some (.row 95 false (some 64) (.ints .u8 (lv a b c n sc (L,l,al) g).1 N))) fun hp=>
    T.set depth hp nw (some (.aQ none (lv a b c n sc (L,l,al) g).2.1)) fun hp=>
    some (.aF [],hp,nx,[nm,nl,nw],[L.length=N,N=64*n,aY a b c=true,jB a b c g=true])
   |_,_,_=>none
  |none=>none
 |_=>none
theorem Pm:aI prog 79 GR:=by
 intro args s v hp nx lg ps ht h bB;unfold GR at h;split at h<;>try(cases h;done)
 rename_i nm g;split at h<;>try(cases h;done)
 rename_i a b c L N n sc al l nl nw hi;split at h<;>try(cases h;done)
 rename_i b1 b2 b3;obtain⟨h1,h2,h3⟩:=rW hi;have n1:nm<s.nx:=ew b1;have n2:nl<s.nx:=ew b2;have n3:nw<s.nx:=ew b3;have d1:nm≠nl:=fun e=>by subst e;rw[h1]at h2;cases h2
 have d2:nm≠nw:=fun e=>by subst e;rw[h1]at h3;rcases h3 with h3|⟨_,h3⟩<;>cases h3
 have d3:nl≠nw:=fun e=>by subst e;rw[h2]at h3;rcases h3 with h3|⟨_,h3⟩<;>cases h3
 obtain⟨t0,h,q0⟩:=T.bR _ _ _ _ _ _ h;obtain⟨t1,h,q1⟩:=T.bR _ _ _ _ _ _ h;obtain⟨t2,h,q2⟩:=T.bR _ _ _ _ _ _ h;obtain⟨t3,h,q3⟩:=T.bR _ _ _ _ _ _ h;simp only[ae,af]at h;obtain⟨rfl,rfl,rfl,rfl,rfl⟩:=h;obtain⟨hl,hN,hgeo,hfst,_⟩:=bB;subst hN;have ht0:cJ {s with hp:=t0}:=fun j hj=>by
  show t0.get j=none;have:s.nx<=j:=hj;rw[q0 j,if_neg (by omega)]
  exact ht j hj
 have g1:t0.get nm=_:=(q0 nm).trans ((if_neg d2).trans h1);have g2:t0.get nl=_:=(q0 nl).trans ((if_neg d3).trans h2);have g3:t0.get nw=some (.aQ none l):=(q0 nw).trans (if_pos rfl);have hget: ∀j,t3.get j=if j=nw then some (.aQ none (lv a b c n sc (L,l,al) g).2.1)else if j=nl then some (.row 95 false (some 64) (.ints .u8 (lv a b c n sc (L,l,al) g).1 (64*n)))else if j=nm then some (.row 113 false none (.cells [.int .i64 a,.int .i64 b,.int .i64 c,.aC nl 64 0 n,.int .u32 sc,.map nw,.int .i64 (lv a b c n sc (L,l,al) g).2.2]))else t0.get j:=fun j=>by
  rw[q3 j,q2 j,q1 j]
 let θ:Nat->Nat:=fun i=>if i=0 then nm else if i=1 then nl else nw
 have ea:(zj g).map (dB θ)= [.one (.c (.ptr nm 0)),.one (.c (.int .i64 g))]:=rfl;have hC:=YV (a:=a) (b:=b) (c:=c) (n:=n) (sc:=sc) (g:=g) (st:=(L,l,al)) hl hgeo hfst;have:=aU.frame (P:=prog) (f:=79) (θ:=θ) (s:= {s with hp:=t0}) (hp':=t3) (Lw:= [nm,nl,nw]) ht0 ⟨_,func79,rfl⟩ hC (by rfl)
  (fun i x hx=>by
   rw[ca,bJ]at hx;rcases cy hx with⟨rfl,rfl⟩|⟨rfl,rfl⟩|⟨rfl,rfl⟩
   ·exact⟨by omega,rfl,rfl,n1,g1⟩
   ·exact⟨by omega,rfl,rfl,n2,g2⟩
   ·exact⟨by omega,rfl,rfl,n3,g3⟩)
  (fun i j x y hx hy he=>by
   rw[ca,bJ]at hx hy;rcases cy hx with⟨rfl,_⟩|⟨rfl,_⟩|⟨rfl,_⟩<;>rcases cy hy with⟨rfl,_⟩|⟨rfl,_⟩|⟨rfl,_⟩<;>first|rfl|exact absurd he d1|exact absurd he d2|exact absurd he d3|exact absurd he.symm d1|exact absurd he.symm d2|exact absurd he.symm d3)
  (fun j hj=>by
   have j0:=hj 0 _ (by rw[ca,bJ];rfl)
   have j1:=hj 1 _ (by rw[ca,bJ];rfl)
   have j2:=hj 2 _ (by rw[ca,bJ];rfl)
   rw[hget,if_neg (fun e=>j2 e.symm),if_neg (fun e=>j1 e.symm),if_neg (fun e=>j0 e.symm)])
  (fun i x hx=>by
   rw[ca,bJ]at hx;rw[hget,ca,bJ];rcases cy hx with⟨rfl,rfl⟩|⟨rfl,rfl⟩|⟨rfl,rfl⟩
   ·rw[if_neg (show θ 0≠nw from d2),if_neg (show θ 0≠nl from d1),if_pos (show θ 0=nm from rfl)];rfl
   ·rw[if_neg (show θ 1≠nw from d3),if_pos (show θ 1=nl from rfl)];rfl
   ·rw[if_pos (show θ 2=nw from rfl)];rfl)
  (fun j=>by
   constructor
   ·intro hj;rcases List.mem_cons.1 hj with rfl|hj
    ·exact⟨0,_,by rw[ca,bJ];rfl,rfl⟩
    ·rcases List.mem_cons.1 hj with rfl|hj
     ·exact⟨1,_,by rw[ca,bJ];rfl,rfl⟩
     ·rcases List.mem_cons.1 hj with rfl|hj
      ·exact⟨2,_,by rw[ca,bJ];rfl,rfl⟩
      ·cases hj
   ·rintro⟨i,x,hx,rfl⟩;rw[ca,bJ]at hx;rcases cy hx with⟨rfl,_⟩|⟨rfl,_⟩|⟨rfl,_⟩<;>simp[θ])
 rw[ea]at this;exact this.WI (by simp) h3 q0
section
variable(a b c:Int)(n:Nat)(sc:Int)
def acQ(st:St):St:=fP a b c n sc (fP a b c n sc st 0 1 (sup a b c)) 1 1 (sup a b c)
def yw(st:St)(i:Int):St:=if cN a sc i then lv a b c n sc st i else st
def ka:Nat->St->Int->St
 | 0,st,_=>st
 |m+1,st,i=>ka m (yw a b c n sc st i) (i+1)
def ju(st:St):St:=ka a b c n sc a.toNat (acQ a b c n sc st) 0
end
def Xl:FuncId->Option bg:=fun f=>match f with| 77=>some (aL uV)| 44=>some sI| 78=>some p8| 79=>some GR|_=>none
theorem xN:Fit prog (fun f=>(Xl f).map bj):=⟨bM,aV,aI.sum fun f sm h=>by
 unfold Xl at h;split at h
 ·cases h;exact Kf.sum ⟨_,func77,rfl⟩
 ·cases h;exact pE
 ·cases h;exact mi
 ·cases h;exact Pm
 ·cases h⟩
def kM:Code:=gB 19
def xT:Code:=match gR (gR (gR kM))with| .seq _ (.block _ (.loop c))=>c|_=> .skip
def yJ:List RV:= [.one (.c (.ptr 0 0))]
def FN:T RV:=match setArgs 39 yJ 0 .nil some with|some t=>t|none=> .nil
theorem wR:setArgs 39 yJ 0 .nil some=some FN:=by kernel_rfl
abbrev Tm(aH:List Nat)(c:Code)(s:S)(o:List (Nat×Bool)):Option (X×S×List Prop):=az prog Xl 300 39 c s ⟨0,o,[]⟩ fun x s Z=>some (x,aE aH 39 s,Z.ob)
abbrev MZ(aH:List Nat)(c:Code)(s:S)(o:List (Nat×Bool)):Option (X×Bool×S×List Prop):=az prog Xl 300 39 c s ⟨0,o,[]⟩ fun x s Z=>some (x,Nat.ble 4 s.nx,low 39 4 (aE aH 39 s),Z.ob)
section
variable(a b c:Int)(L:aj)(n:Nat)(sc al m i:Int)(l:ak)(h:aj)
def aca:S:=⟨FN,jc a b c L n sc al l,3,[]⟩
def aav:S:=aE [0] 39 ⟨aN [(0,.one (.c (.ptr 0 0)))],jc a b c L n sc al l,3,[]⟩
def acH:S:=aE [0,2] 39 ⟨aN [(0,.one (.c (.ptr 0 0))),(2,.one (.c (.ptr 3 0)))],yl a b c L n sc al l h,4,[]⟩
def acb:S:=aE [0] 39 ⟨aN [(0,.one (.c (.ptr 0 0)))],yl a b c L n sc al l h,4,[]⟩
def uh:S:=low 39 4 (aE [0,28,29] 39 ⟨aN [(0,.one (.c (.ptr 0 0))),(28,.one (.c (.int .i64 m))),(29,.one (.c (.int .i64 i)))],yl a b c L n sc al l h,4,[]⟩)
theorem y0:Tm [0] (gL kM) (aca a b c L n sc al l) []=some (.normal,aav a b c L n sc al l,[]):=by kernel_rfl
theorem y1:Tm [0,2] (gL (gR kM)) (aav a b c L n sc al l) []=some (.normal,acH a b c L n sc al l (aB bA 0 (sup a b c)),[]):=by kernel_rfl
abbrev w0(p:aj):Bool×List Int×List (Int×Int)×Int:=bF a b c n sc al L l 0 1 p
abbrev w1(p:aj):Bool×List Int×List (Int×Int)×Int:=bF a b c n sc (w0 a b c L n sc al l p).2.2.2 (w0 a b c L n sc al l p).2.1 (w0 a b c L n sc al l p).2.2.1 1 1 p
theorem y2:Tm [0] (gL (gR (gR kM))) (acH a b c L n sc al l h) []=some (.normal,acb a b c (w1 a b c L n sc al l ((h.drop 0).take 54)).2.1 n sc (w1 a b c L n sc al l ((h.drop 0).take 54)).2.2.2 (w1 a b c L n sc al l ((h.drop 0).take 54)).2.2.1 h,
 [(w0 a b c L n sc al l ((h.drop 0).take 54)).2.1.length=64*n,64*n=64*n,((h.drop 0).take 54).length=54,L.length=64*n,64*n=64*n,((h.drop 0).take 54).length=54]):=by kernel_rfl
theorem y3:MZ [0,28,29] (gL (gR (gR (gR kM)))) (acb a b c L n sc al l h) []=some (.normal,true,uh a b c L n sc al a 0 l h,[]):=by kernel_rfl
theorem y4a:MZ [0,28,29] xT (uh a b c L n sc al m i l h) [(0,true),(1,true)]=some (.normal,true,uh a b c (lv a b c n sc (L,l,al) i).1 n sc (lv a b c n sc (L,l,al) i).2.2 m (i64.wrap (i+1)) (lv a b c n sc (L,l,al) i).2.1 h,
 [L.length=64*n,64*n=64*n,aY a b c=true,jB a b c i=true,cN a sc i=true,decide (i<m)=true]):=by kernel_rfl
theorem y4b:MZ [0,28,29] xT (uh a b c L n sc al m i l h) [(0,true),(1,false)]=some (.normal,true,uh a b c L n sc al m (i64.wrap (i+1)) l h,[cN a sc i=false,decide (i<m)=true]):=by kernel_rfl
theorem y4c:MZ [0,28,29] xT (uh a b c L n sc al m i l h) [(0,false)]=some (.exit 2,true,uh a b c L n sc al m i l h,[decide (i<m)=false]):=by kernel_rfl
theorem zV:(uh a b c L n sc al m i l h).nx=4:=by kernel_rfl
def e16:S:=low 39 3 (uh a b c L n sc al m i l h)
theorem abm:(e16 a b c L n sc al m i l h).hp=jc a b c L n sc al l:=by kernel_rfl
theorem aad:(e16 a b c L n sc al m i l h).nx=3:=by kernel_rfl
theorem Zd:ba prog 39 (e16 a b c L n sc al m i l h) f19.results.toList=some []:=by kernel_rfl
end
section
variable{a b c:Int}{n:Nat}{sc:Int}{h:aj}
theorem XU{st:St}{g:Int}(hl:st.1.length=64*n):(lv a b c n sc st g).1.length=64*n:=GJ (fR hl mT)
theorem kK:(sup a b c).length=54:=by unfold sup;split<;>rfl
theorem D9(hg:aY a b c=true): ∀(m:Nat) (st:St) (i:Int),st.1.length=64*n->0<=i->i+m=a->Tr prog 39 (.loop xT) (uh a b c st.1 n sc st.2.2 a i st.2.1 h) (fun x s'=>x= .exit 2/\s'=uh a b c (ka a b c n sc m st i).1 n sc (ka a b c n sc m st i).2.2 a a (ka a b c n sc m st i).2.1 h)
 | 0,st,i,hl,h0,hm=>by
  have:i=a:=by simpa using hm
  subst this;exact Tr.loop (Tr.eG xN (by rw[zV];exact Nat.le_refl _) (y4c i b c st.1 n sc st.2.2 i i st.2.1 h) ⟨by simp,trivial⟩ ⟨rfl,rfl⟩)
 |m+1,st,i,hl,h0,hm=>by
  obtain⟨g1,g2,g3,g4,g5,g6⟩:=b8.1 hg;have aA:decide (i<a)=true:=by simp;push_cast at hm;omega
  have hi1:i64.wrap (i+1)=i+1:=IntWalk.i64_in _ (by push_cast at hm;omega)
  have hfst:jB a b c i=true:=by unfold jB;rw[hg];simp;push_cast at hm;omega
  cases hI:cN a sc i with
  |true=>
   have hs:yw a b c n sc st i=lv a b c n sc st i:=by unfold yw;rw[if_pos hI]
   refine Tr.loop (Tr.eG xN (by rw[zV];exact Nat.le_refl _) (y4a a b c st.1 n sc st.2.2 a i st.2.1 h) ⟨hl,rfl,hg,hfst,hI,aA,trivial⟩ ?_)
   show Tr prog 39 (.loop xT) _ _;rw[hi1,show ka a b c n sc (m+1) st i=ka a b c n sc m (lv a b c n sc st i) (i+1)by rw[ka,hs]]
   exact D9 hg m (lv a b c n sc st i) (i+1) (XU hl) (by omega) (by push_cast at hm;omega)
  |false=>
   have hs:yw a b c n sc st i=st:=by unfold yw;rw[hI];rfl
   refine Tr.loop (Tr.eG xN (by rw[zV];exact Nat.le_refl _) (y4b a b c st.1 n sc st.2.2 a i st.2.1 h) ⟨hI,aA,trivial⟩ ?_)
   show Tr prog 39 (.loop xT) _ _;rw[hi1,show ka a b c n sc (m+1) st i=ka a b c n sc m st (i+1)by rw[ka,hs]]
   exact D9 hg m st (i+1) hl (by omega) (by push_cast at hm;omega)
theorem aaD{st:St}(hl:st.1.length=64*n)(hg:aY a b c=true):Tr prog 39 kM (aca a b c st.1 n sc st.2.2 st.2.1) (fun x s1=>(x= .normal\/x= .ret)/\∃q,ba prog 39 s1 f19.results.toList=some q/\(c6 q= .aF []/\s1.hp=ca a b c n sc (ju a b c n sc st)/\s1.nx=3)):=by
 obtain⟨g1,g2,g3,g4,g5,g6⟩:=b8.1 hg;have hh:((aB bA 0 (sup a b c)).drop 0).take 54=sup a b c:=by rw[ck kK,aJ kK]
 refine Tr.low (m:=3) (Nat.le_refl _) ?_;refine Tr.seq (c:=gL kM) (d:=gR kM) (Tr.path xN (y0 a b c st.1 n sc st.2.2 st.2.1) trivial ?_);refine Tr.seq (c:=gL (gR kM)) (d:=gR (gR kM)) (Tr.path xN (y1 a b c st.1 n sc st.2.2 st.2.1) trivial ?_);refine Tr.seq (c:=gL (gR (gR kM))) (d:=gR (gR (gR kM))) (Tr.path xN (y2 a b c st.1 n sc st.2.2 st.2.1 _) ⟨by rw[hh];exact QA hl kK,rfl,by rw[hh];exact kK,hl,rfl,by rw[hh];exact kK,trivial⟩ ?_)
 rw[hh];refine Tr.seq (c:=gL (gR (gR (gR kM)))) (d:= .block 2 (.loop xT)) (Tr.eG xN (Nat.le_refl _) (y3 ..) trivial ?_);refine Tr.block ?_;have hlp:=D9 (a:=a) (b:=b) (c:=c) (n:=n) (sc:=sc) (h:=aB bA 0 (sup a b c)) hg a.toNat (acQ a b c n sc st) 0 (fR (fR hl kK) kK) (by omega) (by omega)
 refine hlp.mono fun x s' hx=> ?_
 obtain⟨rfl,rfl⟩:=hx;simp only[if_true];refine⟨by rw[zV];omega,by simp,_,Zd ..,rfl,abm ..,aad ..⟩
theorem p7:f19.body=some kM:=by kernel_rfl
theorem Zj{st:St}(hl:st.1.length=64*n)(hg:aY a b c=true):fC prog 19 yJ 3 (ca a b c n sc st) (ca a b c n sc (ju a b c n sc st)) (.aF []):=
 Tr.mZ (fn:=f19) (c:=kM) func19 p7 (by rw[ca,bJ];exact gh) wR (aaD hl hg)
end
def Hl:bg:=fun args hp nx=>match args with
 | [.one (.c (.ptr nm 0))]=>match mH hp.get nm with
  |some (a,b,c,L,N,n,sc,al,l,nl,nw)=>
   match Nat.blt nm nx,Nat.blt nl nx,Nat.blt nw nx with
   |true,true,true=>
    T.set depth hp nw (some (.aQ none l)) fun hp=>
    T.set depth hp nm (some (.row 113 false none (.cells [.int .i64 a,.int .i64 b,.int .i64 c,.aC nl 64 0 n,.int .u32 sc,.map nw,.int .i64 (ju a b c n sc (L,l,al)).2.2]))) fun hp=>
    T.set depth hp nl (some (.row 95 false (some 64) (.ints .u8 (ju a b c n sc (L,l,al)).1 N))) fun hp=>
    T.set depth hp nw (some (.aQ none (ju a b c n sc (L,l,al)).2.1)) fun hp=>
    some (.aF [],hp,nx,[nm,nl,nw],[L.length=N,N=64*n,aY a b c=true])
   |_,_,_=>none
  |none=>none
 |_=>none
theorem RA:aI prog 19 Hl:=by
 intro args s v hp nx lg ps ht h bB;unfold Hl at h;split at h<;>try(cases h;done)
 rename_i nm;split at h<;>try(cases h;done)
 rename_i a b c L N n sc al l nl nw hi;split at h<;>try(cases h;done)
 rename_i b1 b2 b3;obtain⟨h1,h2,h3⟩:=rW hi;have n1:nm<s.nx:=ew b1;have n2:nl<s.nx:=ew b2;have n3:nw<s.nx:=ew b3;have d1:nm≠nl:=fun e=>by subst e;rw[h1]at h2;cases h2
 have d2:nm≠nw:=fun e=>by subst e;rw[h1]at h3;rcases h3 with h3|⟨_,h3⟩<;>cases h3
 have d3:nl≠nw:=fun e=>by subst e;rw[h2]at h3;rcases h3 with h3|⟨_,h3⟩<;>cases h3
 obtain⟨t0,h,q0⟩:=T.bR _ _ _ _ _ _ h;obtain⟨t1,h,q1⟩:=T.bR _ _ _ _ _ _ h;obtain⟨t2,h,q2⟩:=T.bR _ _ _ _ _ _ h;obtain⟨t3,h,q3⟩:=T.bR _ _ _ _ _ _ h;simp only[ae,af]at h;obtain⟨rfl,rfl,rfl,rfl,rfl⟩:=h;obtain⟨hl,hN,hgeo,_⟩:=bB;subst hN;have ht0:cJ {s with hp:=t0}:=fun j hj=>by
  show t0.get j=none;have:s.nx<=j:=hj;rw[q0 j,if_neg (by omega)]
  exact ht j hj
 have g1:t0.get nm=_:=(q0 nm).trans ((if_neg d2).trans h1);have g2:t0.get nl=_:=(q0 nl).trans ((if_neg d3).trans h2);have g3:t0.get nw=some (.aQ none l):=(q0 nw).trans (if_pos rfl);have hget: ∀j,t3.get j=if j=nw then some (.aQ none (ju a b c n sc (L,l,al)).2.1)else if j=nl then some (.row 95 false (some 64) (.ints .u8 (ju a b c n sc (L,l,al)).1 (64*n)))else if j=nm then some (.row 113 false none (.cells [.int .i64 a,.int .i64 b,.int .i64 c,.aC nl 64 0 n,.int .u32 sc,.map nw,.int .i64 (ju a b c n sc (L,l,al)).2.2]))else t0.get j:=fun j=>by
  rw[q3 j,q2 j,q1 j]
 let θ:Nat->Nat:=fun i=>if i=0 then nm else if i=1 then nl else nw
 have ea:yJ.map (dB θ)= [.one (.c (.ptr nm 0))]:=rfl;have hC:=Zj (a:=a) (b:=b) (c:=c) (n:=n) (sc:=sc) (st:=(L,l,al)) hl hgeo;have:=aU.frame (P:=prog) (f:=19) (θ:=θ) (s:= {s with hp:=t0}) (hp':=t3) (Lw:= [nm,nl,nw]) ht0 ⟨_,func19,rfl⟩ hC (by rfl)
  (fun i x hx=>by
   rw[ca,bJ]at hx;rcases cy hx with⟨rfl,rfl⟩|⟨rfl,rfl⟩|⟨rfl,rfl⟩
   ·exact⟨by omega,rfl,rfl,n1,g1⟩
   ·exact⟨by omega,rfl,rfl,n2,g2⟩
   ·exact⟨by omega,rfl,rfl,n3,g3⟩)
  (fun i j x y hx hy he=>by
   rw[ca,bJ]at hx hy;rcases cy hx with⟨rfl,_⟩|⟨rfl,_⟩|⟨rfl,_⟩<;>rcases cy hy with⟨rfl,_⟩|⟨rfl,_⟩|⟨rfl,_⟩<;>first|rfl|exact absurd he d1|exact absurd he d2|exact absurd he d3|exact absurd he.symm d1|exact absurd he.symm d2|exact absurd he.symm d3)
  (fun j hj=>by
   have j0:=hj 0 _ (by rw[ca,bJ];rfl)
   have j1:=hj 1 _ (by rw[ca,bJ];rfl)
   have j2:=hj 2 _ (by rw[ca,bJ];rfl)
   rw[hget,if_neg (fun e=>j2 e.symm),if_neg (fun e=>j1 e.symm),if_neg (fun e=>j0 e.symm)])
  (fun i x hx=>by
   rw[ca,bJ]at hx;rw[hget,ca,bJ];rcases cy hx with⟨rfl,rfl⟩|⟨rfl,rfl⟩|⟨rfl,rfl⟩
   ·rw[if_neg (show θ 0≠nw from d2),if_neg (show θ 0≠nl from d1),if_pos (show θ 0=nm from rfl)];rfl
   ·rw[if_neg (show θ 1≠nw from d3),if_pos (show θ 1=nl from rfl)];rfl
   ·rw[if_pos (show θ 2=nw from rfl)];rfl)
  (fun j=>by
   constructor
   ·intro hj;rcases List.mem_cons.1 hj with rfl|hj
    ·exact⟨0,_,by rw[ca,bJ];rfl,rfl⟩
    ·rcases List.mem_cons.1 hj with rfl|hj
     ·exact⟨1,_,by rw[ca,bJ];rfl,rfl⟩
     ·rcases List.mem_cons.1 hj with rfl|hj
      ·exact⟨2,_,by rw[ca,bJ];rfl,rfl⟩
      ·cases hj
   ·rintro⟨i,x,hx,rfl⟩;rw[ca,bJ]at hx;rcases cy hx with⟨rfl,_⟩|⟨rfl,_⟩|⟨rfl,_⟩<;>simp[θ])
 rw[ea]at this;exact this.WI (by simp) h3 q0
end Go.Sx
