import Derived.Test.YtfceckiklfkjkaaGreatS19
import Derived.Test.YtfceckiklfkjkaaGreatS21
import Derived.Test.YtfceckiklfkjkaaGreatS16
noncomputable section
open Go.Proofs Go.RowKit
set_option maxRecDepth 100000
open Go.IntKind(i64 u8 u64 u32 u16)
open Go.Proofs.Tryz
namespace Go.Sx
def qT:List Cell->Option (List Value)
 | []=>some []
 | .int k n::l=>match qT l with|some vs=>some (.int k n::vs)|none=>none
 | .bool b::l=>match qT l with|some vs=>some (.bool b::vs)|none=>none
 |_::_=>none
theorem bt.UT {ρ:aM}: ∀ {l:List Cell} {vs us:List Value},bt ρ l vs->qT l=some us->vs=us
 | [],vs,us,h,e=>by cases e;exact h
 |c::l,vs,us,⟨v,vs',h1,h2,h3⟩,e=>by
  cases c with
  |int k n=>
   simp only[qT]at e;split at e<;>try(cases e;done)
   rename_i ws hw;cases e;cases h1;rw[h3,bt.UT h2 hw]
  |bool b=>
   simp only[qT]at e;split at e<;>try(cases e;done)
   rename_i ws hw;cases e;cases h1;rw[h3,bt.UT h2 hw]
  |_=>cases e
theorem lT{ρ:aM}{l:List Cell}{us:List Value}{V:Value}(h:bE ρ (.one (.agg l)) V)(e:qT l=some us):V= .agg us.toArray:=by
 obtain⟨vs,h,rfl⟩:=h;rw[h.UT e]
theorem bo.aac {ρ:aM}{x:RV}{vs:List Value}(h:bo ρ [x] vs): ∃V,bE ρ x V/\vs= [V]:=by
 obtain⟨V,vs',h1,h2,rfl⟩:=h;cases h2;exact⟨V,h1,rfl⟩
def tL(args:List RV):Option (RV×List Prop):=match args with
 | [.one (.agg [.int .i64 a,.int .i64 b,.int .i64 c])]=>some (.one (.c (.int .i64 (cW (aY a b c)))),[])
 |_=>none
theorem kS(f:FuncId)(hc: ∀(a b c:Int) (w:World),Calls prog f #[.agg #[.int .i64 a,.int .i64 b,.int .i64 c]] w fun e w'=>e= .returned (.int .i64 (cW (aY a b c)))/\Below w.heap.size w w'):cg prog f tL:=by
 intro args v ps h hp ρ w vs ha;unfold tL at h;split at h<;>try(cases h;done)
 cases h;obtain⟨V,h1,rfl⟩:=ha.aac;rw[lT h1 rfl];exact(hc _ _ _ w).mono fun e w' ⟨e1,e2⟩=>⟨_,e1,rfl,e2⟩
def AH(args:List RV):Option (RV×List Prop):=match args with
 | [.one (.agg [.int .i64 a,.int .i64 b,.int .i64 c])]=>some (.one (.c (.int .i64 (dL a b c))),[])
 |_=>none
theorem oz(f:FuncId)(hc: ∀(a b c:Int) (w:World),Calls prog f #[.agg #[.int .i64 a,.int .i64 b,.int .i64 c]] w fun e w'=>e= .returned (.int .i64 (dL a b c))/\Below w.heap.size w w'):cg prog f AH:=by
 intro args v ps h hp ρ w vs ha;unfold AH at h;split at h<;>try(cases h;done)
 cases h;obtain⟨V,h1,rfl⟩:=ha.aac;rw[lT h1 rfl];exact(hc _ _ _ w).mono fun e w' ⟨e1,e2⟩=>⟨_,e1,rfl,e2⟩
def mY(args:List RV):Option (RV×List Prop):=match args with
 | [.one (.agg [.int .i64 a,.int .i64 b,.int .i64 c]),.one (.c (.int .i64 s))]=>some (.aF [.agg [.int .i64 (pl a b c s).1,.int .i64 (pl a b c s).2.1,.int .i64 (pl a b c s).2.2.1],.c (.int .i64 (pl a b c s).2.2.2)],[])
 |_=>none
theorem kP(f:FuncId)(hc: ∀(a b c s:Int) (w:World),Calls prog f #[.agg #[.int .i64 a,.int .i64 b,.int .i64 c],.int .i64 s] w fun e w'=>e= .returned (Kb (pl a b c s))/\Below w.heap.size w w'):cg prog f mY:=by
 intro args v ps h hp ρ w vs ha;unfold mY at h;split at h<;>try(cases h;done)
 cases h;obtain⟨V,W,h1,h2,rfl⟩:=ha.abh;rw[lT h1 rfl];cases h2;exact(hc _ _ _ _ w).mono fun e w' ⟨e1,e2⟩=>⟨_,e1,⟨_,⟨_,_,⟨_,⟨_,_,rfl,⟨_,_,rfl,⟨_,_,rfl,rfl,rfl⟩,rfl⟩,rfl⟩,rfl⟩,⟨_,_,rfl,rfl,rfl⟩,rfl⟩,rfl⟩,e2⟩
def dw(kind:Int)(b p:aj):List Int:=eh kind (if fw b then u32.wrap (1+gx b)else 1) p
def Wb(kind:Int)(b p:aj)(o:List (Nat×Bool)):Option (RV×List Prop):=cO prog V3 300 150 [.one (.c (.int .i64 kind)),.one (.ints .u8 b 64),.one (.ints .u8 p 54)] s0 ⟨0,o,[]⟩ fun v _ Z=>some (v,Z.ob)
theorem XV(kind:Int)(b p:aj):Wb kind b p [(1,true)]=some (.aF [.ints .u8 (t64 (aB eN 0 (eh kind (u32.wrap (1+gx (t64 b))) (t54 p)))) 64,.c (.int .i64 (cP kind))],[fw (t64 b)=true]):=by kernel_rfl
theorem Zg(kind:Int)(b p:aj):Wb kind b p [(1,false)]=some (.aF [.ints .u8 (t64 (aB eN 0 (eh kind 1 (t54 p)))) 64,.c (.int .i64 (cP kind))],[fw (t64 b)=false]):=by kernel_rfl
def Nk(args:List RV):Option (RV×List Prop):=match args with
 | [.one (.c (.int .i64 kind)),.one (.ints .u8 b 64),.one (.ints .u8 p 54)]=>some (.aF [.ints .u8 (dw kind b p) 64,.c (.int .i64 (cP kind))],[])
 |_=>none
theorem T1:cg prog 150 Nk:=by
 intro args v ps h hp ρ w vs ha;unfold Nk at h;split at h<;>try(cases h;done)
 rename_i kind b p;cases h;obtain⟨hb,hp'⟩:b.length=64/\p.length=54:=by obtain⟨_,_,_,⟨_,_,h,⟨_,_,h2,_⟩,_⟩,_⟩:=ha;exact⟨h.1,h2.1⟩
 unfold dw;cases hr:fw b with
 |true=>
  have h1:=XV kind b p;rw[show t54 p=p from aJ hp',show t64 b=b from aJ hb,iE (iu hp'),show t64 (eh kind (u32.wrap (1+gx b)) p)=_ from aJ (iu hp')]at h1
  exact cm xq (by rfl) (by rfl) h1 ⟨hr,trivial⟩ ρ w vs ha
 |false=>
  have h1:=Zg kind b p;rw[show t54 p=p from aJ hp',show t64 b=b from aJ hb,iE (iu hp'),show t64 (eh kind 1 p)=_ from aJ (iu hp')]at h1
  exact cm xq (by rfl) (by rfl) h1 ⟨hr,trivial⟩ ρ w vs ha
def Qt:FuncId->Option bg:=fun f=>match f with| 108=>some (aL tL)| 111=>some (aL tL)| 143=>some (aL AH)| 147=>some (aL AH)| 118=>some (aL FU)|_=>none
theorem acy:Fit prog (fun f=>(Qt f).map bj):=⟨bM,aV,aI.sum fun f sm h=>by
 unfold Qt at h;split at h
 ·cases h;exact(kS 108 lW).sum ⟨_,func108,rfl⟩
 ·cases h;exact(kS 111 dD).sum ⟨_,func111,rfl⟩
 ·cases h;exact(oz 143 gE).sum ⟨_,func143,rfl⟩
 ·cases h;exact(oz 147 gQ).sum ⟨_,func147,rfl⟩
 ·cases h;exact wI.sum ⟨_,func118,rfl⟩
 ·cases h⟩
def Xo:List Int:= [0,0,0,0,0,0,0,0,0,0,0,0,0,0,0,0,0,0,0,0,0,0,0,0,0,0,0,0,0,0,0,0,0,0,0,0,0,0,0,0,0,0,0,0]
def D4(x y z:Int):List Int:=83::67::85::80::u8.wrap (u16.wrap x)::u8.wrap ((u16.wrap x).fdiv (2 ^ 8))::u8.wrap (u16.wrap y)::u8.wrap ((u16.wrap y).fdiv (2 ^ 8))::
 u8.wrap (u16.wrap z)::u8.wrap ((u16.wrap z).fdiv (2 ^ 8))::Xo
def aao(x y z:Int)(o:List (Nat×Bool)):Option (RV×List Prop):=cO prog Qt 300 77 [.one (.agg [.int .i64 x,.int .i64 y,.int .i64 z])] s0 ⟨0,o,[]⟩ fun v _ Z=>some (v,Z.ob)
theorem Z3(x y z:Int):aao x y z [(0,false)]=some (.aF [.ints .u8 (D4 x y z) 54,.c (.int .i64 0)],[(cW (aY x y z) !=0)=false]):=by kernel_rfl
theorem acG(x y z:Int):aao x y z [(0,true)]=some (.aF [.ints .u8 bA 54,.c (.int .i64 (cW (aY x y z)))],[(cW (aY x y z) !=0)=true]):=by kernel_rfl
def sup(x y z:Int):List Int:=if aY x y z then 83::67::85::80::x::0::y::0::z::0::Xo else bA
def uV(args:List RV):Option (RV×List Prop):=match args with
 | [.one (.agg [.int .i64 x,.int .i64 y,.int .i64 z])]=>some (.aF [.ints .u8 (sup x y z) 54,.c (.int .i64 (cW (aY x y z)))],[])
 |_=>none
theorem og{x:Int}(h:0<=x/\x<=200):u8.wrap (u16.wrap x)=x/\u8.wrap ((u16.wrap x).fdiv (2 ^ 8))=0:=by
 have h1:u16.wrap x=x:=by unfold IntKind.wrap;simp only[IntKind.bits,IntKind.signed];simp;omega
 rw[h1];have h2:x.fdiv (2 ^ 8)=0:=by rw[Int.fdiv_eq_ediv_of_nonneg _ (by omega)];omega
 rw[h2];unfold IntKind.wrap;simp only[IntKind.bits,IntKind.signed];constructor
 ·simp;omega
 ·simp
theorem PO{x y z:Int}(h:aY x y z=true):D4 x y z=sup x y z:=by
 obtain⟨h1,h2,h3,h4,h5,h6⟩:=b8.1 h;rw[sup,if_pos h];unfold D4;rw[(og (x:=x) (by omega)).1,(og (x:=x) (by omega)).2,(og (x:=y) (by omega)).1,(og (x:=y) (by omega)).2,(og (x:=z) (by omega)).1,(og (x:=z) (by omega)).2]
theorem jP(b:Bool):(cW b !=0)= !b:=by cases b<;>simp[cV,bK]
theorem Kf:cg prog 77 uV:=by
 intro args v ps h hp ρ w vs ha;unfold uV at h;split at h<;>try(cases h;done)
 rename_i x y z;cases h;cases hg:aY x y z with
 |true=>
  have h1:=Z3 x y z;rw[PO hg]at h1;rw[cV];exact cm acy (by rfl) (by rfl) h1 ⟨by rw[jP,hg];rfl,trivial⟩ ρ w vs ha
 |false=>
  have h1:=acG x y z;rw[hg]at h1;rw[sup,hg,if_neg (by simp)]
  exact cm acy (by rfl) (by rfl) h1 ⟨by rw[jP];rfl,trivial⟩ ρ w vs ha
theorem gC(x y z:Int):(sup x y z).length=54:=by unfold sup;split<;>rfl
def sgU:FuncId->Option bg:=fun f=>match f with| 77=>some (aL uV)|f=>Qt f
theorem Vq:Fit prog (fun f=>(sgU f).map bj):=⟨bM,aV,aI.sum fun f sm h=>by
 unfold sgU at h;split at h
 ·cases h;exact Kf.sum ⟨_,func77,rfl⟩
 ·unfold Qt at h;split at h
  ·cases h;exact(kS 108 lW).sum ⟨_,func108,rfl⟩
  ·cases h;exact(kS 111 dD).sum ⟨_,func111,rfl⟩
  ·cases h;exact(oz 143 gE).sum ⟨_,func143,rfl⟩
  ·cases h;exact(oz 147 gQ).sum ⟨_,func147,rfl⟩
  ·cases h;exact wI.sum ⟨_,func118,rfl⟩
  ·cases h⟩
def LX(x y:Int):Int:=i64.wrap (u16.wrap (gS (gS 0 (jR x 0)) (jR y 8)))
def g16(p:aj)(i:Nat):Int:=LX (p.getD (0+i*1) 0) (p.getD (0+(i+1)*1) 0)
def rG(p:aj)(o:List (Nat×Bool)):Option (RV×List Prop):=cO prog sgU 300 142 [.one (.ints .u8 p 54)] s0 ⟨0,o,[]⟩ fun v _ Z=>some (v,Z.ob)
abbrev lQ(p:aj):Bool:=aY (g16 p 4) (g16 p 6) (g16 p 8)
abbrev ke(p:aj):List Int:=sup (g16 p 4) (g16 p 6) (g16 p 8)
abbrev aax:AV:= .agg [.int .i64 0,.int .i64 0,.int .i64 0]
theorem afM(p:aj):rG p [(83,true),(84,true),(85,true),(86,true)]=some (.aF [aax,.c (.int .i64 22)],[(cW (lQ p) !=0)=true,(cW (lQ p) !=0)=true,(cW (lQ p) !=0)=true,(cW (lQ p) !=0)=true]):=by kernel_rfl
theorem agC(p:aj):rG p [(83,false),(85,false),(87,false),(88,false),(89,true)]=some (.aF [aax,.c (.int .i64 22)],
 [(if false=true then true else !(t54 (aB bA 0 (ke p))==t54 p))=true,(cW (lQ p) !=0)=false,(cW (lQ p) !=0)=false,(cW (lQ p) !=0)=false,(cW (lQ p) !=0)=false]):=by kernel_rfl
theorem afc(p:aj):rG p [(83,false),(85,false),(87,false),(88,false),(89,false)]=some (.aF [.agg [.int .i64 (g16 p 4),.int .i64 (g16 p 6),.int .i64 (g16 p 8)],.c (.int .i64 0)],
 [(if false=true then true else !(t54 (aB bA 0 (ke p))==t54 p))=false,(cW (lQ p) !=0)=false,(cW (lQ p) !=0)=false,(cW (lQ p) !=0)=false,(cW (lQ p) !=0)=false]):=by kernel_rfl
def cz(p:aj):Bool:=lQ p &&(ke p==p)
def cH(b:Bool)(x:Int):Int:=if b then x else 0
def K2(args:List RV):Option (RV×List Prop):=match args with
 | [.one (.ints .u8 p 54)]=>some (.aF [.agg [.int .i64 (cH (cz p) (g16 p 4)),.int .i64 (cH (cz p) (g16 p 6)),.int .i64 (cH (cz p) (g16 p 8))],.c (.int .i64 (if cz p then 0 else 22))],[])
 |_=>none
theorem S4:cg prog 142 K2:=by
 intro args v ps h hp ρ w vs ha;unfold K2 at h;split at h<;>try(cases h;done)
 rename_i p;cases h;have hl:p.length=54:=qh ha;have e1:aB bA 0 (ke p)=ke p:=ck (gC _ _ _);have e2:t54 (ke p)=ke p:=aJ (gC _ _ _);have e3:t54 p=p:=aJ hl;cases hg:lQ p with
 |false=>
  have:cz p=false:=by rw[cz,hg];rfl
  simp only[this,cH,Bool.false_eq_true,if_false];exact cm Vq (by rfl) (by rfl) (afM p) (by simp only[aw,hg,jP];simp) ρ w vs ha
 |true=>
  cases hs:(ke p==p)with
  |false=>
   have:cz p=false:=by rw[cz,hs,Bool.and_false]
   simp only[this,cH,Bool.false_eq_true,if_false];exact cm Vq (by rfl) (by rfl) (agC p) (by simp only[aw,hg,jP,e1,e2,e3,hs];simp) ρ w vs ha
  |true=>
   have:cz p=true:=by rw[cz,hg,hs];rfl
   simp only[this,cH,if_true];exact cm Vq (by rfl) (by rfl) (afc p) (by simp only[aw,hg,jP,e1,e2,e3,hs];simp) ρ w vs ha
def w9:FuncId->Option bg:=fun f=>match f with| 142=>some (aL K2)| 118=>some (aL FU)| 143=>some (aL AH)|_=>none
theorem kE:Fit prog (fun f=>(w9 f).map bj):=⟨bM,aV,aI.sum fun f sm h=>by
 unfold w9 at h;split at h
 ·cases h;exact S4.sum ⟨_,func142,rfl⟩
 ·cases h;exact wI.sum ⟨_,func118,rfl⟩
 ·cases h;exact(oz 143 gE).sum ⟨_,func143,rfl⟩
 ·cases h⟩
def jj:Code:=gB 73
def CG:Code:=gL (gL (gR (gL (gR (gR jj)))))
abbrev l8(L:aj)(o:Nat):List Int:=t64 (aB eN 0 ((L.drop o).take 64))
abbrev cB(L:aj)(o:Nat):List Int:=t54 (aB bA 0 (cb 1 (l8 L o)))
abbrev ue(p:aj):Int:=dL (cH (cz p) (g16 p 4)) (cH (cz p) (g16 p 6)) (cH (cz p) (g16 p 8))
abbrev dy(p:aj):Int:=if cz p then 0 else 22
def Ho(t:TypeId)(L:aj)(N:Nat):T ax:=aN [(0,.row t true (some 64) (.ints .u8 L N))]
def Ty(t:TypeId)(L:aj)(N:Nat)(x y z:Int):T ax:=aN [(0,.row t true (some 64) (.ints .u8 L N)),(1,.row 62 false none (.cells [.int .i64 x,.int .i64 y,.int .i64 z]))]
abbrev K43:List Nat:= [0,2,17,18,19]
def ki(t:TypeId)(L:aj)(N n:Nat)(i:Int):S:=low 51 2 (aE K43 51 ⟨aN [(0,.one (.c (.aC 0 64 0 n))),(2,.one (.c (.ptr 1 0))),(17,.one (.c (.aC 0 64 0 2))),(18,.one (.c (.int .i64 2))),(19,.one (.c (.int .i64 i)))],Ty t L N 0 0 0,2,[]⟩)
def Jr(t:TypeId)(L:aj)(N:Nat)(k e x y z:Int):S:=low 51 2 (aE [2,3,4] 51 ⟨aN [(2,.one (.c (.ptr 1 0))),(3,.one (.c (.int .i64 k))),(4,.one (.c (.int .i64 e)))],Ty t L N x y z,2,[]⟩)
def yx(t:TypeId)(L:aj)(N n:Nat)(i:Int)(o:List (Nat×Bool)):Option (X×Bool×S×List Prop):=az prog w9 300 51 CG (ki t L N n i) ⟨0,o,[]⟩ fun x s Z=>some (x,Nat.ble 2 s.nx,low 51 2 (aE K43 51 s),Z.ob)
def acK(t:TypeId)(L:aj)(N n:Nat)(i:Int)(o:List (Nat×Bool)):Option (X×Bool×S×List Prop):=az prog w9 300 51 CG (ki t L N n i) ⟨0,o,[]⟩ fun x s Z=>some (x,Nat.ble 2 s.nx,low 51 2 (aE [2,3,4] 51 s),Z.ob)
theorem i0a(t:TypeId)(L:aj)(N n:Nat):yx t L N n 0 [(3,true),(7,true)]=some (.normal,true,ki t L N n 1,[(dh 1 (l8 L 0) !=0)=true,decide (64<=N)=true]):=by kernel_rfl
theorem i0d(t:TypeId)(L:aj)(N n:Nat):yx t L N n 0 [(3,true),(7,false),(9,false),(10,false),(11,false),(12,false),(13,false),(14,false)]=some (.normal,true,ki t L N n 1,
 [(dy (cB L 0)==0)=false,(dy (cB L 0)==0)=false,(dy (cB L 0)==0)=false,(dy (cB L 0)==0)=false,(dy (cB L 0)==0)=false,(dy (cB L 0)==0)=false,(dh 1 (l8 L 0) !=0)=false,decide (64<=N)=true]):=by kernel_rfl
theorem i0c(t:TypeId)(L:aj)(N n:Nat):yx t L N n 0 [(3,true),(7,false),(9,true),(10,true),(11,true),(12,true),(13,true),(14,true),(15,false)]=some (.normal,true,ki t L N n 1,
 [(if true=true then ue (cB L 0)==(n:Int)else false)=false,(dy (cB L 0)==0)=true,(dy (cB L 0)==0)=true,(dy (cB L 0)==0)=true,(dy (cB L 0)==0)=true,(dy (cB L 0)==0)=true,(dy (cB L 0)==0)=true,(dh 1 (l8 L 0) !=0)=false,decide (64<=N)=true]):=by kernel_rfl
theorem i0b(t:TypeId)(L:aj)(N n:Nat):acK t L N n 0 [(3,true),(7,false),(9,true),(10,true),(11,true),(12,true),(13,true),(14,true),(15,true)]=some (.ret,true,Jr t L N 0 (dy (cB L 0)) (cH (cz (cB L 0)) (g16 (cB L 0) 4)) (cH (cz (cB L 0)) (g16 (cB L 0) 6)) (cH (cz (cB L 0)) (g16 (cB L 0) 8)),
 [(if true=true then ue (cB L 0)==(n:Int)else false)=true,(dy (cB L 0)==0)=true,(dy (cB L 0)==0)=true,(dy (cB L 0)==0)=true,(dy (cB L 0)==0)=true,(dy (cB L 0)==0)=true,(dy (cB L 0)==0)=true,(dh 1 (l8 L 0) !=0)=false,decide (64<=N)=true]):=by kernel_rfl
theorem i1a(t:TypeId)(L:aj)(N n:Nat):yx t L N n 1 [(3,true),(7,true)]=some (.normal,true,ki t L N n 2,[(dh 1 (l8 L 64) !=0)=true,decide (64+64<=N)=true]):=by kernel_rfl
theorem i1d(t:TypeId)(L:aj)(N n:Nat):yx t L N n 1 [(3,true),(7,false),(9,false),(10,false),(11,false),(12,false),(13,false),(14,false)]=some (.normal,true,ki t L N n 2,
 [(dy (cB L 64)==0)=false,(dy (cB L 64)==0)=false,(dy (cB L 64)==0)=false,(dy (cB L 64)==0)=false,(dy (cB L 64)==0)=false,(dy (cB L 64)==0)=false,(dh 1 (l8 L 64) !=0)=false,decide (64+64<=N)=true]):=by kernel_rfl
theorem i1c(t:TypeId)(L:aj)(N n:Nat):yx t L N n 1 [(3,true),(7,false),(9,true),(10,true),(11,true),(12,true),(13,true),(14,true),(15,false)]=some (.normal,true,ki t L N n 2,
 [(if true=true then ue (cB L 64)==(n:Int)else false)=false,(dy (cB L 64)==0)=true,(dy (cB L 64)==0)=true,(dy (cB L 64)==0)=true,(dy (cB L 64)==0)=true,(dy (cB L 64)==0)=true,(dy (cB L 64)==0)=true,(dh 1 (l8 L 64) !=0)=false,decide (64+64<=N)=true]):=by kernel_rfl
theorem i1b(t:TypeId)(L:aj)(N n:Nat):acK t L N n 1 [(3,true),(7,false),(9,true),(10,true),(11,true),(12,true),(13,true),(14,true),(15,true)]=some (.ret,true,Jr t L N 1 (dy (cB L 64)) (cH (cz (cB L 64)) (g16 (cB L 64) 4)) (cH (cz (cB L 64)) (g16 (cB L 64) 6)) (cH (cz (cB L 64)) (g16 (cB L 64) 8)),
 [(if true=true then ue (cB L 64)==(n:Int)else false)=true,(dy (cB L 64)==0)=true,(dy (cB L 64)==0)=true,(dy (cB L 64)==0)=true,(dy (cB L 64)==0)=true,(dy (cB L 64)==0)=true,(dy (cB L 64)==0)=true,(dh 1 (l8 L 64) !=0)=false,decide (64+64<=N)=true]):=by kernel_rfl
theorem i2x(t:TypeId)(L:aj)(N n:Nat):yx t L N n 2 []=some (.exit 0,true,ki t L N n 2,[]):=by kernel_rfl
theorem ac1(t:TypeId)(L:aj)(N n:Nat):az prog w9 300 51 (gR (gR (gR jj))) (ki t L N n 2) ⟨0,[],[]⟩ (fun x s Z=>some (x,Nat.ble 2 s.nx,low 51 2 (aE [2,3,4] 51 s),Z.ob))=some (.ret,true,Jr t L N 0 22 0 0 0,[]):=by kernel_rfl
def yF(n:Nat):List RV:= [.one (.c (.aC 0 64 0 n))]
def Vi(n:Nat):T RV:=match setArgs 51 (yF n) 0 .nil some with|some t=>t|none=> .nil
theorem Zc(n:Nat):setArgs 51 (yF n) 0 .nil some=some (Vi n):=by kernel_rfl
def Ei(t:TypeId)(L:aj)(N n:Nat):S:=aE [0,2] 51 ⟨aN [(0,.one (.c (.aC 0 64 0 n))),(2,.one (.c (.ptr 1 0)))],Ty t L N 0 0 0,2,[]⟩
theorem adK(t:TypeId)(L:aj)(N n:Nat):az prog w9 300 51 (gL jj) ⟨Vi n,Ho t L N,1,[]⟩ ⟨0,[],[]⟩ (fun x s Z=>some (x,aE [0,2] 51 s,Z.ob))=some (.normal,Ei t L N n,[]):=by kernel_rfl
theorem adj(t:TypeId)(L:aj)(N n:Nat):az prog w9 300 51 (gL (gR jj)) (Ei t L N n) ⟨0,[(0,true)],[]⟩ (fun x s Z=>some (x,Nat.ble 2 s.nx,low 51 2 (aE [2,3,4] 51 s),Z.ob))=some (.ret,true,Jr t L N 0 22 0 0 0,[decide ((n:Int)<2)=true]):=by kernel_rfl
theorem ada(t:TypeId)(L:aj)(N n:Nat):az prog w9 300 51 (gL (gR jj)) (Ei t L N n) ⟨0,[(0,false)],[]⟩ (fun x s Z=>some (x,aE [0,2] 51 s,Z.ob))=some (.normal,Ei t L N n,[decide ((n:Int)<2)=false]):=by kernel_rfl
theorem acV(t:TypeId)(L:aj)(N n:Nat):az prog w9 300 51 (gL (gL (gR (gR jj)))) (Ei t L N n) ⟨0,[(0,true)],[]⟩ (fun x s Z=>some (x,Nat.ble 2 s.nx,low 51 2 (aE K43 51 s),Z.ob))=some (.normal,true,ki t L N n 0,[decide ((0:Int)<=2/\(2:Int)<=(n:Int))=true]):=by kernel_rfl
theorem MC(t:TypeId)(L:aj)(N:Nat)(k e x y z:Int):ba prog 51 (Jr t L N k e x y z) f73.results.toList=some [.agg [.int .i64 x,.int .i64 y,.int .i64 z],.c (.int .i64 k),.c (.int .i64 e)]:=by kernel_rfl
def bL(L:aj)(o:Nat):List Int:=(L.drop o).take 64
def ie(L:aj)(n o:Nat):Bool:=(dh 1 (bL L o)==0) &&(cz (cb 1 (bL L o)) &&(dL (g16 (cb 1 (bL L o)) 4) (g16 (cb 1 (bL L o)) 6) (g16 (cb 1 (bL L o)) 8)==(n:Int)))
def cM(L:aj)(n:Nat):Bool:=decide (2<=n) &&(ie L n 0||ie L n 64)
def xm(L:aj)(n:Nat):List Int:=if ie L n 0 then cb 1 (bL L 0)else cb 1 (bL L 64)
def bO(L:aj)(n i:Nat):Int:=cH (cM L n) (g16 (xm L n) i)
def lV(L:aj)(n:Nat):Int:=if cM L n && !ie L n 0 then 1 else 0
def gz(L:aj)(n:Nat):Int:=if cM L n then 0 else 22
theorem jn{kind:Int}{b:aj}(h:b.length=64):(cb kind b).length=54:=by
 unfold cb;split
 ·exact rp h
 ·rfl
theorem ig{L:aj}{o:Nat}(h:o+64<=L.length):(bL L o).length=64:=by simp[bL];omega
theorem BN{L:aj}{o:Nat}(h:o+64<=L.length):l8 L o=bL L o:=by
 have hl:=ig h;rw[l8,show(L.drop o).take 64=bL L o from rfl,iE hl,t64,aJ hl]
theorem Kn{L:aj}{o:Nat}(h:o+64<=L.length):cB L o=cb 1 (bL L o):=by
 have hl:=jn (kind:=1) (ig h);rw[cB,BN h,ck hl,t54,aJ hl]
abbrev jh(L:aj)(n:Nat):X->S->Prop:=fun x s1=>(x= .normal\/x= .ret)/\∃l,ba prog 51 s1 f73.results.toList=some l/\c6 l= .aF [.agg [.int .i64 (bO L n 4),.int .i64 (bO L n 6),.int .i64 (bO L n 8)],.c (.int .i64 (lV L n)),.c (.int .i64 (gz L n))]
theorem qv(t:TypeId)(L:aj)(N n:Nat)(i:Int):(ki t L N n i).nx<=2:=by
 have:(ki t L N n i).nx=2:=by kernel_rfl
 omega
theorem rE(p:aj):(dy p==0)=cz p:=by unfold dy;cases cz p<;>rfl
theorem Fx{t:TypeId}{L:aj}{N n:Nat}(h:cM L n=false):jh L n .ret (Jr t L N 0 22 0 0 0):=by
 refine⟨.inr rfl,_,MC t L N 0 22 0 0 0,?_⟩;unfold bO lV gz;rw[h];rfl
section
variable{t:TypeId}{L:aj}{N n:Nat}
theorem aam(hl:L.length=N)(hN:N=64*n)(h2:2<=n)(h0:ie L n 0=false):Tr prog 51 (.loop CG) (ki t L N n 1) (fun x s'=>match x with| .exit j=>if j=0 then nI prog 51 (ki t L N n 1) (jh L n) (gR (gR (gR jj))) .normal s' else jh L n (.exit j) s'| .normal=>nI prog 51 (ki t L N n 1) (jh L n) (gR (gR (gR jj))) .normal s'|x=>jh L n x s'):=by
 have hd:decide (64+64<=N)=true:=by simp;omega
 have eb:=BN (L:=L) (o:=64) (by omega)
 have ep:=Kn (L:=L) (o:=64) (by omega)
 have fin:ie L n 64=false->Tr prog 51 (.loop CG) (ki t L N n 2) (fun x s'=>match x with| .exit j=>if j=0 then nI prog 51 (ki t L N n 1) (jh L n) (gR (gR (gR jj))) .normal s' else jh L n (.exit j) s'| .normal=>nI prog 51 (ki t L N n 1) (jh L n) (gR (gR (gR jj))) .normal s'|x=>jh L n x s'):=fun h1=>by
  refine Tr.loop (Tr.eG kE (qv t L N n 2) (i2x t L N n) trivial ?_);exact Tr.eG kE (qv t L N n 2) (ac1 t L N n) trivial (Fx (by unfold cM;rw[h0,h1];simp))
 cases hg:(dh 1 (bL L 64)==0)with
 |false=>
  refine Tr.loop (Tr.eG kE (qv t L N n 1) (i1a t L N n) ⟨by rw[eb,bne,hg];rfl,hd,trivial⟩ ?_)
  exact fin (by unfold ie;rw[hg];rfl)
 |true=>
  have hg':(dh 1 (l8 L 64) !=0)=false:=by rw[eb,bne,hg];rfl
  cases hs:cz (cb 1 (bL L 64))with
  |false=>
   refine Tr.loop (Tr.eG kE (qv t L N n 1) (i1d t L N n) (by simp only[aw,rE,ep,hs,hg',hd];simp) ?_)
   exact fin (by unfold ie;rw[hs];simp)
  |true=>
   cases ht:(dL (g16 (cb 1 (bL L 64)) 4) (g16 (cb 1 (bL L 64)) 6) (g16 (cb 1 (bL L 64)) 8)==(n:Int))with
   |false=>
    refine Tr.loop (Tr.eG kE (qv t L N n 1) (i1c t L N n) (by simp only[aw,rE,ep,hs,hg',hd,ue,cH,if_true,ht];simp) ?_)
    exact fin (by unfold ie;rw[ht];simp)
   |true=>
    have hk:ie L n 64=true:=by unfold ie;rw[hg,hs,ht];rfl
    refine Tr.loop (Tr.eG kE (qv t L N n 1) (i1b t L N n) (by simp only[aw,rE,ep,hs,hg',hd,ue,cH,if_true,ht];simp) ?_)
    refine⟨.inr rfl,_,MC _ _ _ _ _ _ _ _,?_⟩;have hok:cM L n=true:=by unfold cM;rw[hk];simp;omega
    unfold bO lV gz xm;rw[hok,h0,ep,hs];simp[cH,dy,hs,c6]
theorem XG(hl:L.length=N)(hN:N=64*n)(h2:2<=n){s0:S}:Tr prog 51 (.block 0 (.loop CG)) (ki t L N n 0) (nI prog 51 s0 (jh L n) (gR (gR (gR jj)))):=by
 have hd:decide (64<=N)=true:=by simp;omega
 have eb:=BN (L:=L) (o:=0) (by omega)
 have ep:=Kn (L:=L) (o:=0) (by omega)
 refine Tr.block ?_;have fin:ie L n 0=false->Tr prog 51 (.loop CG) (ki t L N n 1) (fun x s'=>match x with| .exit j=>if j=0 then nI prog 51 s0 (jh L n) (gR (gR (gR jj))) .normal s' else nI prog 51 s0 (jh L n) (gR (gR (gR jj))) (.exit j) s'|x=>nI prog 51 s0 (jh L n) (gR (gR (gR jj))) x s'):=fun h0=>
  (aam hl hN h2 h0).mono fun x s' h=>by
   cases x with
   |normal=>exact h
   |ret=>exact h
   |exit j=>
    simp only at h ⊢;by_cases hj:j=0
    ·rw[if_pos hj]at h ⊢;exact h
    ·rw[if_neg hj]at h ⊢;exact h
 cases hg:(dh 1 (bL L 0)==0)with
 |false=>
  refine Tr.loop (Tr.eG kE (qv t L N n 0) (i0a t L N n) ⟨by rw[eb,bne,hg];rfl,hd,trivial⟩ ?_)
  exact fin (by unfold ie;rw[hg];rfl)
 |true=>
  have hg':(dh 1 (l8 L 0) !=0)=false:=by rw[eb,bne,hg];rfl
  cases hs:cz (cb 1 (bL L 0))with
  |false=>
   refine Tr.loop (Tr.eG kE (qv t L N n 0) (i0d t L N n) (by simp only[aw,rE,ep,hs,hg',hd];simp) ?_)
   exact fin (by unfold ie;rw[hs];simp)
  |true=>
   cases ht:(dL (g16 (cb 1 (bL L 0)) 4) (g16 (cb 1 (bL L 0)) 6) (g16 (cb 1 (bL L 0)) 8)==(n:Int))with
   |false=>
    refine Tr.loop (Tr.eG kE (qv t L N n 0) (i0c t L N n) (by simp only[aw,rE,ep,hs,hg',hd,ue,cH,if_true,ht];simp) ?_)
    exact fin (by unfold ie;rw[ht];simp)
   |true=>
    have hk:ie L n 0=true:=by unfold ie;rw[hg,hs,ht];rfl
    refine Tr.loop (Tr.eG kE (qv t L N n 0) (i0b t L N n) (by simp only[aw,rE,ep,hs,hg',hd,ue,cH,if_true,ht];simp) ?_)
    refine⟨.inr rfl,_,MC _ _ _ _ _ _ _ _,?_⟩;have hok:cM L n=true:=by unfold cM;rw[hk];simp;omega
    unfold bO lV gz xm;rw[hok,hk,ep,hs];simp[cH,dy,hs,c6]
theorem abf(hl:L.length=N)(hN:N=64*n):Tr prog 51 jj ⟨Vi n,Ho t L N,1,[]⟩ (jh L n):=by
 refine Tr.seq (c:=gL jj) (d:=gR jj) (Tr.path kE (adK t L N n) trivial ?_);refine Tr.seq (c:=gL (gR jj)) (d:=gR (gR jj)) ?_;have hnx:(Ei t L N n).nx<=2:=by
  have:(Ei t L N n).nx=2:=by kernel_rfl
  omega
 by_cases h2:2<=n
 ·refine Tr.path kE (ada t L N n) ⟨by simp;omega,trivial⟩ ?_
  refine Tr.seq (c:= .seq (gL (gL (gR (gR jj)))) (.block 0 (.loop CG))) (d:=gR (gR (gR jj))) ?_;refine Tr.seq (c:=gL (gL (gR (gR jj)))) (d:= .block 0 (.loop CG)) (Tr.eG kE hnx (acV t L N n) ⟨by simp;omega,trivial⟩ ?_)
  exact XG (t:=t) hl hN h2
 ·exact Tr.eG kE hnx (adj t L N n) ⟨by simp;omega,trivial⟩ (Fx (by unfold cM;simp;omega))
end
theorem mj{x:ax}{nm:Nat}{y:ax}(h:(T.node .nil (some x) .nil:T ax).get nm=some y):nm=0/\y=x:=by
 rw[T.dq]at h;by_cases e:nm=0
 ·rw[if_pos e]at h;cases h;exact⟨e,rfl⟩
 ·rw[if_neg e]at h;split at h<;>cases h
theorem JA{x:ax}:cJ ⟨.nil,(T.node .nil (some x) .nil:T ax),1,[]⟩:=fun nm h=>by
 cases hh:(T.node .nil (some x) .nil:T ax).get nm with
 |none=>rfl
 |some y=>have:=(mj hh).1;have:1<=nm:=h;omega
theorem cT{hp:T ax}{nm:Nat}{t:TypeId}{ro:Bool}{op:Option Nat}{b:Body}(h:bn hp.get nm=some (t,ro,op,b)):hp.get nm=some (.row t ro op b):=by
 unfold bn at h;split at h<;>try(cases h;done)
 rename_i e;cases h;exact e
def vU:bg:=fun args hp nx=>match args with
 | [.one (.c (.aC nm 64 0 n))]=>match bn hp.get nm with
  |some (_,_,some 64,.ints .u8 L N)=>some (.aF [.agg [.int .i64 (bO L n 4),.int .i64 (bO L n 6),.int .i64 (bO L n 8)],.c (.int .i64 (lV L n)),.c (.int .i64 (gz L n))],hp,nx,[],[L.length=N,N=64*n])
  |_=>none
 |_=>none
theorem Rk:f73.body=some jj:=by kernel_rfl
theorem zO:aI prog 73 vU:=by
 intro args s v hp nx lg ps ht h bB;unfold vU at h;split at h<;>try(cases h;done)
 rename_i nm n;split at h<;>try(cases h;done)
 rename_i t ro L N bU;simp only[ae,af]at h;obtain⟨rfl,rfl,rfl,rfl,rfl⟩:=h;have hh:=cT bU;exact aU.small (P:=prog) (f:=73) (args:=yF n) (k:=1) (hs:=Ho t L N) (θ:=fun _=>nm) (s:=s) ht ⟨_,func73,rfl⟩
  (Tr.small (fn:=f73) (c:=jj) func73 Rk JA (Zc n) (abf bB.1 bB.2.1))
  (fun nm' x hx=>by
   obtain⟨rfl,rfl⟩:=mj hx;exact⟨by omega,_,hh,ft.ints⟩) (by rfl) (by rfl)
def tj(a b c:Int)(n:Nat)(sc al:Int):List Cell:= [.int .i64 a,.int .i64 b,.int .i64 c,.aC 1 64 0 n,.int .u32 sc,.map 2,.int .i64 al]
def oT(t0:TypeId)(op:Option Nat)(t1:TypeId)(a b c:Int)(L:aj)(N n:Nat)(sc al:Int):T ax:=aN [(0,.row t0 true op (.cells (tj a b c n sc al))),(1,.row t1 true (some 64) (.ints .u8 L N))]
theorem A4{x y z:ax}{nm:Nat}(h:(T.node (T.node .nil (some y) .nil) (some x) .nil:T ax).get nm=some z):(nm=0/\z=x)\/(nm=1/\z=y):=by
 rw[T.dq]at h;by_cases e:nm=0
 ·rw[if_pos e]at h;cases h;exact .inl ⟨e,rfl⟩
 ·rw[if_neg e]at h;by_cases e2:nm % 2=1
  ·rw[if_pos e2]at h;obtain⟨h1,h2⟩:=mj h;exact .inr ⟨by omega,h2⟩
  ·rw[if_neg e2]at h;cases h
theorem gA{x y:ax}:cJ ⟨.nil,(T.node (T.node .nil (some y) .nil) (some x) .nil:T ax),3,[]⟩:=fun nm h=>by
 cases hh:(T.node (T.node .nil (some y) .nil) (some x) .nil:T ax).get nm with
 |none=>rfl
 |some z=>
  have h':3<=nm:=h;rcases A4 hh with⟨h1,_⟩|⟨h1,_⟩<;>omega
def rF(hp:Hp)(nm:Nat):Option (Int×Int×Int×List Int×Nat×Nat×Int×Int×TypeId×Option Nat×TypeId):=
 match bn hp nm with
 |some (t0,_,op,.cells [.int .i64 a,.int .i64 b,.int .i64 c,.aC nl 64 0 n,.int .u32 sc,.map _,.int .i64 al])=>match bn hp nl with
  |some (t1,_,some 64,.ints .u8 L N)=>some (a,b,c,L,N,n,sc,al,t0,op,t1)
  |_=>none
 |_=>none
theorem qi{s:S}{nm:Nat}{a b c:Int}{L:aj}{N n:Nat}{sc al:Int}{t0:TypeId}{op:Option Nat}{t1:TypeId}(h:rF s.hp.get nm=some (a,b,c,L,N,n,sc,al,t0,op,t1)):
  ∃θ:Nat->Nat,θ 0=nm/\∀nm' x,(oT t0 op t1 a b c L N n sc al).get nm'=some x->nm'<3/\∃y,s.hp.get (θ nm')=some y/\ft 3 θ x y:=by
 unfold rF at h;split at h<;>try(cases h;done)
 rename_i t0' ro0 op' a' b' c' nl n' sc' nw out' h0;split at h<;>try(cases h;done)
 rename_i t1' ro1 L' N' h1;cases h;refine⟨fun i=>if i=0 then nm else if i=1 then nl else nw,rfl,fun nm' x hx=> ?_⟩
 rcases A4 hx with⟨rfl,rfl⟩|⟨rfl,rfl⟩
 ·exact⟨by omega,_,cT h0,ft.cells (by rfl)⟩
 ·exact⟨by omega,_,cT h1,ft.ints⟩
def cN(a sc g:Int):Bool:=decide (g>=0) &&(decide (g<a) &&(u32.wrap ((BitVec.ofInt 32 (sc.fdiv (2 ^(min g.toNat 32))) &&& BitVec.ofInt 32 1).toNat:Int)==1))
abbrev rep(n:Nat)(p:Prop):List Prop:=List.replicate n p
def OR:FuncId->Option bg:=fun f=>match f with| 118=>some (aL FU)|_=>none
theorem sn:Fit prog (fun f=>(OR f).map bj):=⟨bM,aV,aI.sum fun f sm h=>by
 unfold OR at h;split at h
 ·cases h;exact wI.sum ⟨_,func118,rfl⟩
 ·cases h⟩
def tT(l:List Nat):List (Nat×Bool):=l.map fun i=>(i,true)
def fF(l:List Nat):List (Nat×Bool):=l.map fun i=>(i,false)
section
variable(t0:TypeId)(op:Option Nat)(t1:TypeId)(a b c:Int)(L:aj)(N n:Nat)(sc al g k:Int)
def rIn(o:List (Nat×Bool)):Option (RV×List Prop):=cO prog OR 300 44 [.one (.c (.ptr 0 0)),.one (.c (.int .i64 g))] ⟨.nil,oT t0 op t1 a b c L N n sc al,3,[]⟩ ⟨0,o,[]⟩ fun v _ Z=>some (v,Z.ob)
abbrev g0:Bool:=if true=true then decide (g>=0)else false
abbrev g1:Bool:=if true=true then decide (g<a)else false
theorem in_1:rIn t0 op t1 a b c L N n sc al g (tT [3,4,5,6,7,8,9,10,11,12,13,14,15,16,17,18,19,20])=some (.one (.c (.bool (if true=true then(u32.wrap ((BitVec.ofInt 32 (sc.fdiv (2 ^(min g.toNat 32))) &&& BitVec.ofInt 32 1).toNat:Int)==1)else false))),
 rep 3 (g1 a g=true)++([decide (¬g<0)=true]++(rep 6 (g1 a g=true)++rep 8 (g0 g=true)))):=by kernel_rfl
theorem aeW:rIn t0 op t1 a b c L N n sc al g (tT [3,4,5,6,7,8,9,10]++fF [11,12,13,14,15,16,17,18,19])=some (.one (.c (.bool false)),rep 9 (g1 a g=false)++rep 8 (g0 g=true)):=by kernel_rfl
theorem afl:rIn t0 op t1 a b c L N n sc al g (fF [3,4,5,6,7,8,9,10])=some (.one (.c (.bool false)),rep 8 (g0 g=false)):=by kernel_rfl
end
def sI:bg:=fun args hp nx=>match args with
 | [.one (.c (.ptr nm 0)),.one (.c (.int .i64 g))]=>match rF hp.get nm with
  |some (a,_,_,_,_,_,sc,_,_,_,_)=>some (.one (.c (.bool (cN a sc g))),hp,nx,[],[])
  |none=>none
 |_=>none
theorem pE:aI prog 44 sI:=by
 intro args s v hp nx lg ps ht h bB;unfold sI at h;split at h<;>try(cases h;done)
 rename_i nm g;split at h<;>try(cases h;done)
 rename_i a b c L N n sc al t0 op t1 hi;simp only[ae,af]at h;obtain⟨rfl,rfl,rfl,rfl,rfl⟩:=h;obtain⟨θ,e0,hin⟩:=qi hi;have fin:=fun(v:RV) (hv:ej v=true) h0=>aU.small (P:=prog) (f:=44) (args:= [.one (.c (.ptr 0 0)),.one (.c (.int .i64 g))]) (v:=v) (k:=3) (hs:=oT t0 op t1 a b c L N n sc al) (θ:=θ) (s:=s) ht ⟨_,func44,rfl⟩ h0 hin (by rfl) hv
 have ea:([.one (.c (.ptr 0 0)),.one (.c (.int .i64 g))]:List RV).map (dB θ)= [.one (.c (.ptr nm 0)),.one (.c (.int .i64 g))]:=by simp[dB,jq,jy,e0]
 rw[ea]at fin;have e1:g0 g=decide (g>=0):=by simp[g0]
 have e2:g1 a g=decide (g<a):=by simp[g1]
 cases h0:decide (g>=0)with
 |false=>
  rw[show cN a sc g=false by unfold cN;rw[h0];rfl]
  exact fin _ (by rfl) (fx sn gA (afl t0 op t1 a b c L N n sc al g) (cS (by rw[e1,h0]) 8))
 |true=>
  cases h1:decide (g<a)with
  |false=>
   rw[show cN a sc g=false by unfold cN;rw[h0,h1];rfl]
   exact fin _ (by rfl) (fx sn gA (aeW t0 op t1 a b c L N n sc al g) ((bH _ _).2 ⟨cS (by rw[e2,h1]) 9,cS (by rw[e1,h0]) 8⟩))
  |true=>
   have hr:=in_1 t0 op t1 a b c L N n sc al g;rw[if_pos rfl]at hr;rw[show cN a sc g=_ by unfold cN;rw[h0,h1,Bool.true_and,Bool.true_and]]
   refine fin _ (by rfl) (fx sn gA hr ?_)
   exact(bH _ _).2 ⟨cS (by rw[e2,h1]) 3,(bH _ _).2 ⟨⟨by simp at h0 ⊢;omega,trivial⟩,(bH _ _).2 ⟨cS (by rw[e2,h1]) 6,cS (by rw[e1,h0]) 8⟩⟩⟩
end Go.Sx
