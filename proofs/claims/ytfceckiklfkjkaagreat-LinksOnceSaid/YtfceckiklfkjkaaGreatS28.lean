import Derived.Test.YtfceckiklfkjkaaGreatS27
import Derived.Test.YtfceckiklfkjkaaGreatS25
noncomputable section
open Go.Proofs Go.RowKit
set_option maxRecDepth 100000
open Go.IntKind(i64 u8 u64 u32 u16)
open Go.Proofs.Tryz
namespace Go.Sx.Fi
structure bD where
 k:Int
 l:Int
 s:Int
 d0:Int
 d1:Int
 d2:Int
 d3:Int
 sg:Int
 db:Int
def bD.L (y:bD):List Cell:=jb y.k y.l y.s y.d0 y.d1 y.d2 y.d3 y.sg y.db
def bD.zero:bD:=⟨0,0,0,0,0,0,0,0,0⟩
def bD.aZ (y:bD):Bool:=Sx.aZ y.k y.l y.s y.d0 y.d1 y.d2 y.d3 y.sg y.db
def tG(n:Int)(y:bD):bD:=if n=1/\y.k≠2 then⟨2,1,0,0,0,0,0,0,0⟩else y
def JF(a b c:Int)(y:bD):bD:=⟨y.k,y.l,y.s,kp a b c (decide (cX y.s>0)) y.d0,kp a b c (decide (cX y.s>1)) y.d1,kp a b c (decide (cX y.s>2)) y.d2,kp a b c (decide (cX y.s>3)) y.d3,kp a b c (decide (cX y.s>4)) y.sg,kp a b c (decide (cX y.s>31)) y.db⟩
def sh(a b c n:Int)(y:bD):bD:=tG n (JF a b c (if y.aZ then y else .zero))
structure bD.Ok (y:bD):Prop where
 k:0<=y.k
 s:0<=y.s
 s1:y.s<4294967296
 d0:bh y.d0
 d1:bh y.d1
 d2:bh y.d2
 d3:bh y.d3
 sg:bh y.sg
 db:bh y.db
theorem Pg(n:Int)(y:bD):nJ n y.k y.l y.s y.d0 y.d1 y.d2 y.d3 y.sg y.db=(tG n y).L:=by
 unfold nJ tG;split<;>rfl
theorem NR(a b c n:Int)(y:bD):Hg a b c n y.k y.l y.s y.d0 y.d1 y.d2 y.d3 y.sg y.db=(tG n (JF a b c y)).L:=Pg n (JF a b c y)
theorem afp(a b c n:Int)(y:bD):tO a b c n y.k y.l y.s y.d0 y.d1 y.d2 y.d3 y.sg y.db=(sh a b c n y).L:=by
 unfold tO sh;show(if y.aZ=true then _ else _)=_
 cases h:y.aZ with
 |true=>rw[if_pos rfl,if_pos rfl];exact NR a b c n y
 |false=>rw[if_neg (by simp),if_neg (by simp)];exact NR a b c n .zero
theorem Xv(a b c:Int)(b':Bool):kp a b c b' 0=0:=by unfold kp;split<;>rfl
theorem SY{y:bD}(h:y.aZ=true)(h0:y.k=0):y= .zero:=by
 unfold bD.aZ Sx.aZ at h;rw[if_pos h0]at h;unfold eJ at h;simp only[Bool.and_eq_true,beq_iff_eq]at h;obtain⟨⟨⟨⟨⟨⟨⟨⟨a1,a2⟩,a3⟩,a4⟩,a5⟩,a6⟩,a7⟩,a8⟩,a9⟩:=h;cases y
 simp_all[bD.zero]
theorem SA(a b c:Int):JF a b c .zero= .zero:=by simp[JF,bD.zero,Xv]
theorem FW(a b c n:Int)(y:bD)(h:y.aZ=true):sd a b c n y.k y.l y.s y.d0 y.d1 y.d2 y.d3 y.sg y.db=(tG n (JF a b c y)).L:=by
 unfold sd;split
 ·rename_i h0;rw[Pg,SY h h0,SA]
 ·exact NR a b c n y
theorem Vd:bD.zero.aZ=true:=by unfold bD.aZ Sx.aZ bD.zero eJ;rfl
theorem aa9(a b c n:Int)(y:bD):pc a b c n y.k y.l y.s y.d0 y.d1 y.d2 y.d3 y.sg y.db=(sh a b c n y).L:=by
 unfold pc sh;show(if y.aZ=true then _ else _)=_
 cases h:y.aZ with
 |true=>rw[if_pos rfl,if_pos rfl];exact FW a b c n y h
 |false=>rw[if_neg (by simp),if_neg (by simp)];exact FW a b c n .zero Vd
def bD.root:bD:=⟨2,1,0,0,0,0,0,0,0⟩
theorem SD{Q:bD->Prop}{n:Int}{z:bD}(h1:n=1/\z.k≠2->Q .root)(h2: ¬(n=1/\z.k≠2)->Q z):Q (tG n z):=by
 by_cases h:n=1/\z.k≠2
 ·rw[show tG n z= .root from if_pos h];exact h1 h
 ·rw[show tG n z=z from if_neg h];exact h2 h
theorem qK{a b c:Int}{p:Bool}{d:Int}(h:bh d):bh (kp a b c p d):=by
 unfold kp;split
 ·exact h
 ·exact u0
def Jz(args:List RV):Option (RV×List Prop):=match args with
 | [.one (.agg [.int .i64 a,.int .i64 b,.int .i64 c]),.one (.c (.int .i64 n)),.one (.agg [.int .u8 k,.int .u8 l,.int .u32 s,.int .u16 d0,.int .u16 d1,.int .u16 d2,.int .u16 d3,.int .u16 sg,.int .u16 db])]=>
  some (.one (.agg (sh a b c n ⟨k,l,s,d0,d1,d2,d3,sg,db⟩).L),[(bD.mk k l s d0 d1 d2 d3 sg db).Ok])
 |_=>none
theorem oW:f75.body=some c9:=by kernel_rfl
theorem Qc:f94.body=some qm:=by kernel_rfl
theorem YM:cg prog 75 Jz:=by
 intro args v ps h hp ρ w vs ha;unfold Jz at h;split at h<;>try(cases h;done)
 rename_i a b c n k l s d0 d1 d2 d3 sg db;simp only[ae,af]at h;obtain⟨rfl,rfl⟩:=h;obtain⟨⟨h1,h2,h3,h4,h5,h6,h7,h8,h9⟩,_⟩:=hp;have hb:=Lm a b c n k l s d0 d1 d2 d3 sg db h1 h2 h3 h4 h5 h6 h7 h8 h9;have hL:=afp a b c n ⟨k,l,s,d0,d1,d2,d3,sg,db⟩;simp only at hL;rw[hL]at hb;exact Tr.pure (c:=c9) (fn:=f75) func75 oW (args:=Bv a b c n k l s d0 d1 d2 d3 sg db) (by rfl) (by rfl) (u6 a b c n k l s d0 d1 d2 d3 sg db) hb ρ w vs ha
theorem Tk:cg prog 94 Jz:=by
 intro args v ps h hp ρ w vs ha;unfold Jz at h;split at h<;>try(cases h;done)
 rename_i a b c n k l s d0 d1 d2 d3 sg db;simp only[ae,af]at h;obtain⟨rfl,rfl⟩:=h;obtain⟨⟨h1,h2,h3,h4,h5,h6,h7,h8,h9⟩,_⟩:=hp;have hb:=acp a b c n k l s d0 d1 d2 d3 sg db h1 h2 h3 h4 h5 h6 h7 h8 h9;have hL:=aa9 a b c n ⟨k,l,s,d0,d1,d2,d3,sg,db⟩;simp only at hL;rw[hL]at hb;exact Tr.pure (c:=qm) (fn:=f94) func94 Qc (args:=Bv a b c n k l s d0 d1 d2 d3 sg db) (by rfl) (by rfl) (Zr a b c n k l s d0 d1 d2 d3 sg db) hb ρ w vs ha
def DQ(args:List RV):Option (RV×List Prop):=match args with| []=>some (.one (.c (.bool true)),[])|_=>none
theorem EM{P:Program}{f:FuncId}(hc: ∀ {s:S},cJ s->aU P f [] s (.one (.c (.bool true))) s []):aI P f (aL DQ):=by
 intro args s v hp nx lg ps ht h hp';unfold aL DQ at h;split at h<;>try(cases h;done)
 rename_i h1;split at h1<;>try(cases h1;done)
 cases h1;simp only[ae,af]at h;obtain⟨rfl,rfl,rfl,rfl,rfl⟩:=h;exact hc ht
end Go.Sx.Fi
namespace Go.Sx
def xH:FuncId->Option bg:=fun f=>match f with| 108=>some (aL tL)| 111=>some (aL tL)|_=>none
theorem LQ:Fit prog (fun f=>(xH f).map bj):=⟨bM,aV,aI.sum fun f sm h=>by
 unfold xH at h;split at h
 ·cases h;exact(kS 108 lW).sum ⟨_,func108,rfl⟩
 ·cases h;exact(kS 111 dD).sum ⟨_,func111,rfl⟩
 ·cases h⟩
abbrev D1(a b c:Int):RV:= .one (.agg [.int .i64 a,.int .i64 b,.int .i64 c])
def r61(a b c:Int)(Q:RV->Prop):ai:=cO prog xH 300 92 [D1 a b c] s0 aO fun v _ Z=>some (aw Z.ob/\Q v)
def r34(a b c:Int)(Q:RV->Prop):ai:=cO prog xH 300 51 [D1 a b c] s0 aO fun v _ Z=>some (aw Z.ob/\Q v)
def r62(a b c i:Int)(Q:RV->Prop):ai:=cO prog xH 300 93 [D1 a b c,.one (.c (.int .i64 i))] s0 aO fun v _ Z=>some (aw Z.ob/\Q v)
def r35(a b c i:Int)(Q:RV->Prop):ai:=cO prog xH 300 52 [D1 a b c,.one (.c (.int .i64 i))] s0 aO fun v _ Z=>some (aw Z.ob/\Q v)
def Xt(a b c:Int)(Q:RV->Prop):ai:=(bif cW (aY a b c) !=0 then(some ((aw []/\Q (RV.one (AV.c (Cell.int i64 0))))))else(some ((aw []/\Q (RV.one (AV.c (Cell.int i64 (i64.wrap (i64.wrap (3*a)*b)))))))))
theorem UL(a b c:Int)(Q:RV->Prop):r61 a b c Q=Xt a b c Q:=by kernel_rfl
def adJ(a b c:Int)(Q:RV->Prop):ai:=(bif cW (aY a b c) !=0 then(some ((aw []/\Q (RV.one (AV.c (Cell.int i64 0))))))else(some ((aw []/\Q (RV.one (AV.c (Cell.int i64 (i64.wrap (i64.wrap (3*a)*b)))))))))
theorem Up(a b c:Int)(Q:RV->Prop):r34 a b c Q=adJ a b c Q:=by kernel_rfl
abbrev zl(a b c:Int):Bool:=cW (aY a b c) !=0
abbrev oX(b:Int):Int:=i64.wrap (3*b)
abbrev tC(b:Int):Bool:=decide ¬(oX b)=0
abbrev u9(i:Int):Int:=i64.wrap (i - 1)
abbrev fk(b i:Int):Int:=(u9 i).tmod (oX b)
abbrev gv(b i:Int):Int:=i64.wrap ((u9 i).tdiv (oX b))
abbrev G0(b i:Int):Bool:=decide ((gv b i)<0)
abbrev Gi(a b i:Int):Bool:=decide ((gv b i)>=a)
abbrev Rm(a b:Int):Int:=i64.wrap (i64.wrap (3*a)*b)
def Wd(a b:Int)(c i:Int)(Q:RV->Prop):ai:=(bif decide (i<1)then(some ((aw []/\Q (RV.aF [AV.agg [Cell.int i64 0,Cell.int i64 0,Cell.int i64 0,Cell.int i64 0],AV.c (Cell.int i64 2)]))))else((bif (zl a b c)then((bif decide (i>0)then(some ((aw []/\Q (RV.aF [AV.agg [Cell.int i64 0,Cell.int i64 0,Cell.int i64 0,Cell.int i64 0],AV.c (Cell.int i64 2)]))))else((bif (tC b)then((bif (tC b)then((bif (zl a b c)then(some ((aw []/\Q (RV.aF [AV.agg [Cell.int i64 0,Cell.int i64 ((fk b i).tmod 3),Cell.int i64 (gv b i),Cell.int i64 (fk b i)],AV.c (Cell.int i64 0)]))))else((bif (G0 b i)then(some ((aw []/\Q (RV.aF [AV.agg [Cell.int i64 0,Cell.int i64 ((fk b i).tmod 3),Cell.int i64 (gv b i),Cell.int i64 (fk b i)],AV.c (Cell.int i64 0)]))))else((bif (Gi a b i)then(some ((aw []/\Q (RV.aF [AV.agg [Cell.int i64 0,Cell.int i64 ((fk b i).tmod 3),Cell.int i64 (gv b i),Cell.int i64 (fk b i)],AV.c (Cell.int i64 0)]))))else(some ((aw []/\Q (RV.aF [AV.agg [Cell.int i64 (i64.wrap (i64.wrap (2+i64.wrap ((gv b i)*i64.wrap (i64.wrap (2+b)+c)))+i64.wrap (2+i64.wrap ((fk b i).tdiv 3)))),Cell.int i64 ((fk b i).tmod 3),Cell.int i64 (gv b i),Cell.int i64 (fk b i)],AV.c (Cell.int i64 0)]))))))))))else none))else none))))else((bif decide (i>(Rm a b))then(some ((aw []/\Q (RV.aF [AV.agg [Cell.int i64 0,Cell.int i64 0,Cell.int i64 0,Cell.int i64 0],AV.c (Cell.int i64 2)]))))else((bif (tC b)then((bif (tC b)then((bif (zl a b c)then(some ((aw []/\Q (RV.aF [AV.agg [Cell.int i64 0,Cell.int i64 ((fk b i).tmod 3),Cell.int i64 (gv b i),Cell.int i64 (fk b i)],AV.c (Cell.int i64 0)]))))else((bif (G0 b i)then(some ((aw []/\Q (RV.aF [AV.agg [Cell.int i64 0,Cell.int i64 ((fk b i).tmod 3),Cell.int i64 (gv b i),Cell.int i64 (fk b i)],AV.c (Cell.int i64 0)]))))else((bif (Gi a b i)then(some ((aw []/\Q (RV.aF [AV.agg [Cell.int i64 0,Cell.int i64 ((fk b i).tmod 3),Cell.int i64 (gv b i),Cell.int i64 (fk b i)],AV.c (Cell.int i64 0)]))))else(some ((aw []/\Q (RV.aF [AV.agg [Cell.int i64 (i64.wrap (i64.wrap (2+i64.wrap ((gv b i)*i64.wrap (i64.wrap (2+b)+c)))+i64.wrap (2+i64.wrap ((fk b i).tdiv 3)))),Cell.int i64 ((fk b i).tmod 3),Cell.int i64 (gv b i),Cell.int i64 (fk b i)],AV.c (Cell.int i64 0)]))))))))))else none))else none)))))))
theorem U5(a b:Int)(c i:Int)(Q:RV->Prop):r62 a b c i Q=Wd a b c i Q:=by kernel_rfl
abbrev tP(a b c:Int):Bool:=cW (aY a b c) !=0
abbrev oZ(b:Int):Int:=i64.wrap (3*b)
abbrev vd(b:Int):Bool:=decide ¬(oZ b)=0
abbrev uc(i:Int):Int:=i64.wrap (i - 1)
abbrev fg(b i:Int):Int:=(uc i).tmod (oZ b)
abbrev ld(b i:Int):Int:=i64.wrap ((fg b i).tdiv 3)
abbrev gp(b i:Int):Int:=i64.wrap ((uc i).tdiv (oZ b))
abbrev EU(b i:Int):Bool:=decide ((gp b i)<0)
abbrev ES(a b i:Int):Bool:=decide ((gp b i)>=a)
abbrev O7(a b:Int):Int:=i64.wrap (i64.wrap (3*a)*b)
def WN(a b:Int)(c i:Int)(Q:RV->Prop):ai:=(bif (tP a b c)then(some ((aw []/\Q (RV.aF [AV.agg [Cell.int i64 0,Cell.int i64 0,Cell.int i64 0,Cell.int i64 0],AV.c (Cell.int i64 2)]))))else((bif decide (i<1)then(some ((aw []/\Q (RV.aF [AV.agg [Cell.int i64 0,Cell.int i64 0,Cell.int i64 0,Cell.int i64 0],AV.c (Cell.int i64 2)]))))else((bif (tP a b c)then((bif decide (i>0)then(some ((aw []/\Q (RV.aF [AV.agg [Cell.int i64 0,Cell.int i64 0,Cell.int i64 0,Cell.int i64 0],AV.c (Cell.int i64 2)]))))else((bif (vd b)then((bif (vd b)then((bif (tP a b c)then(some ((aw []/\Q (RV.aF [AV.agg [Cell.int i64 (i64.wrap (2+(ld b i))),Cell.int i64 ((fg b i).tmod 3),Cell.int i64 (gp b i),Cell.int i64 (fg b i)],AV.c (Cell.int i64 0)]))))else((bif (EU b i)then(some ((aw []/\Q (RV.aF [AV.agg [Cell.int i64 (i64.wrap (2+(ld b i))),Cell.int i64 ((fg b i).tmod 3),Cell.int i64 (gp b i),Cell.int i64 (fg b i)],AV.c (Cell.int i64 0)]))))else((bif (ES a b i)then(some ((aw []/\Q (RV.aF [AV.agg [Cell.int i64 (i64.wrap (2+(ld b i))),Cell.int i64 ((fg b i).tmod 3),Cell.int i64 (gp b i),Cell.int i64 (fg b i)],AV.c (Cell.int i64 0)]))))else(some ((aw []/\Q (RV.aF [AV.agg [Cell.int i64 (i64.wrap (i64.wrap (i64.wrap (2+i64.wrap ((gp b i)*i64.wrap (i64.wrap (2+b)+c)))+2)+(ld b i))),Cell.int i64 ((fg b i).tmod 3),Cell.int i64 (gp b i),Cell.int i64 (fg b i)],AV.c (Cell.int i64 0)]))))))))))else none))else none))))else((bif decide (i>(O7 a b))then(some ((aw []/\Q (RV.aF [AV.agg [Cell.int i64 0,Cell.int i64 0,Cell.int i64 0,Cell.int i64 0],AV.c (Cell.int i64 2)]))))else((bif (vd b)then((bif (vd b)then((bif (tP a b c)then(some ((aw []/\Q (RV.aF [AV.agg [Cell.int i64 (i64.wrap (2+(ld b i))),Cell.int i64 ((fg b i).tmod 3),Cell.int i64 (gp b i),Cell.int i64 (fg b i)],AV.c (Cell.int i64 0)]))))else((bif (EU b i)then(some ((aw []/\Q (RV.aF [AV.agg [Cell.int i64 (i64.wrap (2+(ld b i))),Cell.int i64 ((fg b i).tmod 3),Cell.int i64 (gp b i),Cell.int i64 (fg b i)],AV.c (Cell.int i64 0)]))))else((bif (ES a b i)then(some ((aw []/\Q (RV.aF [AV.agg [Cell.int i64 (i64.wrap (2+(ld b i))),Cell.int i64 ((fg b i).tmod 3),Cell.int i64 (gp b i),Cell.int i64 (fg b i)],AV.c (Cell.int i64 0)]))))else(some ((aw []/\Q (RV.aF [AV.agg [Cell.int i64 (i64.wrap (i64.wrap (i64.wrap (2+i64.wrap ((gp b i)*i64.wrap (i64.wrap (2+b)+c)))+2)+(ld b i))),Cell.int i64 ((fg b i).tmod 3),Cell.int i64 (gp b i),Cell.int i64 (fg b i)],AV.c (Cell.int i64 0)]))))))))))else none))else none)))))))))
theorem Tw(a b:Int)(c i:Int)(Q:RV->Prop):r35 a b c i Q=WN a b c i Q:=by kernel_rfl
def aX(a b c:Int):Int:=if aY a b c then 3*a*b else 0
def xD(args:List RV):Option (RV×List Prop):=match args with
 | [.one (.agg [.int .i64 a,.int .i64 b,.int .i64 c])]=>some (.one (.c (.int .i64 (aX a b c))),[])
 |_=>none
theorem fX{a b c:Int}(h:aY a b c=true):3<=3*a*b/\3*a*b<=192:=by
 obtain⟨g1,g2,g3,g4,g5,g6⟩:=b8.1 h;have h1:3*a*1<=3*a*b:=Int.mul_le_mul_of_nonneg_left g3 (by omega)
 have h2:3*a*b<=3*a*8:=Int.mul_le_mul_of_nonneg_left g4 (by omega)
 omega
theorem uw{a b c:Int}(h:aY a b c=true):i64.wrap (i64.wrap (3*a)*b)=3*a*b:=by
 obtain⟨g1,g2,g3,g4,g5,g6⟩:=b8.1 h;have:=fX h;rw[IntWalk.i64_in (3*a) (by omega),IntWalk.i64_in _ (by omega)]
theorem Jp(f:FuncId)(hr: ∀a b c (Q:RV->Prop),cO prog xH 300 f [D1 a b c] s0 aO (fun v _ Z=>some (aw Z.ob/\Q v))=Xt a b c Q):cg prog f xD:=by
 intro args v ps h hp ρ w vs ha;unfold xD at h;split at h<;>try(cases h;done)
 rename_i a b c;simp only[ae,af]at h;obtain⟨rfl,rfl⟩:=h;refine cU LQ (by rfl) (by rfl) (.of_eq (hr a b c _) ?_) ρ w vs ha
 unfold aX;cases hg:aY a b c with
 |false=>exact .yes (by rw[gj,hg];rfl) ⟨trivial,rfl⟩
 |true=>exact .no (by rw[gj,hg];rfl) ⟨trivial,by rw[uw hg];rfl⟩
theorem Qq:cg prog 92 xD:=Jp 92 UL
theorem aaW:cg prog 51 xD:=Jp 51 Up
def aK(b c i:Int):Int×Int×Int×Int:=(2+(i - 1) /(3*b)*(2+b+c)+2+(i - 1) %(3*b) / 3,(i - 1) %(3*b) % 3,(i - 1) /(3*b),(i - 1) %(3*b))
def cq(a b c i:Int):Bool:=aY a b c &&(decide (1<=i) && decide (i<=3*a*b))
def nE(args:List RV):Option (RV×List Prop):=match args with
 | [.one (.agg [.int .i64 a,.int .i64 b,.int .i64 c]),.one (.c (.int .i64 i))]=>some (.aF [.agg [.int .i64 (cH (cq a b c i) (aK b c i).1),.int .i64 (cH (cq a b c i) (aK b c i).2.1),.int .i64 (cH (cq a b c i) (aK b c i).2.2.1),.int .i64 (cH (cq a b c i) (aK b c i).2.2.2)],.c (.int .i64 (if cq a b c i then 0 else 2))],[])
 |_=>none
structure afV(a b c i:Int):Prop where
 k0:0<=(i - 1) /(3*b)
 k1:(i - 1) /(3*b)<a
 r0:0<=(i - 1) %(3*b)
 r1:(i - 1) %(3*b)<3*b
 m0:0<=(i - 1) /(3*b)*(2+b+c)
 m1:(i - 1) /(3*b)*(2+b+c)+(2+b+c)<=a*(2+b+c)
 d0:0<=(i - 1) %(3*b) / 3
 d1:(i - 1) %(3*b) / 3<b
theorem Vw{a b c i:Int}(hg:aY a b c=true)(h0:1<=i)(h1:i<=3*a*b):afV a b c i:=by
 obtain⟨g1,g2,g3,g4,g5,g6⟩:=b8.1 hg;have hk:(i - 1) /(3*b)<a:=Int.ediv_lt_of_lt_mul (by omega) (by rw[<-Int.mul_assoc,Int.mul_comm a 3];omega)
 have hk0:0<=(i - 1) /(3*b):=Int.ediv_nonneg (by omega) (by omega)
 have r1:=Int.emod_lt_of_pos (i - 1) (show 0<3*b by omega)
 have r0:=Int.emod_nonneg (i - 1) (show 3*b≠0 by omega)
 have m1:((i - 1) /(3*b)+1)*(2+b+c)<=a*(2+b+c):=Int.mul_le_mul_of_nonneg_right (by omega) (by omega)
 rw[Int.add_mul,Int.one_mul]at m1;exact⟨hk0,hk,r0,r1,Int.mul_nonneg hk0 (by omega),m1,by omega,by omega⟩
theorem kO{x y:Int}(h:0<=x):x.tdiv y=x / y:=Int.tdiv_eq_ediv_of_nonneg h
theorem kW{x y:Int}(h:0<=x):x.tmod y=x % y:=Int.tmod_eq_emod_of_nonneg h
theorem rC{a b c i:Int}(h:aY a b c=false\/i<1\/i>3*a*b):cq a b c i=false:=by
 unfold cq;rcases h with h|h|h
 ·rw[h];rfl
 ·rw[show decide (1<=i)=false by simp;omega];simp
 ·rw[show decide (i<=3*a*b)=false by simp;omega];simp
theorem zp:cg prog 93 nE:=by
 intro args v ps h hp ρ w vs ha;unfold nE at h;split at h<;>try(cases h;done)
 rename_i a b c i;simp only[ae,af]at h;obtain⟨rfl,rfl⟩:=h;refine cU LQ (by rfl) (by rfl) (.of_eq (U5 a b c i _) ?_) ρ w vs ha
 unfold Wd;by_cases h0:i<1
 ·rw[rC (.inr (.inl h0))];exact .yes (by simp;exact h0) ⟨trivial,rfl⟩
 refine .no (by simp;omega) ?_
 cases hg:aY a b c with
 |false=>
  rw[rC (.inl hg)];exact .yes (by show(cW (aY a b c) !=0)=true;rw[gj,hg];rfl) (.yes (by simp;omega) ⟨trivial,rfl⟩)
 |true=>
  have e0:zl a b c=false:=by show(cW (aY a b c) !=0)=false;rw[gj,hg];rfl
  obtain⟨g1,g2,g3,g4,g5,g6⟩:=b8.1 hg;refine .no e0 ?_;have e8:Rm a b=3*a*b:=uw hg;have hab:=fX hg;by_cases h1:i>3*a*b
  ·rw[rC (.inr (.inr h1))];exact .yes (by rw[e8];simp;exact h1) ⟨trivial,rfl⟩
  ·have F:=Vw hg (by omega) (show i<=3*a*b by omega)
   have hb:=fL hg;obtain⟨f1,f2,f3,f4,f5,f6,f7,f8⟩:=F;have hB:cq a b c i=true:=by unfold cq;rw[hg];simp;omega
   have e1:oX b=3*b:=IntWalk.i64_in _ (by omega)
   have e2:tC b=true:=by show decide (¬oX b=0)=true;rw[e1];simp;omega
   have e3:u9 i=i - 1:=IntWalk.i64_in _ (by omega)
   have e4:fk b i=(i - 1) %(3*b):=by show(u9 i).tmod (oX b)=_;rw[e3,e1,kW (by omega)]
   have e5:gv b i=(i - 1) /(3*b):=by show i64.wrap ((u9 i).tdiv (oX b))=_;rw[e3,e1,kO (by omega)];exact IntWalk.i64_in _ (by omega)
   have e6:G0 b i=false:=by show decide (gv b i<0)=false;rw[e5];simp;omega
   have e7:Gi a b i=false:=by show decide (gv b i>=a)=false;rw[e5];simp;omega
   refine .no (by rw[e8];simp;omega) (.aZ e2 (.aZ e2 (.no e0 (.no e6 (.no e7 ⟨trivial,?_⟩)))))
   rw[e4,e5,kW f3,kO f3,IntWalk.i64_in (2+b) (by omega),IntWalk.i64_in (2+b+c) (by omega),IntWalk.i64_in ((i - 1) /(3*b)*(2+b+c)) (by omega),IntWalk.i64_in ((i - 1) %(3*b) / 3) (by omega),
    IntWalk.i64_in (2+(i - 1) /(3*b)*(2+b+c)) (by omega),IntWalk.i64_in (2+(i - 1) %(3*b) / 3) (by omega),IntWalk.i64_in _ (by omega)]
   rw[hB];unfold cH aK;rw[show 2+(i - 1) /(3*b)*(2+b+c)+(2+(i - 1) %(3*b) / 3)=2+(i - 1) /(3*b)*(2+b+c)+2+(i - 1) %(3*b) / 3 by omega]
   rfl
theorem Ah:cg prog 52 nE:=by
 intro args v ps h hp ρ w vs ha;unfold nE at h;split at h<;>try(cases h;done)
 rename_i a b c i;simp only[ae,af]at h;obtain⟨rfl,rfl⟩:=h;refine cU LQ (by rfl) (by rfl) (.of_eq (Tw a b c i _) ?_) ρ w vs ha
 unfold WN;cases hg:aY a b c with
 |false=>
  rw[rC (.inl hg)];exact .yes (by show(cW (aY a b c) !=0)=true;rw[gj,hg];rfl) ⟨trivial,rfl⟩
 |true=>
  have e0:tP a b c=false:=by show(cW (aY a b c) !=0)=false;rw[gj,hg];rfl
  obtain⟨g1,g2,g3,g4,g5,g6⟩:=b8.1 hg;refine .no e0 ?_;by_cases h0:i<1
  ·rw[rC (.inr (.inl h0))];exact .yes (by simp;exact h0) ⟨trivial,rfl⟩
  refine .no (by simp;omega) (.no e0 ?_)
  have e9:O7 a b=3*a*b:=uw hg;have hab:=fX hg;by_cases h1:i>3*a*b
  ·rw[rC (.inr (.inr h1))];exact .yes (by rw[e9];simp;exact h1) ⟨trivial,rfl⟩
  ·have F:=Vw hg (by omega) (show i<=3*a*b by omega)
   have hb:=fL hg;obtain⟨f1,f2,f3,f4,f5,f6,f7,f8⟩:=F;have hB:cq a b c i=true:=by unfold cq;rw[hg];simp;omega
   have e1:oZ b=3*b:=IntWalk.i64_in _ (by omega)
   have e2:vd b=true:=by show decide (¬oZ b=0)=true;rw[e1];simp;omega
   have e3:uc i=i - 1:=IntWalk.i64_in _ (by omega)
   have e4:fg b i=(i - 1) %(3*b):=by show(uc i).tmod (oZ b)=_;rw[e3,e1,kW (by omega)]
   have e5:ld b i=(i - 1) %(3*b) / 3:=by show i64.wrap ((fg b i).tdiv 3)=_;rw[e4,kO f3];exact IntWalk.i64_in _ (by omega)
   have e6:gp b i=(i - 1) /(3*b):=by show i64.wrap ((uc i).tdiv (oZ b))=_;rw[e3,e1,kO (by omega)];exact IntWalk.i64_in _ (by omega)
   have e7:EU b i=false:=by show decide (gp b i<0)=false;rw[e6];simp;omega
   have e8:ES a b i=false:=by show decide (gp b i>=a)=false;rw[e6];simp;omega
   refine .no (by rw[e9];simp;omega) (.aZ e2 (.aZ e2 (.no e0 (.no e7 (.no e8 ⟨trivial,?_⟩)))))
   rw[e4,e5,e6,kW f3,IntWalk.i64_in (2+b) (by omega),IntWalk.i64_in (2+b+c) (by omega),IntWalk.i64_in ((i - 1) /(3*b)*(2+b+c)) (by omega),
    IntWalk.i64_in (2+(i - 1) /(3*b)*(2+b+c)) (by omega),IntWalk.i64_in (2+(i - 1) /(3*b)*(2+b+c)+2) (by omega),IntWalk.i64_in _ (by omega)]
   rw[hB];unfold cH aK
   rfl
abbrev r66(p:aj)(n:Int)(Q:RV->Prop):ai:=cO prog mf 300 87 [.one (.ints .u8 p 54),.one (.c (.int .i64 n))] s0 aO fun v _ Z=>some (aw Z.ob/\Q v)
def gH(x y:Int):Int:=u16.wrap (gS (gS 0 (jR x 0)) (jR y 8))
def gf(b:aj):Fi.bD:=⟨b.getD 0 0,b.getD 1 0,lY (b.getD 2 0) (b.getD 3 0) (b.getD 4 0) (b.getD 5 0),gH (b.getD 6 0) (b.getD 7 0),gH (b.getD 8 0) (b.getD 9 0),gH (b.getD 10 0) (b.getD 11 0),gH (b.getD 12 0) (b.getD 13 0),gH (b.getD 14 0) (b.getD 15 0),gH (b.getD 16 0) (b.getD 17 0)⟩
abbrev lo(x:Int):Int:=u8.wrap x
abbrev hi(x:Int):Int:=u8.wrap (x.fdiv 256)
def eP(y:Fi.bD):List Int:= [y.k,y.l,u8.wrap (y.s.fdiv 1),hi y.s,u8.wrap (y.s.fdiv 65536),u8.wrap (y.s.fdiv 16777216),lo y.d0,hi y.d0,lo y.d1,hi y.d1,lo y.d2,hi y.d2,lo y.d3,hi y.d3,lo y.sg,hi y.sg,lo y.db,hi y.db]
abbrev eu(p:aj)(o:Nat):List Int:=(p.drop o).take 18
theorem UO(p:aj)(Q:RV->Prop):r66 p 0 Q=some (aw []/\Q (.aF [.agg (gf (eu p 0)).L,.c (.int .i64 0)])):=by kernel_rfl
theorem Tf(p:aj)(Q:RV->Prop):r66 p 1 Q=some (aw []/\Q (.aF [.agg (gf (eu p 18)).L,.c (.int .i64 0)])):=by kernel_rfl
theorem Uv(p:aj)(Q:RV->Prop):r66 p 2 Q=some (aw []/\Q (.aF [.agg (gf (eu p 36)).L,.c (.int .i64 0)])):=by kernel_rfl
def r88(p:aj)(n k l s d0 d1 d2 d3 sg db:Int):Option (RV×List Prop):=cO prog mf 300 89 [.one (.ints .u8 p 54),.one (.c (.int .i64 n)),.one (.agg [.int .u8 k,.int .u8 l,.int .u32 s,.int .u16 d0,.int .u16 d1,.int .u16 d2,.int .u16 d3,.int .u16 sg,.int .u16 db])] s0 ⟨0,[],[]⟩ fun v _ Z=>some (v,Z.ob)
theorem Vo(p:aj)(k l s d0 d1 d2 d3 sg db:Int):r88 p 0 k l s d0 d1 d2 d3 sg db=some (.aF [.ints .u8 (t54 (aB bA 0 (t54 (aB p 0 (eP ⟨k,l,s,d0,d1,d2,d3,sg,db⟩))))) 54,.c (.int .i64 0)],[]):=by kernel_rfl
theorem Uu(p:aj)(k l s d0 d1 d2 d3 sg db:Int):r88 p 1 k l s d0 d1 d2 d3 sg db=some (.aF [.ints .u8 (t54 (aB bA 0 (t54 (aB p 18 (eP ⟨k,l,s,d0,d1,d2,d3,sg,db⟩))))) 54,.c (.int .i64 0)],[]):=by kernel_rfl
theorem S6(p:aj)(k l s d0 d1 d2 d3 sg db:Int):r88 p 2 k l s d0 d1 d2 d3 sg db=some (.aF [.ints .u8 (t54 (aB bA 0 (t54 (aB p 36 (eP ⟨k,l,s,d0,d1,d2,d3,sg,db⟩))))) 54,.c (.int .i64 0)],[]):=by kernel_rfl
theorem xU{x y:Int}(hx:0<=x/\x<256)(hy:0<=y/\y<256):gH x y=x+256*y:=by
 unfold gH;rw[(iM hx).1,(iM hy).2.1];have k0:gS 0 x=0+x:=jt (a:=x) 0 (by omega) (by decide) (by omega) (by simp) ⟨by omega,by omega⟩ ⟨by omega,by omega⟩ ⟨by omega,by omega⟩
 have k1:gS x (256*y)=x+256*y:=jt (a:=y) 8 (by omega) (by simpa using hx.2) (by omega) (by simp) ⟨by omega,by omega⟩ ⟨by omega,by omega⟩ ⟨by omega,by omega⟩
 rw[k0,Int.zero_add,k1,wrap_u16];omega
theorem pw{x k:Int}(hk:0<=k):x.fdiv k=x / k:=Int.fdiv_eq_ediv_of_nonneg _ hk
abbrev U8(x:Int):Prop:=0<=x/\x<256
structure gW(y:Fi.bD):Prop where
 k:U8 y.k
 l:U8 y.l
 s:cF y.s
 d0:Fi.bh y.d0
 d1:Fi.bh y.d1
 d2:Fi.bh y.d2
 d3:Fi.bh y.d3
 sg:Fi.bh y.sg
 db:Fi.bh y.db
theorem gW.ok {y:Fi.bD}(h:gW y):y.Ok:=⟨h.k.1,h.s.1,h.s.2,h.d0,h.d1,h.d2,h.d3,h.sg,h.db⟩
theorem A1{x:Int}(h:Fi.bh x):gH (lo x) (hi x)=x:=by
 obtain⟨h1,h2⟩:=h;have e1:lo x=x % 256:=wrap_u8 x;have e2:hi x=x / 256:=by show u8.wrap (x.fdiv 256)=_;rw[pw (by decide),wrap_u8];omega
 rw[e1,e2,xU (by omega) (by omega)];omega
theorem Qy{x:Int}(h:cF x):lY (u8.wrap (x.fdiv 1)) (hi x) (u8.wrap (x.fdiv 65536)) (u8.wrap (x.fdiv 16777216))=x:=by
 have:=zM h;exact this
theorem XD{y:Fi.bD}(h:gW y):gf (eP y)=y:=by
 obtain⟨k,l,s,d0,d1,d2,d3,sg,db⟩:=y;obtain⟨hk,hl,hs,h0,h1,h2,h3,h4,h5⟩:=h;unfold gf eP;simp only[List.getD_cons_zero,List.getD_cons_succ];rw[Qy hs,A1 h0,A1 h1,A1 h2,A1 h3,A1 h4,A1 h5]
theorem BU{x y:Int}(hx:U8 x)(hy:U8 y):lo (gH x y)=x/\hi (gH x y)=y:=by
 rw[xU hx hy];constructor
 ·show u8.wrap _=_;rw[wrap_u8];omega
 ·show u8.wrap (Int.fdiv _ 256)=_;rw[pw (by decide),wrap_u8];omega
theorem Ml{a b c d:Int}(ha:U8 a)(hb:U8 b)(hc:U8 c)(hd:U8 d):u8.wrap ((lY a b c d).fdiv 1)=a/\hi (lY a b c d)=b/\u8.wrap ((lY a b c d).fdiv 65536)=c/\u8.wrap ((lY a b c d).fdiv 16777216)=d:=by
 rw[s5 ha hb hc hd];have h:=tY ha hb hc hd;have e:dv (iz a b c d)= [u8.wrap ((iz a b c d).fdiv 1),u8.wrap ((iz a b c d).fdiv 256),u8.wrap ((iz a b c d).fdiv 65536),u8.wrap ((iz a b c d).fdiv 16777216)]:=rfl;rw[e]at h;injection h with e0 h
 injection h with e1 h
 injection h with e2 h
 injection h with e3 h
 exact⟨e0,e1,e2,e3⟩
theorem UM{b:aj}(h:b.length=18): ∃x0 x1 x2 x3 x4 x5 x6 x7 x8 x9 y0 y1 y2 y3 y4 y5 y6 y7,b= [x0,x1,x2,x3,x4,x5,x6,x7,x8,x9,y0,y1,y2,y3,y4,y5,y6,y7]:=by
 match b,h with
 | [x0,x1,x2,x3,x4,x5,x6,x7,x8,x9,y0,y1,y2,y3,y4,y5,y6,y7],_=>exact⟨x0,x1,x2,x3,x4,x5,x6,x7,x8,x9,y0,y1,y2,y3,y4,y5,y6,y7,rfl⟩
theorem IT{b:aj}(h:b.length=18)(hy:Bytes b):eP (gf b)=b:=by
 obtain⟨x0,x1,x2,x3,x4,x5,x6,x7,x8,x9,y0,y1,y2,y3,y4,y5,y6,y7,rfl⟩:=UM h;have B: ∀x,x∈ [x0,x1,x2,x3,x4,x5,x6,x7,x8,x9,y0,y1,y2,y3,y4,y5,y6,y7]->U8 x:=hy;unfold gf eP;simp only[List.getD_cons_zero,List.getD_cons_succ];obtain⟨s0,s1,s2,s3⟩:=Ml (B x2 (by simp)) (B x3 (by simp)) (B x4 (by simp)) (B x5 (by simp))
 have a0:=BU (B x6 (by simp)) (B x7 (by simp))
 have a1:=BU (B x8 (by simp)) (B x9 (by simp))
 have a2:=BU (B y0 (by simp)) (B y1 (by simp))
 have a3:=BU (B y2 (by simp)) (B y3 (by simp))
 have a4:=BU (B y4 (by simp)) (B y5 (by simp))
 have a5:=BU (B y6 (by simp)) (B y7 (by simp))
 rw[s0,s1,s2,s3,a0.1,a0.2,a1.1,a1.2,a2.1,a2.2,a3.1,a3.2,a4.1,a4.2,a5.1,a5.2]
theorem oB(y:Fi.bD):(eP y).length=18:=rfl
theorem aeu(x:Int):U8 (u8.wrap x):=by rw[wrap_u8];constructor<;>omega
theorem vB{y:Fi.bD}(hk:U8 y.k)(hl:U8 y.l):Bytes (eP y):=by
 intro x hx;unfold eP at hx;simp only[List.mem_cons,List.not_mem_nil,or_false]at hx;rcases hx with rfl|rfl|rfl|rfl|rfl|rfl|rfl|rfl|rfl|rfl|rfl|rfl|rfl|rfl|rfl|rfl|rfl|rfl<;>first|exact hk|exact hl|exact aeu _
theorem eY(x y:Int):Fi.bh (gH x y):=by unfold gH;rw[wrap_u16];constructor<;>omega
theorem aco{b:aj}(hy:Bytes b):gW (gf b):=
 ⟨hy.getD 0,hy.getD 1,gb _,eY _ _,eY _ _,eY _ _,eY _ _,eY _ _,eY _ _⟩
theorem mN{p e:aj}{o:Nat}(he:e.length=18)(h:o+18<=p.length):eu (aB p o e) o=e:=by
 unfold aB;show List.take 18 (List.drop o _)=e;rw[List.append_assoc,List.drop_left' (by simp;omega),List.take_left' he]
theorem Nv{p e:aj}{o o':Nat}(he:e.length=18)(h:o+18<=p.length)(hd:o'+18<=o\/o+18<=o'):eu (aB p o e) o'=eu p o':=by
 show List.take 18 (List.drop o' _)=List.take 18 (List.drop o' _);unfold aB;apply List.ext_getElem?;intro j;by_cases hj:j<18
 ·rw[List.getElem?_take_of_lt hj,List.getElem?_take_of_lt hj,List.getElem?_drop,List.getElem?_drop];rcases hd with hd|hd
  ·rw[List.append_assoc,List.getElem?_append_left (by simp;omega),List.getElem?_take_of_lt (by omega)]
  ·rw[List.getElem?_append_right (by simp;omega),List.getElem?_drop]
   congr 1;simp;omega
 ·rw[List.getElem?_eq_none (by simp;omega),List.getElem?_eq_none (by simp;omega)]
theorem Cc{p:aj}{o:Nat}(h:o+18<=p.length):aB p o (eu p o)=p:=by
 unfold aB;have hl:(eu p o).length=18:=by simp[eu];omega
 rw[hl];show p.take o++(p.drop o).take 18++p.drop (o+18)=p;rw[List.append_assoc,show p.drop (o+18)=(p.drop o).drop 18 by rw[List.drop_drop],List.take_append_drop,List.take_append_drop]
def fAt(args:List RV):Option (RV×List Prop):=match args with
 | [.one (.ints .u8 p 54),.one (.c (.int .i64 n))]=>some (.aF [.agg (gf (eu p (18*n.toNat))).L,.c (.int .i64 0)],[0<=n/\n<=2])
 |_=>none
theorem abi:cg prog 87 fAt:=by
 intro args v ps h hp ρ w vs ha;unfold fAt at h;split at h<;>try(cases h;done)
 rename_i p n;simp only[ae,af]at h;obtain⟨rfl,rfl⟩:=h;obtain⟨⟨h0,h1⟩,_⟩:=hp;rcases (show n=0\/n=1\/n=2 by omega)with rfl|rfl|rfl
 ·rw[show 18*Int.toNat 0=0 from rfl]
  exact cU eM (by rfl) (by rfl) (.of_eq (UO p _) ⟨trivial,rfl⟩) ρ w vs ha
 ·rw[show 18*Int.toNat 1=18 from rfl]
  exact cU eM (by rfl) (by rfl) (.of_eq (Tf p _) ⟨trivial,rfl⟩) ρ w vs ha
 ·rw[show 18*Int.toNat 2=36 from rfl]
  exact cU eM (by rfl) (by rfl) (.of_eq (Uv p _) ⟨trivial,rfl⟩) ρ w vs ha
def fWi(args:List RV):Option (RV×List Prop):=match args with
 | [.one (.ints .u8 p 54),.one (.c (.int .i64 n)),.one (.agg [.int .u8 k,.int .u8 l,.int .u32 s,.int .u16 d0,.int .u16 d1,.int .u16 d2,.int .u16 d3,.int .u16 sg,.int .u16 db])]=>some (.aF [.ints .u8 (aB p (18*n.toNat) (eP ⟨k,l,s,d0,d1,d2,d3,sg,db⟩)) 54,.c (.int .i64 0)],[0<=n/\n<=2])
 |_=>none
theorem td{p e:aj}{o:Nat}(hp:p.length=54)(he:e.length=18)(h:o<=36):(aB p o e).length=54:=by rw[pJ (by omega)];exact hp
theorem ab4:cg prog 89 fWi:=by
 intro args v ps h hp ρ w vs ha;unfold fWi at h;split at h<;>try(cases h;done)
 rename_i p n k l s d0 d1 d2 d3 sg db;simp only[ae,af]at h;obtain⟨rfl,rfl⟩:=h;obtain⟨⟨h0,h1⟩,_⟩:=hp;have hpl:p.length=54:=by obtain⟨_,_,h,_⟩:=ha;exact h.1
 have e: ∀o,o<=36->t54 (aB bA 0 (t54 (aB p o (eP ⟨k,l,s,d0,d1,d2,d3,sg,db⟩))))=aB p o (eP ⟨k,l,s,d0,d1,d2,d3,sg,db⟩):=fun o ho=>by
  have hl:=td hpl (oB ⟨k,l,s,d0,d1,d2,d3,sg,db⟩) ho;rw[show t54 (aB p o (eP ⟨k,l,s,d0,d1,d2,d3,sg,db⟩))=_ from aJ hl,ck hl,show t54 (aB p o (eP ⟨k,l,s,d0,d1,d2,d3,sg,db⟩))=_ from aJ hl]
 rcases (show n=0\/n=1\/n=2 by omega)with rfl|rfl|rfl
 ·rw[show 18*Int.toNat 0=0 from rfl]
  have hr:=Vo p k l s d0 d1 d2 d3 sg db;rw[e 0 (by omega)]at hr
  exact cm eM (by rfl) (by rfl) hr trivial ρ w vs ha
 ·rw[show 18*Int.toNat 1=18 from rfl]
  have hr:=Uu p k l s d0 d1 d2 d3 sg db;rw[e 18 (by omega)]at hr
  exact cm eM (by rfl) (by rfl) hr trivial ρ w vs ha
 ·rw[show 18*Int.toNat 2=36 from rfl]
  have hr:=S6 p k l s d0 d1 d2 d3 sg db;rw[e 36 (by omega)]at hr
  exact cm eM (by rfl) (by rfl) hr trivial ρ w vs ha
def mC(G:List RV->Int->Int->Int->List Int->Nat->Int->Option (RV×List Prop)):bg:=fun args hp nx=>match args with
 | .one (.c (.ptr nm 0))::xs=>match rF hp.get nm with
  |some (a,b,c,L,N,n,sc,_,_,_,_)=>match G xs a b c L n sc with
   |some (v,ps)=>some (v,hp,nx,[],(L.length=N)::(N=64*n)::ps)
   |none=>none
  |none=>none
 |_=>none
theorem Tn{f:FuncId}(hfn: ∃fn,prog.funcs[f]? =some fn/\fn.body.isNone=false){G:List RV->Int->Int->Int->List Int->Nat->Int->Option (RV×List Prop)}
  (hx: ∀xs a b c L n sc v ps,G xs a b c L n sc=some (v,ps)->xs.all ej=true/\ej v=true)
  (hG: ∀xs a b c L n sc v ps,G xs a b c L n sc=some (v,ps)->aw ps->L.length=64*n->∀(t0:TypeId) (op:Option Nat) (t1:TypeId) (al:Int) (ρ:aM) (w:World) (vs:List Value),bu ρ (oT t0 op t1 a b c L (64*n) n sc al).get w->bW ρ 3->bo ρ (.one (.c (.ptr 0 0))::xs) vs->
   Calls prog f vs.toArray w fun e w'=> ∃V ρ' hp' nx' L',e= .returned V/\bE ρ' v V/\dN ρ (oT t0 op t1 a b c L (64*n) n sc al).get 3 w ρ' hp' nx' w' L'):aI prog f (mC G):=by
 intro args s v hp nx lg ps ht h bB;unfold mC at h;split at h<;>try(cases h;done)
 rename_i nm xs;split at h<;>try(cases h;done)
 rename_i a b c L N n sc al t0 op t1 hi;split at h<;>try(cases h;done)
 rename_i v1 ps1 hg;simp only[ae,af]at h;obtain⟨rfl,rfl,rfl,rfl,rfl⟩:=h;obtain⟨hl,hN,bB⟩:=bB;subst hN;obtain⟨hfx,hfv⟩:=hx _ _ _ _ _ _ _ _ _ hg;obtain⟨θ,e0,hin⟩:=qi hi;have ex:xs.map (dB θ)=xs:=(List.map_congr_left fun c hc=>k8 (List.all_eq_true.1 hfx c hc)).trans (List.map_id xs)
 have ea:((.one (.c (.ptr 0 0)):RV)::xs).map (dB θ)= .one (.c (.ptr nm 0))::xs:=by
  rw[List.map_cons,ex];simp[dB,jq,jy,e0]
 have:=aU.small (P:=prog) (f:=f) (args:= .one (.c (.ptr 0 0))::xs) (v:=v1) (k:=3) (hs:=oT t0 op t1 a b c L (64*n) n sc al) (θ:=θ) (s:=s) ht hfn (hG _ _ _ _ _ _ _ _ _ hg bB hl t0 op t1 al) hin
  (List.all_eq_true.2 fun c hc=>by
   rcases List.mem_cons.1 hc with rfl|hc
   ·rfl
   ·exact sW (List.all_eq_true.1 hfx c hc)) hfv
 rw[ea]at this;exact this
def SR:FuncId->Option bg:=fun f=>match f with| 93=>some (aL nE)| 47=>some mB| 87=>some (aL fAt)|_=>none
theorem ado:Fit prog (fun f=>(SR f).map bj):=⟨bM,aV,aI.sum fun f sm h=>by
 unfold SR at h;split at h
 ·cases h;exact zp.sum ⟨_,func93,rfl⟩
 ·cases h;exact jx
 ·cases h;exact abi.sum ⟨_,func87,rfl⟩
 ·cases h⟩
def r36(t0:TypeId)(op:Option Nat)(t1:TypeId)(a b c:Int)(L:aj)(N n:Nat)(sc al i:Int)(Q:RV->Prop):ai:=cO prog SR 300 21 [.one (.c (.ptr 0 0)),.one (.c (.int .i64 i))] ⟨.nil,oT t0 op t1 a b c L N n sc al,3,[]⟩ aO fun v _ Z=>some (aw Z.ob/\Q v)
theorem Yj(t0:TypeId)(op:Option Nat)(t1:TypeId)(a b c:Int)(L:aj)(N n:Nat)(sc al i:Int)(Q:RV->Prop):r36 t0 op t1 a b c L N n sc al i Q=
 (bif (if cq a b c i=true then(0:Int)else 2) !=0 then some (aw []/\Q (.aF [.agg Fi.bD.zero.L,.c (.bool false)]))
  else bif !cI L n (cH (cq a b c i) (aK b c i).1) 4 then some (aw [L.length=N,N=64*n]/\Q (.aF [.agg Fi.bD.zero.L,.c (.bool false)]))
  else some (aw [0<=cH (cq a b c i) (aK b c i).2.1/\cH (cq a b c i) (aK b c i).2.1<=2,L.length=N,N=64*n]/\Q (.aF [.agg (gf (eu (t54 (aB bA 0 (t54 (aB bA 0 (t54 (aB bA 0 (aR L n (cH (cq a b c i) (aK b c i).1) 4))))))) (18*(cH (cq a b c i) (aK b c i).2.1).toNat))).L,.c (.bool true)]))):=by kernel_rfl
def bG(a b c:Int)(L:aj)(n:Nat)(i:Int):Bool:=cq a b c i && cI L n (aK b c i).1 4
def gP(b c:Int)(L:aj)(n:Nat)(i:Int):Fi.bD:=gf (eu (aR L n (aK b c i).1 4) (18*(aK b c i).2.1.toNat))
def aW(a b c:Int)(L:aj)(n:Nat)(i:Int):Fi.bD:=if bG a b c L n i then gP b c L n i else .zero
def w8:List RV->Int->Int->Int->List Int->Nat->Int->Option (RV×List Prop):=fun xs a b c L n _=>match xs with
 | [.one (.c (.int .i64 i))]=>some (.aF [.agg (aW a b c L n i).L,.c (.bool (bG a b c L n i))],[])
 |_=>none
theorem eH{L:aj}{n:Nat}{s k:Int}(hl:L.length=64*n):(aR L n s k).length=54:=by
 unfold aR;cases hs:dP n s with
 |false=>rfl
 |true=>
  rw[if_pos rfl];obtain⟨h1,h2⟩:=dU.1 hs;exact jn (ig (by omega))
theorem jK(b c i:Int):0<=(aK b c i).2.1/\(aK b c i).2.1<=2:=by unfold aK;constructor<;>(simp only;omega)
theorem sO:aI prog 21 (mC w8):=by
 refine Tn ⟨_,func21,rfl⟩ (fun xs a b c L n sc v ps h=> ?_) fun xs a b c L n sc v ps h bB hl t0 op t1 al=> ?_
 ·unfold w8 at h;split at h<;>try(cases h;done)
  simp only[ae,af]at h;obtain⟨rfl,rfl⟩:=h;exact⟨rfl,rfl⟩
 ·unfold w8 at h;split at h<;>try(cases h;done)
  rename_i i;simp only[ae,af]at h;obtain⟨rfl,rfl⟩:=h;refine k9 ado gA (.of_eq (Yj t0 op t1 a b c L (64*n) n sc al i _) ?_);unfold aW bG;cases hB:cq a b c i with
  |false=>exact .yes (by simp) ⟨trivial,rfl⟩
  |true=>
   refine .no (by simp) ?_
   show dG (bif !cI L n (aK b c i).1 4 then _ else _)
   cases hL:cI L n (aK b c i).1 4 with
   |false=>exact .yes rfl ⟨⟨hl,rfl,trivial⟩,rfl⟩
   |true=>
    refine .no rfl ⟨⟨jK b c i,hl,rfl,trivial⟩,?_⟩;have hp:(aR L n (aK b c i).1 4).length=54:=eH hl;show RV.aF [.agg (gf (eu (t54 (aB bA 0 (t54 (aB bA 0 (t54 (aB bA 0 (aR L n (aK b c i).1 4))))))) (18*(aK b c i).2.1.toNat))).L,.c (.bool true)]=_;rw[ck hp,show t54 (aR L n (aK b c i).1 4)=_ from aJ hp,ck hp,show t54 (aR L n (aK b c i).1 4)=_ from aJ hp,ck hp,show t54 (aR L n (aK b c i).1 4)=_ from aJ hp]
    rfl
def UW:FuncId->Option bg:=fun f=>match f with| 93=>some (aL nE)| 47=>some mB| 89=>some (aL fWi)| 78=>some p8|_=>none
theorem adq:Fit prog (fun f=>(UW f).map bj):=⟨bM,aV,aI.sum fun f sm h=>by
 unfold UW at h;split at h
 ·cases h;exact zp.sum ⟨_,func93,rfl⟩
 ·cases h;exact jx
 ·cases h;exact ab4.sum ⟨_,func89,rfl⟩
 ·cases h;exact mi
 ·cases h⟩
def Ci:Code:=gB 23
def jr(i k l s d0 d1 d2 d3 sg db:Int):List RV:= [.one (.c (.ptr 0 0)),.one (.c (.int .i64 i)),.one (.agg [.int .u8 k,.int .u8 l,.int .u32 s,.int .u16 d0,.int .u16 d1,.int .u16 d2,.int .u16 d3,.int .u16 sg,.int .u16 db])]
def BM(i k l s d0 d1 d2 d3 sg db:Int):T RV:=match setArgs 32 (jr i k l s d0 d1 d2 d3 sg db) 0 .nil some with|some t=>t|none=> .nil
theorem BB(i k l s d0 d1 d2 d3 sg db:Int):setArgs 32 (jr i k l s d0 d1 d2 d3 sg db) 0 .nil some=some (BM i k l s d0 d1 d2 d3 sg db):=by kernel_rfl
def r63(a b c:Int)(L:aj)(n:Nat)(sc al:Int)(lm:ak)(i k l s d0 d1 d2 d3 sg db:Int)(Q:X->Option (List AV)->T ax->Nat->Prop):ai:=
 az prog UW 300 32 Ci ⟨BM i k l s d0 d1 d2 d3 sg db,jc a b c L n sc al lm,3,[]⟩ aO (fun x s Z=>some (aw Z.ob/\(Nat.ble 3 s.nx=true/\Q x (ba prog 32 (low 32 3 (aE [6] 32 s)) f23.results.toList) (low 32 3 (aE [6] 32 s)).hp (low 32 3 (aE [6] 32 s)).nx)))
end Go.Sx
