import Derived.Test.YtfceckiklfkjkaaGreatS45
noncomputable section
open Go.Proofs Go.RowKit
set_option maxRecDepth 100000
open Go.IntKind(i64 u8 u64 u32 u16)
open Go.Proofs.Tryz
namespace Go.Sx.Ly
def fT:FuncId->Option bg:=fun f=>match f with| 93=>some (aL nE)| 92=>some (aL xD)| 21=>some (mC w8)| 44=>some sI|_=>none
theorem dW:Fit prog (fun f=>(fT f).map bj):=⟨bM,aV,aI.sum fun f sm h=>by
 unfold fT at h;split at h
 ·cases h;exact zp.sum ⟨_,func93,rfl⟩
 ·cases h;exact Qq.sum ⟨_,func92,rfl⟩
 ·cases h;exact sO
 ·cases h;exact pE
 ·cases h⟩
def et:Code:=gB 104
def gw:Code:=match gR (gL (aG 2 et))with| .block _ (.loop c)=>c|_=> .skip
def iX(K:Nat):List RV:= [.one (.c (.ptr 0 0)),.one (.c (.fn K [] [(3,0)]))]
def jI(K:Nat):T RV:=match setArgs 37 (iX K) 0 .nil some with|some t=>t|none=> .nil
theorem mu(K:Nat):setArgs 37 (iX K) 0 .nil some=some (jI K):=by kernel_rfl
theorem jQ:f104.body=some et:=by kernel_rfl
def iv:S->List Nat:=fun s=>gg s.sl 5
section
variable(a b c:Int)(n:Nat)(sc:Int)(L:aj)(al:Int)(lm av:ak)(N i:Int)(l:aj)(m1 m2:Nat)
def cG(cap:ax)(x xs:List (Nat×ax)):T ax:=aN ([(0,.row 113 true none (.cells [.int .i64 a,.int .i64 b,.int .i64 c,.aC 1 64 0 n,.int .u32 sc,.map 2,.int .i64 al])),(1,.row 95 true (some 64) (.ints .u8 L (64*n))),(2,.aQ none lm),(3,cap)]++(x++xs))
def Kz(K:Nat)(N i:Int)(bc:Cell):List (Nat×RV):= [(0,.one (.c (.ptr 0 0))),(1,.one (.c (.fn K [] [(3,0)]))),(5,.one (.c bc)),(11,.one (.c (.int .i64 N))),(12,.one (.c (.int .i64 i)))]
def mK:S:=aE [0,1,5,11,12] 37 ⟨aN (Kz 105 N i .bf),cG a b c n sc L al lm (.row 48 true none (.cells [.ptr 4 0])) [(4,.row 137 true none (.cells [.map 5,.any,.any])),(5,.aQ (some .i64) av)] [],6,[]⟩
def jw:S:=aE [0,1,5,11,12] 37 ⟨aN (Kz 105 N i (.aC 6 1 0 m1)),cG a b c n sc L al lm (.row 48 true none (.cells [.ptr 4 0])) [(4,.row 137 true none (.cells [.map 5,.any,.any])),(5,.aQ (some .i64) av)] [(6,.row 3 false (some 1) (.ints .i64 l m2))],7,[]⟩
def yP:S:=aE [4] 37 ⟨aN [(4,.one (.c .bf))],cG a b c n sc L al lm (.row 48 true none (.cells [.ptr 4 0])) [(4,.row 137 true none (.cells [.map 5,.any,.any])),(5,.aQ (some .i64) av)] [],6,[]⟩
def zn:S:=aE [4] 37 ⟨aN [(4,.one (.c (.aC 6 1 0 l.length)))],cG a b c n sc L al lm (.row 48 true none (.cells [.ptr 4 0])) [(4,.row 137 true none (.cells [.map 5,.any,.any])),(5,.aQ (some .i64) av)] [(6,cj l)],7,[]⟩
def Uk(M:S->Prop)(R:ah):ai:=dk prog fT 300 37 2 et ⟨jI 105,cG a b c n sc L al lm (.row 48 true none (.cells [.ptr 4 0])) [(4,.row 137 true none (.cells [.map 5,.any,.any])),(5,.aQ (some .i64) av)] [],6,[]⟩ aO (iR 6 [0,1,5] 37 [] f104.results.toList prog M R)
def PV:S:=aE [0,1,5] 37 ⟨aN [(0,.one (.c (.ptr 0 0))),(1,.one (.c (.fn 105 [] [(3,0)]))),(5,.one (.c .bf))],cG a b c n sc L al lm (.row 48 true none (.cells [.ptr 4 0])) [(4,.row 137 true none (.cells [.map 5,.any,.any])),(5,.aQ (some .i64) av)] [],6,[]⟩
def SM(Q:ag):ai:=az prog fT 300 37 (gL (gL (aG 2 et))) (PV a b c n sc L al lm av) aO (bN 6 [0,1,5,11,12] 37 iv Q)
def Qf(Q:ag):ai:=az prog fT 300 37 gw (mK a b c n sc L al lm av N i) aO (bN 6 [0,1,5,11,12] 37 iv Q)
def Sq(Q:ag):ai:=az prog fT 300 37 gw (jw a b c n sc L al lm av N i l l.length l.length) aO (bN 6 [0,1,5,11,12] 37 iv Q)
def QW(Q:ag):ai:=az prog fT 300 37 (gR (aG 2 et)) (mK a b c n sc L al lm av N i) aO (bN 6 [4] 37 (fun s=>gg s.sl 4) Q)
def QK(Q:ag):ai:=az prog fT 300 37 (gR (aG 2 et)) (jw a b c n sc L al lm av N i l l.length l.length) aO (bN 6 [4] 37 (fun s=>gg s.sl 4) Q)
def KZ(a b c:Int)(n:Nat)(sc:Int)(L:aj)(al:Int)(lm av:ak)(M:S->Prop)(R:ah):ai:=some ((aw []/\M (PV a b c n sc L al lm av)))
theorem C8(a b c:Int)(n:Nat)(sc:Int)(L:aj)(al:Int)(lm av:ak)(M:S->Prop)(R:ah):Uk a b c n sc L al lm av M R=KZ a b c n sc L al lm av M R:=by kernel_rfl
def MT(a b c:Int)(n:Nat)(sc:Int)(L:aj)(al:Int)(lm av:ak)(Q:ag):ai:=some ((aw []/\Q (X.normal) (mK a b c n sc L al lm av (aX a b c) 0)))
theorem Da(a b c:Int)(n:Nat)(sc:Int)(L:aj)(al:Int)(lm av:ak)(Q:ag):SM a b c n sc L al lm av Q=MT a b c n sc L al lm av Q:=by kernel_rfl
def Iq(a b c:Int)(n:Nat)(sc:Int)(L:aj)(al:Int)(lm av:ak)(N i:Int)(Q:ag):ai:=(bif decide (i<N)then((bif bG a b c L n (i64.wrap (i+1))then((bif (aW a b c L n (i64.wrap (i+1))).k !=0 then((bif !decide (bp av (i64.wrap (i+1))>0)then(some ((aw [L.length=64*n,64*n=64*n]/\Q (X.normal) (jw a b c n sc L al lm av N (i64.wrap (i+1)) [i64.wrap (i+1)] 1 1))))else(some ((aw [L.length=64*n,64*n=64*n]/\Q (X.normal) (mK a b c n sc L al lm av N (i64.wrap (i+1))))))))else(some ((aw [L.length=64*n,64*n=64*n]/\Q (X.normal) (mK a b c n sc L al lm av N (i64.wrap (i+1))))))))else(some ((aw [L.length=64*n,64*n=64*n]/\Q (X.normal) (mK a b c n sc L al lm av N (i64.wrap (i+1))))))))else(some ((aw []/\Q (X.exit 0) (mK a b c n sc L al lm av N i)))))
theorem rf(a b c:Int)(n:Nat)(sc:Int)(L:aj)(al:Int)(lm av:ak)(N i:Int)(Q:ag):Qf a b c n sc L al lm av N i Q=Iq a b c n sc L al lm av N i Q:=by kernel_rfl
def Im(a b c:Int)(n:Nat)(sc:Int)(L:aj)(al:Int)(lm av:ak)(N i:Int)(l:aj)(Q:ag):ai:=(bif decide (i<N)then((bif bG a b c L n (i64.wrap (i+1))then((bif (aW a b c L n (i64.wrap (i+1))).k !=0 then((bif !decide (bp av (i64.wrap (i+1))>0)then((bif decide (fits prog.types[3]! (l.length+1)=true)then((bif decide (0+l.length*1<=l.length)then(some ((aw [L.length=64*n,64*n=64*n]/\Q (X.normal) (jw a b c n sc L al lm av N (i64.wrap (i+1)) (List.take (l.length*1) (List.drop 0 l)++List.take 1 (List.drop 0 ((cx [0] 1).set 0 (i64.wrap (i+1))))) (l.length+1) (l.length*1+1)))))else none))else none))else(some ((aw [L.length=64*n,64*n=64*n]/\Q (X.normal) (jw a b c n sc L al lm av N (i64.wrap (i+1)) l l.length l.length))))))else(some ((aw [L.length=64*n,64*n=64*n]/\Q (X.normal) (jw a b c n sc L al lm av N (i64.wrap (i+1)) l l.length l.length))))))else(some ((aw [L.length=64*n,64*n=64*n]/\Q (X.normal) (jw a b c n sc L al lm av N (i64.wrap (i+1)) l l.length l.length))))))else(some ((aw []/\Q (X.exit 0) (jw a b c n sc L al lm av N i l l.length l.length)))))
theorem rI(a b c:Int)(n:Nat)(sc:Int)(L:aj)(al:Int)(lm av:ak)(N i:Int)(l:aj)(Q:ag):Sq a b c n sc L al lm av N i l Q=Im a b c n sc L al lm av N i l Q:=by kernel_rfl
def Ii(a b c:Int)(n:Nat)(sc:Int)(L:aj)(al:Int)(lm av:ak)(N i:Int)(Q:ag):ai:=some ((aw []/\Q (X.ret) (yP a b c n sc L al lm av)))
theorem Bj(a b c:Int)(n:Nat)(sc:Int)(L:aj)(al:Int)(lm av:ak)(N i:Int)(Q:ag):QW a b c n sc L al lm av N i Q=Ii a b c n sc L al lm av N i Q:=by kernel_rfl
def IA(a b c:Int)(n:Nat)(sc:Int)(L:aj)(al:Int)(lm av:ak)(N i:Int)(l:aj)(Q:ag):ai:=some ((aw []/\Q (X.ret) (zn a b c n sc L al lm av l)))
theorem AJ(a b c:Int)(n:Nat)(sc:Int)(L:aj)(al:Int)(lm av:ak)(N i:Int)(l:aj)(Q:ag):QK a b c n sc L al lm av N i l Q=IA a b c n sc L al lm av N i l Q:=by kernel_rfl
def m8:S:=aE [0,1,5,11,12] 37 ⟨aN (Kz 106 N i .bf),cG a b c n sc L al lm (.row 48 true none (.cells [.ptr 4 0])) [(4,.row 137 true none (.cells [.map 5,.any,.any])),(5,.aQ (some .i64) av)] [],6,[]⟩
def jz:S:=aE [0,1,5,11,12] 37 ⟨aN (Kz 106 N i (.aC 6 1 0 m1)),cG a b c n sc L al lm (.row 48 true none (.cells [.ptr 4 0])) [(4,.row 137 true none (.cells [.map 5,.any,.any])),(5,.aQ (some .i64) av)] [(6,.row 3 false (some 1) (.ints .i64 l m2))],7,[]⟩
def yI:S:=aE [4] 37 ⟨aN [(4,.one (.c .bf))],cG a b c n sc L al lm (.row 48 true none (.cells [.ptr 4 0])) [(4,.row 137 true none (.cells [.map 5,.any,.any])),(5,.aQ (some .i64) av)] [],6,[]⟩
def zx:S:=aE [4] 37 ⟨aN [(4,.one (.c (.aC 6 1 0 l.length)))],cG a b c n sc L al lm (.row 48 true none (.cells [.ptr 4 0])) [(4,.row 137 true none (.cells [.map 5,.any,.any])),(5,.aQ (some .i64) av)] [(6,cj l)],7,[]⟩
def Sy(M:S->Prop)(R:ah):ai:=dk prog fT 300 37 2 et ⟨jI 106,cG a b c n sc L al lm (.row 48 true none (.cells [.ptr 4 0])) [(4,.row 137 true none (.cells [.map 5,.any,.any])),(5,.aQ (some .i64) av)] [],6,[]⟩ aO (iR 6 [0,1,5] 37 [] f104.results.toList prog M R)
def PF:S:=aE [0,1,5] 37 ⟨aN [(0,.one (.c (.ptr 0 0))),(1,.one (.c (.fn 106 [] [(3,0)]))),(5,.one (.c .bf))],cG a b c n sc L al lm (.row 48 true none (.cells [.ptr 4 0])) [(4,.row 137 true none (.cells [.map 5,.any,.any])),(5,.aQ (some .i64) av)] [],6,[]⟩
def U0(Q:ag):ai:=az prog fT 300 37 (gL (gL (aG 2 et))) (PF a b c n sc L al lm av) aO (bN 6 [0,1,5,11,12] 37 iv Q)
def OS(Q:ag):ai:=az prog fT 300 37 gw (m8 a b c n sc L al lm av N i) aO (bN 6 [0,1,5,11,12] 37 iv Q)
def Qw(Q:ag):ai:=az prog fT 300 37 gw (jz a b c n sc L al lm av N i l l.length l.length) aO (bN 6 [0,1,5,11,12] 37 iv Q)
def Ps(Q:ag):ai:=az prog fT 300 37 (gR (aG 2 et)) (m8 a b c n sc L al lm av N i) aO (bN 6 [4] 37 (fun s=>gg s.sl 4) Q)
def Ql(Q:ag):ai:=az prog fT 300 37 (gR (aG 2 et)) (jz a b c n sc L al lm av N i l l.length l.length) aO (bN 6 [4] 37 (fun s=>gg s.sl 4) Q)
def Mo(a b c:Int)(n:Nat)(sc:Int)(L:aj)(al:Int)(lm av:ak)(M:S->Prop)(R:ah):ai:=some ((aw []/\M (PF a b c n sc L al lm av)))
theorem Dk(a b c:Int)(n:Nat)(sc:Int)(L:aj)(al:Int)(lm av:ak)(M:S->Prop)(R:ah):Sy a b c n sc L al lm av M R=Mo a b c n sc L al lm av M R:=by kernel_rfl
def Ns(a b c:Int)(n:Nat)(sc:Int)(L:aj)(al:Int)(lm av:ak)(Q:ag):ai:=some ((aw []/\Q (X.normal) (m8 a b c n sc L al lm av (aX a b c) 0)))
theorem Dc(a b c:Int)(n:Nat)(sc:Int)(L:aj)(al:Int)(lm av:ak)(Q:ag):U0 a b c n sc L al lm av Q=Ns a b c n sc L al lm av Q:=by kernel_rfl
def Ip(a b c:Int)(n:Nat)(sc:Int)(L:aj)(al:Int)(lm av:ak)(N i:Int)(Q:ag):ai:=(bif decide (i<N)then((bif bG a b c L n (i64.wrap (i+1))then((bif decide (bp av (i64.wrap (i+1))>0)then((bif i64.wrap (aW a b c L n (i64.wrap (i+1))).l !=bp av (i64.wrap (i+1))then(some ((aw [L.length=64*n,64*n=64*n]/\Q (X.normal) (jz a b c n sc L al lm av N (i64.wrap (i+1)) [i64.wrap (i+1)] 1 1))))else(some ((aw [L.length=64*n,64*n=64*n]/\Q (X.normal) (m8 a b c n sc L al lm av N (i64.wrap (i+1))))))))else(some ((aw [L.length=64*n,64*n=64*n]/\Q (X.normal) (m8 a b c n sc L al lm av N (i64.wrap (i+1))))))))else(some ((aw [L.length=64*n,64*n=64*n]/\Q (X.normal) (m8 a b c n sc L al lm av N (i64.wrap (i+1))))))))else(some ((aw []/\Q (X.exit 0) (m8 a b c n sc L al lm av N i)))))
theorem qP(a b c:Int)(n:Nat)(sc:Int)(L:aj)(al:Int)(lm av:ak)(N i:Int)(Q:ag):OS a b c n sc L al lm av N i Q=Ip a b c n sc L al lm av N i Q:=by kernel_rfl
def H0(a b c:Int)(n:Nat)(sc:Int)(L:aj)(al:Int)(lm av:ak)(N i:Int)(l:aj)(Q:ag):ai:=(bif decide (i<N)then((bif bG a b c L n (i64.wrap (i+1))then((bif decide (bp av (i64.wrap (i+1))>0)then((bif i64.wrap (aW a b c L n (i64.wrap (i+1))).l !=bp av (i64.wrap (i+1))then((bif decide (fits prog.types[3]! (l.length+1)=true)then((bif decide (0+l.length*1<=l.length)then(some ((aw [L.length=64*n,64*n=64*n]/\Q (X.normal) (jz a b c n sc L al lm av N (i64.wrap (i+1)) (List.take (l.length*1) (List.drop 0 l)++List.take 1 (List.drop 0 ((cx [0] 1).set 0 (i64.wrap (i+1))))) (l.length+1) (l.length*1+1)))))else none))else none))else(some ((aw [L.length=64*n,64*n=64*n]/\Q (X.normal) (jz a b c n sc L al lm av N (i64.wrap (i+1)) l l.length l.length))))))else(some ((aw [L.length=64*n,64*n=64*n]/\Q (X.normal) (jz a b c n sc L al lm av N (i64.wrap (i+1)) l l.length l.length))))))else(some ((aw [L.length=64*n,64*n=64*n]/\Q (X.normal) (jz a b c n sc L al lm av N (i64.wrap (i+1)) l l.length l.length))))))else(some ((aw []/\Q (X.exit 0) (jz a b c n sc L al lm av N i l l.length l.length)))))
theorem qF(a b c:Int)(n:Nat)(sc:Int)(L:aj)(al:Int)(lm av:ak)(N i:Int)(l:aj)(Q:ag):Qw a b c n sc L al lm av N i l Q=H0 a b c n sc L al lm av N i l Q:=by kernel_rfl
def Ik(a b c:Int)(n:Nat)(sc:Int)(L:aj)(al:Int)(lm av:ak)(N i:Int)(Q:ag):ai:=some ((aw []/\Q (X.ret) (yI a b c n sc L al lm av)))
theorem AE(a b c:Int)(n:Nat)(sc:Int)(L:aj)(al:Int)(lm av:ak)(N i:Int)(Q:ag):Ps a b c n sc L al lm av N i Q=Ik a b c n sc L al lm av N i Q:=by kernel_rfl
def Ic(a b c:Int)(n:Nat)(sc:Int)(L:aj)(al:Int)(lm av:ak)(N i:Int)(l:aj)(Q:ag):ai:=some ((aw []/\Q (X.ret) (zx a b c n sc L al lm av l)))
theorem AK(a b c:Int)(n:Nat)(sc:Int)(L:aj)(al:Int)(lm av:ak)(N i:Int)(l:aj)(Q:ag):Ql a b c n sc L al lm av N i l Q=Ic a b c n sc L al lm av N i l Q:=by kernel_rfl
def oR:S:=aE [0,1,5,11,12] 37 ⟨aN (Kz 123 N i .bf),cG a b c n sc L al lm (.row 29 true none (.cells [.ptr 0 0])) [] [],6,[]⟩
def kh:S:=aE [0,1,5,11,12] 37 ⟨aN (Kz 123 N i (.aC 6 1 0 m1)),cG a b c n sc L al lm (.row 29 true none (.cells [.ptr 0 0])) [] [(6,.row 3 false (some 1) (.ints .i64 l m2))],7,[]⟩
def Ag:S:=aE [4] 37 ⟨aN [(4,.one (.c .bf))],cG a b c n sc L al lm (.row 29 true none (.cells [.ptr 0 0])) [] [],6,[]⟩
def zP:S:=aE [4] 37 ⟨aN [(4,.one (.c (.aC 6 1 0 l.length)))],cG a b c n sc L al lm (.row 29 true none (.cells [.ptr 0 0])) [] [(6,cj l)],7,[]⟩
def T6(M:S->Prop)(R:ah):ai:=dk prog fT 300 37 2 et ⟨jI 123,cG a b c n sc L al lm (.row 29 true none (.cells [.ptr 0 0])) [] [],6,[]⟩ aO (iR 6 [0,1,5] 37 [] f104.results.toList prog M R)
def Pw:S:=aE [0,1,5] 37 ⟨aN [(0,.one (.c (.ptr 0 0))),(1,.one (.c (.fn 123 [] [(3,0)]))),(5,.one (.c .bf))],cG a b c n sc L al lm (.row 29 true none (.cells [.ptr 0 0])) [] [],6,[]⟩
def T4(Q:ag):ai:=az prog fT 300 37 (gL (gL (aG 2 et))) (Pw a b c n sc L al lm) aO (bN 6 [0,1,5,11,12] 37 iv Q)
def QH(Q:ag):ai:=az prog fT 300 37 gw (oR a b c n sc L al lm N i) aO (bN 6 [0,1,5,11,12] 37 iv Q)
def Sp(Q:ag):ai:=az prog fT 300 37 gw (kh a b c n sc L al lm N i l l.length l.length) aO (bN 6 [0,1,5,11,12] 37 iv Q)
def Q7(Q:ag):ai:=az prog fT 300 37 (gR (aG 2 et)) (oR a b c n sc L al lm N i) aO (bN 6 [4] 37 (fun s=>gg s.sl 4) Q)
def Qr(Q:ag):ai:=az prog fT 300 37 (gR (aG 2 et)) (kh a b c n sc L al lm N i l l.length l.length) aO (bN 6 [4] 37 (fun s=>gg s.sl 4) Q)
def NX(a b c:Int)(n:Nat)(sc:Int)(L:aj)(al:Int)(lm:ak)(M:S->Prop)(R:ah):ai:=some ((aw []/\M (Pw a b c n sc L al lm)))
theorem Df(a b c:Int)(n:Nat)(sc:Int)(L:aj)(al:Int)(lm:ak)(M:S->Prop)(R:ah):T6 a b c n sc L al lm M R=NX a b c n sc L al lm M R:=by kernel_rfl
def Nw(a b c:Int)(n:Nat)(sc:Int)(L:aj)(al:Int)(lm:ak)(Q:ag):ai:=some ((aw []/\Q (X.normal) (oR a b c n sc L al lm (aX a b c) 0)))
theorem Dh(a b c:Int)(n:Nat)(sc:Int)(L:aj)(al:Int)(lm:ak)(Q:ag):T4 a b c n sc L al lm Q=Nw a b c n sc L al lm Q:=by kernel_rfl
def IC(a b c:Int)(n:Nat)(sc:Int)(L:aj)(al:Int)(lm:ak)(N i:Int)(Q:ag):ai:=(bif decide (i<N)then((bif bG a b c L n (i64.wrap (i+1))then((bif cN a sc (cH (cq a b c (i64.wrap (i+1))) (aK b c (i64.wrap (i+1))).2.2.1)then(some ((aw [L.length=64*n,64*n=64*n]/\Q (X.normal) (kh a b c n sc L al lm N (i64.wrap (i+1)) [i64.wrap (i+1)] 1 1))))else(some ((aw [L.length=64*n,64*n=64*n]/\Q (X.normal) (oR a b c n sc L al lm N (i64.wrap (i+1))))))))else(some ((aw [L.length=64*n,64*n=64*n]/\Q (X.normal) (oR a b c n sc L al lm N (i64.wrap (i+1))))))))else(some ((aw []/\Q (X.exit 0) (oR a b c n sc L al lm N i)))))
theorem rz(a b c:Int)(n:Nat)(sc:Int)(L:aj)(al:Int)(lm:ak)(N i:Int)(Q:ag):QH a b c n sc L al lm N i Q=IC a b c n sc L al lm N i Q:=by kernel_rfl
def Il(a b c:Int)(n:Nat)(sc:Int)(L:aj)(al:Int)(lm:ak)(N i:Int)(l:aj)(Q:ag):ai:=(bif decide (i<N)then((bif bG a b c L n (i64.wrap (i+1))then((bif cN a sc (cH (cq a b c (i64.wrap (i+1))) (aK b c (i64.wrap (i+1))).2.2.1)then((bif decide (fits prog.types[3]! (l.length+1)=true)then((bif decide (0+l.length*1<=l.length)then(some ((aw [L.length=64*n,64*n=64*n]/\Q (X.normal) (kh a b c n sc L al lm N (i64.wrap (i+1)) (List.take (l.length*1) (List.drop 0 l)++List.take 1 (List.drop 0 ((cx [0] 1).set 0 (i64.wrap (i+1))))) (l.length+1) (l.length*1+1)))))else none))else none))else(some ((aw [L.length=64*n,64*n=64*n]/\Q (X.normal) (kh a b c n sc L al lm N (i64.wrap (i+1)) l l.length l.length))))))else(some ((aw [L.length=64*n,64*n=64*n]/\Q (X.normal) (kh a b c n sc L al lm N (i64.wrap (i+1)) l l.length l.length))))))else(some ((aw []/\Q (X.exit 0) (kh a b c n sc L al lm N i l l.length l.length)))))
theorem qL(a b c:Int)(n:Nat)(sc:Int)(L:aj)(al:Int)(lm:ak)(N i:Int)(l:aj)(Q:ag):Sp a b c n sc L al lm N i l Q=Il a b c n sc L al lm N i l Q:=by kernel_rfl
def ID(a b c:Int)(n:Nat)(sc:Int)(L:aj)(al:Int)(lm:ak)(N i:Int)(Q:ag):ai:=some ((aw []/\Q (X.ret) (Ag a b c n sc L al lm)))
theorem BP(a b c:Int)(n:Nat)(sc:Int)(L:aj)(al:Int)(lm:ak)(N i:Int)(Q:ag):Q7 a b c n sc L al lm N i Q=ID a b c n sc L al lm N i Q:=by kernel_rfl
def IB(a b c:Int)(n:Nat)(sc:Int)(L:aj)(al:Int)(lm:ak)(N i:Int)(l:aj)(Q:ag):ai:=some ((aw []/\Q (X.ret) (zP a b c n sc L al lm l)))
theorem AZ(a b c:Int)(n:Nat)(sc:Int)(L:aj)(al:Int)(lm:ak)(N i:Int)(l:aj)(Q:ag):Qr a b c n sc L al lm N i l Q=IB a b c n sc L al lm N i l Q:=by kernel_rfl
end
def de(a b c:Int)(n:Nat)(sc:Int)(L:aj)(av:ak)(i:Int):Bool:=bG a b c L n i &&((aW a b c L n i).k !=0 && !decide (bp av i>0))
def tM(a b c:Int)(n:Nat)(sc:Int)(L:aj)(al:Int)(lm av:ak)(N i:Int)(l:aj):S:=match l with
 | []=>mK a b c n sc L al lm av N i
 |z::l=>jw a b c n sc L al lm av N i (z::l) (z::l).length (z::l).length
theorem CY{a b c:Int}{n:Nat}{sc:Int}{L:aj}{al:Int}{lm:ak}{av:ak}{N:Int}(hl:L.length=64*n)(hN:N<=192){s0:S}(bP:s0.nx=6){Q:ag}: ∀(m:Nat) (i:Int) (l:aj),i+m=N->0<=i->l.length<=i->
  Q (.exit 0) (tM a b c n sc L al lm av N N (bV (de a b c n sc L av) m i l))->TO prog 37 [] [] s0 (.loop gw) (tM a b c n sc L al lm av N i l) Q
 | 0,i,l,hm,h0,hb,hQ=>by
  obtain rfl:i=N:=by simpa using hm
  cases l with
  |nil=>exact TO.loop (TO.aP dW (k0:=6) bP (.of_eq (rf ..) (.no (by simp) ⟨trivial,hQ⟩)))
  |cons z l=>exact TO.loop (TO.aP dW (k0:=6) bP (.of_eq (rI ..) (.no (by simp) ⟨trivial,hQ⟩)))
 |m+1,i,l,hm,h0,hb,hQ=>by
  push_cast at hm
  have hw:i64.wrap (i+1)=i+1:=IntWalk.i64_in _ (by omega)
  have nx: ∀t,de a b c n sc L av (i+1)=t->TO prog 37 [] [] s0 (.loop gw) (tM a b c n sc L al lm av N (i+1) (bif t then l++ [i+1]else l)) Q:=fun t ht=>by
   subst ht;refine CY hl hN bP m (i+1) _ (by omega) (by omega) ?_ hQ
   cases de a b c n sc L av (i+1)with
   |true=>simp only[cond_true,List.length_append,List.length_singleton];push_cast;omega
   |false=>simp only[cond_false];omega
  cases l with
  |nil=>
   refine TO.loop (TO.aP dW (k0:=6) bP (.of_eq (rf ..) (.yes (by simp;omega) ?_)))
   rw[hw];exact .fork (fun h1=> .fork (fun h2=> .fork (fun h3=>⟨⟨hl,rfl,trivial⟩,nx true (by unfold de;simp only[h1,h2,h3];rfl)⟩) (fun h3=>⟨⟨hl,rfl,trivial⟩,nx false (by unfold de;simp only[h1,h2,h3];rfl)⟩)) (fun h2=>⟨⟨hl,rfl,trivial⟩,nx false (by unfold de;simp only[h1,h2];rfl)⟩)) (fun h1=>⟨⟨hl,rfl,trivial⟩,nx false (by unfold de;simp only[h1];rfl)⟩)
  |cons z l=>
   have ad:de a b c n sc L av (i+1)=true->fS prog 37 [] [] s0 Q (.loop gw) .normal (jw a b c n sc L al lm av N (i+1) (z::l++ [i+1]) ((z::l).length+1) ((z::l).length*1+1)):=fun ht=>by
    have:=nx true ht;have e:(z::l++ [i+1]).length=(z::l).length+1:=by simp
    have e2:tM a b c n sc L al lm av N (i+1) (z::l++ [i+1])=jw a b c n sc L al lm av N (i+1) (z::l++ [i+1]) (z::l++ [i+1]).length (z::l++ [i+1]).length:=rfl;rw[Nat.mul_one, <-e, <-e2];exact this
   refine TO.loop (TO.aP dW (k0:=6) bP (.of_eq (rI ..) (.yes (by simp;omega) ?_)))
   rw[hw,zu];exact .fork (fun h1=> .fork (fun h2=> .fork (fun h3=> .aZ (decide_eq_true (pL (by omega))) (.aZ (by simp) ⟨⟨hl,rfl,trivial⟩,ad (by unfold de;simp only[h1,h2,h3];rfl)⟩)) (fun h3=>⟨⟨hl,rfl,trivial⟩,nx false (by unfold de;simp only[h1,h2,h3];rfl)⟩)) (fun h2=>⟨⟨hl,rfl,trivial⟩,nx false (by unfold de;simp only[h1,h2];rfl)⟩)) (fun h1=>⟨⟨hl,rfl,trivial⟩,nx false (by unfold de;simp only[h1];rfl)⟩)
theorem Nf{a b c:Int}{n:Nat}{sc:Int}{L:aj}{al:Int}{lm:ak}{av:ak}:ba prog 37 (yP a b c n sc L al lm av) f104.results.toList=some [.c .bf]/\(yP a b c n sc L al lm av).hp=cG a b c n sc L al lm (.row 48 true none (.cells [.ptr 4 0])) [(4,.row 137 true none (.cells [.map 5,.any,.any])),(5,.aQ (some .i64) av)] []/\(yP a b c n sc L al lm av).nx=6:=⟨by kernel_rfl,by kernel_rfl,by kernel_rfl⟩
theorem NA{a b c:Int}{n:Nat}{sc:Int}{L:aj}{al:Int}{lm:ak}{av:ak}{l:aj}:ba prog 37 (zn a b c n sc L al lm av l) f104.results.toList=some [.c (.aC 6 1 0 l.length)]/\(zn a b c n sc L al lm av l).hp=cG a b c n sc L al lm (.row 48 true none (.cells [.ptr 4 0])) [(4,.row 137 true none (.cells [.map 5,.any,.any])),(5,.aQ (some .i64) av)] [(6,cj l)]/\(zn a b c n sc L al lm av l).nx=7:=⟨by kernel_rfl,by kernel_rfl,by kernel_rfl⟩
theorem qk{a b c:Int}{n:Nat}{sc:Int}{L:aj}{al:Int}{lm:ak}{av:ak}{i:Nat}{x:ax}(h:(cG a b c n sc L al lm (.row 48 true none (.cells [.ptr 4 0])) [(4,.row 137 true none (.cells [.map 5,.any,.any])),(5,.aQ (some .i64) av)] []).get i=some x):i<6:=fv (k:=6) (fun p hp=>by
 simp only[List.cons_append,List.nil_append,List.append_nil,List.mem_cons,List.not_mem_nil,or_false]at hp;rcases hp with rfl|rfl|rfl|rfl|rfl|rfl<;>simp) h
theorem ur{a b c:Int}{n:Nat}{sc:Int}{L:aj}{al:Int}{lm:ak}{av:ak}(hl:L.length=64*n){l:aj}(h:l=bV (de a b c n sc L av) (aX a b c).toNat 0 []):
  (l= []->cd prog 104 (iX 105) 6 (cG a b c n sc L al lm (.row 48 true none (.cells [.ptr 4 0])) [(4,.row 137 true none (.cells [.map 5,.any,.any])),(5,.aQ (some .i64) av)] []) 6 (cG a b c n sc L al lm (.row 48 true none (.cells [.ptr 4 0])) [(4,.row 137 true none (.cells [.map 5,.any,.any])),(5,.aQ (some .i64) av)] []) (.one (.c .bf)))/\(l≠ []->cd prog 104 (iX 105) 6 (cG a b c n sc L al lm (.row 48 true none (.cells [.ptr 4 0])) [(4,.row 137 true none (.cells [.map 5,.any,.any])),(5,.aQ (some .i64) av)] []) 7 (cG a b c n sc L al lm (.row 48 true none (.cells [.ptr 4 0])) [(4,.row 137 true none (.cells [.map 5,.any,.any])),(5,.aQ (some .i64) av)] [(6,cj l)]) (.one (.c (.aC 6 1 0 l.length)))):=by
 have hN:0<=aX a b c/\aX a b c<=192:=by
  unfold aX;split
  ·rename_i hg;have:=fX hg;omega
  ·omega
 have main: ∀ {Q:ag},TO prog 37 [] [] ⟨jI 105,cG a b c n sc L al lm (.row 48 true none (.cells [.ptr 4 0])) [(4,.row 137 true none (.cells [.map 5,.any,.any])),(5,.aQ (some .i64) av)] [],6,[]⟩ (gR (aG 2 et)) (tM a b c n sc L al lm av (aX a b c) (aX a b c) l) Q->TO prog 37 [] [] ⟨jI 105,cG a b c n sc L al lm (.row 48 true none (.cells [.ptr 4 0])) [(4,.row 137 true none (.cells [.map 5,.any,.any])),(5,.aQ (some .i64) av)] [],6,[]⟩ et ⟨jI 105,cG a b c n sc L al lm (.row 48 true none (.cells [.ptr 4 0])) [(4,.row 137 true none (.cells [.map 5,.any,.any])),(5,.aQ (some .i64) av)] [],6,[]⟩ Q:=fun {Q} hq=>by
  refine TO.eZ dW (m:=2) (k0:=6) rfl (aH:= [0,1,5]) (ord:= []) f104.results.toList (.of_eq (C8 ..) ⟨trivial,?_⟩);refine TO.seq (c:=gL (aG 2 et)) (d:=gR (aG 2 et)) (TO.seq (c:=gL (gL (aG 2 et))) (d:= .block 0 (.loop gw)) (TO.aP dW (k0:=6) rfl (.of_eq (Da ..) ⟨trivial,?_⟩)));refine TO.block (CY hl hN.2 rfl (aX a b c).toNat 0 [] (by omega) (by omega) (by simp) ?_)
  simp only[if_true];rw[<-h];exact hq
 constructor
 ·rintro rfl;refine TO.c8 (fn:=f104) (c:=et) func104 jQ [] (fq fun i x h=>qk h) (mu 105) (main (TO.aP dW (k0:=6) rfl (.of_eq (Bj ..) ⟨trivial,?_⟩)))
  obtain⟨e1,e2,e3⟩:=Nf (a:=a) (b:=b) (c:=c) (n:=n) (sc:=sc) (L:=L) (al:=al) (lm:=lm) (av:=av);exact⟨.inr rfl,_,e1,rfl,e2,e3⟩
 ·intro bT;cases l with
  |nil=>exact absurd rfl bT
  |cons z l=>
  refine TO.c8 (fn:=f104) (c:=et) func104 jQ [] (fq fun i x h=>qk h) (mu 105) (main (TO.aP dW (k0:=6) rfl (.of_eq (AJ ..) ⟨trivial,?_⟩)))
  obtain⟨e1,e2,e3⟩:=NA (a:=a) (b:=b) (c:=c) (n:=n) (sc:=sc) (L:=L) (al:=al) (lm:=lm) (av:=av) (l:=z::l);exact⟨.inr rfl,_,e1,rfl,e2,e3⟩
def cK(a b c:Int)(n:Nat)(sc:Int)(L:aj)(av:ak)(i:Int):Bool:=bG a b c L n i &&(decide (bp av i>0) &&(i64.wrap (aW a b c L n i).l !=bp av i))
def vp(a b c:Int)(n:Nat)(sc:Int)(L:aj)(al:Int)(lm av:ak)(N i:Int)(l:aj):S:=match l with
 | []=>m8 a b c n sc L al lm av N i
 |z::l=>jz a b c n sc L al lm av N i (z::l) (z::l).length (z::l).length
theorem CX{a b c:Int}{n:Nat}{sc:Int}{L:aj}{al:Int}{lm:ak}{av:ak}{N:Int}(hl:L.length=64*n)(hN:N<=192){s0:S}(bP:s0.nx=6){Q:ag}: ∀(m:Nat) (i:Int) (l:aj),i+m=N->0<=i->l.length<=i->
  Q (.exit 0) (vp a b c n sc L al lm av N N (bV (cK a b c n sc L av) m i l))->TO prog 37 [] [] s0 (.loop gw) (vp a b c n sc L al lm av N i l) Q
 | 0,i,l,hm,h0,hb,hQ=>by
  obtain rfl:i=N:=by simpa using hm
  cases l with
  |nil=>exact TO.loop (TO.aP dW (k0:=6) bP (.of_eq (qP ..) (.no (by simp) ⟨trivial,hQ⟩)))
  |cons z l=>exact TO.loop (TO.aP dW (k0:=6) bP (.of_eq (qF ..) (.no (by simp) ⟨trivial,hQ⟩)))
 |m+1,i,l,hm,h0,hb,hQ=>by
  push_cast at hm
  have hw:i64.wrap (i+1)=i+1:=IntWalk.i64_in _ (by omega)
  have nx: ∀t,cK a b c n sc L av (i+1)=t->TO prog 37 [] [] s0 (.loop gw) (vp a b c n sc L al lm av N (i+1) (bif t then l++ [i+1]else l)) Q:=fun t ht=>by
   subst ht;refine CX hl hN bP m (i+1) _ (by omega) (by omega) ?_ hQ
   cases cK a b c n sc L av (i+1)with
   |true=>simp only[cond_true,List.length_append,List.length_singleton];push_cast;omega
   |false=>simp only[cond_false];omega
  cases l with
  |nil=>
   refine TO.loop (TO.aP dW (k0:=6) bP (.of_eq (qP ..) (.yes (by simp;omega) ?_)))
   rw[hw];exact .fork (fun h1=> .fork (fun h2=> .fork (fun h3=>⟨⟨hl,rfl,trivial⟩,nx true (by unfold cK;simp only[h1,h2,h3];rfl)⟩) (fun h3=>⟨⟨hl,rfl,trivial⟩,nx false (by unfold cK;simp only[h1,h2,h3];rfl)⟩)) (fun h2=>⟨⟨hl,rfl,trivial⟩,nx false (by unfold cK;simp only[h1,h2];rfl)⟩)) (fun h1=>⟨⟨hl,rfl,trivial⟩,nx false (by unfold cK;simp only[h1];rfl)⟩)
  |cons z l=>
   have ad:cK a b c n sc L av (i+1)=true->fS prog 37 [] [] s0 Q (.loop gw) .normal (jz a b c n sc L al lm av N (i+1) (z::l++ [i+1]) ((z::l).length+1) ((z::l).length*1+1)):=fun ht=>by
    have:=nx true ht;have e:(z::l++ [i+1]).length=(z::l).length+1:=by simp
    have e2:vp a b c n sc L al lm av N (i+1) (z::l++ [i+1])=jz a b c n sc L al lm av N (i+1) (z::l++ [i+1]) (z::l++ [i+1]).length (z::l++ [i+1]).length:=rfl;rw[Nat.mul_one, <-e, <-e2];exact this
   refine TO.loop (TO.aP dW (k0:=6) bP (.of_eq (qF ..) (.yes (by simp;omega) ?_)))
   rw[hw,zu];exact .fork (fun h1=> .fork (fun h2=> .fork (fun h3=> .aZ (decide_eq_true (pL (by omega))) (.aZ (by simp) ⟨⟨hl,rfl,trivial⟩,ad (by unfold cK;simp only[h1,h2,h3];rfl)⟩)) (fun h3=>⟨⟨hl,rfl,trivial⟩,nx false (by unfold cK;simp only[h1,h2,h3];rfl)⟩)) (fun h2=>⟨⟨hl,rfl,trivial⟩,nx false (by unfold cK;simp only[h1,h2];rfl)⟩)) (fun h1=>⟨⟨hl,rfl,trivial⟩,nx false (by unfold cK;simp only[h1];rfl)⟩)
theorem MV{a b c:Int}{n:Nat}{sc:Int}{L:aj}{al:Int}{lm:ak}{av:ak}:ba prog 37 (yI a b c n sc L al lm av) f104.results.toList=some [.c .bf]/\(yI a b c n sc L al lm av).hp=cG a b c n sc L al lm (.row 48 true none (.cells [.ptr 4 0])) [(4,.row 137 true none (.cells [.map 5,.any,.any])),(5,.aQ (some .i64) av)] []/\(yI a b c n sc L al lm av).nx=6:=⟨by kernel_rfl,by kernel_rfl,by kernel_rfl⟩
theorem MY{a b c:Int}{n:Nat}{sc:Int}{L:aj}{al:Int}{lm:ak}{av:ak}{l:aj}:ba prog 37 (zx a b c n sc L al lm av l) f104.results.toList=some [.c (.aC 6 1 0 l.length)]/\(zx a b c n sc L al lm av l).hp=cG a b c n sc L al lm (.row 48 true none (.cells [.ptr 4 0])) [(4,.row 137 true none (.cells [.map 5,.any,.any])),(5,.aQ (some .i64) av)] [(6,cj l)]/\(zx a b c n sc L al lm av l).nx=7:=⟨by kernel_rfl,by kernel_rfl,by kernel_rfl⟩
theorem pN{a b c:Int}{n:Nat}{sc:Int}{L:aj}{al:Int}{lm:ak}{av:ak}{i:Nat}{x:ax}(h:(cG a b c n sc L al lm (.row 48 true none (.cells [.ptr 4 0])) [(4,.row 137 true none (.cells [.map 5,.any,.any])),(5,.aQ (some .i64) av)] []).get i=some x):i<6:=fv (k:=6) (fun p hp=>by
 simp only[List.cons_append,List.nil_append,List.append_nil,List.mem_cons,List.not_mem_nil,or_false]at hp;rcases hp with rfl|rfl|rfl|rfl|rfl|rfl<;>simp) h
theorem uL{a b c:Int}{n:Nat}{sc:Int}{L:aj}{al:Int}{lm:ak}{av:ak}(hl:L.length=64*n){l:aj}(h:l=bV (cK a b c n sc L av) (aX a b c).toNat 0 []):
  (l= []->cd prog 104 (iX 106) 6 (cG a b c n sc L al lm (.row 48 true none (.cells [.ptr 4 0])) [(4,.row 137 true none (.cells [.map 5,.any,.any])),(5,.aQ (some .i64) av)] []) 6 (cG a b c n sc L al lm (.row 48 true none (.cells [.ptr 4 0])) [(4,.row 137 true none (.cells [.map 5,.any,.any])),(5,.aQ (some .i64) av)] []) (.one (.c .bf)))/\(l≠ []->cd prog 104 (iX 106) 6 (cG a b c n sc L al lm (.row 48 true none (.cells [.ptr 4 0])) [(4,.row 137 true none (.cells [.map 5,.any,.any])),(5,.aQ (some .i64) av)] []) 7 (cG a b c n sc L al lm (.row 48 true none (.cells [.ptr 4 0])) [(4,.row 137 true none (.cells [.map 5,.any,.any])),(5,.aQ (some .i64) av)] [(6,cj l)]) (.one (.c (.aC 6 1 0 l.length)))):=by
 have hN:0<=aX a b c/\aX a b c<=192:=by
  unfold aX;split
  ·rename_i hg;have:=fX hg;omega
  ·omega
 have main: ∀ {Q:ag},TO prog 37 [] [] ⟨jI 106,cG a b c n sc L al lm (.row 48 true none (.cells [.ptr 4 0])) [(4,.row 137 true none (.cells [.map 5,.any,.any])),(5,.aQ (some .i64) av)] [],6,[]⟩ (gR (aG 2 et)) (vp a b c n sc L al lm av (aX a b c) (aX a b c) l) Q->TO prog 37 [] [] ⟨jI 106,cG a b c n sc L al lm (.row 48 true none (.cells [.ptr 4 0])) [(4,.row 137 true none (.cells [.map 5,.any,.any])),(5,.aQ (some .i64) av)] [],6,[]⟩ et ⟨jI 106,cG a b c n sc L al lm (.row 48 true none (.cells [.ptr 4 0])) [(4,.row 137 true none (.cells [.map 5,.any,.any])),(5,.aQ (some .i64) av)] [],6,[]⟩ Q:=fun {Q} hq=>by
  refine TO.eZ dW (m:=2) (k0:=6) rfl (aH:= [0,1,5]) (ord:= []) f104.results.toList (.of_eq (Dk ..) ⟨trivial,?_⟩);refine TO.seq (c:=gL (aG 2 et)) (d:=gR (aG 2 et)) (TO.seq (c:=gL (gL (aG 2 et))) (d:= .block 0 (.loop gw)) (TO.aP dW (k0:=6) rfl (.of_eq (Dc ..) ⟨trivial,?_⟩)));refine TO.block (CX hl hN.2 rfl (aX a b c).toNat 0 [] (by omega) (by omega) (by simp) ?_)
  simp only[if_true];rw[<-h];exact hq
 constructor
 ·rintro rfl;refine TO.c8 (fn:=f104) (c:=et) func104 jQ [] (fq fun i x h=>pN h) (mu 106) (main (TO.aP dW (k0:=6) rfl (.of_eq (AE ..) ⟨trivial,?_⟩)))
  obtain⟨e1,e2,e3⟩:=MV (a:=a) (b:=b) (c:=c) (n:=n) (sc:=sc) (L:=L) (al:=al) (lm:=lm) (av:=av);exact⟨.inr rfl,_,e1,rfl,e2,e3⟩
 ·intro bT;cases l with
  |nil=>exact absurd rfl bT
  |cons z l=>
  refine TO.c8 (fn:=f104) (c:=et) func104 jQ [] (fq fun i x h=>pN h) (mu 106) (main (TO.aP dW (k0:=6) rfl (.of_eq (AK ..) ⟨trivial,?_⟩)))
  obtain⟨e1,e2,e3⟩:=MY (a:=a) (b:=b) (c:=c) (n:=n) (sc:=sc) (L:=L) (al:=al) (lm:=lm) (av:=av) (l:=z::l);exact⟨.inr rfl,_,e1,rfl,e2,e3⟩
def eL(a b c:Int)(n:Nat)(sc:Int)(L:aj)(i:Int):Bool:=bG a b c L n i && cN a sc (cH (cq a b c i) (aK b c i).2.2.1)
def tX(a b c:Int)(n:Nat)(sc:Int)(L:aj)(al:Int)(lm:ak)(N i:Int)(l:aj):S:=match l with
 | []=>oR a b c n sc L al lm N i
 |z::l=>kh a b c n sc L al lm N i (z::l) (z::l).length (z::l).length
theorem CO{a b c:Int}{n:Nat}{sc:Int}{L:aj}{al:Int}{lm:ak}{N:Int}(hl:L.length=64*n)(hN:N<=192){s0:S}(bP:s0.nx=6){Q:ag}: ∀(m:Nat) (i:Int) (l:aj),i+m=N->0<=i->l.length<=i->
  Q (.exit 0) (tX a b c n sc L al lm N N (bV (eL a b c n sc L) m i l))->TO prog 37 [] [] s0 (.loop gw) (tX a b c n sc L al lm N i l) Q
 | 0,i,l,hm,h0,hb,hQ=>by
  obtain rfl:i=N:=by simpa using hm
  cases l with
  |nil=>exact TO.loop (TO.aP dW (k0:=6) bP (.of_eq (rz ..) (.no (by simp) ⟨trivial,hQ⟩)))
  |cons z l=>exact TO.loop (TO.aP dW (k0:=6) bP (.of_eq (qL ..) (.no (by simp) ⟨trivial,hQ⟩)))
 |m+1,i,l,hm,h0,hb,hQ=>by
  push_cast at hm
  have hw:i64.wrap (i+1)=i+1:=IntWalk.i64_in _ (by omega)
  have nx: ∀t,eL a b c n sc L (i+1)=t->TO prog 37 [] [] s0 (.loop gw) (tX a b c n sc L al lm N (i+1) (bif t then l++ [i+1]else l)) Q:=fun t ht=>by
   subst ht;refine CO hl hN bP m (i+1) _ (by omega) (by omega) ?_ hQ
   cases eL a b c n sc L (i+1)with
   |true=>simp only[cond_true,List.length_append,List.length_singleton];push_cast;omega
   |false=>simp only[cond_false];omega
  cases l with
  |nil=>
   refine TO.loop (TO.aP dW (k0:=6) bP (.of_eq (rz ..) (.yes (by simp;omega) ?_)))
   rw[hw];exact .fork (fun h1=> .fork (fun h2=>⟨⟨hl,rfl,trivial⟩,nx true (by unfold eL;simp only[h1,h2];rfl)⟩) (fun h2=>⟨⟨hl,rfl,trivial⟩,nx false (by unfold eL;simp only[h1,h2];rfl)⟩)) (fun h1=>⟨⟨hl,rfl,trivial⟩,nx false (by unfold eL;simp only[h1];rfl)⟩)
  |cons z l=>
   have ad:eL a b c n sc L (i+1)=true->fS prog 37 [] [] s0 Q (.loop gw) .normal (kh a b c n sc L al lm N (i+1) (z::l++ [i+1]) ((z::l).length+1) ((z::l).length*1+1)):=fun ht=>by
    have:=nx true ht;have e:(z::l++ [i+1]).length=(z::l).length+1:=by simp
    have e2:tX a b c n sc L al lm N (i+1) (z::l++ [i+1])=kh a b c n sc L al lm N (i+1) (z::l++ [i+1]) (z::l++ [i+1]).length (z::l++ [i+1]).length:=rfl;rw[Nat.mul_one, <-e, <-e2];exact this
   refine TO.loop (TO.aP dW (k0:=6) bP (.of_eq (qL ..) (.yes (by simp;omega) ?_)))
   rw[hw,zu];exact .fork (fun h1=> .fork (fun h2=> .aZ (decide_eq_true (pL (by omega))) (.aZ (by simp) ⟨⟨hl,rfl,trivial⟩,ad (by unfold eL;simp only[h1,h2];rfl)⟩)) (fun h2=>⟨⟨hl,rfl,trivial⟩,nx false (by unfold eL;simp only[h1,h2];rfl)⟩)) (fun h1=>⟨⟨hl,rfl,trivial⟩,nx false (by unfold eL;simp only[h1];rfl)⟩)
theorem KT{a b c:Int}{n:Nat}{sc:Int}{L:aj}{al:Int}{lm:ak}:ba prog 37 (Ag a b c n sc L al lm) f104.results.toList=some [.c .bf]/\(Ag a b c n sc L al lm).hp=cG a b c n sc L al lm (.row 29 true none (.cells [.ptr 0 0])) [] []/\(Ag a b c n sc L al lm).nx=6:=⟨by kernel_rfl,by kernel_rfl,by kernel_rfl⟩
theorem Ld{a b c:Int}{n:Nat}{sc:Int}{L:aj}{al:Int}{lm:ak}{l:aj}:ba prog 37 (zP a b c n sc L al lm l) f104.results.toList=some [.c (.aC 6 1 0 l.length)]/\(zP a b c n sc L al lm l).hp=cG a b c n sc L al lm (.row 29 true none (.cells [.ptr 0 0])) [] [(6,cj l)]/\(zP a b c n sc L al lm l).nx=7:=⟨by kernel_rfl,by kernel_rfl,by kernel_rfl⟩
theorem qa{a b c:Int}{n:Nat}{sc:Int}{L:aj}{al:Int}{lm:ak}{i:Nat}{x:ax}(h:(cG a b c n sc L al lm (.row 29 true none (.cells [.ptr 0 0])) [] []).get i=some x):i<6:=fv (k:=6) (fun p hp=>by
 simp only[List.cons_append,List.nil_append,List.append_nil,List.mem_cons,List.not_mem_nil,or_false]at hp;rcases hp with rfl|rfl|rfl|rfl<;>simp) h
theorem uW{a b c:Int}{n:Nat}{sc:Int}{L:aj}{al:Int}{lm:ak}(hl:L.length=64*n){l:aj}(h:l=bV (eL a b c n sc L) (aX a b c).toNat 0 []):
  (l= []->cd prog 104 (iX 123) 6 (cG a b c n sc L al lm (.row 29 true none (.cells [.ptr 0 0])) [] []) 6 (cG a b c n sc L al lm (.row 29 true none (.cells [.ptr 0 0])) [] []) (.one (.c .bf)))/\(l≠ []->cd prog 104 (iX 123) 6 (cG a b c n sc L al lm (.row 29 true none (.cells [.ptr 0 0])) [] []) 7 (cG a b c n sc L al lm (.row 29 true none (.cells [.ptr 0 0])) [] [(6,cj l)]) (.one (.c (.aC 6 1 0 l.length)))):=by
 have hN:0<=aX a b c/\aX a b c<=192:=by
  unfold aX;split
  ·rename_i hg;have:=fX hg;omega
  ·omega
 have main: ∀ {Q:ag},TO prog 37 [] [] ⟨jI 123,cG a b c n sc L al lm (.row 29 true none (.cells [.ptr 0 0])) [] [],6,[]⟩ (gR (aG 2 et)) (tX a b c n sc L al lm (aX a b c) (aX a b c) l) Q->TO prog 37 [] [] ⟨jI 123,cG a b c n sc L al lm (.row 29 true none (.cells [.ptr 0 0])) [] [],6,[]⟩ et ⟨jI 123,cG a b c n sc L al lm (.row 29 true none (.cells [.ptr 0 0])) [] [],6,[]⟩ Q:=fun {Q} hq=>by
  refine TO.eZ dW (m:=2) (k0:=6) rfl (aH:= [0,1,5]) (ord:= []) f104.results.toList (.of_eq (Df ..) ⟨trivial,?_⟩);refine TO.seq (c:=gL (aG 2 et)) (d:=gR (aG 2 et)) (TO.seq (c:=gL (gL (aG 2 et))) (d:= .block 0 (.loop gw)) (TO.aP dW (k0:=6) rfl (.of_eq (Dh ..) ⟨trivial,?_⟩)));refine TO.block (CO hl hN.2 rfl (aX a b c).toNat 0 [] (by omega) (by omega) (by simp) ?_)
  simp only[if_true];rw[<-h];exact hq
 constructor
 ·rintro rfl;refine TO.c8 (fn:=f104) (c:=et) func104 jQ [] (fq fun i x h=>qa h) (mu 123) (main (TO.aP dW (k0:=6) rfl (.of_eq (BP ..) ⟨trivial,?_⟩)))
  obtain⟨e1,e2,e3⟩:=KT (a:=a) (b:=b) (c:=c) (n:=n) (sc:=sc) (L:=L) (al:=al) (lm:=lm);exact⟨.inr rfl,_,e1,rfl,e2,e3⟩
 ·intro bT;cases l with
  |nil=>exact absurd rfl bT
  |cons z l=>
  refine TO.c8 (fn:=f104) (c:=et) func104 jQ [] (fq fun i x h=>qa h) (mu 123) (main (TO.aP dW (k0:=6) rfl (.of_eq (AZ ..) ⟨trivial,?_⟩)))
  obtain⟨e1,e2,e3⟩:=Ld (a:=a) (b:=b) (c:=c) (n:=n) (sc:=sc) (L:=L) (al:=al) (lm:=lm) (l:=z::l);exact⟨.inr rfl,_,e1,rfl,e2,e3⟩
end Go.Sx.Ly
