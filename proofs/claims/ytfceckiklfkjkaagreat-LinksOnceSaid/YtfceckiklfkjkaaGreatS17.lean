import Derived.Test.YtfceckiklfkjkaaGreatS16
import Derived.Test.YtfceckiklfkjkaaGreatS12
import Derived.Test.YtfceckiklfkjkaaGreatProg
import Derived.KernelRfl
import Derived.WalkKit
import Derived.Handy
import Derived.LoopTactic
import Derived.Laws.BitsAllLaws
import Derived.Lib.Hide
noncomputable section
set_option maxHeartbeats 4000000
open Go.Proofs.Tryz
namespace Go.Sx
open Go.RowKit
variable{P:Program}
def dG(o:Option Prop):Prop:=match o with|some p=>p|none=>False
abbrev aO:A:=⟨0,[(2000000000,true)],[]⟩
theorem dG.pS {p:Prop}(h:p):dG (some p):=h
theorem dG.fork {t:Bool}{x y:Option Prop}(h1:t=true->dG x)(h2:t=false->dG y):dG (bif t then x else y):=by cases t<;>simp_all
theorem dG.aZ {t:Bool}{x:Option Prop}(h:t=true)(h1:dG x):dG (bif t then x else none):=by subst h;exact h1
theorem dG.yes {t:Bool}{x y:Option Prop}(h:t=true)(h1:dG x):dG (bif t then x else y):=by subst h;exact h1
theorem dG.no {t:Bool}{x y:Option Prop}(h:t=false)(h1:dG y):dG (bif t then x else y):=by subst h;exact h1
theorem dG.of_eq {x y:Option Prop}(h:x=y)(hy:dG y):dG x:=by rw[h];exact hy
theorem Tr.r6 {Sg:FuncId->Option bg}(F:Fit P (fun f=>(Sg f).map bj)){fuel n:Nat}{c:Code}{s:S}{Q:ag}
  (hT:dG (az P Sg fuel n c s aO (fun x s Z=>some (aw Z.ob/\Q x s)))):Tr P n c s Q:=by
 intro ht ρ a w R;cases he:az P Sg fuel n c s aO (fun x s Z=>some (aw Z.ob/\Q x s))with
 |none=>rw[he]at hT;exact hT.elim
 |some p=>
  rw[he]at hT;obtain⟨x1,s1,α',h1,h2⟩:=jA Sg fuel _ _ _ _ _ _ he;simp only[ae]at h1;subst h1;have hT':aw α'.ob/\Q x1 s1:=hT;have h3:=(h2 hT'.1).2 (X×S) (fun x s=>some (x,s))
  obtain⟨x2,s2,L,m,h4,ab,hw⟩:=jC F.ng F.mixed F.sums fuel _ _ _ _ _ ht h3;simp only[ae,af]at h4;obtain⟨rfl,rfl⟩:=h4;exact(hw ρ a w R).y.mono fun e a w hh=>⟨_,_,L,hT'.2,ab.n,hh⟩
theorem Tr.tree {Sg:FuncId->Option bg}(F:Fit P (fun f=>(Sg f).map bj)){fuel n:Nat}{c:Code}{s:S}{aH:List Nat}{Q:ag}
  (hT:dG (az P Sg fuel n c s aO (fun x s Z=>some (aw Z.ob/\Q x (Sx.aE aH n s))))):Tr P n c s Q:=
 Tr.aE aH (Tr.r6 F (Q:=fun x s=>Q x (Sx.aE aH n s)) hT)
theorem Tr.zG {Sg:FuncId->Option bg}(F:Fit P (fun f=>(Sg f).map bj)){fuel n m:Nat}{c:Code}{s:S}{aH:List Nat}{Q:ag}(hm:s.nx<=m)
  (hT:dG (az P Sg fuel n c s aO (fun x s Z=>some (aw Z.ob/\(Nat.ble m s.nx=true/\Q x (Sx.low n m (Sx.aE aH n s))))))):Tr P n c s Q:=by
 refine Tr.low (m:=m) hm (Tr.aE aH ?_);refine(Tr.r6 F (Q:=fun x s=>Nat.ble m s.nx=true/\Q x (Sx.low n m (Sx.aE aH n s))) hT).mono fun x s' ⟨h1,h2⟩=>⟨?_,h2⟩
 rw[(tE aH n s').2];exact Nat.le_of_ble_eq_true h1
theorem Tr.NN {Sg:FuncId->Option bg}(F:Fit P (fun f=>(Sg f).map bj)){fuel n:Nat}{c:Code}{s:S}{res:List ResultVar}{Q:ah}
  (hT:dG (az P Sg fuel n c s aO (fun x s Z=>some (aw Z.ob/\Q x (ba P n s res))))):Tr P n c s (fun x s=>Q x (ba P n s res)):=
 Tr.r6 F (Q:=fun x s=>Q x (ba P n s res)) hT
theorem Tr.Xu {Sg:FuncId->Option bg}(F:Fit P (fun f=>(Sg f).map bj)){fuel n:Nat}{c:Code}{s:S}{Z:A}{K:X->S->A->Option Prop}{Q:ag}
  (hK: ∀x s α',dG (K x s α')->aw α'.ob/\Q x s) (hT:dG (az P Sg fuel n c s Z K)):aw Z.ob/\Tr P n c s Q:=by
 cases he:az P Sg fuel n c s Z K with
 |none=>rw[he]at hT;exact hT.elim
 |some p=>
  rw[he]at hT;obtain⟨x1,s1,α',h1,h2⟩:=jA Sg fuel _ _ _ _ _ _ he;have hT':aw α'.ob/\Q x1 s1:=hK _ _ _ (by rw[h1];exact hT)
  refine⟨(h2 hT'.1).1,fun ht ρ a w R=> ?_⟩
  have h3:=(h2 hT'.1).2 (X×S) (fun x s=>some (x,s))
  obtain⟨x2,s2,L,m,h4,ab,hw⟩:=jC F.ng F.mixed F.sums fuel _ _ _ _ _ ht h3;simp only[ae,af]at h4;obtain⟨rfl,rfl⟩:=h4;exact(hw ρ a w R).y.mono fun e a w hh=>⟨_,_,L,hT'.2,ab.n,hh⟩
def dk(P:Program)(Sg:FuncId->Option bg)(fuel n:Nat):Nat->Code->S->A->(X->S->A->Option Prop)->Option Prop
 | 0,_,s,Z,K=>K .normal s Z
 |m+1,c,s,Z,K=>match c with
  | .seq a b=>az P Sg fuel n a s Z fun x s Z=>match x with
   | .normal=>dk P Sg fuel n m b s Z K
   |x=>K x s Z
  |_=>none
def aG:Nat->Code->Code
 | 0,c=>c
 |m+1,c=>match c with
  | .seq _ b=>aG m b
  |c=>c
theorem Tr.mX {Sg:FuncId->Option bg}(F:Fit P (fun f=>(Sg f).map bj)){fuel n:Nat}{K:X->S->A->Option Prop}{Q:ag}: ∀(m:Nat) (c:Code) (s:S) (Z:A),dG (dk P Sg fuel n m c s Z K)->
  (∀x s α',dG (K x s α')->aw α'.ob/\nI P n s Q (aG m c) x s)->aw Z.ob/\Tr P n c s Q
 | 0,c,s,Z,hT,hK=>hK .normal s Z hT
 |m+1,c,s,Z,hT,hK=>by
  cases c with
  |seq a b=>
   simp only[dk]at hT;have:=Tr.Xu F (Q:=nI P n s Q b) (fun x s1 α' h=>by
    cases x with
    |normal=>
     obtain⟨h1,h2⟩:=Tr.mX F m b s1 α' h hK;exact⟨h1,h2⟩
    |exit id=>exact hK (.exit id) s1 α' h
    |ret=>exact hK .ret s1 α' h) hT
   exact⟨this.1,Tr.seq this.2⟩
  |_=>exact hT.elim
abbrev pt(P:Program)(n:Nat)(res:List ResultVar)(v:RV):X->S->Prop:=fun x s=>(x= .normal\/x= .ret)/\∃L,ba P n s res=some L/\c6 L=v
theorem Tr.pieces {Sg:FuncId->Option bg}(F:Fit P (fun f=>(Sg f).map bj)){fuel n m:Nat}{c:Code}{s:S}{aH:List Nat}{res:List ResultVar}{v:RV}
  (hT:dG (dk P Sg fuel n m c s aO (fun x s Z=>some (aw Z.ob/\match x with| .normal=>Tr P n (aG m c) (Sx.aE aH n s) (pt P n res v)|x=>(fun x q=>x=X.ret/\∃L,q=some L/\c6 L=v) x (ba P n s res))))):
  Tr P n c s (pt P n res v):=
 (Tr.mX F (Q:=pt P n res v) m c s aO hT fun x s1 α' h=>by
  cases x with
  |normal=>exact⟨h.1,Tr.pre aH h.2⟩
  |exit id=>exact absurd h.2.1 (by simp)
  |ret=>exact⟨h.1,.inr rfl,h.2.2⟩).2
theorem Tr.aP {Sg:FuncId->Option bg}(F:Fit P (fun f=>(Sg f).map bj)){fuel n:Nat}{c:Code}{s:S}{aH:List Nat}{Q:ag}
  (hT:dG (az P Sg fuel n c s aO (fun x s Z=>some (aw Z.ob/\match x with| .ret=>False|x=>Q x (Sx.aE aH n s))))):Tr P n c s Q:=
 Tr.aE aH ((Tr.r6 F (Q:=fun x s=>match x with| .ret=>False|x=>Q x (Sx.aE aH n s)) hT).mono fun x s' h=>by
  cases x with
  |ret=>exact h.elim
  |normal=>exact h
  |exit id=>exact h)
theorem Tr.QY {Sg:FuncId->Option bg}(F:Fit P (fun f=>(Sg f).map bj)){fuel n m:Nat}{c:Code}{s:S}{aH:List Nat}{Q:ag}(hm:s.nx<=m)
  (hT:dG (az P Sg fuel n c s aO (fun x s Z=>some (aw Z.ob/\match x with| .ret=>False|x=>Nat.ble m s.nx=true/\Q x (Sx.low n m (Sx.aE aH n s)))))):Tr P n c s Q:=by
 refine Tr.low (m:=m) hm (Tr.aE aH ?_);refine(Tr.r6 F (Q:=fun x s=>match x with| .ret=>False|x=>Nat.ble m s.nx=true/\Q x (Sx.low n m (Sx.aE aH n s))) hT).mono fun x s' h=> ?_
 have h':Nat.ble m s'.nx=true/\Q x (Sx.low n m (Sx.aE aH n s')):=by
  cases x with
  |ret=>exact h.elim
  |normal=>exact h
  |exit id=>exact h
 refine⟨?_,h'.2⟩;rw[(tE aH n s').2];exact Nat.le_of_ble_eq_true h'.1
theorem Tr.Jc {Sg:FuncId->Option bg}(F:Fit P (fun f=>(Sg f).map bj)){fuel n m:Nat}{c:Code}{s:S}{aH:List Nat}{res:List ResultVar}{Q:ag}
  (hT:dG (dk P Sg fuel n m c s aO (fun x s Z=>some (aw Z.ob/\match x with| .normal=>Tr P n (aG m c) (Sx.aE aH n s) Q|x=>(fun(_:X) (_:Option (List AV))=>False) x (ba P n s res))))):Tr P n c s Q:=
 (Tr.mX F (Q:=Q) m c s aO hT fun x s1 α' h=>by
  cases x with
  |normal=>exact⟨h.1,Tr.pre aH h.2⟩
  |exit id=>exact h.2.elim
  |ret=>exact h.2.elim).2
abbrev LW(v:RV)(x:X)(q:Option (List AV)):Prop:=(x= .normal\/x= .ret)/\∃L,q=some L/\c6 L=v
theorem Tr.VY {Sg:FuncId->Option bg}(F:Fit P (fun f=>(Sg f).map bj)){fuel n:Nat}{c:Code}{s:S}{res:List ResultVar}{v:RV}
  (hT:dG (az P Sg fuel n c s aO (fun x s Z=>some (aw Z.ob/\LW v x (ba P n s res))))):Tr P n c s (fun x s=>(x= .normal\/x= .ret)/\∃L,ba P n s res=some L/\c6 L=v):=
 Tr.r6 F (Q:=fun x s=>LW v x (ba P n s res)) hT
theorem cU{Sg:FuncId->Option bg}(F:Fit P (fun f=>(Sg f).map bj)){fuel:Nat}{g:FuncId}{args:List RV}{v:RV}(hfa:args.all ej=true)(hfv:ej v=true)
  (hT:dG (cO P Sg fuel g args s0 aO (fun v' _ Z=>some (aw Z.ob/\v'=v)))) (ρ:aM) (w:World) (vs:List Value) (ha:bo ρ args vs):
  Calls P g vs.toArray w fun e w'=> ∃V,e= .returned V/\bE ρ v V/\Below w.heap.size w w':=by
 cases he:cO P Sg fuel g args s0 aO (fun v' _ Z=>some (aw Z.ob/\v'=v))with
 |none=>rw[he]at hT;exact hT.elim
 |some p=>
  rw[he]at hT;obtain⟨v1,s1,α',h1,h2⟩:=wo he;simp only[ae]at h1;subst h1;have hT':aw α'.ob/\v1=v:=hT;obtain⟨hob,rfl⟩:=hT';have h3:=(h2 hob).2 (RV×S) (fun v s=>some (v,s))
  obtain⟨v2,s2,L,h4,ci⟩:=jo F (fun nm _=>T.get_nil nm) h3
  simp only[ae,af]at h4;obtain⟨rfl,rfl⟩:=h4;refine(ci.run mz w vs (bu.nil _) (fun _ _=>rfl) (ha.indep hfa)).mono fun e w' ⟨V,ρ',e1,e2,e3,e4,st⟩=>⟨V,e1,e2.indep hfv,?_⟩
  exact⟨st.os,st.tape,st.al,st.size,fun k hk=>st.frame k hk (fun nm c _ aA=>absurd aA (Nat.not_lt_zero _))⟩
theorem k9{Sg:FuncId->Option bg}(F:Fit P (fun f=>(Sg f).map bj)){fuel:Nat}{g:FuncId}{args:List RV}{hs:T ax}{k:Nat}{v:RV}(htop:cJ ⟨.nil,hs,k,[]⟩)
  (hT:dG (cO P Sg fuel g args ⟨.nil,hs,k,[]⟩ aO (fun v' _ Z=>some (aw Z.ob/\v'=v)))) (ρ:aM) (w:World) (vs:List Value) (hr:bu ρ hs.get w) (hf:bW ρ k) (ha:bo ρ args vs):
  Calls P g vs.toArray w fun e w'=> ∃V ρ' hp' nx' L,e= .returned V/\bE ρ' v V/\dN ρ hs.get k w ρ' hp' nx' w' L:=by
 cases he:cO P Sg fuel g args ⟨.nil,hs,k,[]⟩ aO (fun v' _ Z=>some (aw Z.ob/\v'=v))with
 |none=>rw[he]at hT;exact hT.elim
 |some p=>
  rw[he]at hT;obtain⟨v1,s1,α',h1,h2⟩:=wo he;simp only[ae]at h1;subst h1;have hT':aw α'.ob/\v1=v:=hT;obtain⟨hob,rfl⟩:=hT';have h3:=(h2 hob).2 (RV×S) (fun v s=>some (v,s))
  obtain⟨v2,s2,L,h4,ci⟩:=jo F htop h3;simp only[ae,af]at h4;obtain⟨rfl,rfl⟩:=h4;exact(ci.run ρ w vs hr hf ha).mono fun e w' ⟨V,ρ',e1,e2,e3,e4,st⟩=>⟨V,ρ',_,_,L,e1,e2,st⟩
abbrev HM(v:RV)(hs':T ax)(k:Nat)(x:X)(q:Option (List AV))(hp:T ax)(nx:Nat):Prop:=(x= .normal\/x= .ret)/\(∃l,q=some l/\c6 l=v)/\hp=hs'/\nx=k
theorem mE{Sg:FuncId->Option bg}(F:Fit P (fun f=>(Sg f).map bj)){fuel:Nat}{g:FuncId}{fn:Func}{c:Code}(hf:P.funcs[g]? =some fn)(hb:fn.body=some c){n:Nat}(hn:fn.ntmps=n){args:List RV}{sl:T RV}{v:RV}{k:Nat}{hs hs':T ax}{aH:List Nat}(htop:cJ ⟨.nil,hs,k,[]⟩)
  (hset:setArgs n args 0 .nil some=some sl)
  (hT:dG (az P Sg fuel n c ⟨sl,hs,k,[]⟩ aO (fun x s Z=>some (aw Z.ob/\(Nat.ble k s.nx=true/\HM v hs' k x (ba P n (low n k (aE aH n s)) fn.results.toList) (low n k (aE aH n s)).hp (low n k (aE aH n s)).nx))))):fC P g args k hs hs' v:=by
 subst hn;refine Tr.mZ hf hb htop hset ?_;refine(Tr.zG (m:=k) (aH:=aH) F (Nat.le_refl _) (Q:=fun x s=>HM v hs' k x (ba P fn.ntmps s fn.results.toList) s.hp s.nx) hT).mono fun x s1 h=> ?_
 obtain⟨h1,⟨l,h2,h3⟩,h4,h5⟩:=h;exact⟨h1,l,h2,h3,h4,h5⟩
end Go.Sx
namespace Go.Sx
open Go.Proofs Go.RowKit
def ff(r:Nat):Nat:=Bool.rec (Nat.div r 2) (Nat.xor (Nat.div r 2) 2197175160) (Nat.beq (Nat.mod r 2) 1)
def iter(f:Nat->Nat):Nat->Nat->Nat
 | 0,r=>r
 |n+1,r=>f (iter f n r)
theorem Bd{r:Nat}(h:r % 2=1):ff r=(r / 2) ^^^ 2197175160:=by
 have:Nat.beq (Nat.mod r 2) 1=true:=by rw[show Nat.mod r 2=1 from h];rfl
 unfold ff;rw[this];rfl
theorem xK{r:Nat}(h: ¬r % 2=1):ff r=r / 2:=by
 have:Nat.beq (Nat.mod r 2) 1=false:=by rw[show Nat.mod r 2=0 from(by show r % 2=0;omega)];rfl
 unfold ff;rw[this];rfl
theorem zR{r:Nat}(h:r<4294967296):ff r<4294967296:=by
 by_cases e:r % 2=1
 ·rw[Bd e];exact Nat.xor_lt_two_pow (n:=32) (by omega) (by omega)
 ·rw[xK e];omega
theorem Gn(r n:Nat)(hr:r<4294967296)(hn:n<=1000000000000)(w:World):
  Calls prog 277 #[.int .u32 r,.int .i64 n] w fun e w'=>e= .returned (.int .u32 (iter ff n r))/\w'=w:=by
 go_enter func277,ntmps277
 go_wp2
 go_loop [0,5] (fun v i=> ∃k x:Nat,k<=n/\x<4294967296/\Hid (x=iter ff k r)/\i= .int .i64 k/\v= .int .u32 x) (fun _ i=>n - (intOf i).toNat)
 case atStart=>exact⟨0,r,Nat.zero_le _,hr,Lib.hid rfl,rfl,rfl⟩
 case round=>
  obtain⟨k,x,hk,hx,HX,rfl,rfl⟩:=hrel;by_cases aA:k<n
  ·by_cases ho:x % 2=1
   ·have hI:((x:Int) % 2==1)=true:=by simp;omega
    go_wp2
    go_round
    case rel=>
     refine⟨k+1,ff x,by omega,zR hx,Lib.hid (by rw[HX.out];rfl),by go_num,?_⟩
     rw[Bd ho];exact congrArg _ (u32_xor_nat (x / 2) 2197175160 (by omega) (by omega))
    case measure=>simp[intOf];omega
   ·have hI:((x:Int) % 2==1)=false:=by simp;omega
    go_wp2
    go_round
    case rel=>
     refine⟨k+1,ff x,by omega,zR hx,Lib.hid (by rw[HX.out];rfl),by go_num,?_⟩
     rw[xK ho];exact congrArg _ (by omega)
    case measure=>simp[intOf];omega
  ·go_wp2
   go_ret
   obtain rfl:k=n:=by omega
   exact⟨congrArg (fun x:Nat=>Ending.returned (.int .u32 x)) HX.out,rfl⟩
theorem xg(r n:Nat)(hr:r<4294967296)(hn:n<=1000000000000)(w:World):
  Calls prog 302 #[.int .u32 r,.int .i64 n] w fun e w'=>e= .returned (.int .u32 (iter ff n r))/\w'=w:=by
 go_enter func302,ntmps302
 go_wp2
 go_loop [0,7] (fun v i=> ∃k x:Nat,k<=n/\x<4294967296/\Hid (x=iter ff k r)/\i= .int .i64 k/\v= .int .u32 x) (fun _ i=>n - (intOf i).toNat)
 case atStart=>exact⟨0,r,Nat.zero_le _,hr,Lib.hid rfl,rfl,rfl⟩
 case round=>
  obtain⟨k,x,hk,hx,HX,rfl,rfl⟩:=hrel;by_cases aA:k<n
  ·go_wp2
   go_round
   case rel=>
    refine⟨k+1,ff x,by omega,zR hx,Lib.hid (by rw[HX.out];rfl),by go_num,?_⟩
    have h1:bits .and .u32 (x:Int) 1=((x % 2:Nat):Int):=(u32_and_nat x 1 (by omega) (by omega)).trans (by rw[Nat.and_one_is_mod])
    rw[h1];by_cases ho:x % 2=1
    ·rw[Bd ho,ho];have h2:bits .and .u32 2197175160 (-((1:Nat):Int) % 4294967296)=2197175160:=(u32_and_nat 2197175160 4294967295 (by omega) (by omega)).trans (by decide)
     rw[h2];exact congrArg _ (u32_xor_nat (x / 2) 2197175160 (by omega) (by omega))
    ·rw[xK ho,show x % 2=0 by omega]
     have h2:bits .and .u32 2197175160 (-((0:Nat):Int) % 4294967296)=0:=(u32_and_nat 2197175160 0 (by omega) (by omega)).trans (by decide)
     rw[h2];exact congrArg _ ((u32_xor_nat (x / 2) 0 (by omega) (by omega)).trans (by rw[Nat.xor_zero]))
   case measure=>simp[intOf];omega
  ·go_wp2
   go_ret
   obtain rfl:k=n:=by omega
   exact⟨congrArg (fun x:Nat=>Ending.returned (.int .u32 x)) HX.out,rfl⟩
end Go.Sx
