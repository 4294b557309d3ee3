import Derived.Test.YtfceckiklfkjkaaGreatProg
import Derived.KernelRfl
import Derived.WalkKit
import Derived.Handy
import Derived.LoopTactic
import Derived.Below
import Derived.Lib.Hide
import Derived.Laws.StructEq
import Derived.Laws.Cover2
import Derived.RegionTactic
import Derived.Deep.RegionWith
import Derived.IntWalk
noncomputable section
set_option maxHeartbeats 4000000
open Go.Proofs Go.RowKit
open Go.IntKind(i64 u8 u64 u32 u16)
open Go.Proofs.Tryz
namespace Go.Sx
def eJ(k l s d0 d1 d2 d3 sg db:Int):Bool:=k==0 && l==0 && s==0 && d0==0 && d1==0 && d2==0 && d3==0 && sg==0 && db==0
theorem Y0(op:BinOp)(x y:Operand)(xs ys:Array Value)(w:World):(eqGuard op 27 x y (.agg xs) (.agg ys)).run prog w= .ok () w:=run_eqGuard_agg w op 27 x y xs ys (by kernel_rfl)
theorem agD(a b c d:Int)(w:World):(Op.equalIn 9999 25 (.agg #[.int .u16 a,.int .u16 b,.int .u16 c,.int .u16 d]) (.agg #[.int .u16 0,.int .u16 0,.int .u16 0,.int .u16 0])).run prog w= .ok (a==0 && b==0 && c==0 && d==0) w:=by
 have u3:=underlying24;have a3:=isAgg24;have z3:=sizeOf24;rw[show(9999:Nat)=9998+1 from rfl,Op.equalIn]
 simp only[Sem.run_bind,run_underlying underlying25,Result.andThen_ok];simp only[Std.Legacy.Range.forIn_eq_forIn_range',Std.Legacy.Range.size,Nat.sub_zero,Nat.add_sub_cancel,Nat.div_one,List.range'_succ,List.range'_zero,List.forIn_cons,List.forIn_nil]
 go_simp
 by_cases h1:a=0<;>by_cases h2:b=0<;>by_cases h3:c=0<;>by_cases h4:d=0<;>simp[h1,h2,h3,h4]
theorem adR(k l s d0 d1 d2 d3 sg db:Int)(w:World):(binOp .neq 27 (.agg #[.int .u8 k,.int .u8 l,.int .u32 s,.int .u16 d0,.int .u16 d1,.int .u16 d2,.int .u16 d3,.int .u16 sg,.int .u16 db]) (.agg #[.int .u8 0,.int .u8 0,.int .u32 0,.int .u16 0,.int .u16 0,.int .u16 0,.int .u16 0,.int .u16 0,.int .u16 0])).run prog w= .ok (.bool (!(eJ k l s d0 d1 d2 d3 sg db))) w:=by
 have e26:=agD d0 d1 d2 d3 w
 go_simp
 by_cases h1:k=0
 ·by_cases h2:l=0
  ·by_cases h3:s=0
   ·by_cases h4:d0=0/\d1=0/\d2=0/\d3=0
    ·obtain⟨a1,a2,a3,a4⟩:=h4;by_cases h5:sg=0
     ·by_cases h6:db=0
      ·simp[eJ,h1,h2,h3,a1,a2,a3,a4,h5,h6]
      ·simp[eJ,h1,h2,h3,a1,a2,a3,a4,h5,h6]
     ·simp[eJ,h1,h2,h3,a1,a2,a3,a4,h5]
    ·have h4':d0=0->d1=0->d2=0->¬d3=0:=fun a b c d=>h4 ⟨a,b,c,d⟩
     have hz:eJ k l s d0 d1 d2 d3 sg db=false:=by
      rw[<-Bool.not_eq_true];intro hz;simp only[eJ,Bool.and_eq_true,beq_iff_eq]at hz;obtain⟨⟨⟨⟨⟨⟨⟨⟨_,_⟩,_⟩,a1⟩,a2⟩,a3⟩,a4⟩,_⟩,_⟩:=hz;exact h4 ⟨a1,a2,a3,a4⟩
     rw[hz,if_pos h1,if_pos h2,if_pos h3,if_pos h4']
     rfl
   ·simp[eJ,h1,h2,h3]
  ·simp[eJ,h1,h2]
 ·simp[eJ,h1]
def aZ(k l s d0 d1 d2 d3 sg db:Int):Bool:=
 if k=0 then eJ k l s d0 d1 d2 d3 sg db else decide (k<=2/\l<=200/\s<=48640/\(k=2->s % 64=0))
def cW(b:Bool):Int:=if b then 0 else 2
theorem cV:cW true=0:=rfl
theorem bK:cW false=2:=rfl
attribute [irreducible] cW
theorem tm{l s d0 d1 d2 d3 sg db:Int}(h:eJ 0 l s d0 d1 d2 d3 sg db=true): ¬200<l/\¬48640<s:=by
 simp only[eJ,Bool.and_eq_true,beq_iff_eq]at h;obtain⟨⟨⟨⟨⟨⟨⟨⟨_,h1⟩,h2⟩,_⟩,_⟩,_⟩,_⟩,_⟩,_⟩:=h;omega
attribute [go_sem] Y0
attribute [go_sem high] adR
attribute [irreducible] eJ
def ib(f:FuncId)(k l s d0 d1 d2 d3 sg db:Int)(w:World)(r:Int):Prop:=
 Calls prog f #[.agg #[.int .u8 k,.int .u8 l,.int .u32 s,.int .u16 d0,.int .u16 d1,.int .u16 d2,.int .u16 d3,.int .u16 sg,.int .u16 db]] w fun e w'=>e= .returned (.int .i64 r)/\Below w.heap.size w w'
set_option maxRecDepth 100000 in
theorem Tg(k l s d0 d1 d2 d3 sg db:Int)(hk:0<=k)(hs:0<=s)(w:World):ib 164 k l s d0 d1 d2 d3 sg db w (cW (aZ k l s d0 d1 d2 d3 sg db)):=by
 by_cases h0:k=0
 ·subst h0;have h5:((0:Int)==0)=true:=rfl;by_cases hz:eJ 0 l s d0 d1 d2 d3 sg db=true
  ·obtain⟨hl,hs'⟩:=tm hz;rw[show aZ 0 l s d0 d1 d2 d3 sg db=true by unfold aZ;rw[if_pos rfl];exact hz,cV]
   unfold ib
   go_enter func164,ntmps164
   go_wp2
   go_ret
   exact⟨rfl,(Below.refl _ _).alloc (Nat.le_refl _) _⟩
  ·have hz':eJ 0 l s d0 d1 d2 d3 sg db=false:=by simpa using hz
   rw[show aZ 0 l s d0 d1 d2 d3 sg db=false by unfold aZ;rw[if_pos rfl];exact hz',bK]
   clear hz;unfold ib
   go_enter func164,ntmps164
   go_wp2
   go_ret
   exact⟨rfl,(Below.refl _ _).alloc (Nat.le_refl _) _⟩
 ·have h0':(k==0)=false:=by simp[h0]
  by_cases h1:2<k
  ·have h12:(k==2)=false:=by simp;omega
   have h11:(k==1)=false:=by simp;omega
   rw[show aZ _ l s d0 d1 d2 d3 sg db=false by unfold aZ;rw[if_neg h0];simp;omega,bK]
   unfold ib
   go_enter func164,ntmps164
   go_wp2
   go_ret
   exact⟨rfl,(Below.refl _ _).alloc (Nat.le_refl _) _⟩
  ·by_cases h4:k=2
   ·subst h4;have h5:((2:Int)==2)=true:=rfl;by_cases h6:s % 64=0
    ·have h6p:s.tmod 64=0:=by rw[Int.tmod_eq_emod_of_nonneg hs];exact h6
     have h6':(s.tmod 64 !=0)=false:=by simp[h6p]
     by_cases h2:200<l
     ·rw[show aZ _ l s d0 d1 d2 d3 sg db=false by unfold aZ;rw[if_neg h0];simp;omega,bK]
      unfold ib
      go_enter func164,ntmps164
      go_wp2
      go_ret
      exact⟨rfl,(Below.refl _ _).alloc (Nat.le_refl _) _⟩
     ·by_cases h3:48640<s
      ·rw[show aZ _ l s d0 d1 d2 d3 sg db=false by unfold aZ;rw[if_neg h0];simp;omega,bK]
       unfold ib
       go_enter func164,ntmps164
       go_wp2
       go_ret
       exact⟨rfl,(Below.refl _ _).alloc (Nat.le_refl _) _⟩
      ·rw[show aZ _ l s d0 d1 d2 d3 sg db=true by unfold aZ;rw[if_neg h0];simp;omega,cV]
       unfold ib
       go_enter func164,ntmps164
       go_wp2
       go_ret
       exact⟨rfl,(Below.refl _ _).alloc (Nat.le_refl _) _⟩
    ·have h6p: ¬s.tmod 64=0:=by rw[Int.tmod_eq_emod_of_nonneg hs];exact h6
     have h6':(s.tmod 64 !=0)=true:=by simp[h6p]
     by_cases h2:200<l
     ·rw[show aZ _ l s d0 d1 d2 d3 sg db=false by unfold aZ;rw[if_neg h0];simp;omega,bK]
      unfold ib
      go_enter func164,ntmps164
      go_wp2
      go_ret
      exact⟨rfl,(Below.refl _ _).alloc (Nat.le_refl _) _⟩
     ·by_cases h3:48640<s
      ·rw[show aZ _ l s d0 d1 d2 d3 sg db=false by unfold aZ;rw[if_neg h0];simp;omega,bK]
       unfold ib
       go_enter func164,ntmps164
       go_wp2
       go_ret
       exact⟨rfl,(Below.refl _ _).alloc (Nat.le_refl _) _⟩
      ·rw[show aZ _ l s d0 d1 d2 d3 sg db=false by unfold aZ;rw[if_neg h0];simp;omega,bK]
       unfold ib
       go_enter func164,ntmps164
       go_wp2
       go_ret
       exact⟨rfl,(Below.refl _ _).alloc (Nat.le_refl _) _⟩
   ·have h4':(k==2)=false:=by simp[h4]
    have h7:k=1:=by omega
    subst h7;have h7':((1:Int)==1)=true:=rfl;by_cases h2:200<l
    ·rw[show aZ _ l s d0 d1 d2 d3 sg db=false by unfold aZ;rw[if_neg h0];simp;omega,bK]
     unfold ib
     go_enter func164,ntmps164
     go_wp2
     go_ret
     exact⟨rfl,(Below.refl _ _).alloc (Nat.le_refl _) _⟩
    ·by_cases h3:48640<s
     ·rw[show aZ _ l s d0 d1 d2 d3 sg db=false by unfold aZ;rw[if_neg h0];simp;omega,bK]
      unfold ib
      go_enter func164,ntmps164
      go_wp2
      go_ret
      exact⟨rfl,(Below.refl _ _).alloc (Nat.le_refl _) _⟩
     ·rw[show aZ _ l s d0 d1 d2 d3 sg db=true by unfold aZ;rw[if_neg h0];simp;omega,cV]
      unfold ib
      go_enter func164,ntmps164
      go_wp2
      go_ret
      exact⟨rfl,(Below.refl _ _).alloc (Nat.le_refl _) _⟩
set_option maxRecDepth 100000 in
theorem Tu(k l s d0 d1 d2 d3 sg db:Int)(hk:0<=k)(hs:0<=s)(w:World):ib 144 k l s d0 d1 d2 d3 sg db w (cW (aZ k l s d0 d1 d2 d3 sg db)):=by
 by_cases h0:k=0
 ·subst h0;have h5:((0:Int)==0)=true:=rfl;by_cases hz:eJ 0 l s d0 d1 d2 d3 sg db=true
  ·obtain⟨hl,hs'⟩:=tm hz;rw[show aZ 0 l s d0 d1 d2 d3 sg db=true by unfold aZ;rw[if_pos rfl];exact hz,cV]
   unfold ib
   go_enter func144,ntmps144
   go_wp2
   go_ret
   exact⟨rfl,(Below.refl _ _).alloc (Nat.le_refl _) _⟩
  ·have hz':eJ 0 l s d0 d1 d2 d3 sg db=false:=by simpa using hz
   rw[show aZ 0 l s d0 d1 d2 d3 sg db=false by unfold aZ;rw[if_pos rfl];exact hz',bK]
   clear hz;unfold ib
   go_enter func144,ntmps144
   go_wp2
   go_ret
   exact⟨rfl,(Below.refl _ _).alloc (Nat.le_refl _) _⟩
 ·have h0':(k==0)=false:=by simp[h0]
  by_cases h1:2<k
  ·have h12:(k==2)=false:=by simp;omega
   have h11:(k==1)=false:=by simp;omega
   rw[show aZ _ l s d0 d1 d2 d3 sg db=false by unfold aZ;rw[if_neg h0];simp;omega,bK]
   unfold ib
   go_enter func144,ntmps144
   go_wp2
   go_ret
   exact⟨rfl,(Below.refl _ _).alloc (Nat.le_refl _) _⟩
  ·by_cases h4:k=2
   ·subst h4;have h5:((2:Int)==2)=true:=rfl;by_cases h6:s % 64=0
    ·have h6p:s.tmod 64=0:=by rw[Int.tmod_eq_emod_of_nonneg hs];exact h6
     have h6':(s.tmod 64 !=0)=false:=by simp[h6p]
     by_cases h2:200<l
     ·rw[show aZ _ l s d0 d1 d2 d3 sg db=false by unfold aZ;rw[if_neg h0];simp;omega,bK]
      unfold ib
      go_enter func144,ntmps144
      go_wp2
      go_ret
      exact⟨rfl,(Below.refl _ _).alloc (Nat.le_refl _) _⟩
     ·by_cases h3:48640<s
      ·rw[show aZ _ l s d0 d1 d2 d3 sg db=false by unfold aZ;rw[if_neg h0];simp;omega,bK]
       unfold ib
       go_enter func144,ntmps144
       go_wp2
       go_ret
       exact⟨rfl,(Below.refl _ _).alloc (Nat.le_refl _) _⟩
      ·rw[show aZ _ l s d0 d1 d2 d3 sg db=true by unfold aZ;rw[if_neg h0];simp;omega,cV]
       unfold ib
       go_enter func144,ntmps144
       go_wp2
       go_ret
       exact⟨rfl,(Below.refl _ _).alloc (Nat.le_refl _) _⟩
    ·have h6p: ¬s.tmod 64=0:=by rw[Int.tmod_eq_emod_of_nonneg hs];exact h6
     have h6':(s.tmod 64 !=0)=true:=by simp[h6p]
     by_cases h2:200<l
     ·rw[show aZ _ l s d0 d1 d2 d3 sg db=false by unfold aZ;rw[if_neg h0];simp;omega,bK]
      unfold ib
      go_enter func144,ntmps144
      go_wp2
      go_ret
      exact⟨rfl,(Below.refl _ _).alloc (Nat.le_refl _) _⟩
     ·by_cases h3:48640<s
      ·rw[show aZ _ l s d0 d1 d2 d3 sg db=false by unfold aZ;rw[if_neg h0];simp;omega,bK]
       unfold ib
       go_enter func144,ntmps144
       go_wp2
       go_ret
       exact⟨rfl,(Below.refl _ _).alloc (Nat.le_refl _) _⟩
      ·rw[show aZ _ l s d0 d1 d2 d3 sg db=false by unfold aZ;rw[if_neg h0];simp;omega,bK]
       unfold ib
       go_enter func144,ntmps144
       go_wp2
       go_ret
       exact⟨rfl,(Below.refl _ _).alloc (Nat.le_refl _) _⟩
   ·have h4':(k==2)=false:=by simp[h4]
    have h7:k=1:=by omega
    subst h7;have h7':((1:Int)==1)=true:=rfl;by_cases h2:200<l
    ·rw[show aZ _ l s d0 d1 d2 d3 sg db=false by unfold aZ;rw[if_neg h0];simp;omega,bK]
     unfold ib
     go_enter func144,ntmps144
     go_wp2
     go_ret
     exact⟨rfl,(Below.refl _ _).alloc (Nat.le_refl _) _⟩
    ·by_cases h3:48640<s
     ·rw[show aZ _ l s d0 d1 d2 d3 sg db=false by unfold aZ;rw[if_neg h0];simp;omega,bK]
      unfold ib
      go_enter func144,ntmps144
      go_wp2
      go_ret
      exact⟨rfl,(Below.refl _ _).alloc (Nat.le_refl _) _⟩
     ·rw[show aZ _ l s d0 d1 d2 d3 sg db=true by unfold aZ;rw[if_neg h0];simp;omega,cV]
      unfold ib
      go_enter func144,ntmps144
      go_wp2
      go_ret
      exact⟨rfl,(Below.refl _ _).alloc (Nat.le_refl _) _⟩
end Go.Sx
namespace Go.Sx
def cX(n:Int):Int:=if n<=0 then 0 else(n - 1) / 64+1
theorem yW(n:Int)(h0:0<=n)(h1:n<4294967296)(w:World):Calls prog 145 #[.int .i64 n] w fun e w'=>e= .returned (.int .i64 (cX n))/\w'=w:=by
 by_cases h:n<=0
 ·rw[show cX n=0 by unfold cX;rw[if_pos h]]
  go_enter func145,ntmps145
  go_wp2
  go_ret
  exact⟨rfl,rfl⟩
 ·rw[show cX n=(n - 1) / 64+1 by unfold cX;rw[if_neg h]]
  go_enter func145,ntmps145
  go_wp2
  go_ret
  exact⟨rfl,rfl⟩
theorem Db(n:Int)(h0:0<=n)(h1:n<4294967296)(w:World):Calls prog 59 #[.int .i64 n] w fun e w'=>e= .returned (.int .i64 (cX n))/\w'=w:=by
 by_cases h:n<=0
 ·rw[show cX n=0 by unfold cX;rw[if_pos h]]
  go_enter func59,ntmps59
  go_wp2
  go_ret
  exact⟨rfl,rfl⟩
 ·rw[show cX n=(n - 1) / 64+1 by unfold cX;rw[if_neg h]]
  go_enter func59,ntmps59
  go_wp2
  go_ret
  exact⟨rfl,rfl⟩
def aY(a b c:Int):Bool:=decide (1<=a/\a<=8/\1<=b/\b<=8/\4<=c/\c<=128)
theorem dD(a b c:Int)(w:World):Calls prog 111 #[.agg #[.int .i64 a,.int .i64 b,.int .i64 c]] w fun e w'=>e= .returned (.int .i64 (cW (aY a b c)))/\Below w.heap.size w w':=by
 by_cases h1:a<1
 ·rw[show aY a b c=false by unfold aY;simp;omega,bK]
  go_enter func111,ntmps111
  go_wp2
  go_ret
  exact⟨rfl,(Below.refl _ _).alloc (Nat.le_refl _) _⟩
 by_cases h2:8<a
 ·rw[show aY a b c=false by unfold aY;simp;omega,bK]
  go_enter func111,ntmps111
  go_wp2
  go_ret
  exact⟨rfl,(Below.refl _ _).alloc (Nat.le_refl _) _⟩
 by_cases h3:b<1
 ·rw[show aY a b c=false by unfold aY;simp;omega,bK]
  go_enter func111,ntmps111
  go_wp2
  go_ret
  exact⟨rfl,(Below.refl _ _).alloc (Nat.le_refl _) _⟩
 by_cases h4:8<b
 ·rw[show aY a b c=false by unfold aY;simp;omega,bK]
  go_enter func111,ntmps111
  go_wp2
  go_ret
  exact⟨rfl,(Below.refl _ _).alloc (Nat.le_refl _) _⟩
 by_cases h5:c<4
 ·rw[show aY a b c=false by unfold aY;simp;omega,bK]
  go_enter func111,ntmps111
  go_wp2
  go_ret
  exact⟨rfl,(Below.refl _ _).alloc (Nat.le_refl _) _⟩
 by_cases h6:128<c
 ·rw[show aY a b c=false by unfold aY;simp;omega,bK]
  go_enter func111,ntmps111
  go_wp2
  go_ret
  exact⟨rfl,(Below.refl _ _).alloc (Nat.le_refl _) _⟩
 ·rw[show aY a b c=true by unfold aY;simp;omega,cV]
  go_enter func111,ntmps111
  go_wp2
  go_ret
  exact⟨rfl,(Below.refl _ _).alloc (Nat.le_refl _) _⟩
theorem JM(n lo hi:Int)(w:World):Calls prog 175 #[.int .i64 n,.int .i64 lo,.int .i64 hi] w fun e w'=>e= .returned (.bool (decide (lo<=n) && decide (n<=hi)))/\w'=w:=by
 by_cases h:lo<=n
 ·by_cases h':n<=hi
  ·go_enter func175,ntmps175
   go_wp2
   go_ret
   exact⟨by simp[h,h'],rfl⟩
  ·go_enter func175,ntmps175
   go_wp2
   go_ret
   exact⟨by simp[h,h'],rfl⟩
 ·go_enter func175,ntmps175
  go_wp2
  go_ret
  exact⟨by simp;omega,rfl⟩
theorem Dn(n lo hi:Int)(h:lo<=n/\n<=hi)(w:World):Calls prog 175 #[.int .i64 n,.int .i64 lo,.int .i64 hi] w fun e w'=>e= .returned (.bool true)/\w'=w:=
 (JM n lo hi w).mono fun e w' ⟨h1,h2⟩=>⟨by rw[h1];simp[h.1,h.2],h2⟩
theorem Un(n lo hi:Int)(h: ¬(lo<=n/\n<=hi))(w:World):Calls prog 175 #[.int .i64 n,.int .i64 lo,.int .i64 hi] w fun e w'=>e= .returned (.bool false)/\w'=w:=
 (JM n lo hi w).mono fun e w' ⟨h1,h2⟩=>⟨by rw[h1];congr 2;simp;omega,h2⟩
def mF(a b c:Int):Bool:=a==0 && b==0 && c==0
theorem OO{a b c:Int}(h:mF a b c=true):aY a b c=false:=by
 simp only[mF,Bool.and_eq_true,beq_iff_eq]at h;unfold aY;simp;omega
theorem Ye(op:BinOp)(x y:Operand)(xs ys:Array Value)(w:World):(eqGuard op 62 x y (.agg xs) (.agg ys)).run prog w= .ok () w:=run_eqGuard_agg w op 62 x y xs ys (by kernel_rfl)
theorem adY(a b c:Int)(w:World):(binOp .eql 62 (.agg #[.int .i64 a,.int .i64 b,.int .i64 c]) (.agg #[.int .i64 0,.int .i64 0,.int .i64 0])).run prog w= .ok (.bool (mF a b c)) w:=by
 go_simp
 by_cases h1:a=0
 ·by_cases h2:b=0
  ·by_cases h3:c=0
   ·simp[mF,h1,h2,h3]
   ·simp[mF,h1,h2,h3]
  ·simp[mF,h1,h2]
 ·simp[mF,h1]
attribute [irreducible] mF
attribute [go_sem] Ye
attribute [go_sem high] adY
set_option maxRecDepth 100000 in
theorem lW(a b c:Int)(w:World):Calls prog 108 #[.agg #[.int .i64 a,.int .i64 b,.int .i64 c]] w fun e w'=>e= .returned (.int .i64 (cW (aY a b c)))/\Below w.heap.size w w':=by
 by_cases h0:mF a b c=true
 ·rw[OO h0,bK]
  go_enter func108,ntmps108
  go_wp2
  go_ret
  exact⟨rfl,(Below.refl _ _).alloc (Nat.le_refl _) _⟩
 have h0':mF a b c=false:=by simpa using h0
 clear h0;by_cases h1:1<=a/\a<=8
 ·by_cases h2:1<=b/\b<=8
  ·by_cases h3:4<=c/\c<=128
   ·rw[show aY a b c=true by unfold aY;simp;omega,cV]
    go_enter func108,ntmps108
    go_wp2_with (go_at_call 175;refine(Dn _ _ _ (by omega) _).mono ?_;rintro e w' ⟨rfl,rfl⟩)
    go_ret
    exact⟨rfl,(Below.refl _ _).alloc (Nat.le_refl _) _⟩
   ·rw[show aY a b c=false by unfold aY;simp;omega,bK]
    go_enter func108,ntmps108
    go_wp2_with (go_at_call 175;(first|refine(Dn _ _ _ (by omega) _).mono ?_|refine(Un _ _ _ (by omega) _).mono ?_);rintro e w' ⟨rfl,rfl⟩)
    go_ret
    exact⟨rfl,(Below.refl _ _).alloc (Nat.le_refl _) _⟩
  ·rw[show aY a b c=false by unfold aY;simp;omega,bK]
   go_enter func108,ntmps108
   go_wp2_with (go_at_call 175;(first|refine(Dn _ _ _ (by omega) _).mono ?_|refine(Un _ _ _ (by omega) _).mono ?_);rintro e w' ⟨rfl,rfl⟩)
   go_ret
   exact⟨rfl,(Below.refl _ _).alloc (Nat.le_refl _) _⟩
 ·rw[show aY a b c=false by unfold aY;simp;omega,bK]
  go_enter func108,ntmps108
  go_wp2_with (go_at_call 175;(first|refine(Dn _ _ _ (by omega) _).mono ?_|refine(Un _ _ _ (by omega) _).mono ?_);rintro e w' ⟨rfl,rfl⟩)
  go_ret
  exact⟨rfl,(Below.refl _ _).alloc (Nat.le_refl _) _⟩
end Go.Sx
namespace Go.Sx
theorem b8{a b c:Int}:aY a b c=true↔1<=a/\a<=8/\1<=b/\b<=8/\4<=c/\c<=128:=by unfold aY;simp
theorem fL{a b c:Int}(h:aY a b c=true):7<=a*(2+b+c)/\a*(2+b+c)<=1104:=by
 obtain⟨h1,h2,h3,h4,h5,h6⟩:=b8.1 h;constructor
 ·have:=Int.mul_le_mul h1 (show 7<=2+b+c by omega) (by omega) (by omega);omega
 ·have:=Int.mul_le_mul h2 (show 2+b+c<=138 by omega) (by omega) (by omega);omega
def dL(a b c:Int):Int:=if aY a b c=true then 2+a*(2+b+c)else 0
theorem pI(a b c:Int)(h:aY a b c=true)(w:World):Calls prog 215 #[.agg #[.int .i64 a,.int .i64 b,.int .i64 c]] w fun e w'=>e= .returned (.int .i64 (2+b+c))/\Below w.heap.size w w':=by
 obtain⟨h1,h2,h3,h4,h5,h6⟩:=b8.1 h;clear h
 go_enter func215,ntmps215
 go_wp2
 go_ret
 exact⟨rfl,(Below.refl _ _).alloc (Nat.le_refl _) _⟩
theorem GB(w:World)(o:Obj):(w.alloc o).heap[w.heap.size]? =some o:=by
 show(w.heap.push o)[w.heap.size]? =some o;simp
theorem mr{w:World}{cs:Array Value}{t:TypeId}{i:Nat}{v:Value}(h:cs[i]? =some v):(w.alloc (.cells cs t)).cell? ⟨w.heap.size,i,none⟩=some v:=by
 unfold World.cell?;rw[show(w.alloc (.cells cs t)).heap[(⟨w.heap.size,i,none⟩:Addr).block]? =some (.cells cs t)from GB w _]
 simpa using h
theorem DI{w w2:World}{x y z:Value}{t:TypeId}(hb:Below (w.alloc (.cells #[x,y,z] t)).heap.size (w.alloc (.cells #[x,y,z] t)) w2):
  w2.cell? ⟨w.heap.size,0,none⟩=some x/\w2.cell? ⟨w.heap.size,1,none⟩=some y/\w2.cell? ⟨w.heap.size,2,none⟩=some z/\Below w.heap.size w w2/\w.heap.size<w2.heap.size:=by
 refine⟨(hb.cell (by simp)).trans ?_,(hb.cell (by simp)).trans ?_,(hb.cell (by simp)).trans ?_,((Below.refl _ w).alloc (Nat.le_refl _) _).trans (hb.mono (by simp)),by have:=hb.size;simp at this;omega⟩<;>exact mr rfl
theorem gQ(a b c:Int)(w:World):Calls prog 147 #[.agg #[.int .i64 a,.int .i64 b,.int .i64 c]] w fun e w'=>e= .returned (.int .i64 (dL a b c))/\Below w.heap.size w w':=by
 by_cases h:aY a b c=true
 ·obtain⟨h1,h2,h3,h4,h5,h6⟩:=b8.1 h;obtain⟨m1,m2⟩:=fL h;have hC: ∀W,Calls prog 111 #[.agg #[.int .i64 a,.int .i64 b,.int .i64 c]] W fun e w'=>e= .returned (.int .i64 0)/\Below W.heap.size W w':=fun W=>by have:=dD a b c W;rwa [h,cV]at this
  rw[show dL a b c=2+a*(2+b+c)by unfold dL;rw[if_pos h]]
  clear h
  go_enter func147,ntmps147
  go_wp2_with (go_at_call 111;refine(hC _).mono ?_;rintro e w2 ⟨rfl,hb⟩;obtain⟨c0,c1,c2,hb0,aA⟩:=DI hb;clear hb)
  go_ret
  exact⟨rfl,hb0⟩
 ·have h':aY a b c=false:=by simpa using h
  have hC: ∀W,Calls prog 111 #[.agg #[.int .i64 a,.int .i64 b,.int .i64 c]] W fun e w'=>e= .returned (.int .i64 2)/\Below W.heap.size W w':=fun W=>by have:=dD a b c W;rwa [h',bK]at this
  rw[show dL a b c=0 by unfold dL;rw[if_neg h]]
  clear h h'
  go_enter func147,ntmps147
  go_wp2_with (go_at_call 111;refine(hC _).mono ?_;rintro e w2 ⟨rfl,hb⟩;obtain⟨c0,c1,c2,hb0,aA⟩:=DI hb;clear hb)
  go_ret
  exact⟨rfl,hb0⟩
theorem gE(a b c:Int)(w:World):Calls prog 143 #[.agg #[.int .i64 a,.int .i64 b,.int .i64 c]] w fun e w'=>e= .returned (.int .i64 (dL a b c))/\Below w.heap.size w w':=by
 by_cases h:aY a b c=true
 ·obtain⟨h1,h2,h3,h4,h5,h6⟩:=b8.1 h;obtain⟨m1,m2⟩:=fL h;have hC: ∀W,Calls prog 108 #[.agg #[.int .i64 a,.int .i64 b,.int .i64 c]] W fun e w'=>e= .returned (.int .i64 0)/\Below W.heap.size W w':=fun W=>by have:=lW a b c W;rwa [h,cV]at this
  have hS: ∀W,Calls prog 215 #[.agg #[.int .i64 a,.int .i64 b,.int .i64 c]] W fun e w'=>e= .returned (.int .i64 (2+b+c))/\Below W.heap.size W w':=fun W=>pI a b c h W
  rw[show dL a b c=2+a*(2+b+c)by unfold dL;rw[if_pos h]]
  clear h
  go_enter func143,ntmps143
  go_wp2_with (go_at_call 108;refine(hC _).mono ?_;rintro e w2 ⟨rfl,hb⟩;obtain⟨c0,c1,c2,hb0,aA⟩:=DI hb;clear hb)
  have i1:i64.wrap (a*(2+b+c))=a*(2+b+c):=IntWalk.i64_in _ (by omega)
  have i2:i64.wrap (2+a*(2+b+c))=2+a*(2+b+c):=IntWalk.i64_in _ (by omega)
  go_region_with (go_at_call 215;refine(hS _).mono ?_;rintro e w3 ⟨rfl,hb⟩;have d0:=(hb.cell (p:=⟨w.heap.size,0,none⟩) (by simpa using aA)).trans (by simpa using c0);have hb1:=hb.mono (B':=w.heap.size) (by simp;omega))
  all_goals (go_wp2;go_ret;exact⟨rfl,(hb0.drew).trans hb1⟩)
 ·have h':aY a b c=false:=by simpa using h
  have hC: ∀W,Calls prog 108 #[.agg #[.int .i64 a,.int .i64 b,.int .i64 c]] W fun e w'=>e= .returned (.int .i64 2)/\Below W.heap.size W w':=fun W=>by have:=lW a b c W;rwa [h',bK]at this
  rw[show dL a b c=0 by unfold dL;rw[if_neg h]]
  clear h h'
  go_enter func143,ntmps143
  go_wp2_with (go_at_call 108;refine(hC _).mono ?_;rintro e w2 ⟨rfl,hb⟩;obtain⟨c0,c1,c2,hb0,aA⟩:=DI hb;clear hb)
  go_ret
  exact⟨rfl,hb0⟩
def pl(a b c s:Int):Int×Int×Int×Int:=
 if aY a b c=true/\0<=s/\s<2+a*(2+b+c)then
  if s<2 then(1,0,s,0)
  else if(s - 2) %(2+b+c)=0 then(2,(s - 2) /(2+b+c),0,0)
  else if(s - 2) %(2+b+c)=1 then(3,(s - 2) /(2+b+c),0,0)
  else if(s - 2) %(2+b+c)<2+b then(4,(s - 2) /(2+b+c),(s - 2) %(2+b+c) - 2,0)
  else(0,(s - 2) /(2+b+c),(s - 2) %(2+b+c) - 2 - b,0)
 else(0,0,0,2)
def Kb(p:Int×Int×Int×Int):Value:= .tuple #[.agg #[.int .i64 p.1,.int .i64 p.2.1,.int .i64 p.2.2.1],.int .i64 p.2.2.2]
theorem n4{w:World}{cs:Array Value}{t:TypeId}{i:Nat}:(w.alloc (.cells cs t)).frozen? ⟨w.heap.size,i,none⟩=false:=by
 unfold World.frozen?;rw[show(w.alloc (.cells cs t)).heap[(⟨w.heap.size,i,none⟩:Addr).block]? =some (.cells cs t)from GB w _]
 simp
theorem RQ{w w2:World}{x y z x' y' z':Value}{t t':TypeId}(hb:Below ((w.alloc (.cells #[x,y,z] t)).alloc (.cells #[x',y',z'] t')).heap.size ((w.alloc (.cells #[x,y,z] t)).alloc (.cells #[x',y',z'] t')) w2):
  (w2.cell? ⟨w.heap.size,0,none⟩=some x/\w2.cell? ⟨w.heap.size,1,none⟩=some y/\w2.cell? ⟨w.heap.size,2,none⟩=some z)/\
  (w2.cell? ⟨w.heap.size+1,0,none⟩=some x'/\w2.cell? ⟨w.heap.size+1,1,none⟩=some y'/\w2.cell? ⟨w.heap.size+1,2,none⟩=some z')/\
  (w2.frozen? ⟨w.heap.size+1,0,none⟩=false)/\(w2.frozen? ⟨w.heap.size+1,1,none⟩=false)/\(w2.frozen? ⟨w.heap.size+1,2,none⟩=false)/\Below w.heap.size w w2/\w.heap.size+1<w2.heap.size:=by
 have e:(w.alloc (.cells #[x,y,z] t)).heap.size=w.heap.size+1:=by simp
 have hA:Below (w.heap.size+1) (w.alloc (.cells #[x,y,z] t)) w2:=((Below.refl (w.heap.size+1) (w.alloc (.cells #[x,y,z] t))).alloc (by simp) _).trans (hb.mono (by simp))
 have c: ∀i v,#[x,y,z][i]? =some v->w2.cell? ⟨w.heap.size,i,none⟩=some v:=fun i v h=>(hA.cell (p:=⟨w.heap.size,i,none⟩) (by simp)).trans (mr h)
 have d: ∀i v,#[x',y',z'][i]? =some v->w2.cell? ⟨w.heap.size+1,i,none⟩=some v:=fun i v h=>(hb.cell (p:=⟨w.heap.size+1,i,none⟩) (by simp)).trans (by rw[<-e];exact mr h)
 have f: ∀i,w2.frozen? ⟨w.heap.size+1,i,none⟩=false:=fun i=>(hb.frozen (p:=⟨w.heap.size+1,i,none⟩) (by simp)).trans (by rw[<-e];exact n4)
 exact⟨⟨c 0 x rfl,c 1 y rfl,c 2 z rfl⟩,⟨d 0 x' rfl,d 1 y' rfl,d 2 z' rfl⟩,f 0,f 1,f 2,((Below.refl _ w).alloc (Nat.le_refl _) _).trans (hA.mono (by omega)),by have:=hb.size;simp at this;omega⟩
theorem FT(a b c s:Int)(h:aY a b c=false)(w:World):Calls prog 82 #[.agg #[.int .i64 a,.int .i64 b,.int .i64 c],.int .i64 s] w fun e w'=>e= .returned (Kb (pl a b c s))/\Below w.heap.size w w':=by
 have hC: ∀W,Calls prog 111 #[.agg #[.int .i64 a,.int .i64 b,.int .i64 c]] W fun e w'=>e= .returned (.int .i64 2)/\Below W.heap.size W w':=fun W=>by have:=dD a b c W;rwa [h,bK]at this
 rw[show Kb (pl a b c s)= .tuple #[.agg #[.int .i64 0,.int .i64 0,.int .i64 0],.int .i64 2]by unfold pl;rw[h];simp[Kb]]
 clear h
 go_enter func82,ntmps82
 go_wp2_with (go_at_call 111;refine(hC _).mono ?_;rintro e w2 ⟨rfl,hb⟩;obtain⟨⟨c0,c1,c2⟩,⟨d0,d1,d2⟩,f0,f1,f2,hb0,aA⟩:=RQ hb;clear hb)
 refine bodyPost_ret (v:= .tuple #[.agg #[.int .i64 0,.int .i64 0,.int .i64 0],.int .i64 2]) ?_ rfl ⟨rfl,((hb0.setCell (by simp) _).setCell (by simp) _).setCell (by simp) _⟩
 simp[results,results82,go_sem,d0,d1,d2,c0,c1,c2]
structure Own(w W:World)(x y z x' y' z':Value):Prop where
 c0:W.cell? ⟨w.heap.size,0,none⟩=some x
 c1:W.cell? ⟨w.heap.size,1,none⟩=some y
 c2:W.cell? ⟨w.heap.size,2,none⟩=some z
 d0:W.cell? ⟨w.heap.size+1,0,none⟩=some x'
 d1:W.cell? ⟨w.heap.size+1,1,none⟩=some y'
 d2:W.cell? ⟨w.heap.size+1,2,none⟩=some z'
 f0:W.frozen? ⟨w.heap.size+1,0,none⟩=false
 f1:W.frozen? ⟨w.heap.size+1,1,none⟩=false
 f2:W.frozen? ⟨w.heap.size+1,2,none⟩=false
 below:Below w.heap.size w W
 lt:w.heap.size+1<W.heap.size
variable{w W W':World}{x y z x' y' z':Value}
theorem Own.first {t t':TypeId}(hb:Below ((w.alloc (.cells #[x,y,z] t)).alloc (.cells #[x',y',z'] t')).heap.size ((w.alloc (.cells #[x,y,z] t)).alloc (.cells #[x',y',z'] t')) W):Own w W x y z x' y' z':=by
 obtain⟨⟨c0,c1,c2⟩,⟨d0,d1,d2⟩,f0,f1,f2,hb0,aA⟩:=RQ hb;exact⟨c0,c1,c2,d0,d1,d2,f0,f1,f2,hb0,aA⟩
theorem Own.next (h:Own w W x y z x' y' z')(hb:Below W.heap.size W W'):Own w W' x y z x' y' z':=by
 have hl:=h.lt;exact⟨(hb.cell (by show w.heap.size<_;omega)).trans h.c0,(hb.cell (by show w.heap.size<_;omega)).trans h.c1,(hb.cell (by show w.heap.size<_;omega)).trans h.c2,
  (hb.cell (by show w.heap.size+1<_;omega)).trans h.d0,(hb.cell (by show w.heap.size+1<_;omega)).trans h.d1,(hb.cell (by show w.heap.size+1<_;omega)).trans h.d2,
  (hb.frozen (by show w.heap.size+1<_;omega)).trans h.f0,(hb.frozen (by show w.heap.size+1<_;omega)).trans h.f1,(hb.frozen (by show w.heap.size+1<_;omega)).trans h.f2,
  h.below.trans (hb.mono (by omega)),by have:=hb.size;omega⟩
end Go.Sx
