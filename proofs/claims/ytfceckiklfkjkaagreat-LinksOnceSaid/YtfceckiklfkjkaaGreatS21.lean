import Derived.Test.YtfceckiklfkjkaaGreatS20
import Derived.Deep.RegionWith
noncomputable section
set_option maxHeartbeats 4000000
open Go.Proofs Go.RowKit
open Go.IntKind(i64 u8 u64 u32 u16)
open Go.Proofs.Tryz
namespace Go.Sx
theorem GI(a b c s:Int)(h:aY a b c=true)(hs:s<0)(w:World):Calls prog 82 #[.agg #[.int .i64 a,.int .i64 b,.int .i64 c],.int .i64 s] w fun e w'=>e= .returned (.tuple #[.agg #[.int .i64 (0),.int .i64 (0),.int .i64 (0)],.int .i64 (2)])/\Below w.heap.size w w':=by
 obtain⟨h1,h2,h3,h4,h5,h6⟩:=b8.1 h;obtain⟨m1,m2⟩:=fL h;have hC: ∀W,Calls prog 111 #[.agg #[.int .i64 a,.int .i64 b,.int .i64 c]] W fun e w'=>e= .returned (.int .i64 0)/\Below W.heap.size W w':=fun W=>by have:=dD a b c W;rwa [h,cV]at this
 have hT: ∀W,Calls prog 147 #[.agg #[.int .i64 a,.int .i64 b,.int .i64 c]] W fun e w'=>e= .returned (.int .i64 (2+a*(2+b+c)))/\Below W.heap.size W w':=fun W=>by have:=gQ a b c W;rwa [show dL a b c=2+a*(2+b+c)by unfold dL;rw[if_pos h]]at this
 clear h
 go_enter func82,ntmps82
 go_wp2_with (first
  |(go_at_call 111;refine(hC _).mono ?_;rintro e w2 ⟨rfl,hb⟩;have ow:=Own.first hb;clear hb;obtain⟨c0,c1,c2,d0,d1,d2,f0,f1,f2,hb0,aA⟩:=id ow)
  |(go_at_call 147;refine(hT _).mono ?_;clear c0 c1 c2 d0 d1 d2 f0 f1 f2 hb0 aA;rintro e w3 ⟨rfl,hb⟩;replace ow:=ow.next hb;clear hb;obtain⟨c0,c1,c2,d0,d1,d2,f0,f1,f2,hb0,aA⟩:=id ow))
 refine bodyPost_ret (v:= .tuple #[.agg #[.int .i64 (0),.int .i64 (0),.int .i64 (0)],.int .i64 (2)]) ?_ rfl ⟨rfl,((hb0.setCell (by simp) _).setCell (by simp) _).setCell (by simp) _⟩
 simp[results,results82,go_sem,d0,d1,d2,c0,c1,c2]
theorem FD(a b c s:Int)(h:aY a b c=true)(hs:0<=s)(hs2:2+a*(2+b+c)<=s)(w:World):Calls prog 82 #[.agg #[.int .i64 a,.int .i64 b,.int .i64 c],.int .i64 s] w fun e w'=>e= .returned (.tuple #[.agg #[.int .i64 (0),.int .i64 (0),.int .i64 (0)],.int .i64 (2)])/\Below w.heap.size w w':=by
 obtain⟨h1,h2,h3,h4,h5,h6⟩:=b8.1 h;obtain⟨m1,m2⟩:=fL h;have hC: ∀W,Calls prog 111 #[.agg #[.int .i64 a,.int .i64 b,.int .i64 c]] W fun e w'=>e= .returned (.int .i64 0)/\Below W.heap.size W w':=fun W=>by have:=dD a b c W;rwa [h,cV]at this
 have hT: ∀W,Calls prog 147 #[.agg #[.int .i64 a,.int .i64 b,.int .i64 c]] W fun e w'=>e= .returned (.int .i64 (2+a*(2+b+c)))/\Below W.heap.size W w':=fun W=>by have:=gQ a b c W;rwa [show dL a b c=2+a*(2+b+c)by unfold dL;rw[if_pos h]]at this
 clear h
 go_enter func82,ntmps82
 go_wp2_with (first
  |(go_at_call 111;refine(hC _).mono ?_;rintro e w2 ⟨rfl,hb⟩;have ow:=Own.first hb;clear hb;obtain⟨c0,c1,c2,d0,d1,d2,f0,f1,f2,hb0,aA⟩:=id ow)
  |(go_at_call 147;refine(hT _).mono ?_;clear c0 c1 c2 d0 d1 d2 f0 f1 f2 hb0 aA;rintro e w3 ⟨rfl,hb⟩;replace ow:=ow.next hb;clear hb;obtain⟨c0,c1,c2,d0,d1,d2,f0,f1,f2,hb0,aA⟩:=id ow))
 refine bodyPost_ret (v:= .tuple #[.agg #[.int .i64 (0),.int .i64 (0),.int .i64 (0)],.int .i64 (2)]) ?_ rfl ⟨rfl,((hb0.setCell (by simp) _).setCell (by simp) _).setCell (by simp) _⟩
 simp[results,results82,go_sem,d0,d1,d2,c0,c1,c2]
theorem EA(a b c s:Int)(h:aY a b c=true)(hs:0<=s)(hs2:s<2)(w:World):Calls prog 82 #[.agg #[.int .i64 a,.int .i64 b,.int .i64 c],.int .i64 s] w fun e w'=>e= .returned (.tuple #[.agg #[.int .i64 (1),.int .i64 (0),.int .i64 (s)],.int .i64 (0)])/\Below w.heap.size w w':=by
 obtain⟨h1,h2,h3,h4,h5,h6⟩:=b8.1 h;obtain⟨m1,m2⟩:=fL h;have hC: ∀W,Calls prog 111 #[.agg #[.int .i64 a,.int .i64 b,.int .i64 c]] W fun e w'=>e= .returned (.int .i64 0)/\Below W.heap.size W w':=fun W=>by have:=dD a b c W;rwa [h,cV]at this
 have hT: ∀W,Calls prog 147 #[.agg #[.int .i64 a,.int .i64 b,.int .i64 c]] W fun e w'=>e= .returned (.int .i64 (2+a*(2+b+c)))/\Below W.heap.size W w':=fun W=>by have:=gQ a b c W;rwa [show dL a b c=2+a*(2+b+c)by unfold dL;rw[if_pos h]]at this
 clear h;have hs3:s<2+a*(2+b+c):=by omega
 go_enter func82,ntmps82
 go_wp2_with (first
  |(go_at_call 111;refine(hC _).mono ?_;rintro e w2 ⟨rfl,hb⟩;have ow:=Own.first hb;clear hb;obtain⟨c0,c1,c2,d0,d1,d2,f0,f1,f2,hb0,aA⟩:=id ow)
  |(go_at_call 147;refine(hT _).mono ?_;clear c0 c1 c2 d0 d1 d2 f0 f1 f2 hb0 aA;rintro e w3 ⟨rfl,hb⟩;replace ow:=ow.next hb;clear hb;obtain⟨c0,c1,c2,d0,d1,d2,f0,f1,f2,hb0,aA⟩:=id ow))
 refine bodyPost_ret (v:= .tuple #[.agg #[.int .i64 (1),.int .i64 (0),.int .i64 (s)],.int .i64 (0)]) ?_ rfl ⟨rfl,((hb0.setCell (by simp) _).setCell (by simp) _).setCell (by simp) _⟩
 simp[results,results82,go_sem,d0,d1,d2,c0,c1,c2]
theorem Di(a b c s:Int)(h:aY a b c=true)(q r:Int)(hq:(s - 2).tdiv (2+b+c)=q)(hr:(s - 2).tmod (2+b+c)=r)(q0:0<=q)(q1:q<=2000)(r0:0<=r)(r1:r<2+b+c)(hs2:2<=s)(hs3:s<2+a*(2+b+c))(hz:r=0)(w:World):Calls prog 82 #[.agg #[.int .i64 a,.int .i64 b,.int .i64 c],.int .i64 s] w fun e w'=>e= .returned (.tuple #[.agg #[.int .i64 (2),.int .i64 (q),.int .i64 (0)],.int .i64 (0)])/\Below w.heap.size w w':=by
 obtain⟨h1,h2,h3,h4,h5,h6⟩:=b8.1 h;obtain⟨m1,m2⟩:=fL h;have hC: ∀W,Calls prog 111 #[.agg #[.int .i64 a,.int .i64 b,.int .i64 c]] W fun e w'=>e= .returned (.int .i64 0)/\Below W.heap.size W w':=fun W=>by have:=dD a b c W;rwa [h,cV]at this
 have hT: ∀W,Calls prog 147 #[.agg #[.int .i64 a,.int .i64 b,.int .i64 c]] W fun e w'=>e= .returned (.int .i64 (2+a*(2+b+c)))/\Below W.heap.size W w':=fun W=>by have:=gQ a b c W;rwa [show dL a b c=2+a*(2+b+c)by unfold dL;rw[if_pos h]]at this
 clear h;have hs:0<=s:=by omega
 have hd: ¬(2+b+c=0):=by omega
 subst hz
 go_enter func82,ntmps82
 go_wp2_with (first
  |(go_at_call 111;refine(hC _).mono ?_;rintro e w2 ⟨rfl,hb⟩;have ow:=Own.first hb;clear hb;obtain⟨c0,c1,c2,d0,d1,d2,f0,f1,f2,hb0,aA⟩:=id ow)
  |(go_at_call 147;refine(hT _).mono ?_;clear c0 c1 c2 d0 d1 d2 f0 f1 f2 hb0 aA;rintro e w3 ⟨rfl,hb⟩;replace ow:=ow.next hb;clear hb;obtain⟨c0,c1,c2,d0,d1,d2,f0,f1,f2,hb0,aA⟩:=id ow))
 refine bodyPost_ret (v:= .tuple #[.agg #[.int .i64 (2),.int .i64 (q),.int .i64 (0)],.int .i64 (0)]) ?_ rfl ⟨rfl,((hb0.setCell (by simp) _).setCell (by simp) _).setCell (by simp) _⟩
 simp[results,results82,go_sem,d0,d1,d2,c0,c1,c2]
theorem De(a b c s:Int)(h:aY a b c=true)(q r:Int)(hq:(s - 2).tdiv (2+b+c)=q)(hr:(s - 2).tmod (2+b+c)=r)(q0:0<=q)(q1:q<=2000)(r0:0<=r)(r1:r<2+b+c)(hs2:2<=s)(hs3:s<2+a*(2+b+c))(hz:r=1)(w:World):Calls prog 82 #[.agg #[.int .i64 a,.int .i64 b,.int .i64 c],.int .i64 s] w fun e w'=>e= .returned (.tuple #[.agg #[.int .i64 (3),.int .i64 (q),.int .i64 (0)],.int .i64 (0)])/\Below w.heap.size w w':=by
 obtain⟨h1,h2,h3,h4,h5,h6⟩:=b8.1 h;obtain⟨m1,m2⟩:=fL h;have hC: ∀W,Calls prog 111 #[.agg #[.int .i64 a,.int .i64 b,.int .i64 c]] W fun e w'=>e= .returned (.int .i64 0)/\Below W.heap.size W w':=fun W=>by have:=dD a b c W;rwa [h,cV]at this
 have hT: ∀W,Calls prog 147 #[.agg #[.int .i64 a,.int .i64 b,.int .i64 c]] W fun e w'=>e= .returned (.int .i64 (2+a*(2+b+c)))/\Below W.heap.size W w':=fun W=>by have:=gQ a b c W;rwa [show dL a b c=2+a*(2+b+c)by unfold dL;rw[if_pos h]]at this
 clear h;have hs:0<=s:=by omega
 have hd: ¬(2+b+c=0):=by omega
 subst hz
 go_enter func82,ntmps82
 go_wp2_with (first
  |(go_at_call 111;refine(hC _).mono ?_;rintro e w2 ⟨rfl,hb⟩;have ow:=Own.first hb;clear hb;obtain⟨c0,c1,c2,d0,d1,d2,f0,f1,f2,hb0,aA⟩:=id ow)
  |(go_at_call 147;refine(hT _).mono ?_;clear c0 c1 c2 d0 d1 d2 f0 f1 f2 hb0 aA;rintro e w3 ⟨rfl,hb⟩;replace ow:=ow.next hb;clear hb;obtain⟨c0,c1,c2,d0,d1,d2,f0,f1,f2,hb0,aA⟩:=id ow))
 refine bodyPost_ret (v:= .tuple #[.agg #[.int .i64 (3),.int .i64 (q),.int .i64 (0)],.int .i64 (0)]) ?_ rfl ⟨rfl,((hb0.setCell (by simp) _).setCell (by simp) _).setCell (by simp) _⟩
 simp[results,results82,go_sem,d0,d1,d2,c0,c1,c2]
theorem Gt(a b c s:Int)(h:aY a b c=true)(q r:Int)(hq:(s - 2).tdiv (2+b+c)=q)(hr:(s - 2).tmod (2+b+c)=r)(q0:0<=q)(q1:q<=2000)(r0:0<=r)(r1:r<2+b+c)(hs2:2<=s)(hs3:s<2+a*(2+b+c))(hz:2<=r)(hz2:r<2+b)(w:World):Calls prog 82 #[.agg #[.int .i64 a,.int .i64 b,.int .i64 c],.int .i64 s] w fun e w'=>e= .returned (.tuple #[.agg #[.int .i64 (4),.int .i64 (q),.int .i64 (r - 2)],.int .i64 (0)])/\Below w.heap.size w w':=by
 obtain⟨h1,h2,h3,h4,h5,h6⟩:=b8.1 h;obtain⟨m1,m2⟩:=fL h;have hC: ∀W,Calls prog 111 #[.agg #[.int .i64 a,.int .i64 b,.int .i64 c]] W fun e w'=>e= .returned (.int .i64 0)/\Below W.heap.size W w':=fun W=>by have:=dD a b c W;rwa [h,cV]at this
 have hT: ∀W,Calls prog 147 #[.agg #[.int .i64 a,.int .i64 b,.int .i64 c]] W fun e w'=>e= .returned (.int .i64 (2+a*(2+b+c)))/\Below W.heap.size W w':=fun W=>by have:=gQ a b c W;rwa [show dL a b c=2+a*(2+b+c)by unfold dL;rw[if_pos h]]at this
 clear h;have hs:0<=s:=by omega
 have hd: ¬(2+b+c=0):=by omega
 have hz3:(r==0)=false:=by simp;omega
 have hz4:(r==1)=false:=by simp;omega
 go_enter func82,ntmps82
 go_wp2_with (first
  |(go_at_call 111;refine(hC _).mono ?_;rintro e w2 ⟨rfl,hb⟩;have ow:=Own.first hb;clear hb;obtain⟨c0,c1,c2,d0,d1,d2,f0,f1,f2,hb0,aA⟩:=id ow)
  |(go_at_call 147;refine(hT _).mono ?_;clear c0 c1 c2 d0 d1 d2 f0 f1 f2 hb0 aA;rintro e w3 ⟨rfl,hb⟩;replace ow:=ow.next hb;clear hb;obtain⟨c0,c1,c2,d0,d1,d2,f0,f1,f2,hb0,aA⟩:=id ow))
 refine bodyPost_ret (v:= .tuple #[.agg #[.int .i64 (4),.int .i64 (q),.int .i64 (r - 2)],.int .i64 (0)]) ?_ rfl ⟨rfl,((hb0.setCell (by simp) _).setCell (by simp) _).setCell (by simp) _⟩
 simp[results,results82,go_sem,d0,d1,d2,c0,c1,c2]
theorem Fe(a b c s:Int)(h:aY a b c=true)(q r:Int)(hq:(s - 2).tdiv (2+b+c)=q)(hr:(s - 2).tmod (2+b+c)=r)(q0:0<=q)(q1:q<=2000)(r0:0<=r)(r1:r<2+b+c)(hs2:2<=s)(hs3:s<2+a*(2+b+c))(hz:2+b<=r)(w:World):Calls prog 82 #[.agg #[.int .i64 a,.int .i64 b,.int .i64 c],.int .i64 s] w fun e w'=>e= .returned (.tuple #[.agg #[.int .i64 (0),.int .i64 (q),.int .i64 (r - 2 - b)],.int .i64 (0)])/\Below w.heap.size w w':=by
 obtain⟨h1,h2,h3,h4,h5,h6⟩:=b8.1 h;obtain⟨m1,m2⟩:=fL h;have hC: ∀W,Calls prog 111 #[.agg #[.int .i64 a,.int .i64 b,.int .i64 c]] W fun e w'=>e= .returned (.int .i64 0)/\Below W.heap.size W w':=fun W=>by have:=dD a b c W;rwa [h,cV]at this
 have hT: ∀W,Calls prog 147 #[.agg #[.int .i64 a,.int .i64 b,.int .i64 c]] W fun e w'=>e= .returned (.int .i64 (2+a*(2+b+c)))/\Below W.heap.size W w':=fun W=>by have:=gQ a b c W;rwa [show dL a b c=2+a*(2+b+c)by unfold dL;rw[if_pos h]]at this
 clear h;have hs:0<=s:=by omega
 have hd: ¬(2+b+c=0):=by omega
 have hz3:(r==0)=false:=by simp;omega
 have hz4:(r==1)=false:=by simp;omega
 go_enter func82,ntmps82
 go_wp2_with (first
  |(go_at_call 111;refine(hC _).mono ?_;rintro e w2 ⟨rfl,hb⟩;have ow:=Own.first hb;clear hb;obtain⟨c0,c1,c2,d0,d1,d2,f0,f1,f2,hb0,aA⟩:=id ow)
  |(go_at_call 147;refine(hT _).mono ?_;clear c0 c1 c2 d0 d1 d2 f0 f1 f2 hb0 aA;rintro e w3 ⟨rfl,hb⟩;replace ow:=ow.next hb;clear hb;obtain⟨c0,c1,c2,d0,d1,d2,f0,f1,f2,hb0,aA⟩:=id ow))
 refine bodyPost_ret (v:= .tuple #[.agg #[.int .i64 (0),.int .i64 (q),.int .i64 (r - 2 - b)],.int .i64 (0)]) ?_ rfl ⟨rfl,((hb0.setCell (by simp) _).setCell (by simp) _).setCell (by simp) _⟩
 simp[results,results82,go_sem,d0,d1,d2,c0,c1,c2]
theorem Jk{a b c s:Int}(h:aY a b c=true)(hs2:2<=s)(hs3:s<2+a*(2+b+c)):
  (s - 2).tdiv (2+b+c)=(s - 2) /(2+b+c)/\(s - 2).tmod (2+b+c)=(s - 2) %(2+b+c)/\0<=(s - 2) /(2+b+c)/\(s - 2) /(2+b+c)<=2000/\0<=(s - 2) %(2+b+c)/\(s - 2) %(2+b+c)<2+b+c:=by
 obtain⟨h1,h2,h3,h4,h5,h6⟩:=b8.1 h;obtain⟨m1,m2⟩:=fL h;refine⟨Int.tdiv_eq_ediv_of_nonneg (by omega),Int.tmod_eq_emod_of_nonneg (by omega),Int.ediv_nonneg (by omega) (by omega),?_,Int.emod_nonneg _ (by omega),Int.emod_lt_of_pos _ (by omega)⟩
 have:=Int.ediv_le_self (2+b+c) (show 0<=s - 2 by omega)
 omega
theorem sf(a b c s:Int)(w:World):Calls prog 82 #[.agg #[.int .i64 a,.int .i64 b,.int .i64 c],.int .i64 s] w fun e w'=>e= .returned (Kb (pl a b c s))/\Below w.heap.size w w':=by
 by_cases h:aY a b c=true
 ·by_cases h0:s<0
  ·rw[show pl a b c s=(0,0,0,2)by unfold pl;rw[if_neg (by omega)]]
   exact GI a b c s h h0 w
  by_cases h1:2+a*(2+b+c)<=s
  ·rw[show pl a b c s=(0,0,0,2)by unfold pl;rw[if_neg (by omega)]]
   exact FD a b c s h (by omega) h1 w
  by_cases h2:s<2
  ·rw[show pl a b c s=(1,0,s,0)by unfold pl;rw[if_pos ⟨h,by omega,by omega⟩,if_pos h2]]
   exact EA a b c s h (by omega) h2 w
  obtain⟨e1,e2,q0,q1,r0,r1⟩:=Jk h (show 2<=s by omega) (show s<2+a*(2+b+c)by omega)
  by_cases h3:(s - 2) %(2+b+c)=0
  ·rw[show pl a b c s=(2,(s - 2) /(2+b+c),0,0)by unfold pl;rw[if_pos ⟨h,by omega,by omega⟩,if_neg h2,if_pos h3]]
   exact Di a b c s h _ _ e1 e2 q0 q1 r0 r1 (by omega) (by omega) h3 w
  by_cases h4:(s - 2) %(2+b+c)=1
  ·rw[show pl a b c s=(3,(s - 2) /(2+b+c),0,0)by unfold pl;rw[if_pos ⟨h,by omega,by omega⟩,if_neg h2,if_neg h3,if_pos h4]]
   exact De a b c s h _ _ e1 e2 q0 q1 r0 r1 (by omega) (by omega) h4 w
  by_cases h5:(s - 2) %(2+b+c)<2+b
  ·rw[show pl a b c s=(4,(s - 2) /(2+b+c),(s - 2) %(2+b+c) - 2,0)by unfold pl;rw[if_pos ⟨h,by omega,by omega⟩,if_neg h2,if_neg h3,if_neg h4,if_pos h5]]
   exact Gt a b c s h _ _ e1 e2 q0 q1 r0 r1 (by omega) (by omega) (by omega) h5 w
  ·rw[show pl a b c s=(0,(s - 2) /(2+b+c),(s - 2) %(2+b+c) - 2 - b,0)by unfold pl;rw[if_pos ⟨h,by omega,by omega⟩,if_neg h2,if_neg h3,if_neg h4,if_neg h5]]
   exact Fe a b c s h _ _ e1 e2 q0 q1 r0 r1 (by omega) (by omega) (by omega) w
 ·exact FT a b c s (by simpa using h) w
def c7(a b c s:Int):Bool:=(pl a b c s).2.2.2==0 &&(pl a b c s).1==0
theorem vQ{w w2:World}{cs:Array Value}{t:TypeId}(hb:Below (w.alloc (.cells cs t)).heap.size (w.alloc (.cells cs t)) w2):Below w.heap.size w w2:=((Below.refl _ w).alloc (Nat.le_refl _) _).trans (hb.mono (by simp))
theorem YE(a b c s:Int)(w:World):Calls prog 56 #[.agg #[.int .i64 a,.int .i64 b,.int .i64 c],.int .i64 s] w fun e w'=>e= .returned (.bool (c7 a b c s))/\Below w.heap.size w w':=by
 obtain⟨⟨k,g,i,er⟩,hp⟩: ∃p,p=pl a b c s:=⟨_,rfl⟩;have hW: ∀W,Calls prog 82 #[.agg #[.int .i64 a,.int .i64 b,.int .i64 c],.int .i64 s] W fun e w'=>e= .returned (.tuple #[.agg #[.int .i64 k,.int .i64 g,.int .i64 i],.int .i64 er])/\Below W.heap.size W w':=fun W=>by have:=sf a b c s W;rwa [<-hp]at this
 rw[show c7 a b c s=(er==0 && k==0)by unfold c7;rw[<-hp]]
 clear hp;by_cases h1:er=0
 ·by_cases h2:k=0
  ·subst h1 h2;have h5:((0:Int)==0)=true:=rfl
   go_enter func56,ntmps56
   go_wp2_with (go_at_call 82;refine(hW _).mono ?_;rintro e w2 ⟨rfl,hb⟩;have hb0:=vQ hb;clear hb)
   go_ret
   exact⟨by simp,hb0.alloc hb0.size _⟩
  ·have h3:(k==0)=false:=by simp[h2]
   subst h1;have h5:((0:Int)==0)=true:=rfl
   go_enter func56,ntmps56
   go_wp2_with (go_at_call 82;refine(hW _).mono ?_;rintro e w2 ⟨rfl,hb⟩;have hb0:=vQ hb;clear hb)
   go_ret
   exact⟨by simp[h3],hb0.alloc hb0.size _⟩
 ·have h3:(er==0)=false:=by simp[h1]
  go_enter func56,ntmps56
  go_wp2_with (go_at_call 82;refine(hW _).mono ?_;rintro e w2 ⟨rfl,hb⟩;have hb0:=vQ hb;clear hb)
  go_ret
  exact⟨by simp[h3],hb0.alloc hb0.size _⟩
theorem Ce(a b c s:Int)(hs:s<0)(w:World):Calls prog 151 #[.agg #[.int .i64 a,.int .i64 b,.int .i64 c],.int .i64 s] w fun e w'=>e= .returned (.tuple #[.agg #[.int .i64 (0),.int .i64 (0),.int .i64 (0)],.int .i64 (2)])/\Below w.heap.size w w':=by
 go_enter func151,ntmps151
 go_wp2
 refine bodyPost_ret (v:= .tuple #[.agg #[.int .i64 (0),.int .i64 (0),.int .i64 (0)],.int .i64 (2)]) ?_ rfl ⟨rfl,?_⟩
 ·simp[results,results151,go_sem]
 ·exact((Below.refl _ _).alloc (Nat.le_refl _) _).alloc (by simp) _
theorem C7(a b c s:Int)(hs:0<=s)(hs2:dL a b c<=s)(w:World):Calls prog 151 #[.agg #[.int .i64 a,.int .i64 b,.int .i64 c],.int .i64 s] w fun e w'=>e= .returned (.tuple #[.agg #[.int .i64 (0),.int .i64 (0),.int .i64 (0)],.int .i64 (2)])/\Below w.heap.size w w':=by
 have hT: ∀W,Calls prog 143 #[.agg #[.int .i64 a,.int .i64 b,.int .i64 c]] W fun e w'=>e= .returned (.int .i64 (dL a b c))/\Below W.heap.size W w':=fun W=>gE a b c W
 obtain⟨T,hTT⟩: ∃T,T=dL a b c:=⟨_,rfl⟩;rw[<-hTT]at hT hs2;clear hTT
 go_enter func151,ntmps151
 go_wp2_with (first
  |(go_at_call 143;refine(hT _).mono ?_;rintro e w2 ⟨rfl,hb⟩;have ow:=Own.first hb;clear hb;obtain⟨c0,c1,c2,d0,d1,d2,f0,f1,f2,hb0,aA⟩:=id ow))
 refine bodyPost_ret (v:= .tuple #[.agg #[.int .i64 (0),.int .i64 (0),.int .i64 (0)],.int .i64 (2)]) ?_ rfl ⟨rfl,((hb0.setCell (by simp) _).setCell (by simp) _).setCell (by simp) _⟩
 simp[results,results151,go_sem,d0,d1,d2,c0,c1,c2]
theorem P8(a b c s:Int)(hs:0<=s)(hs2:s<dL a b c)(hs4:s<2)(w:World):Calls prog 151 #[.agg #[.int .i64 a,.int .i64 b,.int .i64 c],.int .i64 s] w fun e w'=>e= .returned (.tuple #[.agg #[.int .i64 (1),.int .i64 (0),.int .i64 (s)],.int .i64 (0)])/\Below w.heap.size w w':=by
 have hT: ∀W,Calls prog 143 #[.agg #[.int .i64 a,.int .i64 b,.int .i64 c]] W fun e w'=>e= .returned (.int .i64 (dL a b c))/\Below W.heap.size W w':=fun W=>gE a b c W
 obtain⟨T,hTT⟩: ∃T,T=dL a b c:=⟨_,rfl⟩;rw[<-hTT]at hT hs2;clear hTT
 go_enter func151,ntmps151
 go_wp2_with (first
  |(go_at_call 143;refine(hT _).mono ?_;rintro e w2 ⟨rfl,hb⟩;have ow:=Own.first hb;clear hb;obtain⟨c0,c1,c2,d0,d1,d2,f0,f1,f2,hb0,aA⟩:=id ow))
 refine bodyPost_ret (v:= .tuple #[.agg #[.int .i64 (1),.int .i64 (0),.int .i64 (s)],.int .i64 (0)]) ?_ rfl ⟨rfl,((hb0.setCell (by simp) _).setCell (by simp) _).setCell (by simp) _⟩
 simp[results,results151,go_sem,d0,d1,d2,c0,c1,c2]
theorem Own.alloc {w W:World}{x y z x' y' z':Value}(h:Own w W x y z x' y' z')(o:Obj):Own w (W.alloc o) x y z x' y' z':=h.next ((Below.refl _ _).alloc (Nat.le_refl _) _)
theorem Aa{W W':World}{p q r:Value}{t:TypeId}(hb:Below (W.alloc (.cells #[p,q,r] t)).heap.size (W.alloc (.cells #[p,q,r] t)) W'):
  W'.cell? ⟨W.heap.size,0,none⟩=some p/\W'.cell? ⟨W.heap.size,1,none⟩=some q/\W'.cell? ⟨W.heap.size,2,none⟩=some r/\W'.frozen? ⟨W.heap.size,0,none⟩=false/\W'.frozen? ⟨W.heap.size,1,none⟩=false/\W'.frozen? ⟨W.heap.size,2,none⟩=false/\W.heap.size<W'.heap.size:=
 ⟨(hb.cell (by simp)).trans (mr rfl),(hb.cell (by simp)).trans (mr rfl),(hb.cell (by simp)).trans (mr rfl),(hb.frozen (by simp)).trans n4,(hb.frozen (by simp)).trans n4,(hb.frozen (by simp)).trans n4,by have:=hb.size;simp at this;omega⟩
theorem KA(a b c s:Int)(h:aY a b c=true)(q r:Int)(hq:(s - 2).tdiv (2+b+c)=q)(hr:(s - 2).tmod (2+b+c)=r)(q0:0<=q)(q1:q<=2000)(r0:0<=r)(r1:r<2+b+c)(hs2:2<=s)(hs3:s<2+a*(2+b+c))(hz:r=0)(w:World):
  Calls prog 151 #[.agg #[.int .i64 a,.int .i64 b,.int .i64 c],.int .i64 s] w fun e w'=>e= .returned (.tuple #[.agg #[.int .i64 2,.int .i64 q,.int .i64 0],.int .i64 0])/\Below w.heap.size w w':=by
 obtain⟨h1,h2,h3,h4,h5,h6⟩:=b8.1 h;obtain⟨m1,m2⟩:=fL h;have hT: ∀W,Calls prog 143 #[.agg #[.int .i64 a,.int .i64 b,.int .i64 c]] W fun e w'=>e= .returned (.int .i64 (2+a*(2+b+c)))/\Below W.heap.size W w':=fun W=>by have:=gE a b c W;rwa [show dL a b c=2+a*(2+b+c)by unfold dL;rw[if_pos h]]at this
 have hS: ∀W,Calls prog 215 #[.agg #[.int .i64 a,.int .i64 b,.int .i64 c]] W fun e w'=>e= .returned (.int .i64 (2+b+c))/\Below W.heap.size W w':=fun W=>pI a b c h W
 clear h;have hs:0<=s:=by omega
 have hd: ¬(2+b+c=0):=by omega
 subst hz
 go_enter func151,ntmps151
 go_wp2_with (first
  |(go_at_call 143;refine(hT _).mono ?_;rintro e w2 ⟨rfl,hb⟩;have ow:=Own.first hb;clear hb;obtain⟨c0,c1,c2,d0,d1,d2,f0,f1,f2,hb0,aA⟩:=id ow)
  |(go_at_call 215;have _:=hw3;refine(hS _).mono ?_;clear c0 c1 c2 d0 d1 d2 f0 f1 f2 hb0 aA;rintro e w4 ⟨rfl,hb⟩;obtain⟨p0,p1,p2,g0,g1,g2,hl2⟩:=Aa hb;replace ow:=(ow.alloc _).next hb;clear hb;obtain⟨c0,c1,c2,d0,d1,d2,f0,f1,f2,hb0,aA⟩:=id ow)
  |(go_at_call 215;refine(hS _).mono ?_;clear c0 c1 c2 d0 d1 d2 f0 f1 f2 hb0 aA;rintro e w3 ⟨rfl,hb⟩;replace ow:=ow.next hb;clear hb;have hw3:=trivial;obtain⟨c0,c1,c2,d0,d1,d2,f0,f1,f2,hb0,aA⟩:=id ow;have hl0:w.heap.size<w3.heap.size:=(by omega);have hn1: ¬(w.heap.size+1=w3.heap.size):=(by omega);have hn2: ¬(w3.heap.size=w.heap.size+1):=by omega))
 refine bodyPost_ret (v:= .tuple #[.agg #[.int .i64 2,.int .i64 q,.int .i64 0],.int .i64 0]) ?_ rfl ⟨rfl,(((hb0.setCell (by simpa using Nat.le_of_lt hl0) _).setCell (by simp) _).setCell (by simp) _).setCell (by simp) _⟩
 simp[results,results151,go_sem,d0,d1,d2,hn1,hn2]
theorem La(a b c s:Int)(h:aY a b c=true)(q r:Int)(hq:(s - 2).tdiv (2+b+c)=q)(hr:(s - 2).tmod (2+b+c)=r)(q0:0<=q)(q1:q<=2000)(r0:0<=r)(r1:r<2+b+c)(hs2:2<=s)(hs3:s<2+a*(2+b+c))(hz:r=1)(w:World):
  Calls prog 151 #[.agg #[.int .i64 a,.int .i64 b,.int .i64 c],.int .i64 s] w fun e w'=>e= .returned (.tuple #[.agg #[.int .i64 3,.int .i64 q,.int .i64 0],.int .i64 0])/\Below w.heap.size w w':=by
 obtain⟨h1,h2,h3,h4,h5,h6⟩:=b8.1 h;obtain⟨m1,m2⟩:=fL h;have hT: ∀W,Calls prog 143 #[.agg #[.int .i64 a,.int .i64 b,.int .i64 c]] W fun e w'=>e= .returned (.int .i64 (2+a*(2+b+c)))/\Below W.heap.size W w':=fun W=>by have:=gE a b c W;rwa [show dL a b c=2+a*(2+b+c)by unfold dL;rw[if_pos h]]at this
 have hS: ∀W,Calls prog 215 #[.agg #[.int .i64 a,.int .i64 b,.int .i64 c]] W fun e w'=>e= .returned (.int .i64 (2+b+c))/\Below W.heap.size W w':=fun W=>pI a b c h W
 clear h;have hs:0<=s:=by omega
 have hd: ¬(2+b+c=0):=by omega
 subst hz
 go_enter func151,ntmps151
 go_wp2_with (first
  |(go_at_call 143;refine(hT _).mono ?_;rintro e w2 ⟨rfl,hb⟩;have ow:=Own.first hb;clear hb;obtain⟨c0,c1,c2,d0,d1,d2,f0,f1,f2,hb0,aA⟩:=id ow)
  |(go_at_call 215;have _:=hw3;refine(hS _).mono ?_;clear c0 c1 c2 d0 d1 d2 f0 f1 f2 hb0 aA;rintro e w4 ⟨rfl,hb⟩;obtain⟨p0,p1,p2,g0,g1,g2,hl2⟩:=Aa hb;replace ow:=(ow.alloc _).next hb;clear hb;obtain⟨c0,c1,c2,d0,d1,d2,f0,f1,f2,hb0,aA⟩:=id ow)
  |(go_at_call 215;refine(hS _).mono ?_;clear c0 c1 c2 d0 d1 d2 f0 f1 f2 hb0 aA;rintro e w3 ⟨rfl,hb⟩;replace ow:=ow.next hb;clear hb;have hw3:=trivial;obtain⟨c0,c1,c2,d0,d1,d2,f0,f1,f2,hb0,aA⟩:=id ow;have hl0:w.heap.size<w3.heap.size:=(by omega);have hn1: ¬(w.heap.size+1=w3.heap.size):=(by omega);have hn2: ¬(w3.heap.size=w.heap.size+1):=by omega))
 refine bodyPost_ret (v:= .tuple #[.agg #[.int .i64 3,.int .i64 q,.int .i64 0],.int .i64 0]) ?_ rfl ⟨rfl,((((hb0.setCell (by simpa using Nat.le_of_lt hl0) _).setCell (by simp) _).setCell (by simp) _).setCell (by simp) _)⟩
 simp[results,results151,go_sem,d0,d1,d2,hn1,hn2]
theorem Qh(a b c s:Int)(h:aY a b c=true)(q r:Int)(hq:(s - 2).tdiv (2+b+c)=q)(hr:(s - 2).tmod (2+b+c)=r)(q0:0<=q)(q1:q<=2000)(r0:0<=r)(r1:r<2+b+c)(hs2:2<=s)(hs3:s<2+a*(2+b+c))(hz:2<=r)(hz2:r<2+b)(w:World):
  Calls prog 151 #[.agg #[.int .i64 a,.int .i64 b,.int .i64 c],.int .i64 s] w fun e w'=>e= .returned (.tuple #[.agg #[.int .i64 4,.int .i64 q,.int .i64 (r - 2)],.int .i64 0])/\Below w.heap.size w w':=by
 obtain⟨h1,h2,h3,h4,h5,h6⟩:=b8.1 h;obtain⟨m1,m2⟩:=fL h;have hT: ∀W,Calls prog 143 #[.agg #[.int .i64 a,.int .i64 b,.int .i64 c]] W fun e w'=>e= .returned (.int .i64 (2+a*(2+b+c)))/\Below W.heap.size W w':=fun W=>by have:=gE a b c W;rwa [show dL a b c=2+a*(2+b+c)by unfold dL;rw[if_pos h]]at this
 have hS: ∀W,Calls prog 215 #[.agg #[.int .i64 a,.int .i64 b,.int .i64 c]] W fun e w'=>e= .returned (.int .i64 (2+b+c))/\Below W.heap.size W w':=fun W=>pI a b c h W
 clear h;have hs:0<=s:=by omega
 have hd: ¬(2+b+c=0):=by omega
 have hz3:(r==0)=false:=by simp;omega
 have hz4:(r==1)=false:=by simp;omega
 go_enter func151,ntmps151
 go_wp2_with (first
  |(go_at_call 143;refine(hT _).mono ?_;rintro e w2 ⟨rfl,hb⟩;have ow:=Own.first hb;clear hb;obtain⟨c0,c1,c2,d0,d1,d2,f0,f1,f2,hb0,aA⟩:=id ow)
  |(go_at_call 215;have _:=hw3;refine(hS _).mono ?_;clear c0 c1 c2 d0 d1 d2 f0 f1 f2 hb0 aA;rintro e w4 ⟨rfl,hb⟩;obtain⟨p0,p1,p2,g0,g1,g2,hl2⟩:=Aa hb;replace ow:=(ow.alloc _).next hb;clear hb;obtain⟨c0,c1,c2,d0,d1,d2,f0,f1,f2,hb0,aA⟩:=id ow)
  |(go_at_call 215;refine(hS _).mono ?_;clear c0 c1 c2 d0 d1 d2 f0 f1 f2 hb0 aA;rintro e w3 ⟨rfl,hb⟩;replace ow:=ow.next hb;clear hb;have hw3:=trivial;obtain⟨c0,c1,c2,d0,d1,d2,f0,f1,f2,hb0,aA⟩:=id ow;have hl0:w.heap.size<w3.heap.size:=(by omega);have hn1: ¬(w.heap.size+1=w3.heap.size):=(by omega);have hn2: ¬(w3.heap.size=w.heap.size+1):=by omega))
 refine bodyPost_ret (v:= .tuple #[.agg #[.int .i64 4,.int .i64 q,.int .i64 (r - 2)],.int .i64 0]) ?_ rfl ⟨rfl,(((((hb0.setCell (by simpa using Nat.le_of_lt hl0) _).setCell (by simpa using Nat.le_of_lt hl0) _).setCell (by simp) _).setCell (by simp) _).setCell (by simp) _)⟩
 simp[results,results151,go_sem,d0,d1,d2,hn1,hn2]
theorem Og(a b c s:Int)(h:aY a b c=true)(q r:Int)(hq:(s - 2).tdiv (2+b+c)=q)(hr:(s - 2).tmod (2+b+c)=r)(q0:0<=q)(q1:q<=2000)(r0:0<=r)(r1:r<2+b+c)(hs2:2<=s)(hs3:s<2+a*(2+b+c))(hz:2+b<=r)(w:World):
  Calls prog 151 #[.agg #[.int .i64 a,.int .i64 b,.int .i64 c],.int .i64 s] w fun e w'=>e= .returned (.tuple #[.agg #[.int .i64 0,.int .i64 q,.int .i64 (r - 2 - b)],.int .i64 0])/\Below w.heap.size w w':=by
 obtain⟨h1,h2,h3,h4,h5,h6⟩:=b8.1 h;obtain⟨m1,m2⟩:=fL h;have hT: ∀W,Calls prog 143 #[.agg #[.int .i64 a,.int .i64 b,.int .i64 c]] W fun e w'=>e= .returned (.int .i64 (2+a*(2+b+c)))/\Below W.heap.size W w':=fun W=>by have:=gE a b c W;rwa [show dL a b c=2+a*(2+b+c)by unfold dL;rw[if_pos h]]at this
 have hS: ∀W,Calls prog 215 #[.agg #[.int .i64 a,.int .i64 b,.int .i64 c]] W fun e w'=>e= .returned (.int .i64 (2+b+c))/\Below W.heap.size W w':=fun W=>pI a b c h W
 clear h;have hs:0<=s:=by omega
 have hd: ¬(2+b+c=0):=by omega
 have hz3:(r==0)=false:=by simp;omega
 have hz4:(r==1)=false:=by simp;omega
 have i1:i64.wrap (r - 2)=r - 2:=IntWalk.i64_in _ (by omega)
 have i2:i64.wrap (r - 2 - b)=r - 2 - b:=IntWalk.i64_in _ (by omega)
 go_enter func151,ntmps151
 go_wp2_with (first
  |(go_at_call 143;refine(hT _).mono ?_;rintro e w2 ⟨rfl,hb⟩;have ow:=Own.first hb;clear hb;obtain⟨c0,c1,c2,d0,d1,d2,f0,f1,f2,hb0,aA⟩:=id ow)
  |(go_at_call 215;have _:=hw3;refine(hS _).mono ?_;clear c0 c1 c2 d0 d1 d2 f0 f1 f2 hb0 aA;rintro e w4 ⟨rfl,hb⟩;obtain⟨p0,p1,p2,g0,g1,g2,hl2⟩:=Aa hb;replace ow:=(ow.alloc _).next hb;clear hb;obtain⟨c0,c1,c2,d0,d1,d2,f0,f1,f2,hb0,aA⟩:=id ow)
  |(go_at_call 215;refine(hS _).mono ?_;clear c0 c1 c2 d0 d1 d2 f0 f1 f2 hb0 aA;rintro e w3 ⟨rfl,hb⟩;replace ow:=ow.next hb;clear hb;have hw3:=trivial;obtain⟨c0,c1,c2,d0,d1,d2,f0,f1,f2,hb0,aA⟩:=id ow;have hl0:w.heap.size<w3.heap.size:=(by omega);have hn1: ¬(w.heap.size+1=w3.heap.size):=(by omega);have hn2: ¬(w3.heap.size=w.heap.size+1):=by omega))
 go_region
 all_goals
  go_wp2
  refine bodyPost_ret (v:= .tuple #[.agg #[.int .i64 0,.int .i64 q,.int .i64 (r - 2 - b)],.int .i64 0]) ?_ rfl ⟨rfl,((((hb0.drew.setCell (by simpa using Nat.le_of_lt hl0) _).setCell (by simpa using Nat.le_of_lt hl0) _).setCell (by simp) _).setCell (by simp) _).setCell (by simp) _⟩
  simp[results,results151,go_sem,d0,d1,d2,hn1,hn2]
theorem sq(a b c s:Int)(w:World):Calls prog 151 #[.agg #[.int .i64 a,.int .i64 b,.int .i64 c],.int .i64 s] w fun e w'=>e= .returned (Kb (pl a b c s))/\Below w.heap.size w w':=by
 by_cases h:aY a b c=true
 ·by_cases h0:s<0
  ·rw[show pl a b c s=(0,0,0,2)by unfold pl;rw[if_neg (by omega)]]
   exact Ce a b c s h0 w
  by_cases h1:2+a*(2+b+c)<=s
  ·rw[show pl a b c s=(0,0,0,2)by unfold pl;rw[if_neg (by omega)]]
   exact C7 a b c s (by omega) (by unfold dL;rw[if_pos h];exact h1) w
  by_cases h2:s<2
  ·rw[show pl a b c s=(1,0,s,0)by unfold pl;rw[if_pos ⟨h,by omega,by omega⟩,if_pos h2]]
   exact P8 a b c s (by omega) (by unfold dL;rw[if_pos h];omega) h2 w
  obtain⟨e1,e2,q0,q1,r0,r1⟩:=Jk h (show 2<=s by omega) (show s<2+a*(2+b+c)by omega)
  by_cases h3:(s - 2) %(2+b+c)=0
  ·rw[show pl a b c s=(2,(s - 2) /(2+b+c),0,0)by unfold pl;rw[if_pos ⟨h,by omega,by omega⟩,if_neg h2,if_pos h3]]
   exact KA a b c s h _ _ e1 e2 q0 q1 r0 r1 (by omega) (by omega) h3 w
  by_cases h4:(s - 2) %(2+b+c)=1
  ·rw[show pl a b c s=(3,(s - 2) /(2+b+c),0,0)by unfold pl;rw[if_pos ⟨h,by omega,by omega⟩,if_neg h2,if_neg h3,if_pos h4]]
   exact La a b c s h _ _ e1 e2 q0 q1 r0 r1 (by omega) (by omega) h4 w
  by_cases h5:(s - 2) %(2+b+c)<2+b
  ·rw[show pl a b c s=(4,(s - 2) /(2+b+c),(s - 2) %(2+b+c) - 2,0)by unfold pl;rw[if_pos ⟨h,by omega,by omega⟩,if_neg h2,if_neg h3,if_neg h4,if_pos h5]]
   exact Qh a b c s h _ _ e1 e2 q0 q1 r0 r1 (by omega) (by omega) (by omega) h5 w
  ·rw[show pl a b c s=(0,(s - 2) /(2+b+c),(s - 2) %(2+b+c) - 2 - b,0)by unfold pl;rw[if_pos ⟨h,by omega,by omega⟩,if_neg h2,if_neg h3,if_neg h4,if_neg h5]]
   exact Og a b c s h _ _ e1 e2 q0 q1 r0 r1 (by omega) (by omega) (by omega) w
 ·rw[show pl a b c s=(0,0,0,2)by unfold pl;rw[if_neg (by intro hh;exact h hh.1)]]
  by_cases h0:s<0
  ·exact Ce a b c s h0 w
  ·exact C7 a b c s (by omega) (by unfold dL;rw[if_neg h];omega) w
theorem Yh(a b c s:Int)(bP:0<=s)(hs1:s<65536)(w:World):Calls prog 146 #[.agg #[.int .i64 a,.int .i64 b,.int .i64 c],.int .u16 s] w fun e w'=>e= .returned (.bool (c7 a b c s))/\Below w.heap.size w w':=by
 obtain⟨⟨k,g,i,er⟩,hp⟩: ∃p,p=pl a b c s:=⟨_,rfl⟩;have hW: ∀W,Calls prog 151 #[.agg #[.int .i64 a,.int .i64 b,.int .i64 c],.int .i64 s] W fun e w'=>e= .returned (.tuple #[.agg #[.int .i64 k,.int .i64 g,.int .i64 i],.int .i64 er])/\Below W.heap.size W w':=fun W=>by have:=sq a b c s W;rwa [<-hp]at this
 rw[show c7 a b c s=(er==0 && k==0)by unfold c7;rw[<-hp]]
 clear hp;by_cases h1:er=0
 ·by_cases h2:k=0
  ·subst h1 h2;have h5:((0:Int)==0)=true:=rfl
   go_enter func146,ntmps146
   go_wp2_with (go_at_call 151;refine(hW _).mono ?_;rintro e w2 ⟨rfl,hb⟩;have hb0:=vQ hb;clear hb)
   go_ret
   exact⟨by simp,hb0.alloc hb0.size _⟩
  ·have h3:(k==0)=false:=by simp[h2]
   subst h1;have h5:((0:Int)==0)=true:=rfl
   go_enter func146,ntmps146
   go_wp2_with (go_at_call 151;refine(hW _).mono ?_;rintro e w2 ⟨rfl,hb⟩;have hb0:=vQ hb;clear hb)
   go_ret
   exact⟨by simp[h3],hb0.alloc hb0.size _⟩
 ·have h3:(er==0)=false:=by simp[h1]
  go_enter func146,ntmps146
  go_wp2_with (go_at_call 151;refine(hW _).mono ?_;rintro e w2 ⟨rfl,hb⟩;have hb0:=vQ hb;clear hb)
  go_ret
  exact⟨by simp[h3],hb0.alloc hb0.size _⟩
end Go.Sx
