import Derived.Test.YtfceckiklfkjkaaGreatS32
noncomputable section
open Go.Proofs Go.RowKit
set_option maxRecDepth 100000
open Go.IntKind(i64 u8 u64 u32 u16)
open Go.Proofs.Tryz
namespace Go.Sx
def n27:List Nat:= [0,1,2,3,4,5,6,7,8,9,10,11,12,13,14,15,16,17,18,19,20,21,22,23,24,25,26]
def dM(p:aj)(i:Nat):Int:=gH (p.getD (2*i) 0) (p.getD (2*i+1) 0)
def gI(p:aj):List Int:=n27.map (dM p)
theorem Qg:n27=List.range 27:=by decide
theorem Cp(p:aj){i:Nat}(h:i<27):(gI p).getD i 0=dM p i:=by
 unfold gI;rw[Qg,List.getD_eq_getElem?_getD,List.getElem?_map,List.getElem?_range h]
 rfl
def ZT:RV->S->Option ax:=fun v s=>match v with| .one (.c (.aC i 1 0 27))=>s.hp.get i|_=>none
theorem Yg(p:aj):SB prog (fun f=>(mf f).map bj) 300 244 [.one (.ints .u8 p 54)] s0 ZT=some (.row 24 false (some 1) (.ints .u16 (gI (t54 (t54 p))) 27)):=by kernel_rfl
theorem SP{p:aj}(hp:p.length=54):cd prog 244 [.one (.ints .u8 p 54)] 0 .nil 1 (aN [(0,.row 24 false (some 1) (.ints .u16 (gI p) 27))]) (.one (.c (.aC 0 1 0 27))):=by
 have h:=Yg p;rw[show t54 p=p from aJ hp,show t54 p=p from aJ hp]at h
 obtain⟨v,s',L,h1,ci⟩:=QL eM (fun nm _=>T.get_nil nm) h
 unfold ZT at h1;split at h1
 ·exact aU.ae7 (by rfl) ci h1 (fun ρ ρ' c o ⟨vs,tail,fr,e1,e2,e3⟩=>⟨vs,tail,fr,e1,e2,e3⟩) rfl
 ·cases h1
def MR:List RV->T ax->Nat->Option GS:=fun args _ _=>match args with
 | [.one (.ints .u8 p 54)]=>some ⟨0,[],[.one (.ints .u8 p 54)],.nil,1,aN [(0,.row 24 false (some 1) (.ints .u16 (gI p) 27))],.one (.c (.aC 0 1 0 27)),[p.length=54]⟩
 |_=>none
theorem QP:aI prog 244 (cC MR):=dT ⟨_,func244,rfl⟩ fun args hp nx g h bB=>by
 unfold MR at h;split at h<;>try(cases h;done)
 cases h;exact⟨SP bB.1,fun i x hx=>by cases hx⟩
def afb(p:aj)(i:Int)(Q:RV->Prop):ai:=cO prog mf 300 281 [.one (.ints .u8 p 54),.one (.c (.int .i64 i)),.one (.c (.int .u16 0))] s0 aO fun v _ Z=>some (aw Z.ob/\Q v)
abbrev jJ(i:Int):Int:=i64.wrap (2*i)
abbrev rL(i:Int):Nat:=eQ (some (54 - (jJ i).toNat)) 2
abbrev Bc(i:Int):Nat:=if 54=(jJ i).toNat then 0 else 0+(jJ i).toNat*1
def Rj(p:aj)(i:Int)(Q:RV->Prop):ai:=bif decide (i>=0)then bif !decide (i<27)then some (aw []/\Q (.aF [.ints .u8 bA 54,.c (.int .i64 2)]))else bif decide (0<=jJ i/\jJ i<=54)then bif decide (0+rL i*1<=2)then bif (rL i).beq 0 then some (aw []/\Q (.aF [.ints .u8 (t54 (aB bA 0 (t54 p))) 54,.c (.int .i64 0)]))else bif decide (Bc i+rL i*1<=54)then some (aw []/\Q (.aF [.ints .u8 (t54 (aB bA 0 (t54 (aB p (Bc i) (List.take (rL i*1) (List.drop 0 (aB [0,0] 0 (List.take 2 (List.drop 0 (aB [0,0] 0 (([0,0].set 0 0).set 1 0))))))))))) 54,.c (.int .i64 0)]))else none else none else none else some (aw []/\Q (.aF [.ints .u8 bA 54,.c (.int .i64 2)]))
theorem RZ(p:aj)(i:Int)(Q:RV->Prop):afb p i Q=Rj p i Q:=by kernel_rfl
def gy(p:aj)(i:Int):List Int:=aB p (2*i.toNat) [0,0]
theorem px{p:aj}{i:Int}(hp:p.length=54)(h:i<27):(gy p i).length=54:=by
 unfold gy;rw[pJ (by simp;omega)];exact hp
def Lq(args:List RV):Option (RV×List Prop):=match args with
 | [.one (.ints .u8 p 54),.one (.c (.int .i64 i)),.one (.c (.int .u16 z))]=>some (.aF [.ints .u8 (gy p i) 54,.c (.int .i64 0)],[0<=i/\i<27,z=0])
 |_=>none
theorem JG:cg prog 281 Lq:=by
 intro args v ps h hp ρ w vs ha;unfold Lq at h;split at h<;>try(cases h;done)
 rename_i p i z;simp only[ae,af]at h;obtain⟨rfl,rfl⟩:=h;obtain⟨⟨h0,h1⟩,rfl,_⟩:=hp;have hpl:p.length=54:=by obtain⟨_,_,h,_⟩:=ha;exact h.1
 refine cU eM (by rfl) (by rfl) (.of_eq (RZ p i _) ?_) ρ w vs ha
 unfold Rj;have x0:jJ i=2*i:=IntWalk.i64_in _ (by omega)
 have x2:rL i=2:=by
  show eQ (some (54 - (jJ i).toNat)) 2=2;rw[x0];unfold eQ;simp only;omega
 have x5:Bc i=2*i.toNat:=by
  show(if 54=(jJ i).toNat then 0 else 0+(jJ i).toNat*1)=_
  rw[x0,if_neg (by omega)];omega
 rw[x2,x5,x0];refine .yes (by simp;omega) (.no (by simp;omega) (.aZ (by simp;omega) (.aZ (by decide) (.no (by rfl) (.aZ (by simp;omega) ⟨trivial,?_⟩)))))
 have hw:=px hpl h1;have e:aB p (2*i.toNat) (List.take (2*1) (List.drop 0 (aB [0,0] 0 (List.take 2 (List.drop 0 (aB [0,0] 0 (([0,0].set 0 0).set 1 0)))))))=gy p i:=rfl;rw[e,show t54 (gy p i)=_ from aJ hw,ck hw,show t54 (gy p i)=_ from aJ hw]
def qp:FuncId->Option bg:=fun f=>match f with| 47=>some mB| 244=>some (cC MR)| 256=>some (cC Ay)| 281=>some (aL Lq)| 78=>some p8|_=>none
theorem mA:Fit prog (fun f=>(qp f).map bj):=⟨bM,aV,aI.sum fun f sm h=>by
 unfold qp at h;split at h
 ·cases h;exact jx
 ·cases h;exact QP
 ·cases h;exact sum256
 ·cases h;exact JG.sum ⟨_,func281,rfl⟩
 ·cases h;exact mi
 ·cases h⟩
def dm:Code:=gB 257
def jZ(s:Int):List RV:= [.one (.c (.ptr 0 0)),.one (.c (.int .u16 s)),.one (.c (.fn 282 [] [(6,0),(7,0)]))]
def Xr(s:Int):T RV:=match setArgs 54 (jZ s) 0 .nil some with|some t=>t|none=> .nil
theorem EC(s:Int):setArgs 54 (jZ s) 0 .nil some=some (Xr s):=by kernel_rfl
def jN:Code:=match gR (gL (gR (gR dm)))with| .block _ (.loop c)=>c|_=> .skip
section
variable(a b c:Int)(n:Nat)(sc:Int)(L:aj)(al:Int)(lm:ak)(au ar kd:Int)(aq:ak)(first s:Int)(bl q bq:aj)(i:Int)
abbrev Af(au ar kd:Int)(bc:Cell):ax:= .row 229 false none (.cells [.ptr 1 0,.ptr 3 0,.int .i64 au,.int .i64 ar,.int .i64 kd,bc])
abbrev WR(a b c:Int)(n:Nat)(sc al:Int):ax:= .row 113 false none (.cells [.int .i64 a,.int .i64 b,.int .i64 c,.aC 2 64 0 n,.int .u32 sc,.map 5,.int .i64 al])
abbrev clF:ax:= .row 137 true none (.cells [.any,.map 4,.any])
abbrev cj(bl:aj):ax:= .row 3 false (some 1) (.ints .i64 bl bl.length)
def cG(bc:Cell)(xs:List (Nat×ax)):T ax:=aN ([(0,Af au ar kd bc),(1,WR a b c n sc al),(2,.row 95 false (some 64) (.ints .u8 L (64*n))),(3,clF),(4,.aQ (some .i64) aq),(5,.aQ none lm),(6,.row 227 true none (.cells [.ptr 0 0])),(7,.row 3 true none (.ints .i64 [first] 1))]++xs)
def Xm(bc:Cell)(xs:List (Nat×ax))(nx:Nat):S:=⟨Xr s,cG a b c n sc L al lm au ar kd aq first bc xs,nx,[]⟩
def abg(s i:Int):List (Nat×RV):= [(0,.one (.c (.ptr 0 0))),(1,.one (.c (.int .u16 s))),(2,.one (.c (.fn 282 [] [(6,0),(7,0)]))),(8,.one (.c (.ptr 9 0))),(23,.one (.c (.aC 10 1 0 27))),(24,.one (.c (.int .i64 27))),(25,.one (.c (.int .i64 i)))]
abbrev qB(q:aj):ax:= .row 59 false none (.ints .u8 q 54)
abbrev tB(bq:aj):ax:= .row 24 false (some 1) (.ints .u16 bq 27)
def CW:S:=aE [0,1,2,8,23,24,25] 54 ⟨aN (abg s i),cG a b c n sc L al lm au ar kd aq first .bf [(9,qB q),(10,tB bq)],11,[]⟩
def sTx(m1 m2:Nat):S:=aE [0,1,2,8,23,24,25] 54 ⟨aN (abg s i),cG a b c n sc L al lm au ar kd aq first (.aC 11 1 0 m1) [(9,qB q),(10,tB bq),(11,.row 3 false (some 1) (.ints .i64 bl m2))],12,[]⟩
abbrev wY:S:=sTx a b c n sc L al lm au ar kd aq first s bl q bq i bl.length bl.length
end
def gg(t:T RV)(i:Nat):List Nat:=match t.get i with|some (.one (.c (.ptr nm _)))=> [nm]|some (.one (.c (.aC nm _ _ _)))=> [nm]|_=> []
def ny(hp:T ax):List Nat:=match hp.get 0 with|some (.row _ _ _ (.cells [_,_,_,_,_,.aC nm _ _ _]))=> [nm]|_=> []
def iv:S->List Nat:=fun s=>gg s.sl 8++(gg s.sl 23++ny s.hp)
section
variable(a b c:Int)(n:Nat)(sc:Int)(L:aj)(al:Int)(lm:ak)(au ar kd:Int)(aq:ak)(first s:Int)(bl q bq:aj)(i:Int)
def acS(Q:ag):ai:=az prog qp 300 54 jN (CW a b c n sc L al lm au ar kd aq first s q bq i) aO (bN 9 [0,1,2,8,23,24,25] 54 iv Q)
def ad4(Q:ag):ai:=az prog qp 300 54 jN (wY a b c n sc L al lm au ar kd aq first s bl q bq i) aO (bN 9 [0,1,2,8,23,24,25] 54 iv Q)
def Jn(Q:ag):ai:=bif decide (i<27)then bif decide (0<=i/\i<27)then bif decide (0+i.toNat*1<27)then bif bq.getD (0+i.toNat*1) 0 !=0 then bif decide (i64.wrap ([first].getD 0 0+i)>=ar)then some (aw [0<=i/\i<27,(0:Int)=0]/\Q .normal (CW a b c n sc L al lm au ar kd aq first s (aB q 0 (gy (t54 q) i)) bq (i64.wrap (i+1))))else bif !dE a b c n L aq (bq.getD (0+i.toNat*1) 0) kd then some (aw [0<=i/\i<27,(0:Int)=0,(bq.getD (0+i.toNat*1) 0:Int)=bq.getD (0+i.toNat*1) 0,kd=kd,lm=lm,aq=aq,L=L,64*n=64*n,a=a,b=b,c=c,n=n,sc=sc,al=al,au=au,L.length=64*n,Fi.bh (bq.getD (0+i.toNat*1) 0)]/\Q .normal (CW a b c n sc L al lm au ar kd (cw a b c n L au aq (bq.getD (0+i.toNat*1) 0) kd) first s (aB q 0 (gy (t54 q) i)) bq (i64.wrap (i+1))))else some (aw [(bq.getD (0+i.toNat*1) 0:Int)=bq.getD (0+i.toNat*1) 0,kd=kd,lm=lm,aq=aq,L=L,64*n=64*n,a=a,b=b,c=c,n=n,sc=sc,al=al,au=au,L.length=64*n,Fi.bh (bq.getD (0+i.toNat*1) 0)]/\Q .normal (sTx a b c n sc L al lm au ar kd (cw a b c n L au aq (bq.getD (0+i.toNat*1) 0) kd) first s [i64.wrap (bq.getD (0+i.toNat*1) 0)] q bq (i64.wrap (i+1)) 1 1))else some (aw []/\Q .normal (CW a b c n sc L al lm au ar kd aq first s q bq (i64.wrap (i+1))))else none else none else some (aw []/\Q (.exit 0) (CW a b c n sc L al lm au ar kd aq first s q bq i))
theorem yN(Q:ag):acS a b c n sc L al lm au ar kd aq first s q bq i Q=Jn a b c n sc L al lm au ar kd aq first s q bq i Q:=by kernel_rfl
def IZ(Q:ag):ai:=bif decide (i<27)then bif decide (0<=i/\i<27)then bif decide (0+i.toNat*1<27)then bif bq.getD (0+i.toNat*1) 0 !=0 then bif decide (i64.wrap ([first].getD 0 0+i)>=ar)then some (aw [0<=i/\i<27,(0:Int)=0]/\Q .normal (wY a b c n sc L al lm au ar kd aq first s bl (aB q 0 (gy (t54 q) i)) bq (i64.wrap (i+1))))else bif !dE a b c n L aq (bq.getD (0+i.toNat*1) 0) kd then some (aw [0<=i/\i<27,(0:Int)=0,(bq.getD (0+i.toNat*1) 0:Int)=bq.getD (0+i.toNat*1) 0,kd=kd,lm=lm,aq=aq,L=L,64*n=64*n,a=a,b=b,c=c,n=n,sc=sc,al=al,au=au,L.length=64*n,Fi.bh (bq.getD (0+i.toNat*1) 0)]/\Q .normal (wY a b c n sc L al lm au ar kd (cw a b c n L au aq (bq.getD (0+i.toNat*1) 0) kd) first s bl (aB q 0 (gy (t54 q) i)) bq (i64.wrap (i+1))))else bif decide (fits prog.types[3]! (bl.length+1)=true)then bif decide (0+bl.length*1<=bl.length)then some (aw [(bq.getD (0+i.toNat*1) 0:Int)=bq.getD (0+i.toNat*1) 0,kd=kd,lm=lm,aq=aq,L=L,64*n=64*n,a=a,b=b,c=c,n=n,sc=sc,al=al,au=au,L.length=64*n,Fi.bh (bq.getD (0+i.toNat*1) 0)]/\Q .normal (sTx a b c n sc L al lm au ar kd (cw a b c n L au aq (bq.getD (0+i.toNat*1) 0) kd) first s (List.take (bl.length*1) (List.drop 0 bl)++List.take 1 (List.drop 0 ((cx [0] 1).set 0 (i64.wrap (bq.getD (0+i.toNat*1) 0))))) q bq (i64.wrap (i+1)) (bl.length+1) (bl.length*1+1)))else none else none else some (aw []/\Q .normal (wY a b c n sc L al lm au ar kd aq first s bl q bq (i64.wrap (i+1))))else none else none else some (aw []/\Q (.exit 0) (wY a b c n sc L al lm au ar kd aq first s bl q bq i))
theorem Ak(Q:ag):ad4 a b c n sc L al lm au ar kd aq first s bl q bq i Q=IZ a b c n sc L al lm au ar kd aq first s bl q bq i Q:=by kernel_rfl
end
section
variable(a b c:Int)(n:Nat)(L:aj)(au ar kd first:Int)(p:aj)
abbrev Tb:Type:=List (Int×Int)×List Int×List Int
def lu(i:Nat)(x:Tb):Tb:=
 if dM p i=0 then x
 else if first+i<ar/\dE a b c n L x.1 (dM p i) kd=true then(bC x.1 (dM p i) au,x.2.1++ [dM p i],x.2.2)
 else(x.1,x.2.1,gy x.2.2 i)
def pj:Nat->Nat->Tb->Tb
 | 0,_,x=>x
 |m+1,i,x=>pj m (i+1) (lu a b c n L au ar kd first p i x)
end
section
variable{a b c:Int}{n:Nat}{sc:Int}{L:aj}{al:Int}{lm:ak}{au ar kd:Int}{first s:Int}{p:aj}
theorem VO{i:Nat}{x:Tb}(h:x.2.2.length=54)(hi:i<27):(lu a b c n L au ar kd first p i x).2.2.length=54:=by
 unfold lu;split
 ·exact h
 ·split
  ·exact h
  ·exact px h (by omega)
theorem Xf{i:Nat}{x:Tb}:(lu a b c n L au ar kd first p i x).2.1.length<=x.2.1.length+1:=by
 unfold lu;split
 ·omega
 ·split
  ·simp
  ·show x.2.1.length<=_;omega
def Wi(a b c:Int)(n:Nat)(sc:Int)(L:aj)(al:Int)(lm:ak)(au ar kd first s:Int)(bq:aj)(i:Int)(x:Tb):S:=match x with
 |(aq,[],q)=>CW a b c n sc L al lm au ar kd aq first s q bq i
 |(aq,z::bl,q)=>wY a b c n sc L al lm au ar kd aq first s (z::bl) q bq i
theorem Xb{aq:ak}{bl q bq:aj}{i:Int}(h:bl≠ []):Wi a b c n sc L al lm au ar kd first s bq i (aq,bl,q)=wY a b c n sc L al lm au ar kd aq first s bl q bq i:=by
 cases bl with
 |nil=>exact absurd rfl h
 |cons z l=>rfl
theorem VJ(bl:aj)(x:Int):List.take (bl.length*1) (List.drop 0 bl)++List.take 1 (List.drop 0 ((cx [0] 1).set 0 x))=bl++ [x]:=by
 rw[Nat.mul_one,List.drop_zero,List.take_length];rfl
theorem Z2:prog.types[3]!.bytes=8:=by kernel_rfl
theorem pL{m:Nat}(h:m<=100000):fits prog.types[3]! m=true:=by
 unfold fits;rw[Z2];simp only[Bool.and_eq_true,Nat.ble_eq];omega
theorem SK(hl:L.length=64*n)(hf0:0<=first)(hf1:first<=1000){s0:S}(bP:s0.nx=9){Q:ag}: ∀(m i:Nat) (x:Tb),i+m=27->x.2.2.length=54->x.2.1.length+m<=2000->
  Q (.exit 0) (Wi a b c n sc L al lm au ar kd first s (gI p) 27 (pj a b c n L au ar kd first p m i x))->TO prog 54 [] [] s0 (.loop jN) (Wi a b c n sc L al lm au ar kd first s (gI p) i x) Q:=by
 intro m
 induction m with
 |zero=>
  intro i x hi hq hb hQ;obtain rfl:i=27:=by omega
  obtain⟨aq,bl,q⟩:=x;cases bl with
  |nil=>exact TO.loop (TO.aP mA (k0:=9) bP (.of_eq (yN ..) (.no (by rfl) ⟨trivial,hQ⟩)))
  |cons z bl=>exact TO.loop (TO.aP mA (k0:=9) bP (.of_eq (Ak ..) (.no (by rfl) ⟨trivial,hQ⟩)))
 |succ m ih=>
  intro i x hi hq hb hQ;have hi27:i<27:=by omega
  have g1:(gI p).getD (0+((i:Int)).toNat*1) 0=dM p i:=by rw[Nat.zero_add,Nat.mul_one,Int.toNat_natCast];exact Cp p hi27
  have hw:i64.wrap ((i:Int)+1)=((i+1:Nat):Int):=by rw[IntWalk.i64_in _ (by omega)];rfl
  have hfi:i64.wrap ([first].getD 0 0+(i:Int))=first+i:=IntWalk.i64_in _ (by show _<=first+(i:Int)/\first+(i:Int)<=_;omega)
  have hU:Fi.bh (dM p i):=eY _ _;have hwp:i64.wrap (dM p i)=dM p i:=Fi.wrap_u16 hU;have hov:aB x.2.2 0 (gy (t54 x.2.2) i)=gy x.2.2 i:=by
   rw[show t54 x.2.2=x.2.2 from aJ hq,ij,px hq (by omega),List.drop_of_length_le (by omega),List.append_nil]
  have next:=ih (i+1) (lu a b c n L au ar kd first p i x) (by omega) (VO hq hi27) (by have:=Xf (a:=a) (b:=b) (c:=c) (n:=n) (L:=L) (au:=au) (ar:=ar) (kd:=kd) (first:=first) (p:=p) (i:=i) (x:=x);omega) hQ
  obtain⟨aq,bl,q⟩:=x;simp only at hov hq;have c1:decide ((i:Int)<27)=true:=by simp;omega
  have c2:decide (0<=(i:Int)/\(i:Int)<27)=true:=by simp;omega
  have c3:decide (0+(i:Int).toNat*1<27)=true:=by simp;omega
  have pi:0<=(i:Int)/\(i:Int)<27:=by omega
  have kept:first+(i:Int)>=ar->dM p i≠0->lu a b c n L au ar kd first p i (aq,bl,q)=(aq,bl,gy q i):=fun h h0=>by
   unfold lu;rw[if_neg h0,if_neg (fun h'=>by have:=h'.1;omega)]
  have not:dE a b c n L aq (dM p i) kd=false->dM p i≠0->lu a b c n L au ar kd first p i (aq,bl,q)=(aq,bl,gy q i):=fun h h0=>by
   unfold lu;rw[if_neg h0,if_neg (fun h'=>by rw[h]at h';exact absurd h'.2 (by simp))]
  have tko:dE a b c n L aq (dM p i) kd=false->cw a b c n L au aq (dM p i) kd=aq:=fun h=>by unfold cw;rw[h];rfl
  have tk1:dE a b c n L aq (dM p i) kd=true->cw a b c n L au aq (dM p i) kd=bC aq (dM p i) au:=fun h=>by unfold cw;rw[h];rfl
  have took: ¬first+(i:Int)>=ar->dE a b c n L aq (dM p i) kd=true->dM p i≠0->lu a b c n L au ar kd first p i (aq,bl,q)=(bC aq (dM p i) au,bl++ [dM p i],q):=fun h h' h0=>by
   unfold lu;rw[if_neg h0,if_pos ⟨by omega,h'⟩]
  have none':dM p i=0->lu a b c n L au ar kd first p i (aq,bl,q)=(aq,bl,q):=fun h0=>by unfold lu;rw[if_pos h0]
  cases bl with
  |nil=>
   refine TO.loop (TO.aP mA (k0:=9) bP (.of_eq (yN ..) ?_));unfold Jn;rw[g1,hw,hfi,hwp,hov,c1,c2,c3];refine .yes rfl (.aZ rfl (.aZ rfl (.fork (fun h0=> ?_) (fun h0=> ?_))))
   ·have h0':dM p i≠0:=by simpa using h0
    refine .fork (fun h1=>⟨⟨pi,rfl,trivial⟩,?_⟩) (fun h1=> .fork (fun h2=> ?_) (fun h2=> ?_))
    ·rw[kept (by simpa using h1) h0']at next;exact next
    ·have h2':dE a b c n L aq (dM p i) kd=false:=by simpa using h2
     rw[not h2' h0']at next
     rw[tko h2'];exact⟨⟨pi,rfl,rfl,rfl,rfl,rfl,rfl,rfl,rfl,rfl,rfl,rfl,rfl,rfl,rfl,hl,hU,trivial⟩,next⟩
    ·have h2':dE a b c n L aq (dM p i) kd=true:=by simpa using h2
     rw[took (by simpa using h1) h2' h0']at next
     rw[tk1 h2'];exact⟨⟨rfl,rfl,rfl,rfl,rfl,rfl,rfl,rfl,rfl,rfl,rfl,rfl,rfl,hl,hU,trivial⟩,next⟩
   ·rw[none' (by simpa using h0)]at next
    exact⟨trivial,next⟩
  |cons z bl=>
   refine TO.loop (TO.aP mA (k0:=9) bP (.of_eq (Ak ..) ?_));unfold IZ;rw[g1,hw,hfi,hwp,hov,c1,c2,c3,VJ];refine .yes rfl (.aZ rfl (.aZ rfl (.fork (fun h0=> ?_) (fun h0=> ?_))))
   ·have h0':dM p i≠0:=by simpa using h0
    refine .fork (fun h1=>⟨⟨pi,rfl,trivial⟩,?_⟩) (fun h1=> .fork (fun h2=> ?_) (fun h2=> ?_))
    ·rw[kept (by simpa using h1) h0']at next;exact next
    ·have h2':dE a b c n L aq (dM p i) kd=false:=by simpa using h2
     rw[not h2' h0']at next
     rw[tko h2'];exact⟨⟨pi,rfl,rfl,rfl,rfl,rfl,rfl,rfl,rfl,rfl,rfl,rfl,rfl,rfl,rfl,hl,hU,trivial⟩,next⟩
    ·have h2':dE a b c n L aq (dM p i) kd=true:=by simpa using h2
     rw[took (by simpa using h1) h2' h0',Xb (by simp)]at next
     rw[tk1 h2'];simp only at hb;refine .aZ (decide_eq_true (pL (by omega))) (.aZ (by simp) ⟨⟨rfl,rfl,rfl,rfl,rfl,rfl,rfl,rfl,rfl,rfl,rfl,rfl,rfl,hl,hU,trivial⟩,?_⟩)
     have e:((z::bl)++ [dM p i]).length=(z::bl).length+1:=by simp
     unfold wY at next
     rw[e]at next
     rw[Nat.mul_one];exact next
   ·rw[none' (by simpa using h0)]at next
    exact⟨trivial,next⟩
end
section
variable(a b c:Int)(n:Nat)(sc:Int)(L:aj)(al:Int)(lm:ak)(au ar kd:Int)(aq:ak)(first s:Int)(bl p q bq:aj)
def Z7:S:=aE [0,1,2,6,8] 54 ⟨aN [(0,.one (.c (.ptr 0 0))),(1,.one (.c (.int .u16 s))),(2,.one (.c (.fn 282 [] [(6,0),(7,0)]))),(6,.one (.c (.ptr 9 0))),(8,.one (.c (.ptr 10 0)))],cG a b c n sc L al lm au ar kd aq first .bf [(9,qB p),(10,qB q)],11,[]⟩
def sPr:S:=aE [0,1,2,6,8] 54 ⟨aN [(0,.one (.c (.ptr 0 0))),(1,.one (.c (.int .u16 s))),(2,.one (.c (.fn 282 [] [(6,0),(7,0)]))),(6,.one (.c (.ptr 9 0))),(8,.one (.c (.ptr 10 0)))],cG a b c n sc L al lm au ar kd aq first (.aC 11 1 0 bl.length) [(9,qB p),(10,qB q),(11,cj bl)],12,[]⟩
def VV:S:=zB 8 0 (cj bl) (.row 229 false none (.cells ([.ptr 1 0,.ptr 3 0,.int .i64 au,.int .i64 ar,.int .i64 kd,.aC 8 1 0 bl.length].set 5 (.aC 9 1 0 bl.length)))) (Xm a b c n sc L al lm au ar kd aq first s (.aC 8 1 0 bl.length) [(8,cj bl)] 9)
def ac0(M:S->Prop)(R:ah):ai:=dk prog qp 300 54 2 dm (Xm a b c n sc L al lm au ar kd aq first s .bf [] 9) aO (iR 9 [0,1,2,6,8] 54 [9,10] f257.results.toList prog M R)
def adM(M:S->Prop)(R:ah):ai:=dk prog qp 300 54 2 dm (VV a b c n sc L al lm au ar kd aq first s bl) aO (iR 9 [0,1,2,6,8] 54 [10,11,9] f257.results.toList prog M R)
def acX(Q:ag):ai:=az prog qp 300 54 (gL (gL (aG 2 dm))) (Z7 a b c n sc L al lm au ar kd aq first s p q) aO (bN 9 [0,1,2,8,23,24,25] 54 iv Q)
def aeE(Q:ag):ai:=az prog qp 300 54 (gL (gL (aG 2 dm))) (sPr a b c n sc L al lm au ar kd aq first s bl p q) aO (bN 9 [0,1,2,8,23,24,25] 54 iv Q)
def aek(Q:ag):ai:=az prog qp 300 54 (gR (aG 2 dm)) (CW a b c n sc L al lm au ar kd aq first s q bq 27) aO (bN 9 [] 54 (fun s=>ny s.hp) Q)
def ac4(Q:ag):ai:=az prog qp 300 54 (gR (aG 2 dm)) (wY a b c n sc L al lm au ar kd aq first s bl q bq 27) aO (bN 9 [] 54 (fun s=>ny s.hp) Q)
theorem Oa(M:S->Prop)(R:ah):ac0 a b c n sc L al lm au ar kd aq first s M R=some (aw [L.length=64*n,64*n=64*n]/\M (Z7 a b c n sc L al lm au ar kd aq first s (aB bA 0 (aR L n (i64.wrap s) 5)) (aB bA 0 (t54 (aB bA 0 (aR L n (i64.wrap s) 5)))))):=by kernel_rfl
theorem KJ(M:S->Prop)(R:ah):adM a b c n sc L al lm au ar kd aq first s bl M R=some (aw [L.length=64*n,64*n=64*n]/\M (sPr a b c n sc L al lm au ar kd aq first s bl (aB bA 0 (aR L n (i64.wrap s) 5)) (aB bA 0 (t54 (aB bA 0 (aR L n (i64.wrap s) 5)))))):=by kernel_rfl
theorem Mc(Q:ag):acX a b c n sc L al lm au ar kd aq first s p q Q=some (aw [t54 p=t54 p,(54:Nat)=54,(t54 p).length=54]/\Q .normal (CW a b c n sc L al lm au ar kd aq first s q (gI (t54 p)) 0)):=by kernel_rfl
theorem MF(Q:ag):aeE a b c n sc L al lm au ar kd aq first s bl p q Q=some (aw [t54 p=t54 p,(54:Nat)=54,(t54 p).length=54]/\Q .normal (wY a b c n sc L al lm au ar kd aq first s bl q (gI (t54 p)) 0)):=by kernel_rfl
def RX(bc:Cell)(xs:List (Nat×ax))(nx:Nat):S:=aE [] 54 ⟨.nil,cG a b c n sc L al lm au ar kd aq first bc xs,nx,[]⟩
theorem NL(Q:ag):aek a b c n sc L al lm au ar kd aq first s q bq Q=some (aw [L.length=64*n,64*n=64*n,(t54 q).length=54]/\Q .normal (RX a b c n sc (bF a b c n sc al L lm (i64.wrap s) 5 (t54 q)).2.1 (bF a b c n sc al L lm (i64.wrap s) 5 (t54 q)).2.2.2 (bF a b c n sc al L lm (i64.wrap s) 5 (t54 q)).2.2.1 au ar kd aq first .bf [] 9)):=by kernel_rfl
theorem K0(Q:ag):ac4 a b c n sc L al lm au ar kd aq first s bl q bq Q=some (aw [L.length=64*n,64*n=64*n,(t54 q).length=54]/\Q .normal (RX a b c n sc (bF a b c n sc al L lm (i64.wrap s) 5 (t54 q)).2.1 (bF a b c n sc al L lm (i64.wrap s) 5 (t54 q)).2.2.2 (bF a b c n sc al L lm (i64.wrap s) 5 (t54 q)).2.2.1 au ar kd aq first (.aC 9 1 0 bl.length) [(9,cj bl)] 10)):=by kernel_rfl
theorem Kh(bc:Cell)(xs:List (Nat×ax))(nx:Nat):ba prog 54 (RX a b c n sc L al lm au ar kd aq first bc xs nx) f257.results.toList=some []/\(RX a b c n sc L al lm au ar kd aq first bc xs nx).hp=cG a b c n sc L al lm au ar kd aq first bc xs/\(RX a b c n sc L al lm au ar kd aq first bc xs nx).nx=nx:=⟨by kernel_rfl,by kernel_rfl,by kernel_rfl⟩
theorem aaH:(Xm a b c n sc L al lm au ar kd aq first s (.aC 8 1 0 bl.length) [(8,cj bl)] 9).hp.get 8=some (cj bl)/\(Xm a b c n sc L al lm au ar kd aq first s (.aC 8 1 0 bl.length) [(8,cj bl)] 9).hp.get 0=some (.row 229 false none (.cells [.ptr 1 0,.ptr 3 0,.int .i64 au,.int .i64 ar,.int .i64 kd,.aC 8 1 0 bl.length])):=⟨by kernel_rfl,by kernel_rfl⟩
def D3(m:Nat):T ax:=match bl with| []=>cG a b c n sc L al lm au ar kd aq first .bf []|z::l=>cG a b c n sc L al lm au ar kd aq first (.aC m 1 0 (z::l).length) [(m,cj (z::l))]
end
def nS(m:Nat)(bl:aj):Nat:=match bl with| []=>m|_::_=>m+1
def bZ(a b c:Int)(n:Nat)(sc:Int)(st:St)(au ar kd first s:Int)(aq:ak)(bl:aj):St×List (Int×Int)×List Int:=
 (fP a b c n sc st s 5 (pj a b c n st.1 au ar kd first (aR st.1 n s 5) 27 0 (aq,bl,aR st.1 n s 5)).2.2,(pj a b c n st.1 au ar kd first (aR st.1 n s 5) 27 0 (aq,bl,aR st.1 n s 5)).1,(pj a b c n st.1 au ar kd first (aR st.1 n s 5) 27 0 (aq,bl,aR st.1 n s 5)).2.1)
theorem DF{a b c:Int}{n:Nat}{L:aj}{au ar kd first:Int}{p:aj}: ∀(m i:Nat) (x:Tb),i+m=27->x.2.2.length=54->(pj a b c n L au ar kd first p m i x).2.2.length=54
 | 0,_,_,_,h=>h
 |m+1,i,x,hi,h=>DF m (i+1) _ (by omega) (VO h (by omega))
section
variable{a b c:Int}{n:Nat}{sc:Int}{L:aj}{al:Int}{lm:ak}{au ar kd:Int}{aq:ak}{first s:Int}{bl:aj}
abbrev iS(hs':T ax)(k':Nat):X->S->Prop:=fun x s1=>(x= .normal\/x= .ret)/\∃l,ba prog 54 s1 f257.results.toList=some l/\(c6 l= .aF []/\s1.hp=hs'/\s1.nx=k')
theorem Kg{x0 x1 x2 x3 x4 x5 x6 x7:ax}{k:Nat}(hk:8<=k){xs:List (Nat×ax)}(hx: ∀p∈xs,p.1<k): ∀p∈ [(0,x0),(1,x1),(2,x2),(3,x3),(4,x4),(5,x5),(6,x6),(7,x7)]++xs,p.1<k:=by
 intro p hp;rcases List.mem_append.1 hp with hp|hp
 ·simp only[List.mem_cons,List.not_mem_nil,or_false]at hp;rcases hp with rfl|rfl|rfl|rfl|rfl|rfl|rfl|rfl<;>simp only<;>omega
 ·exact hx p hp
theorem JD(hl:L.length=64*n)(hs:Fi.bh s)(hf0:0<=first)(hf1:first<=1000)(hb:bl.length<=1900){s0:S}(bP:s0.nx=9){hs':T ax}{k':Nat}
  (he:hs'=D3 a b c n sc (bZ a b c n sc (L,lm,al) au ar kd first s aq bl).1.1 (bZ a b c n sc (L,lm,al) au ar kd first s aq bl).1.2.2 (bZ a b c n sc (L,lm,al) au ar kd first s aq bl).1.2.1 au ar kd (bZ a b c n sc (L,lm,al) au ar kd first s aq bl).2.1 first (bZ a b c n sc (L,lm,al) au ar kd first s aq bl).2.2 9) (hk:k'=nS 9 (bZ a b c n sc (L,lm,al) au ar kd first s aq bl).2.2):
  (bl= []->TO prog 54 [] [] s0 (aG 2 dm) (Z7 a b c n sc L al lm au ar kd aq first s (aR L n s 5) (aR L n s 5)) (iS hs' k'))/\(bl≠ []->TO prog 54 [] [] s0 (aG 2 dm) (sPr a b c n sc L al lm au ar kd aq first s bl (aR L n s 5) (aR L n s 5)) (iS hs' k')):=by
 have hp:(aR L n s 5).length=54:=eH hl;have ht:t54 (aR L n s 5)=aR L n s 5:=aJ hp;have hw:i64.wrap s=s:=Fi.wrap_u16 hs;have fin:TO prog 54 [] [] s0 (.block 0 (.loop jN)) (Wi a b c n sc L al lm au ar kd first s (gI (aR L n s 5)) 0 (aq,bl,aR L n s 5)) (fS prog 54 [] [] s0 (iS hs' k') (gR (aG 2 dm))):=by
  refine TO.block (SK (Q:=fun x s'=>match x with| .exit j=>if j=0 then fS prog 54 [] [] s0 (iS hs' k') (gR (aG 2 dm)) .normal s' else fS prog 54 [] [] s0 (iS hs' k') (gR (aG 2 dm)) (.exit j) s'|x=>fS prog 54 [] [] s0 (iS hs' k') (gR (aG 2 dm)) x s') hl hf0 hf1 bP 27 0 (aq,bl,aR L n s 5) rfl hp (by simp only;omega) ?_)
  simp only[if_true];have hq:=DF (a:=a) (b:=b) (c:=c) (n:=n) (L:=L) (au:=au) (ar:=ar) (kd:=kd) (first:=first) (p:=aR L n s 5) 27 0 (aq,bl,aR L n s 5) rfl hp
  have hX:bZ a b c n sc (L,lm,al) au ar kd first s aq bl=(fP a b c n sc (L,lm,al) s 5 (pj a b c n L au ar kd first (aR L n s 5) 27 0 (aq,bl,aR L n s 5)).2.2,(pj a b c n L au ar kd first (aR L n s 5) 27 0 (aq,bl,aR L n s 5)).1,(pj a b c n L au ar kd first (aR L n s 5) 27 0 (aq,bl,aR L n s 5)).2.1):=rfl
  rw[hX]at he hk;generalize pj a b c n L au ar kd first (aR L n s 5) 27 0 (aq,bl,aR L n s 5)=x at hq he hk ⊢
  obtain⟨o',b',q'⟩:=x;have hq':t54 q'=q':=aJ hq;cases b' with
  |nil=>
   refine TO.aP mA (k0:=9) bP (.of_eq (NL ..) ⟨⟨hl,rfl,by rw[hq'];exact hq,trivial⟩,.inl rfl,?_⟩)
   rw[hq',hw];obtain⟨e1,e2,e3⟩:=Kh a b c n sc (bF a b c n sc al L lm s 5 q').2.1 (bF a b c n sc al L lm s 5 q').2.2.2 (bF a b c n sc al L lm s 5 q').2.2.1 au ar kd o' first .bf [] 9
   exact⟨_,e1,rfl,by rw[e2,he];rfl,by rw[e3,hk];rfl⟩
  |cons z b'=>
   refine TO.aP mA (k0:=9) bP (.of_eq (K0 ..) ⟨⟨hl,rfl,by rw[hq'];exact hq,trivial⟩,.inl rfl,?_⟩)
   rw[hq',hw];obtain⟨e1,e2,e3⟩:=Kh a b c n sc (bF a b c n sc al L lm s 5 q').2.1 (bF a b c n sc al L lm s 5 q').2.2.2 (bF a b c n sc al L lm s 5 q').2.2.1 au ar kd o' first (.aC 9 1 0 (z::b').length) [(9,cj (z::b'))] 10
   exact⟨_,e1,rfl,by rw[e2,he];rfl,by rw[e3,hk];rfl⟩
 constructor
 ·rintro rfl;refine TO.seq (c:=gL (aG 2 dm)) (d:=gR (aG 2 dm)) (TO.seq (c:=gL (gL (aG 2 dm))) (d:= .block 0 (.loop jN)) (TO.aP mA (k0:=9) bP (.of_eq (Mc ..) ⟨⟨rfl,rfl,by rw[ht];exact hp,trivial⟩,?_⟩)))
  rw[ht];exact fin
 ·intro bT;refine TO.seq (c:=gL (aG 2 dm)) (d:=gR (aG 2 dm)) (TO.seq (c:=gL (gL (aG 2 dm))) (d:= .block 0 (.loop jN)) (TO.aP mA (k0:=9) bP (.of_eq (MF ..) ⟨⟨rfl,rfl,by rw[ht];exact hp,trivial⟩,?_⟩)))
  rw[ht];rw[Xb bT]at fin;exact fin
theorem oc:f257.body=some dm:=by kernel_rfl
theorem yg(hl:L.length=64*n)(hs:Fi.bh s)(hf0:0<=first)(hf1:first<=1000)(hb:bl.length<=1900):
  cd prog 257 (jZ s) 9 (D3 a b c n sc L al lm au ar kd aq first bl 8) (nS 9 (bZ a b c n sc (L,lm,al) au ar kd first s aq bl).2.2)
   (D3 a b c n sc (bZ a b c n sc (L,lm,al) au ar kd first s aq bl).1.1 (bZ a b c n sc (L,lm,al) au ar kd first s aq bl).1.2.2 (bZ a b c n sc (L,lm,al) au ar kd first s aq bl).1.2.1 au ar kd (bZ a b c n sc (L,lm,al) au ar kd first s aq bl).2.1 first (bZ a b c n sc (L,lm,al) au ar kd first s aq bl).2.2 9) (.aF []):=by
 have hp:(aR L n s 5).length=54:=eH hl;have ho:aB bA 0 (aR L n s 5)=aR L n s 5:=ck hp;have ht:t54 (aR L n s 5)=aR L n s 5:=aJ hp;have hw:i64.wrap s=s:=Fi.wrap_u16 hs;cases bl with
 |nil=>
  refine TO.c8 (fn:=f257) (c:=dm) func257 oc [] (iZ (Kg (by omega) (fun p hp=>absurd hp List.not_mem_nil))) (EC s) ?_
  refine TO.eZ mA (m:=2) (k0:=9) rfl (aH:= [0,1,2,6,8]) (ord:= [9,10]) f257.results.toList (.of_eq (Oa a b c n sc L al lm au ar kd aq first s _ _) ⟨⟨hl,rfl,trivial⟩,?_⟩)
  rw[hw,ho,ht,ho];exact(JD (bl:= []) hl hs hf0 hf1 (by simp) rfl rfl rfl).1 rfl
 |cons z l=>
  refine TO.c8 (fn:=f257) (c:=dm) func257 oc [] (iZ (Kg (by omega) (fun p hp=>by simp only[List.mem_singleton]at hp;rw[hp];simp))) (EC s) ?_
  have g:=aaH a b c n sc L al lm au ar kd aq first s (z::l)
  refine TO.nT (dJ.mv 8 0 (by omega) g.1 rfl g.2 (j:=5) rfl) ?_
  show TO prog 54 [] [] _ dm (VV a b c n sc L al lm au ar kd aq first s (z::l)) _
  refine TO.eZ mA (m:=2) (k0:=9) rfl (aH:= [0,1,2,6,8]) (ord:= [10,11,9]) f257.results.toList (.of_eq (KJ a b c n sc L al lm au ar kd aq first s (z::l) _ _) ⟨⟨hl,rfl,trivial⟩,?_⟩)
  rw[hw,ho,ht,ho];exact(JD (bl:=z::l) hl hs hf0 hf1 hb rfl rfl rfl).2 (by simp)
end
def Um(v:Bool):List RV->T ax->Nat->Option GS:=fun args hp _=>match args with
 | [.one (.c (.ptr nc 0)),.one (.c (.int .u16 s)),.one (.c (.fn _ _ [(b6,_),(b7,_)]))]=>match BR hp nc,bn hp.get b7,bn hp.get nc with
  |some ((a,b,c,L,_,n,sc,al,lm),(ni,nl,nw,nf,no),au,aq),some (_,_,_,.ints .i64 [first] _),some (_,_,_,.cells [_,_,_,.int .i64 ar,.int .i64 kd,bc])=>match bc with
   | .bf=>match v with
    |false=>some ⟨9,[nc,ni,nl,nf,no,nw,b6,b7,1000000000],jZ s,cG a b c n sc L al lm au ar kd aq first .bf [],9,cG a b c n sc (bZ a b c n sc (L,lm,al) au ar kd first s aq []).1.1 (bZ a b c n sc (L,lm,al) au ar kd first s aq []).1.2.2 (bZ a b c n sc (L,lm,al) au ar kd first s aq []).1.2.1 au ar kd (bZ a b c n sc (L,lm,al) au ar kd first s aq []).2.1 first .bf [],.aF [],
      [L.length=64*n,Fi.bh s,0<=first/\first<=1000,(bZ a b c n sc (L,lm,al) au ar kd first s aq []).2.2= []]⟩
    |true=>some ⟨9,[nc,ni,nl,nf,no,nw,b6,b7,1000000000],jZ s,cG a b c n sc L al lm au ar kd aq first .bf [],10,cG a b c n sc (bZ a b c n sc (L,lm,al) au ar kd first s aq []).1.1 (bZ a b c n sc (L,lm,al) au ar kd first s aq []).1.2.2 (bZ a b c n sc (L,lm,al) au ar kd first s aq []).1.2.1 au ar kd (bZ a b c n sc (L,lm,al) au ar kd first s aq []).2.1 first (.aC 9 1 0 (bZ a b c n sc (L,lm,al) au ar kd first s aq []).2.2.length) [(9,cj (bZ a b c n sc (L,lm,al) au ar kd first s aq []).2.2)],.aF [],
      [L.length=64*n,Fi.bh s,0<=first/\first<=1000,(bZ a b c n sc (L,lm,al) au ar kd first s aq []).2.2≠ []]⟩
   | .aC nb 1 0 _=>match bn hp.get nb with
    |some (_,_,_,.ints .i64 bl _)=>some ⟨9,[nc,ni,nl,nf,no,nw,b6,b7,nb],jZ s,cG a b c n sc L al lm au ar kd aq first (.aC 8 1 0 bl.length) [(8,cj bl)],10,cG a b c n sc (bZ a b c n sc (L,lm,al) au ar kd first s aq bl).1.1 (bZ a b c n sc (L,lm,al) au ar kd first s aq bl).1.2.2 (bZ a b c n sc (L,lm,al) au ar kd first s aq bl).1.2.1 au ar kd (bZ a b c n sc (L,lm,al) au ar kd first s aq bl).2.1 first (.aC 9 1 0 (bZ a b c n sc (L,lm,al) au ar kd first s aq bl).2.2.length) [(9,cj (bZ a b c n sc (L,lm,al) au ar kd first s aq bl).2.2)],.aF [],
      [L.length=64*n,Fi.bh s,0<=first/\first<=1000,bl≠ [],bl.length<=1900]⟩
    |_=>none
   |_=>none
  |_,_,_=>none
 |_=>none
theorem NZ{a b c:Int}{n:Nat}{sc:Int}{L:aj}{al:Int}{lm:ak}{au ar kd:Int}{aq:ak}{first:Int}{bl:aj}{m:Nat}(h:bl≠ []):D3 a b c n sc L al lm au ar kd aq first bl m=cG a b c n sc L al lm au ar kd aq first (.aC m 1 0 bl.length) [(m,cj bl)]:=by
 cases bl with
 |nil=>exact absurd rfl h
 |cons z l=>rfl
theorem iG{m:Nat}{bl:aj}(h:bl≠ []):nS m bl=m+1:=by
 cases bl with
 |nil=>exact absurd rfl h
 |cons z l=>rfl
theorem WC{a b c:Int}{n:Nat}{L:aj}{au ar kd first:Int}{p:aj}: ∀(m i:Nat) (x:Tb),x.2.1≠ []->(pj a b c n L au ar kd first p m i x).2.1≠ []
 | 0,_,_,h=>h
 |m+1,i,x,h=>WC m (i+1) _ (by
  unfold lu;split
  ·exact h
  ·split
   ·simp
   ·exact h)
theorem wD{a b c:Int}{n:Nat}{sc:Int}{st:St}{au ar kd first s:Int}{aq:ak}{bl:aj}(h:bl≠ []):(bZ a b c n sc st au ar kd first s aq bl).2.2≠ []:=WC 27 0 _ h
section
variable{a b c:Int}{n:Nat}{sc:Int}{L:aj}{al:Int}{lm:ak}{au ar kd:Int}{aq:ak}{first s:Int}{bl:aj}
theorem PK(h1:L.length=64*n)(h2:Fi.bh s)(h3:0<=first/\first<=1000)(h5:(bZ a b c n sc (L,lm,al) au ar kd first s aq []).2.2= []):cd prog 257 (jZ s) 9 (cG a b c n sc L al lm au ar kd aq first .bf []) 9 (cG a b c n sc (bZ a b c n sc (L,lm,al) au ar kd first s aq []).1.1 (bZ a b c n sc (L,lm,al) au ar kd first s aq []).1.2.2 (bZ a b c n sc (L,lm,al) au ar kd first s aq []).1.2.1 au ar kd (bZ a b c n sc (L,lm,al) au ar kd first s aq []).2.1 first .bf []) (.aF []):=by
 have:=yg (sc:=sc) (al:=al) (lm:=lm) (au:=au) (ar:=ar) (kd:=kd) (aq:=aq) (a:=a) (b:=b) (c:=c) (bl:= []) h1 h2 h3.1 h3.2 (by simp)
 rw[h5]at this;exact this
theorem QV(h1:L.length=64*n)(h2:Fi.bh s)(h3:0<=first/\first<=1000)(h5:(bZ a b c n sc (L,lm,al) au ar kd first s aq []).2.2≠ []):cd prog 257 (jZ s) 9 (cG a b c n sc L al lm au ar kd aq first .bf []) 10 (cG a b c n sc (bZ a b c n sc (L,lm,al) au ar kd first s aq []).1.1 (bZ a b c n sc (L,lm,al) au ar kd first s aq []).1.2.2 (bZ a b c n sc (L,lm,al) au ar kd first s aq []).1.2.1 au ar kd (bZ a b c n sc (L,lm,al) au ar kd first s aq []).2.1 first (.aC 9 1 0 (bZ a b c n sc (L,lm,al) au ar kd first s aq []).2.2.length) [(9,cj (bZ a b c n sc (L,lm,al) au ar kd first s aq []).2.2)]) (.aF []):=by
 have:=yg (sc:=sc) (al:=al) (lm:=lm) (au:=au) (ar:=ar) (kd:=kd) (aq:=aq) (a:=a) (b:=b) (c:=c) (bl:= []) h1 h2 h3.1 h3.2 (by simp)
 rw[NZ (m:=9) h5,iG h5]at this;exact this
theorem QQ(h1:L.length=64*n)(h2:Fi.bh s)(h3:0<=first/\first<=1000)(h5:bl≠ [])(h6:bl.length<=1900):cd prog 257 (jZ s) 9 (cG a b c n sc L al lm au ar kd aq first (.aC 8 1 0 bl.length) [(8,cj bl)]) 10 (cG a b c n sc (bZ a b c n sc (L,lm,al) au ar kd first s aq bl).1.1 (bZ a b c n sc (L,lm,al) au ar kd first s aq bl).1.2.2 (bZ a b c n sc (L,lm,al) au ar kd first s aq bl).1.2.1 au ar kd (bZ a b c n sc (L,lm,al) au ar kd first s aq bl).2.1 first (.aC 9 1 0 (bZ a b c n sc (L,lm,al) au ar kd first s aq bl).2.2.length) [(9,cj (bZ a b c n sc (L,lm,al) au ar kd first s aq bl).2.2)]) (.aF []):=by
 have:=yg (sc:=sc) (al:=al) (lm:=lm) (au:=au) (ar:=ar) (kd:=kd) (aq:=aq) (a:=a) (b:=b) (c:=c) h1 h2 h3.1 h3.2 h6;rw[NZ (m:=8) h5,NZ (m:=9) (wD h5),iG (wD h5)]at this;exact this
end
theorem acm(v:Bool):aI prog 257 (cC (Um v)):=dT ⟨_,func257,rfl⟩ fun args hp nx g h bB=>by
 unfold Um at h;split at h<;>try(cases h;done)
 split at h<;>try(cases h;done)
 split at h<;>try(cases h;done)
 ·cases v with
  |false=>
   cases h;obtain⟨h1,h2,h3,h5,_⟩:=bB;exact⟨PK h1 h2 h3 h5,fun i x hx=>fv (k:=9) (Kg (by omega) (fun p hp=>absurd hp List.not_mem_nil)) hx⟩
  |true=>
   cases h;obtain⟨h1,h2,h3,h5,_⟩:=bB;exact⟨QV h1 h2 h3 h5,fun i x hx=>fv (k:=9) (Kg (by omega) (fun p hp=>absurd hp List.not_mem_nil)) hx⟩
 ·split at h<;>try(cases h;done)
  cases h;obtain⟨h1,h2,h3,h5,h6,_⟩:=bB;refine⟨QQ h1 h2 h3 h5 h6,fun i x hx=> ?_⟩
  have hx':=qW hx;rcases List.mem_append.1 hx' with h|h
  ·exact Kg (k:=9) (xs:= []) (by omega) (fun p hp=>absurd hp List.not_mem_nil) _ (List.mem_append_left _ h)
  ·rw[(af .. ▸List.mem_singleton.1 h:i=8/\_).1];exact Nat.lt_succ_self 8
def GM(v:Bool):FuncId->Option bg:=fun f=>match f with| 256=>some (cC Ay)| 257=>some (cC (Um v))|_=>none
theorem NW(v:Bool):Fit prog (fun f=>(GM v f).map bj):=⟨bM,aV,aI.sum fun f sm h=>by
 unfold GM at h;split at h
 ·cases h;exact sum256
 ·cases h;exact acm v
 ·cases h⟩
def uD:Code:=gB 225
def jY(first s:Int):List RV:= [.one (.c (.ptr 0 0)),.one (.c (.int .i64 first)),.one (.c (.int .u16 s))]
def VX(first s:Int):T RV:=match setArgs 25 (jY first s) 0 .nil some with|some t=>t|none=> .nil
theorem EI(first s:Int):setArgs 25 (jY first s) 0 .nil some=some (VX first s):=by kernel_rfl
theorem zD:f225.body=some uD:=by kernel_rfl
section
variable(a b c:Int)(n:Nat)(sc:Int)(L:aj)(al:Int)(lm:ak)(au ar kd:Int)(aq:ak)(first s:Int)(bl:aj)
def cY(bc:Cell)(xs:List (Nat×ax)):T ax:=aN ([(0,Af au ar kd bc),(1,WR a b c n sc al),(2,.row 95 false (some 64) (.ints .u8 L (64*n))),(3,clF),(4,.aQ (some .i64) aq),(5,.aQ none lm)]++xs)
def C6(bc:Cell)(xs:List (Nat×ax))(nx:Nat):S:=⟨VX first s,cY a b c n sc L al lm au ar kd aq bc xs,nx,[]⟩
def W6:S:=zB 6 0 (cj bl) (.row 229 false none (.cells ([.ptr 1 0,.ptr 3 0,.int .i64 au,.int .i64 ar,.int .i64 kd,.aC 6 1 0 bl.length].set 5 (.aC 7 1 0 bl.length)))) (C6 a b c n sc L al lm au ar kd aq first s (.aC 6 1 0 bl.length) [(6,cj bl)] 7)
def aeB(Q:ag):ai:=az prog (GM false) 300 25 uD (C6 a b c n sc L al lm au ar kd aq first s .bf [] 7) aO (bN 7 [6] 25 (fun s=>ny s.hp) Q)
def aed(Q:ag):ai:=az prog (GM true) 300 25 uD (C6 a b c n sc L al lm au ar kd aq first s .bf [] 7) aO (bN 7 [6] 25 (fun s=>ny s.hp) Q)
def agU(Q:ag):ai:=az prog (GM true) 300 25 uD (W6 a b c n sc L al lm au ar kd aq first s bl) aO (bN 7 [6] 25 (fun s=>ny s.hp) Q)
def eS(t:Bool)(bc:Cell)(xs:List (Nat×ax))(nx:Nat):S:=aE [6] 25 ⟨aN [(6,.one (.c (.bool t)))],cY a b c n sc L al lm au ar kd aq bc xs,nx,[]⟩
end
end Go.Sx
