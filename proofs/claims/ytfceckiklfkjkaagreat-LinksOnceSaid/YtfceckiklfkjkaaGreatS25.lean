import Derived.Test.YtfceckiklfkjkaaGreatS17
import Derived.Test.YtfceckiklfkjkaaGreatS24
import Derived.Test.YtfceckiklfkjkaaGreatS21
noncomputable section
open Go.Proofs Go.RowKit
set_option maxRecDepth 100000
open Go.IntKind(i64 u8 u64 u32 u16)
open Go.Proofs.Tryz
namespace Go.Sx
def rK:Code:=gB 254
def l95:Code:=gL (gL (gR (gL (gR rK))))
abbrev nU:Nat:=21
def xP(t:TypeId)(op:Option Nat)(l:aj)(N off n cap:Nat)(r i:Int):S:=aE [0,1,5] nU ⟨aN [(0,.one (.c (.int .u32 r))),(1,.one (.c (.sl 0 off n cap))),(5,.one (.c (.int .i64 i)))],gF t op l N,1,[]⟩
def agQ(t:TypeId)(op:Option Nat)(l:aj)(N off n cap:Nat)(r i:Int)(Q:ag):ai:=az prog uO 300 nU l95 (xP t op l N off n cap r i) aO fun x s Z=>some (aw Z.ob/\Q x (aE [0,1,5] nU s))
theorem Cj(t:TypeId)(op:Option Nat)(l:aj)(N off n cap:Nat)(r i:Int)(Q:ag):agQ t op l N off n cap r i Q=
 (bif decide (i< ↑n)then(bif decide (0<=i/\i< ↑n)then(bif decide (off+i.toNat*1<N)then
    some ((aw [cF (Ds r (l.getD (off+i.toNat*1) 0)),(0:Int)<=8/\(8:Int)<=1000000000000]/\Q .normal (xP t op l N off n cap (LG r (l.getD (off+i.toNat*1) 0)) (i64.wrap (i+1)))))
   else none)else none)else some ((aw []/\Q (.exit 0) (xP t op l N off n cap r i)))):=by kernel_rfl
theorem abc(t:TypeId)(op:Option Nat)(l:aj)(N off n cap:Nat)(hl:l.length=N)(hN:off+n<=N)(hn:n<=1000000000000){Q:ag}: ∀(k i:Nat) (r:Int),i+k=n->
  Q (.exit 0) (xP t op l N off n cap (lh r ((l.drop (off+i)).take k)) n)->Tr prog nU (.loop l95) (xP t op l N off n cap r i) Q
 | 0,i,r,hi,hq=>by
  obtain rfl:i=n:=by omega
  refine Tr.loop (Tr.tree qy (.of_eq (Cj t op l N off i cap r i _) (.no (by simp) ?_)))
  exact⟨trivial,hq⟩
 |k+1,i,r,hi,hq=>by
  have hw:i64.wrap ((i:Int)+1)=((i+1:Nat):Int):=by rw[IntWalk.i64_in _ (by omega)];simp
  have hseg:(l.drop (off+i)).take (k+1)=l.getD (off+i) 0::(l.drop (off+(i+1))).take k:=by
   have aA:off+i<l.length:=by omega
   rw[List.drop_eq_getElem_cons aA,List.take_succ_cons];simp[List.getD,List.getElem?_eq_getElem aA,Nat.add_assoc]
  rw[hseg]at hq;refine Tr.loop (Tr.tree qy (.of_eq (Cj t op l N off n cap r i _) (.yes (by simp;omega) (.aZ (by simp;omega) (.aZ (by simp;omega) ?_)))))
  rw[hw,Int.toNat_natCast,Nat.mul_one];exact⟨⟨gb _,by omega,trivial⟩,abc t op l N off n cap hl hN hn k (i+1) _ (by omega) hq⟩
def Hm(off n cap:Nat)(r:Int):List RV:= [.one (.c (.int .u32 r)),.one (.c (.sl 0 off n cap))]
def Et(off n cap:Nat)(r:Int):T RV:=match setArgs nU (Hm off n cap r) 0 .nil some with|some t=>t|none=> .nil
theorem X6(off n cap:Nat)(r:Int):setArgs nU (Hm off n cap r) 0 .nil some=some (Et off n cap r):=by kernel_rfl
theorem afA(t:TypeId)(op:Option Nat)(l:aj)(N off n cap:Nat)(r:Int):az prog uO 300 nU (gL rK) ⟨Et off n cap r,gF t op l N,1,[]⟩ ⟨0,[],[]⟩ (fun x s Z=>some (x,aE [0,1] nU s,Z.ob))
 =some (.normal,aE [0,1] nU ⟨Et off n cap r,gF t op l N,1,[]⟩,[]):=by kernel_rfl
theorem afU(t:TypeId)(op:Option Nat)(l:aj)(N off n cap:Nat)(r:Int):az prog uO 300 nU (gL (gL (gR rK))) (aE [0,1] nU ⟨Et off n cap r,gF t op l N,1,[]⟩) ⟨0,[],[]⟩ (fun x s Z=>some (x,aE [0,1,5] nU s,Z.ob))
 =some (.normal,xP t op l N off n cap r 0,[]):=by kernel_rfl
theorem agj(t:TypeId)(op:Option Nat)(l:aj)(N off n cap:Nat)(r i:Int)(Q:ah):az prog uO 300 nU (gR (gR rK)) (xP t op l N off n cap r i) aO (fun x s Z=>some (aw Z.ob/\Q x (ba prog nU s f254.results.toList)))
 =some (aw []/\Q .ret (some [.c (.int .u32 r)])):=by kernel_rfl
theorem OC:f254.body=some rK:=by kernel_rfl
theorem abV(t:TypeId)(op:Option Nat)(l:aj)(N off n cap:Nat)(r:Int)(hl:l.length=N)(hN:off+n<=N)(hn:n<=1000000000000):
  Tr prog nU rK ⟨Et off n cap r,gF t op l N,1,[]⟩ fun x s1=>(x= .normal\/x= .ret)/\∃L,ba prog nU s1 f254.results.toList=some L/\c6 L= .one (.c (.int .u32 (lh r ((l.drop off).take n)))):=by
 refine Tr.seq (c:=gL rK) (d:=gR rK) (Tr.path qy (afA t op l N off n cap r) trivial ?_);refine Tr.seq (c:=gL (gR rK)) (d:=gR (gR rK)) ?_;refine Tr.seq (c:=gL (gL (gR rK))) (d:= .block 0 (.loop l95)) (Tr.path qy (afU t op l N off n cap r) trivial ?_);refine Tr.block (abc t op l N off n cap hl hN hn n 0 r (by omega) ?_)
 exact Tr.VY qy (.of_eq (agj t op l N off n cap _ n (LW (.one (.c (.int .u32 (lh r ((l.drop off).take n))))))) (.pS ⟨trivial,.inr rfl,_,rfl,rfl⟩))
theorem Te{f:FuncId}{fn:Func}{c:Code}(hf:prog.funcs[f]? =some fn)(hb:fn.body=some c){args:List RV}{sl:T RV}{v:RV}{t:TypeId}{ro:Bool}{op:Option Nat}{l:aj}{N nm:Nat}{s:S}(ht:cJ s)
  (hh:s.hp.get nm=some (.row t ro op (.ints .u8 l N))) (hi:args.all (tp 1)=true) (hv:ej v=true)
  (hset:setArgs fn.ntmps args 0 .nil some=some sl)
  (h:Tr prog fn.ntmps c ⟨sl,gF t op l N,1,[]⟩ fun x s1=>(x= .normal\/x= .ret)/\∃L,ba prog fn.ntmps s1 fn.results.toList=some L/\c6 L=v):
  aU prog f (args.map (dB fun _=>nm)) s v s []:=
 aU.small (P:=prog) (f:=f) (args:=args) (v:=v) (k:=1) (hs:=gF t op l N) (θ:=fun _=>nm) (s:=s) ht ⟨fn,hf,by rw[hb];rfl⟩
  (Tr.small (fn:=fn) (c:=c) hf hb (fun nm h=>by
   have: ∀nm,1<=nm->(gF t op l N).get nm=none:=fun nm h=>by
    show(T.node .nil (some _) .nil:T ax).get nm=none;rw[T.dq,if_neg (by omega)];split<;>rfl
   exact this nm h) hset h)
  (fun nm' x hx=>by
   have hx':(T.node .nil (some (.row t true op (.ints .u8 l N))) .nil:T ax).get nm'=some x:=hx;rw[T.dq]at hx';by_cases e:nm'=0
   ·subst e;rw[if_pos rfl]at hx';cases hx';exact⟨by omega,_,hh,ft.ints⟩
   ·rw[if_neg e]at hx';split at hx'<;>cases hx')
  hi hv
def Bz:bg:=fun args hp nx=>match args with
 | [.one (.c (.int .u32 r)),.one (.c (.sl nm off n cap))]=>match bn hp.get nm with
  |some (_,_,_,.ints .u8 l N)=>some (.one (.c (.int .u32 (lh r ((l.drop off).take n)))),hp,nx,[],[l.length=N,off+n<=N,n<=1000000000000])
  |_=>none
 |_=>none
theorem NO:aI prog 254 Bz:=by
 intro args s v hp nx lg ps ht h bB;unfold Bz at h;split at h<;>try(cases h;done)
 rename_i r nm off n cap;split at h<;>try(cases h;done)
 rename_i t ro op l N bU;simp only[ae,af]at h;obtain⟨rfl,rfl,rfl,rfl,rfl⟩:=h;obtain⟨h1,h2,h3,_⟩:=bB;exact Te (fn:=f254) func254 OC (args:=Hm off n cap r) ht (cT bU) (by rfl) (by rfl) (X6 off n cap r) (abV t op l N off n cap r h1 h2 h3)
def T2:FuncId->Option bg:=fun f=>match f with| 254=>some Bz|_=>none
theorem aex:Fit prog (fun f=>(T2 f).map bj):=⟨bM,aV,aI.sum fun f sm h=>by
 unfold T2 at h;split at h
 ·cases h;exact NO
 ·cases h⟩
def rOf(t:TypeId)(op:Option Nat)(l:aj)(N off n cap:Nat):Option (RV×List Prop):=cO prog T2 300 218 [.one (.c (.sl 0 off n cap))] ⟨.nil,gF t op l N,1,[]⟩ ⟨0,[],[]⟩ fun v _ Z=>some (v,Z.ob)
theorem agA(t:TypeId)(op:Option Nat)(l:aj)(N off n cap:Nat):rOf t op l N off n cap=some (.one (.c (.int .u32 (u32.wrap (4294967295 - lh 4294967295 ((l.drop off).take n))))),[l.length=N,off+n<=N,n<=1000000000000]):=by kernel_rfl
def ma(l:aj):Int:=u32.wrap (4294967295 - lh 4294967295 l)
def sumOf:bg:=fun args hp nx=>match args with
 | [.one (.c (.sl nm off n cap))]=>match bn hp.get nm with
  |some (_,_,_,.ints .u8 l N)=>some (.one (.c (.int .u32 (ma ((l.drop off).take n)))),hp,nx,[],[l.length=N,off+n<=N,n<=1000000000000])
  |_=>none
 |_=>none
theorem Yu(t:TypeId)(op:Option Nat)(l:aj)(N:Nat):cJ ⟨.nil,gF t op l N,1,[]⟩:=fun nm h=>by
 have: ∀nm,1<=nm->(gF t op l N).get nm=none:=fun nm h=>by
  show(T.node .nil (some _) .nil:T ax).get nm=none;rw[T.dq,if_neg (by omega)];split<;>rfl
 exact this nm h
theorem Yw{t:TypeId}{op:Option Nat}{l:aj}{N nm':Nat}{x:ax}(hx:(gF t op l N).get nm'=some x):nm'=0/\x= .row t true op (.ints .u8 l N):=by
 have hx':(T.node .nil (some (.row t true op (.ints .u8 l N))) .nil:T ax).get nm'=some x:=hx;exact mj hx'
theorem xv:aI prog 218 sumOf:=by
 intro args s v hp nx lg ps ht h bB;unfold sumOf at h;split at h<;>try(cases h;done)
 rename_i nm off n cap;split at h<;>try(cases h;done)
 rename_i t ro op l N bU;simp only[ae,af]at h;obtain⟨rfl,rfl,rfl,rfl,rfl⟩:=h;obtain⟨h1,h2,h3,_⟩:=bB;exact aU.small (P:=prog) (f:=218) (args:= [.one (.c (.sl 0 off n cap))]) (k:=1) (hs:=gF t op l N) (θ:=fun _=>nm) (s:=s) ht ⟨_,func218,rfl⟩
  (fx aex (Yu t op l N) (agA t op l N off n cap) ⟨h1,h2,h3,trivial⟩)
  (fun nm' x hx=>by obtain⟨rfl,rfl⟩:=Yw hx;exact⟨by omega,_,cT bU,ft.ints⟩) (by rfl) (by rfl)
def TL:FuncId->Option bg:=fun f=>match f with| 218=>some sumOf|_=>none
theorem aep:Fit prog (fun f=>(TL f).map bj):=⟨bM,aV,aI.sum fun f sm h=>by
 unfold TL at h;split at h
 ·cases h;exact xv
 ·cases h⟩
def aeo(k:Int)(b:aj)(Q:RV->Prop):ai:=cO prog TL 300 156 [.one (.c (.int .i64 k)),.one (.ints .u8 b 64)] s0 aO fun v _ Z=>some (aw Z.ob/\Q v)
theorem NV(k:Int)(b:aj)(Q:RV->Prop):aeo k b Q=
 (bif decide (k>=1)then(
  (bif !decide (k<=6)then(
   some ((aw []/\Q (RV.aF [AV.ints u8 bA 54,AV.c (Cell.int u32 0),AV.c (Cell.int i64 2)])))
   )else(
   (bif i64.wrap (b.getD 54 0) !=k then(
    some ((aw []/\Q (RV.aF [AV.ints u8 bA 54,AV.c (Cell.int u32 0),AV.c (Cell.int i64 21)])))
    )else(
    (bif i64.wrap (b.getD 55 0) !=i64.wrap (255 - k)then(
     some ((aw []/\Q (RV.aF [AV.ints u8 bA 54,AV.c (Cell.int u32 0),AV.c (Cell.int i64 21)])))
     )else(
     (bif u32.wrap
    (u64.wrap
      (u64.wrap
          (256*
            u64.wrap
              (u64.wrap
                  (256*
                    u64.wrap
                      (u64.wrap (256*u64.wrap (0+u64.wrap (b.getD 63 0)))+
                        u64.wrap (b.getD 62 0)))+
                u64.wrap (b.getD 61 0)))+
        u64.wrap (b.getD 60 0))) !=
  ma (List.take 60 (List.drop 0 b))then(
      some ((aw [b.length=64,60<=64,60<=1000000000000]/\Q (RV.aF [AV.ints u8 bA 54,AV.c (Cell.int u32 0),AV.c (Cell.int i64 21)])))
      )else(
      some ((aw [b.length=64,60<=64,60<=1000000000000]/\Q (RV.aF
  [AV.ints u8
      [b.getD 0 0,b.getD 1 0,b.getD 2 0,b.getD 3 0,b.getD 4 0,b.getD 5 0,b.getD 6 0,b.getD 7 0,b.getD 8 0,
        b.getD 9 0,b.getD 10 0,b.getD 11 0,b.getD 12 0,b.getD 13 0,b.getD 14 0,b.getD 15 0,b.getD 16 0,
        b.getD 17 0,b.getD 18 0,b.getD 19 0,b.getD 20 0,b.getD 21 0,b.getD 22 0,b.getD 23 0,b.getD 24 0,
        b.getD 25 0,b.getD 26 0,b.getD 27 0,b.getD 28 0,b.getD 29 0,b.getD 30 0,b.getD 31 0,b.getD 32 0,
        b.getD 33 0,b.getD 34 0,b.getD 35 0,b.getD 36 0,b.getD 37 0,b.getD 38 0,b.getD 39 0,b.getD 40 0,
        b.getD 41 0,b.getD 42 0,b.getD 43 0,b.getD 44 0,b.getD 45 0,b.getD 46 0,b.getD 47 0,b.getD 48 0,
        b.getD 49 0,b.getD 50 0,b.getD 51 0,b.getD 52 0,b.getD 53 0]
      54,
    AV.c
      (Cell.int u32
        (u32.wrap
          (u64.wrap
            (u64.wrap
                (256*
                  u64.wrap
                    (u64.wrap
                        (256*
                          u64.wrap
                            (u64.wrap (256*u64.wrap (0+u64.wrap (b.getD 59 0)))+
                              u64.wrap (b.getD 58 0)))+
                      u64.wrap (b.getD 57 0)))+
              u64.wrap (b.getD 56 0))))),
    AV.c (Cell.int i64 0)])))
      ))
     ))
    ))
   ))
  )else(
  some ((aw []/\Q (RV.aF [AV.ints u8 bA 54,AV.c (Cell.int u32 0),AV.c (Cell.int i64 2)])))
  ))
 :=by kernel_rfl
def Bytes(b:aj):Prop:= ∀x∈b,0<=x/\x<256
theorem wrap_u64(x:Int):u64.wrap x=x % 18446744073709551616:=by unfold IntKind.wrap;simp[IntKind.bits,IntKind.signed]
theorem Bytes.getD {b:aj}(h:Bytes b)(i:Nat):0<=b.getD i 0/\b.getD i 0<256:=by
 by_cases hi:i<b.length
 ·rw[show b.getD i 0=b[i]by simp[List.getD,List.getElem?_eq_getElem hi]];exact h _ (List.getElem_mem hi)
 ·rw[show b.getD i 0=0 by simp[List.getD,List.getElem?_eq_none (show b.length<=i by omega)]];decide
def iz(a b c d:Int):Int:=a+256*b+65536*c+16777216*d
theorem Nn{a b c d:Int}(ha:0<=a/\a<256)(hb:0<=b/\b<256)(hc:0<=c/\c<256)(hd:0<=d/\d<256):
  u32.wrap (u64.wrap (u64.wrap (256*u64.wrap (u64.wrap (256*u64.wrap (u64.wrap (256*u64.wrap (0+u64.wrap d))+u64.wrap c))+u64.wrap b))+u64.wrap a))=iz a b c d:=by
 simp only[wrap_u64,wrap_u32,iz];omega
theorem s5{a b c d:Int}(ha:0<=a/\a<256)(hb:0<=b/\b<256)(hc:0<=c/\c<256)(hd:0<=d/\d<256):lY a b c d=iz a b c d:=by
 unfold lY iz;rw[(iM ha).1,(iM hb).2.1,(iM hc).2.2.1,(iM hd).2.2.2];exact or4 ha hb hc hd
theorem Uc{a b c d:Int}(ha:0<=a/\a<256)(hb:0<=b/\b<256)(hc:0<=c/\c<256)(hd:0<=d/\d<256):cF (iz a b c d):=by unfold iz;constructor<;>omega
theorem xW{t:Int}(h:cF t):dv t= [t % 256,t / 256 % 256,t / 65536 % 256,t / 16777216 % 256]:=by
 obtain⟨h0,h1,h2,h3⟩:=Cu h;unfold dv;rw[h0,h1,h2,h3]
theorem tY{a b c d:Int}(ha:0<=a/\a<256)(hb:0<=b/\b<256)(hc:0<=c/\c<256)(hd:0<=d/\d<256):dv (iz a b c d)= [a,b,c,d]:=by
 rw[xW (Uc ha hb hc hd)];unfold iz;refine congr (congrArg _ ?_) (congr (congrArg _ ?_) (congr (congrArg _ ?_) (congr (congrArg _ ?_) rfl)))<;>omega
theorem Qa{t a b c d:Int}(h:cF t):dv t= [a,b,c,d]->t=iz a b c d:=by
 rw[xW h];intro e;injection e with e0 e
 injection e with e1 e
 injection e with e2 e
 injection e with e3 e
 obtain⟨h1,h2⟩:=h;unfold iz;omega
theorem Hk(l:aj):wg l=ma l:=by
 have h:cF (lh 4294967295 l):=Sa ⟨by decide,by decide⟩ l
 unfold wg ma
 revert h
 generalize lh 4294967295 l=x;intro h;have e:(BitVec.ofInt 32 4294967295 ^^^ BitVec.ofInt 32 x).toNat=4294967295 - x.toNat:=by
  have:(BitVec.ofInt 32 4294967295:BitVec 32)=BitVec.allOnes 32:=by decide
  rw[this,BitVec.allOnes_xor,BitVec.toNat_not,yG h]
 rw[e,wrap_u32,wrap_u32];obtain⟨h1,h2⟩:=h;omega
theorem ten{b:aj}(hb:b.length=64): ∃p x0 x1 x2 x3 x4 x5 x6 x7 x8 x9,p.length=54/\b=p++ [x0,x1,x2,x3,x4,x5,x6,x7,x8,x9]:=by
 have h:(b.drop 54).length=10:=by simp[hb]
 match hd:b.drop 54,h with
 | [x0,x1,x2,x3,x4,x5,x6,x7,x8,x9],_=>exact⟨b.take 54,x0,x1,x2,x3,x4,x5,x6,x7,x8,x9,by simp[hb],by rw[<-hd,List.take_append_drop]⟩
def ZO(k:Int)(b:aj):Bool:=cr k &&(b.getD 54 0==k &&(b.getD 55 0==255 - k && iz (b.getD 60 0) (b.getD 61 0) (b.getD 62 0) (b.getD 63 0)==ma (b.take 60)))
theorem YI{k:Int}{b:aj}(hb:b.length=64)(hy:Bytes b):ZO k b=gV k b:=by
 unfold ZO gV;cases hk:cr k with
 |false=>rfl
 |true=>
  simp only[Bool.true_and];have e54:fD b=b.getD 54 0:=by
   have:=hy.getD 54;show i64.wrap (b.getD 54 0)=_;exact IntWalk.i64_in _ (by omega)
  rw[e54];cases h0:(b.getD 54 0==k)with
  |false=>rfl
  |true=>
   have hk':=hk;simp only[cr,Bool.and_eq_true,decide_eq_true_eq]at hk';simp only[Bool.true_and];have h0':b.getD 54 0=k:=by simpa using h0
   unfold fw;rw[e54,h0',show cP k=0 by unfold cP;rw[hk];rfl,show((0:Int)==0)=true from rfl,Bool.true_and]
   rw[show eh k (gx b) (t54 b)=dV k (gx b) (t54 b)by unfold eh;rw[hk];rfl]
   obtain⟨p,x0,x1,x2,x3,x4,x5,x6,x7,x8,x9,hp,rfl⟩:=ten hb;have g: ∀i,(p++ [x0,x1,x2,x3,x4,x5,x6,x7,x8,x9]).getD (54+i) 0= [x0,x1,x2,x3,x4,x5,x6,x7,x8,x9].getD i 0:=fun i=>lZ hp
   have y0:=g 0;have y1:=g 1;have y2:=g 2;have y3:=g 3;have y4:=g 4;have y5:=g 5;have y6:=g 6;have y7:=g 7;have y8:=g 8;have y9:=g 9;simp only[Nat.add_zero,List.getD_cons_zero,List.getD_cons_succ,Nat.reduceAdd]at y0 y1 y2 y3 y4 y5 y6 y7 y8 y9;have B0:=hy.getD 54;have B1:=hy.getD 55;have B2:=hy.getD 56;have B3:=hy.getD 57;have B4:=hy.getD 58;have B5:=hy.getD 59;have B6:=hy.getD 60;have B7:=hy.getD 61;have B8:=hy.getD 62;have B9:=hy.getD 63;rw[y0]at B0 h0';rw[y1]at B1;rw[y2]at B2;rw[y3]at B3;rw[y4]at B4;rw[y5]at B5;rw[y6]at B6;rw[y7]at B7;rw[y8]at B8;rw[y9]at B9;subst h0';have ht:gx (p++ [x0,x1,x2,x3,x4,x5,x6,x7,x8,x9])=iz x2 x3 x4 x5:=by
    unfold gx;simp only[Nat.zero_add,Nat.mul_one];rw[y2,y3,y4,y5];exact s5 B2 B3 B4 B5
   have h5:t54 (p++ [x0,x1,x2,x3,x4,x5,x6,x7,x8,x9])=p:=by
    show((p++_).drop 0).take 54=p;rw[List.drop_zero,List.take_left' hp]
   have h6:(p++ [x0,x1,x2,x3,x4,x5,x6,x7,x8,x9]).take 60=p++ [x0,x1,x2,x3,x4,x5]:=by
    rw[show(p++ [x0,x1,x2,x3,x4,x5,x6,x7,x8,x9])=(p++ [x0,x1,x2,x3,x4,x5])++ [x6,x7,x8,x9]by simp,List.take_left' (by simp[hp])]
   rw[ht,h5,h6,y1,y6,y7,y8,y9];unfold dV ji;rw[tY B2 B3 B4 B5,Hk];rw[Bool.eq_iff_iff];simp only[Bool.and_eq_true,beq_iff_eq,List.append_cancel_left_eq];have hu:cF (ma (p++ [x0,x1,x2,x3,x4,x5])):=by unfold ma;exact gb _
   constructor
   ·rintro⟨e1,e2⟩;subst e1;show [x0,255 - x0]++ [x2,x3,x4,x5]++dv (ma (p++([x0,255 - x0]++ [x2,x3,x4,x5])))=_;have e3:ma (p++([x0,255 - x0]++ [x2,x3,x4,x5]))=iz x6 x7 x8 x9:=e2.symm;rw[e3,tY B6 B7 B8 B9]
    rfl
   ·intro e;have e':x0::(255 - x0)::x2::x3::x4::x5::dv (ma (p++([x0,255 - x0]++ [x2,x3,x4,x5])))= [x0,x1,x2,x3,x4,x5,x6,x7,x8,x9]:=e;injection e' with _ e'
    injection e' with e1 e'
    injection e' with _ e'
    injection e' with _ e'
    injection e' with _ e'
    injection e' with _ e'
    subst e1;exact⟨rfl,(Qa hu e').symm⟩
theorem Vz{b:aj}(hb:b.length=64): [b.getD 0 0,b.getD 1 0,b.getD 2 0,b.getD 3 0,b.getD 4 0,b.getD 5 0,b.getD 6 0,b.getD 7 0,b.getD 8 0,b.getD 9 0,b.getD 10 0,b.getD 11 0,b.getD 12 0,b.getD 13 0,b.getD 14 0,b.getD 15 0,b.getD 16 0,b.getD 17 0,b.getD 18 0,b.getD 19 0,b.getD 20 0,b.getD 21 0,b.getD 22 0,b.getD 23 0,b.getD 24 0,b.getD 25 0,b.getD 26 0,b.getD 27 0,b.getD 28 0,b.getD 29 0,b.getD 30 0,b.getD 31 0,b.getD 32 0,b.getD 33 0,b.getD 34 0,b.getD 35 0,b.getD 36 0,b.getD 37 0,b.getD 38 0,b.getD 39 0,b.getD 40 0,b.getD 41 0,b.getD 42 0,b.getD 43 0,b.getD 44 0,b.getD 45 0,b.getD 46 0,b.getD 47 0,b.getD 48 0,b.getD 49 0,b.getD 50 0,b.getD 51 0,b.getD 52 0,b.getD 53 0]=t54 b:=by
 have h:(List.range 54).map (fun i=>b.getD i 0)=t54 b:=by
  apply List.ext_getElem
  ·simp[hb]
  ·intro i h1 h2;have hi:i<54:=by simpa using h1
   simp[List.getD,List.getElem?_eq_getElem (show i<b.length by omega)]
 exact h
def vN(args:List RV):Option (RV×List Prop):=match args with
 | [.one (.c (.int .i64 kind)),.one (.ints .u8 b 64)]=>some (.aF [.ints .u8 (cb kind b) 54,.c (.int .u32 (oV kind b)),.c (.int .i64 (dh kind b))],[Bytes b])
 |_=>none
theorem sT:cg prog 156 vN:=by
 intro args v ps h hp ρ w vs ha;unfold vN at h;split at h<;>try(cases h;done)
 rename_i k b;simp only[ae,af]at h;obtain⟨rfl,rfl⟩:=h;obtain⟨hy,_⟩:=hp;have hb:b.length=64:=by obtain⟨_,_,_,⟨_,_,h,_⟩,_⟩:=ha;exact h.1
 refine cU aep (by rfl) (by rfl) (.of_eq (NV k b _) ?_) ρ w vs ha
 have e54:i64.wrap (b.getD 54 0)=b.getD 54 0:=by
  have:=hy.getD 54;exact IntWalk.i64_in _ (by omega)
 have e55:i64.wrap (b.getD 55 0)=b.getD 55 0:=by
  have:=hy.getD 55;exact IntWalk.i64_in _ (by omega)
 have he:=YI (k:=k) hb hy;unfold ZO at he;have hA:aw [b.length=64,60<=64,60<=1000000000000]:=⟨hb,by decide,by decide,trivial⟩
 refine .fork (fun h1=> ?_) (fun h1=> ?_)
 ·refine .fork (fun h2=> ?_) (fun h2=> ?_)
  ·have hk:cr k=false:=by simp[cr]at h1 h2 ⊢;omega
   refine⟨trivial,?_⟩;unfold cb oV dh gV;rw[hk];rfl
  ·have hk:cr k=true:=by simp[cr]at h1 h2 ⊢;omega
   have hk':1<=k/\k<=6:=by simpa[cr]using hk
   rw[hk,Bool.true_and]at he;have e255:i64.wrap (255 - k)=255 - k:=IntWalk.i64_in _ (by omega)
   have no: ∀ {q:Bool},gV k b=false->(RV.aF [AV.ints u8 bA 54,AV.c (Cell.int u32 0),AV.c (Cell.int i64 21)])= .aF [.ints .u8 (cb k b) 54,.c (.int .u32 (oV k b)),.c (.int .i64 (dh k b))]:=fun hn=>by
    unfold cb oV dh;rw[hk,hn];rfl
   refine .fork (fun h3=>⟨trivial,no (q:=true) ?_⟩) (fun h3=> ?_)
   ·rw[<-he];rw[e54]at h3;simp at h3 ⊢;intro h;exact absurd h h3
   ·rw[e54]at h3;refine .fork (fun h4=>⟨trivial,no (q:=true) ?_⟩) (fun h4=> ?_)
    ·rw[<-he];rw[e55,e255]at h4;simp at h4 ⊢;intro _ h;exact absurd h h4
    ·rw[e55,e255]at h4;rw[Nn (hy.getD 60) (hy.getD 61) (hy.getD 62) (hy.getD 63),List.drop_zero];refine .fork (fun h5=>⟨hA,no (q:=true) ?_⟩) (fun h5=>⟨hA,?_⟩)
     ·rw[<-he];simp at h5 ⊢;intro _ _ h;exact absurd h h5
     ·have hi:gV k b=true:=by
       rw[<-he];simp at h3 h4 h5 ⊢;exact⟨h3,h4,h5⟩
      rw[Vz hb,Nn (hy.getD 56) (hy.getD 57) (hy.getD 58) (hy.getD 59)];unfold cb oV dh;rw[hk,hi];have:gx b=iz (b.getD 56 0) (b.getD 57 0) (b.getD 58 0) (b.getD 59 0):=s5 (hy.getD 56) (hy.getD 57) (hy.getD 58) (hy.getD 59);rw[this];rfl
 ·have hk:cr k=false:=by simp[cr]at h1 ⊢;omega
  refine⟨trivial,?_⟩;unfold cb oV dh gV;rw[hk];rfl
def Tz:FuncId->Option bg:=fun f=>match f with| 156=>some (aL vN)|_=>none
theorem aei:Fit prog (fun f=>(Tz f).map bj):=⟨bM,aV,aI.sum fun f sm h=>by
 unfold Tz at h;split at h
 ·cases h;exact sT.sum ⟨_,func156,rfl⟩
 ·cases h⟩
def aeL(b:aj)(Q:RV->Prop):ai:=cO prog Tz 300 220 [.one (.ints .u8 b 64)] s0 aO fun v _ Z=>some (aw Z.ob/\Q v)
theorem Ms(b:aj)(Q:RV->Prop):aeL b Q=
 (bif dh 1 (List.take 64 (List.drop 0 b))==0 then(
  some ((aw [Bytes (List.take 64 (List.drop 0 b))]/\Q (RV.one (AV.c (Cell.int i64 1)))))
  )else(
  (bif dh 2 (List.take 64 (List.drop 0 b))==0 then(
   some ((aw [Bytes (List.take 64 (List.drop 0 b)),Bytes (List.take 64 (List.drop 0 b))]/\Q (RV.one (AV.c (Cell.int i64 2)))))
   )else(
   (bif dh 3 (List.take 64 (List.drop 0 b))==0 then(
    some ((aw [Bytes (List.take 64 (List.drop 0 b)),Bytes (List.take 64 (List.drop 0 b)),Bytes (List.take 64 (List.drop 0 b))]/\Q (RV.one (AV.c (Cell.int i64 3)))))
    )else(
    (bif dh 4 (List.take 64 (List.drop 0 b))==0 then(
     some ((aw [Bytes (List.take 64 (List.drop 0 b)),Bytes (List.take 64 (List.drop 0 b)),Bytes (List.take 64 (List.drop 0 b)),Bytes (List.take 64 (List.drop 0 b))]/\Q (RV.one (AV.c (Cell.int i64 4)))))
     )else(
     (bif dh 5 (List.take 64 (List.drop 0 b))==0 then(
      some ((aw [Bytes (List.take 64 (List.drop 0 b)),Bytes (List.take 64 (List.drop 0 b)),Bytes (List.take 64 (List.drop 0 b)),Bytes (List.take 64 (List.drop 0 b)),Bytes (List.take 64 (List.drop 0 b))]/\Q (RV.one (AV.c (Cell.int i64 5)))))
      )else(
      (bif dh 6 (List.take 64 (List.drop 0 b))==0 then(
       some ((aw [Bytes (List.take 64 (List.drop 0 b)),Bytes (List.take 64 (List.drop 0 b)),Bytes (List.take 64 (List.drop 0 b)),Bytes (List.take 64 (List.drop 0 b)),Bytes (List.take 64 (List.drop 0 b)),Bytes (List.take 64 (List.drop 0 b))]/\Q (RV.one (AV.c (Cell.int i64 6)))))
       )else(
       some ((aw [Bytes (List.take 64 (List.drop 0 b)),Bytes (List.take 64 (List.drop 0 b)),Bytes (List.take 64 (List.drop 0 b)),Bytes (List.take 64 (List.drop 0 b)),Bytes (List.take 64 (List.drop 0 b)),Bytes (List.take 64 (List.drop 0 b))]/\Q (RV.one (AV.c (Cell.int i64 0)))))
       ))
      ))
     ))
    ))
   ))
  ))
 :=by kernel_rfl
def gX(b:aj):Int:=if fw b then fD b else 0
theorem ri{k:Int}{b:aj}(hk:cr k=true):(dh k b==0)=gV k b:=by
 unfold dh;rw[hk];cases gV k b<;>rfl
theorem vn{b:aj}(h:fw b=true):cr (fD b)=true:=by
 unfold fw at h;simp only[Bool.and_eq_true]at h;unfold cP at h;cases hk:cr (fD b)with
 |true=>rfl
 |false=>rw[hk]at h;simp at h
theorem Eo{k:Int}{b:aj}(hk:cr k=true):gV k b=(gX b==k):=by
 have hk':1<=k/\k<=6:=by simpa[cr]using hk
 unfold gV gX;rw[hk,Bool.true_and];cases fw b with
 |true=>simp
 |false=>simp;omega
theorem II(b:aj):0<=gX b/\gX b<=6:=by
 unfold gX;split
 ·rename_i h;have:=vn h;simp[cr]at this;omega
 ·omega
def Nh(args:List RV):Option (RV×List Prop):=match args with
 | [.one (.ints .u8 b 64)]=>some (.one (.c (.int .i64 (gX b))),[Bytes b])
 |_=>none
theorem U4:cg prog 220 Nh:=by
 intro args v ps h hp ρ w vs ha;unfold Nh at h;split at h<;>try(cases h;done)
 rename_i b;simp only[ae,af]at h;obtain⟨rfl,rfl⟩:=h;obtain⟨hy,_⟩:=hp;have hb:b.length=64:=qh ha;refine cU aei (by rfl) (by rfl) (.of_eq (Ms b _) ?_) ρ w vs ha
 rw[aJ hb];have k1: ∀k,cr k=true->(dh k b==0)=(gX b==k):=fun k hk=>by rw[ri hk,Eo hk]
 rw[k1 1 rfl,k1 2 rfl,k1 3 rfl,k1 4 rfl,k1 5 rfl,k1 6 rfl];have yes: ∀ {k:Int},(gX b==k)=true->RV.one (AV.c (Cell.int i64 k))=RV.one (AV.c (Cell.int i64 (gX b))):=fun h=>by
  have:=eq_of_beq h;rw[this]
 refine .fork (fun h=>⟨⟨hy,trivial⟩,yes h⟩) (fun h1=> ?_)
 refine .fork (fun h=>⟨⟨hy,hy,trivial⟩,yes h⟩) (fun h2=> ?_)
 refine .fork (fun h=>⟨⟨hy,hy,hy,trivial⟩,yes h⟩) (fun h3=> ?_)
 refine .fork (fun h=>⟨⟨hy,hy,hy,hy,trivial⟩,yes h⟩) (fun h4=> ?_)
 refine .fork (fun h=>⟨⟨hy,hy,hy,hy,hy,trivial⟩,yes h⟩) (fun h5=> ?_)
 refine .fork (fun h=>⟨⟨hy,hy,hy,hy,hy,hy,trivial⟩,yes h⟩) (fun h6=>⟨⟨hy,hy,hy,hy,hy,hy,trivial⟩,yes ?_⟩)
 have:=II b;simp at h1 h2 h3 h4 h5 h6 ⊢;omega
def lG(G:List RV->Int->Int->Int->Nat->Int->St->Option (RV×St×List Prop)):bg:=fun args hp nx=>match args with
 | .one (.c (.ptr nm 0))::xs=>match mH hp.get nm with
  |some (a,b,c,L,N,n,sc,al,l,nl,nw)=>
   match Nat.blt nm nx,Nat.blt nl nx,Nat.blt nw nx with
   |true,true,true=>match G xs a b c n sc (L,l,al)with
    |some (v,st,ps)=>
     T.set depth hp nw (some (.aQ none l)) fun hp=>
     T.set depth hp nm (some (.row 113 false none (.cells [.int .i64 a,.int .i64 b,.int .i64 c,.aC nl 64 0 n,.int .u32 sc,.map nw,.int .i64 st.2.2]))) fun hp=>
     T.set depth hp nl (some (.row 95 false (some 64) (.ints .u8 st.1 N))) fun hp=>
     T.set depth hp nw (some (.aQ none st.2.1)) fun hp=>
     some (v,hp,nx,[nm,nl,nw],(L.length=N)::(N=64*n)::ps)
    |none=>none
   |_,_,_=>none
  |none=>none
 |_=>none
theorem CV{θ:Nat->Nat}{x:AV}(h:wv x=true):jq θ x=x:=by
 cases x with
 |c x=>cases x<;>first|(cases h;done)|rfl
 |agg l=>
  simp only[jq];congr 1;refine(List.map_congr_left fun c hc=> ?_).trans (List.map_id l)
  have:=List.all_eq_true.1 h c hc;cases c<;>first|(cases this;done)|rfl
 |ints=>rfl
theorem k8{θ:Nat->Nat}{x:RV}(h:ej x=true):dB θ x=x:=by
 cases x with
 |one x=>simp only[dB];rw[CV h]
 |aF l=>
  simp only[dB];congr 1;exact(List.map_congr_left fun c hc=>CV (List.all_eq_true.1 h c hc)).trans (List.map_id l)
 |any=>rfl
theorem Em{k:Nat}{x:AV}(h:wv x=true):qf k x=true:=by
 cases x with
 |c x=>cases x<;>first|(cases h;done)|rfl
 |agg l=>
  refine List.all_eq_true.2 fun c hc=> ?_
  have:=List.all_eq_true.1 h c hc;cases c<;>first|(cases this;done)|rfl
 |ints=>rfl
theorem sW{k:Nat}{x:RV}(h:ej x=true):tp k x=true:=by
 cases x with
 |one x=>exact Em h
 |aF l=>exact List.all_eq_true.2 fun c hc=>Em (List.all_eq_true.1 h c hc)
 |any=>rfl
theorem Cy{f:FuncId}(hfn: ∃fn,prog.funcs[f]? =some fn/\fn.body.isNone=false){G:List RV->Int->Int->Int->Nat->Int->St->Option (RV×St×List Prop)}
  (hG: ∀xs a b c n sc st v st' ps,G xs a b c n sc st=some (v,st',ps)->aw ps->st.1.length=64*n->fC prog f (.one (.c (.ptr 0 0))::xs) 3 (ca a b c n sc st) (ca a b c n sc st') v)
  (hx: ∀xs a b c n sc st v st' ps,G xs a b c n sc st=some (v,st',ps)->xs.all ej=true/\ej v=true):aI prog f (lG G):=by
 intro args s v hp nx lg ps ht h bB;unfold lG at h;split at h<;>try(cases h;done)
 rename_i nm xs;split at h<;>try(cases h;done)
 rename_i a b c L N n sc al l nl nw hi;split at h<;>try(cases h;done)
 rename_i b1 b2 b3;split at h<;>try(cases h;done)
 rename_i v1 st ps1 hg;obtain⟨h1,h2,h3⟩:=rW hi;have n1:nm<s.nx:=ew b1;have n2:nl<s.nx:=ew b2;have n3:nw<s.nx:=ew b3;have d1:nm≠nl:=fun e=>by subst e;rw[h1]at h2;cases h2
 have d2:nm≠nw:=fun e=>by subst e;rw[h1]at h3;rcases h3 with h3|⟨_,h3⟩<;>cases h3
 have d3:nl≠nw:=fun e=>by subst e;rw[h2]at h3;rcases h3 with h3|⟨_,h3⟩<;>cases h3
 obtain⟨t0,h,q0⟩:=T.bR _ _ _ _ _ _ h;obtain⟨t1,h,q1⟩:=T.bR _ _ _ _ _ _ h;obtain⟨t2,h,q2⟩:=T.bR _ _ _ _ _ _ h;obtain⟨t3,h,q3⟩:=T.bR _ _ _ _ _ _ h;simp only[ae,af]at h;obtain⟨rfl,rfl,rfl,rfl,rfl⟩:=h;obtain⟨hl,hN,bB⟩:=bB;subst hN;obtain⟨hfx,hfv⟩:=hx _ _ _ _ _ _ _ _ _ _ hg;have ht0:cJ {s with hp:=t0}:=fun j hj=>by
  show t0.get j=none;have:s.nx<=j:=hj;rw[q0 j,if_neg (by omega)]
  exact ht j hj
 have g1:t0.get nm=_:=(q0 nm).trans ((if_neg d2).trans h1);have g2:t0.get nl=_:=(q0 nl).trans ((if_neg d3).trans h2);have g3:t0.get nw=some (.aQ none l):=(q0 nw).trans (if_pos rfl);have hget: ∀j,t3.get j=if j=nw then some (.aQ none st.2.1)else if j=nl then some (.row 95 false (some 64) (.ints .u8 st.1 (64*n)))else if j=nm then some (.row 113 false none (.cells [.int .i64 a,.int .i64 b,.int .i64 c,.aC nl 64 0 n,.int .u32 sc,.map nw,.int .i64 st.2.2]))else t0.get j:=fun j=>by
  rw[q3 j,q2 j,q1 j]
 let θ:Nat->Nat:=fun i=>if i=0 then nm else if i=1 then nl else nw
 have ex:xs.map (dB θ)=xs:=(List.map_congr_left fun c hc=>k8 (List.all_eq_true.1 hfx c hc)).trans (List.map_id xs)
 have ea:((.one (.c (.ptr 0 0)):RV)::xs).map (dB θ)= .one (.c (.ptr nm 0))::xs:=by
  rw[List.map_cons,ex];rfl
 have hC:fC prog f (.one (.c (.ptr 0 0))::xs) 3 (ca a b c n sc (L,l,al)) (ca a b c n sc st) v1:=hG _ _ _ _ _ _ _ _ _ _ hg bB hl;have:=aU.frame (P:=prog) (f:=f) (θ:=θ) (s:= {s with hp:=t0}) (hp':=t3) (Lw:= [nm,nl,nw]) ht0 hfn hC
  (List.all_eq_true.2 fun c hc=>by
   rcases List.mem_cons.1 hc with rfl|hc
   ·rfl
   ·exact sW (List.all_eq_true.1 hfx c hc))
  (fun i x hx=>by
   rw[ca,bJ]at hx;rcases cy hx with⟨rfl,rfl⟩|⟨rfl,rfl⟩|⟨rfl,rfl⟩
   ·exact⟨by omega,rfl,rfl,n1,g1⟩
   ·exact⟨by omega,rfl,rfl,n2,g2⟩
   ·exact⟨by omega,rfl,rfl,n3,g3⟩)
  (fun i j x y hx hy he=>by
   rw[ca,bJ]at hx hy;rcases cy hx with⟨rfl,_⟩|⟨rfl,_⟩|⟨rfl,_⟩<;>rcases cy hy with⟨rfl,_⟩|⟨rfl,_⟩|⟨rfl,_⟩<;>first|rfl|exact absurd he d1|exact absurd he d2|exact absurd he d3|exact absurd he.symm d1|exact absurd he.symm d2|exact absurd he.symm d3)
  (fun j hj=>by
   have j0:=hj 0 _ (by rw[ca,bJ];rfl)
   have j1:=hj 1 _ (by rw[ca,bJ];rfl)
   have j2:=hj 2 _ (by rw[ca,bJ];rfl)
   rw[hget,if_neg (fun e=>j2 e.symm),if_neg (fun e=>j1 e.symm),if_neg (fun e=>j0 e.symm)])
  (fun i x hx=>by
   rw[ca,bJ]at hx;rw[hget,ca,bJ];rcases cy hx with⟨rfl,rfl⟩|⟨rfl,rfl⟩|⟨rfl,rfl⟩
   ·rw[if_neg (show θ 0≠nw from d2),if_neg (show θ 0≠nl from d1),if_pos (show θ 0=nm from rfl)];rfl
   ·rw[if_neg (show θ 1≠nw from d3),if_pos (show θ 1=nl from rfl)];rfl
   ·rw[if_pos (show θ 2=nw from rfl)];rfl)
  (fun j=>by
   constructor
   ·intro hj;rcases List.mem_cons.1 hj with rfl|hj
    ·exact⟨0,_,by rw[ca,bJ];rfl,rfl⟩
    ·rcases List.mem_cons.1 hj with rfl|hj
     ·exact⟨1,_,by rw[ca,bJ];rfl,rfl⟩
     ·rcases List.mem_cons.1 hj with rfl|hj
      ·exact⟨2,_,by rw[ca,bJ];rfl,rfl⟩
      ·cases hj
   ·rintro⟨i,x,hx,rfl⟩;rw[ca,bJ]at hx;rcases cy hx with⟨rfl,_⟩|⟨rfl,_⟩|⟨rfl,_⟩<;>simp[θ])
 rw[ea,k8 hfv]at this;exact this.WI (by simp) h3 q0
abbrev bk(L:aj)(s:Int):List Int:=bL L (s.toNat*64)
def xc(k:Int)(p B:aj):List Int:=if gV k B &&(t54 B==p)then B else dw k B p
theorem Fh{k:Int}{p B:aj}(hk:cr k=true)(hp:p.length=54):gV k (xc k p B)=true/\t54 (xc k p B)=p:=by
 unfold xc;split
 ·rename_i h;simp only[Bool.and_eq_true,beq_iff_eq]at h;exact h
 ·obtain⟨h1,h2⟩:=UP (b:=B) hk hp;have hi:gV k (dw k B p)=true:=by rw[<-ri hk,h1];rfl
  refine⟨hi,?_⟩;unfold cb at h2;rw[if_pos hi]at h2;exact h2
section
variable(a b c sc:Int)
end
section
variable{a b c sc:Int}{m:Nat}{st0 st:St}{X:Int}
theorem z8(hg:aY a b c=true){g j:Int}(h0:0<=g)(h1:g<a)(j0:0<=j)(j1:j<2+b+c):
  pl a b c (2+g*(2+b+c)+j)=if j=0 then(2,g,0,0)else if j=1 then(3,g,0,0)else if j<2+b then(4,g,j - 2,0)else(0,g,j - 2 - b,0):=by
 obtain⟨g1,g2,g3,g4,g5,g6⟩:=b8.1 hg;have m0:0<=g*(2+b+c):=Int.mul_nonneg h0 (by omega)
 have m1:(g+1)*(2+b+c)<=a*(2+b+c):=Int.mul_le_mul_of_nonneg_right (by omega) (by omega)
 have m2:(g+1)*(2+b+c)=g*(2+b+c)+(2+b+c):=by rw[Int.add_mul,Int.one_mul]
 have e:2+g*(2+b+c)+j - 2=j+(2+b+c)*g:=by rw[Int.mul_comm];omega
 have hmod:(2+g*(2+b+c)+j - 2) %(2+b+c)=j:=by
  rw[e,Int.add_mul_emod_self_left];exact Int.emod_eq_of_lt j0 j1
 have hdiv:(2+g*(2+b+c)+j - 2) /(2+b+c)=g:=by
  rw[e,Int.add_mul_ediv_left _ _ (by omega),Int.ediv_eq_zero_of_lt j0 j1,Int.zero_add]
 unfold pl;rw[if_pos ⟨hg,by omega,by omega⟩,if_neg (by omega),hmod,hdiv]
end
section
variable{a b c sc:Int}{m:Nat}{F:aj}
theorem mP{x y:aj}(hx:Bytes x)(hy:Bytes y):Bytes (x++y):=fun z hz=>(List.mem_append.1 hz).elim (hx z) (hy z)
theorem CZ(t:Int):Bytes (dv t):=fun x hx=>by
 unfold dv at hx;simp only[List.mem_cons,List.not_mem_nil,or_false,wrap_u8]at hx;rcases hx with rfl|rfl|rfl|rfl<;>omega
theorem zi{k:Int}{B p:aj}(hk:cr k=true)(hp:Bytes p):Bytes (dw k B p):=by
 unfold dw eh;rw[if_pos hk];have hk':1<=k/\k<=6:=by simpa[cr]using hk
 unfold dV;refine mP hp (mP (mP ?_ (CZ _)) (CZ _));intro x hx;simp only[List.mem_cons,List.not_mem_nil,or_false]at hx;rcases hx with rfl|rfl<;>omega
theorem Po(n:Nat):Bytes (List.replicate n 0):=fun x hx=>by rw[List.eq_of_mem_replicate hx];decide
theorem Ck:Bytes bA:=Po 54
theorem UH{k:Int}{p B:aj}(hk:cr k=true)(hp:Bytes p)(hB:Bytes B):Bytes (xc k p B):=by
 unfold xc;split
 ·exact hB
 ·exact zi hk hp
theorem Gz(h:cM F m=true):aY (bO F m 4) (bO F m 6) (bO F m 8)=true:=by
 have h':=h;unfold cM at h;simp only[Bool.and_eq_true,Bool.or_eq_true]at h;unfold bO cH xm;rw[h'];simp only[if_true];by_cases h0:ie F m 0=true
 ·rw[if_pos h0];unfold ie cz lQ at h0;simp only[Bool.and_eq_true]at h0;exact h0.2.1.1
 ·rw[if_neg h0];have h1:=h.2.resolve_left h0;unfold ie cz lQ at h1;simp only[Bool.and_eq_true]at h1;exact h1.2.1.1
end
def kp(a b c:Int)(ar:Bool)(d:Int):Int:=if ar && c7 a b c d then d else 0
end Go.Sx
