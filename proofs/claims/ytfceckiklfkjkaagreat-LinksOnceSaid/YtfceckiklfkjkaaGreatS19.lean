import Derived.Test.YtfceckiklfkjkaaGreatS17
import Derived.Test.YtfceckiklfkjkaaGreatS18
import Derived.Test.YtfceckiklfkjkaaGreatS16
noncomputable section
set_option maxHeartbeats 4000000
set_option maxRecDepth 100000
open Go.IntKind(i64 u8 u64 u32 u16)
open Go.Proofs.Tryz
namespace Go.Sx
open Go.Proofs Go.RowKit Go.Maps Go.Shelf
def afo(r:Nat):Nat:=ff (ff (ff (ff (ff (ff (ff (ff r)))))))
def vR:Sum:=fun args hp nx=>
 match args with
 | [.one (.c (.int .u32 (.ofNat r))),.one (.c (.int .i64 (.ofNat m)))]=>if Nat.beq m 8 && Nat.blt r 4294967296 then eX (afo r) fun x=>some (.one (.c (.int .u32 (.ofNat x))),hp,nx,[])else none
 |_=>none
theorem ze{f:FuncId}(hfn: ∃fn,prog.funcs[f]? =some fn/\fn.body.isNone=false)
  (hc: ∀(r n:Nat) (_:r<4294967296) (_:n<=1000000000000) (w:World),Calls prog f #[.int .u32 r,.int .i64 n] w fun e w'=>e= .returned (.int .u32 (iter ff n r))/\w'=w)
  (args:List RV) (s:S) (v:RV) (hp:T ax) (nx:Nat) (lg:List Nat) (ht:cJ s) (h:vR args s.hp s.nx=some (v,hp,nx,lg)):
  aU prog f args s v {s with hp:=hp,nx:=nx,lg:=lg++s.lg} lg:=by
 unfold vR at h;split at h<;>try(cases h;done)
 rename_i r m;split at h<;>try(cases h;done)
 rename_i hg;rw[fy]at h;simp only[ae,af]at h;obtain⟨rfl,rfl,rfl,rfl⟩:=h;simp only[Bool.and_eq_true,Nat.blt_eq]at hg;obtain⟨hm,hr⟩:=hg;obtain rfl:=Nat.eq_of_beq_eq_true hm;refine aU.quiet ht hfn fun ρ w vs hr' ha=> ?_
 obtain⟨V,vs1,hV,⟨V2,vs2,hV2,h3,rfl⟩,rfl⟩:=ha;cases hV;cases hV2;cases h3;exact(hc r 8 hr (by omega) w).mono fun e w' ⟨e1,e2⟩=>⟨_,e1,rfl,by rw[e2];exact Below.refl _ _⟩
def rQ:Sum:=fun args hp nx=>
 match args with
 | [.one (.c (.fn 188 [] [(bx,0)]))]=>match bn hp.get bx with
  |some (_,_,_,.cells [.map nm])=>match hp.get nm with
   |some (.map [])=>some (.one (.c .bf),hp,nx,[])
   |_=>none
  |_=>none
 |_=>none
theorem Iw{H:Type}{w:World}{b:Nat}{es:Array MapEntry}{clock:Nat}(h:w.heap[b]? =some (.map es clock))(he:es.toList= []):
  w.ownsMap (H:=H) prog 3 (fun _=>none) b 0 (.map []):=by
 obtain rfl:es= #[]:=by simpa using he
 exact⟨#[],clock,h,⟨Nat.zero_le _,Go.MapKept.stamped_empty clock,by simp⟩,Nat.le_refl _,rfl⟩
theorem xj{w:World}{bx mb:Nat}{es:Array MapEntry}{clock:Nat}(hc:w.cell? ⟨bx,0,none⟩=some (.map (some mb)))(hm:w.heap[mb]? =some (.map es clock))(he:es.toList= []):
  Calls prog 186 #[.func (.func 188) #[] #[.pointer (some ⟨bx,0,none⟩)]] w fun e w'=>e= .returned (.slice none 0 0)/\Below w.heap.size w w':=by
 refine(callsIn_wide (n:=6)).1 ?_;have hown:w.ownsMap (H:=Unit) prog 3 (fun _=>none) mb 0 (.map []):=Iw hm he
 have hbx:bx<w.heap.size:=by
  unfold World.cell? at hc;split at hc<;>try(cases hc;done)
  rename_i h;exact(Array.getElem?_eq_some_iff.1 h).1
 have hseq:=Ky.Ab Fence.wide 4 trivial rfl (by omega) bx mb 0 _ w hbx hc hown
 refine(Ky.yM Fence.wide 6 trivial trivial rfl (by omega) 188 #[.pointer (some ⟨bx,0,none⟩)] trivial (enters_of func188 (by kernel_rfl) rfl) _ _ (Nat.zero_le _) (by simp) w hseq).mono ?_
 rintro e w' ⟨v,ss,rfl,hS,_,hn,hb⟩;have:ss= []:=List.perm_nil.1 hS;exact⟨by rw[hn.2 this],hb⟩
theorem Dg(args:List RV)(s:S)(v:RV)(hp:T ax)(nx:Nat)(lg:List Nat)(ht:cJ s)(h:rQ args s.hp s.nx=some (v,hp,nx,lg)):
  aU prog 186 args s v {s with hp:=hp,nx:=nx,lg:=lg++s.lg} lg:=by
 unfold rQ at h;split at h<;>try(cases h;done)
 rename_i bx;split at h<;>try(cases h;done)
 rename_i t ro o nm bU;split at h<;>try(cases h;done)
 rename_i hmap;simp only[ae,af]at h;obtain⟨rfl,rfl,rfl,rfl⟩:=h;refine aU.quiet ht ⟨_,func186,rfl⟩ fun ρ w vs hr ha=> ?_
 obtain⟨V,vs1,hV,h3,rfl⟩:=ha;cases h3;obtain⟨us,cs,h0,⟨b,c,vs2,hb,h4,rfl⟩,rfl⟩:=hV;cases h4;cases h0;unfold bn at bU;split at bU<;>try(cases bU;done)
 rename_i h5;cases bU;obtain⟨b',c',ob,e1,e2,e3⟩:=hr.ok _ _ h5;rw[hb]at e1;cases e1;obtain⟨vs,tail,fr,rfl,⟨mv,_,⟨mb,mc,m1,rfl⟩,rfl,rfl⟩,_,_⟩:=e3;obtain⟨mb',mc',om,g1,g2,g3⟩:=hr.ok _ _ hmap;rw[m1]at g1;cases g1;obtain⟨aD,clock,rfl,hes,_⟩:=g3;have hcell:w.cell? ⟨b,0,none⟩=some (.map (some mb)):=by simp[World.cell?,e2]
 exact(xj hcell g2 hes).mono fun e w' ⟨q1,q2⟩=>⟨_,q1,rfl,q2⟩
theorem KB(w:World):Calls prog 271 #[.int .u64 0] w fun e w'=>e= .returned (.int .i64 0)/\w'=w:=by
 go_enter func271,ntmps271
 go_wp2
 go_ret
 exact⟨by kernel_rfl,rfl⟩
def zX:Sum:=fun args hp nx=>
 match args with
 | [.one (.c (.int .u64 (.ofNat 0)))]=>some (.one (.c (.int .i64 0)),hp,nx,[])
 |_=>none
theorem CQ(args:List RV)(s:S)(v:RV)(hp:T ax)(nx:Nat)(lg:List Nat)(ht:cJ s)(h:zX args s.hp s.nx=some (v,hp,nx,lg)):
  aU prog 271 args s v {s with hp:=hp,nx:=nx,lg:=lg++s.lg} lg:=by
 unfold zX at h;split at h<;>try(cases h;done)
 simp only[ae,af]at h;obtain⟨rfl,rfl,rfl,rfl⟩:=h;refine aU.quiet ht ⟨_,func271,rfl⟩ fun ρ w vs hr' ha=> ?_
 obtain⟨V,vs1,hV,h3,rfl⟩:=ha;cases hV;cases h3;exact(KB w).mono fun e w' ⟨e1,e2⟩=>⟨_,e1,rfl,by rw[e2];exact Below.refl _ _⟩
def WL:FuncId->Option Sum:=fun f=>match f with| 302=>some vR| 277=>some vR| 186=>some rQ| 271=>some zX|_=>none
theorem acr:su prog WL:=by
 intro g sm h args s v hp nx lg ht hs;unfold WL at h;split at h
 ·cases h;exact ze ⟨_,func302,rfl⟩ xg args s v hp nx lg ht hs
 ·cases h;exact ze ⟨_,func277,rfl⟩ Gn args s v hp nx lg ht hs
 ·cases h;exact Dg args s v hp nx lg ht hs
 ·cases h;exact CQ args s v hp nx lg ht hs
 ·cases h
end Go.Sx
namespace Go.Sx
open Go.Proofs Go.RowKit
theorem bM: ∀(g:Nat) (fn:Func),prog.funcs[g]? =some fn->(fn.name== "runtime.NumGoroutine")=false:=by
 have h:prog.funcs.toList.all (fun fn=> !(fn.name== "runtime.NumGoroutine"))=true:=by kernel_rfl
 intro g fn hf;rw[List.all_eq_true]at h;have:=h fn (by obtain⟨hg,rfl⟩:=Array.getElem?_eq_some_iff.1 hf;simp)
 simpa using this
theorem aV:prog.follows .mixedOrders=true:=by kernel_rfl
theorem afz:Fit prog WL:=⟨bM,aV,acr⟩
end Go.Sx
namespace Go.Sx
open Go.Proofs Go.RowKit
def gR:Code->Code| .seq _ b=>b| .block _ c=>c| .loop c=>c| .cond _ _ e=>e|c=>c
def gL:Code->Code| .seq a _=>a| .block _ c=>c| .loop c=>c| .cond _ t _=>t|c=>c
def gB(f:Nat):Code:=match prog.funcs[f]? with|some fn=>(match fn.body with|some c=>c|none=> .skip)|none=> .skip
def zk(n:Nat)(x:Int):Int:=((iter ff n x.toNat:Nat):Int)
def DE(args:List RV):Option (RV×List Prop):=match args with
 | [.one (.c (.int .u32 x)),.one (.c (.int .i64 n))]=>some (.one (.c (.int .u32 (zk n.toNat x))),[0<=x/\x<4294967296,0<=n/\n<=1000000000000])
 |_=>none
theorem bo.abh {ρ:aM}{x y:RV}{vs:List Value}(h:bo ρ [x,y] vs): ∃V W,bE ρ x V/\bE ρ y W/\vs= [V,W]:=by
 obtain⟨V,vs',h1,⟨W,vs2,h2,h3,rfl⟩,rfl⟩:=h;cases h3;exact⟨V,W,h1,h2,rfl⟩
theorem Hb(f:FuncId)(hc: ∀(r n:Nat) (_:r<4294967296) (_:n<=1000000000000) (w:World),Calls prog f #[.int .u32 r,.int .i64 n] w fun e w'=>e= .returned (.int .u32 (iter ff n r))/\w'=w):cg prog f DE:=by
 intro args v ps h hp ρ w vs ha;unfold DE at h;split at h<;>try(cases h;done)
 rename_i x n;simp only[ae,af]at h;obtain⟨rfl,rfl⟩:=h;obtain⟨⟨h1,h2⟩,⟨h3,h4⟩,_⟩:=hp;obtain⟨V,W,e1,e2,rfl⟩:=ha.abh;cases e1;cases e2;obtain⟨r,rfl⟩:=Int.eq_ofNat_of_zero_le h1;obtain⟨m,rfl⟩:=Int.eq_ofNat_of_zero_le h3;exact(hc r m (by omega) (by omega) w).mono fun e w' ⟨q1,q2⟩=>⟨_,q1,rfl,by rw[q2];exact Below.refl _ _⟩
def uO:FuncId->Option bg:=fun f=>match f with| 302=>some (aL DE)| 277=>some (aL DE)|_=>none
theorem qy:Fit prog (fun f=>(uO f).map bj):=⟨bM,aV,aI.sum fun f sm h=>by
 unfold uO at h;split at h
 ·cases h;exact(Hb 302 xg).sum ⟨_,func302,rfl⟩
 ·cases h;exact(Hb 277 Gn).sum ⟨_,func277,rfl⟩
 ·cases h⟩
def nK:Code:=gB 279
def Me:Code:=gL (gL (gR (gL (gR nK))))
def DO(t:TypeId)(op:Option Nat)(l:aj)(N:Nat)(r m:Int)(x y:Int):T ax:=aN [(0,.row t true op (.ints .u8 l N)),(1,.row 336 false none (.cells [.int .u32 r,.int .i64 m])),(2,.row 336 false none (.cells [.int .u32 x,.int .i64 y]))]
abbrev MO:List Nat:= [1,2,4,7,8,9]
def qc(t:TypeId)(op:Option Nat)(l:aj)(N off n cap:Nat)(r m i:Int):S:=aE MO 28 ⟨aN [(1,.one (.c (.sl 0 off n cap))),(2,.one (.c (.ptr 1 0))),(4,.one (.c (.ptr 2 0))),(7,.one (.c (.sl 0 off n cap))),(8,.one (.c (.int .i64 (n:Int)))),(9,.one (.c (.int .i64 i)))],DO t op l N r m 0 0,3,[]⟩
end Go.Sx
namespace Go.Sx
open Go.Proofs Go.RowKit
def Ds(r x:Int):Int:=u32.wrap ((BitVec.ofInt 32 r ^^^ BitVec.ofInt 32 (u32.wrap x)).toNat:Int)
def LG(r x:Int):Int:=zk 8 (Ds r x)
def lh(r:Int)(l:aj):Int:=l.foldl LG r
abbrev cF(x:Int):Prop:=0<=x/\x<4294967296
theorem gb(x:Int):cF (u32.wrap x):=by
 unfold IntKind.wrap;simp only[IntKind.bits,IntKind.signed];constructor<;>(simp;try omega)
theorem JI{f:Nat->Nat}(hf: ∀r,r<4294967296->f r<4294967296): ∀n r,r<4294967296->iter f n r<4294967296
 | 0,r,h=>h
 |n+1,r,h=>by unfold iter;exact hf _ (JI hf n r h)
theorem YN{n:Nat}{x:Int}(h:cF x):cF (zk n x):=by
 have:=JI (f:=ff) (fun r h=>zR h) n x.toNat (by have:=h.2;omega)
 exact⟨by unfold zk;omega,by unfold zk;omega⟩
theorem aaQ(r x:Int):cF (LG r x):=YN (gb _)
theorem Sa{r:Int}(h:cF r): ∀l,cF (lh r l)
 | []=>h
 |x::l=>Sa (aaQ r x) l
theorem aec(t:TypeId)(op:Option Nat)(l:aj)(N off n cap:Nat)(r m i:Int):az prog uO 300 28 Me (qc t op l N off n cap r m i) ⟨0,[(0,true),(1,true),(2,true)],[]⟩ (fun x s Z=>some (x,aE MO 28 s,Z.ob))
 =some (.normal,qc t op l N off n cap (LG r (l.getD (off+i.toNat*1) 0)) m (i64.wrap (i+1)),[0<=Ds r (l.getD (off+i.toNat*1) 0)/\Ds r (l.getD (off+i.toNat*1) 0)<4294967296,(0:Int)<=8/\(8:Int)<=1000000000000,
  decide (off+i.toNat*1<N)=true,decide (0<=i/\i<(n:Int))=true,decide (i<(n:Int))=true]):=by kernel_rfl
theorem acU(t:TypeId)(op:Option Nat)(l:aj)(N off n cap:Nat)(r m i:Int):az prog uO 300 28 Me (qc t op l N off n cap r m i) ⟨0,[(0,false)],[]⟩ (fun x s Z=>some (x,aE MO 28 s,Z.ob))
 =some (.exit 0,qc t op l N off n cap r m i,[decide (i<(n:Int))=false]):=by kernel_rfl
theorem WJ(t:TypeId)(op:Option Nat)(l:aj)(N off n cap:Nat)(m:Int)(hl:l.length=N)(hN:off+n<=N)(hn:n<=1000000000000){Q:ag}: ∀(k i:Nat) (r:Int),i+k=n->
  Q (.exit 0) (qc t op l N off n cap (lh r ((l.drop (off+i)).take k)) m n)->Tr prog 28 (.loop Me) (qc t op l N off n cap r m i) Q
 | 0,i,r,hi,hq=>by
  obtain rfl:i=n:=by omega
  refine Tr.loop (Tr.path qy (acU t op l N off i cap r m i) ⟨by simp,trivial⟩ ?_)
  exact hq
 |k+1,i,r,hi,hq=>by
  have hw:i64.wrap ((i:Int)+1)=((i+1:Nat):Int):=by rw[IntWalk.i64_in _ (by omega)];simp
  have hseg:(l.drop (off+i)).take (k+1)=l.getD (off+i) 0::(l.drop (off+(i+1))).take k:=by
   have aA:off+i<l.length:=by omega
   rw[List.drop_eq_getElem_cons aA,List.take_succ_cons];simp[List.getD,List.getElem?_eq_getElem aA,Nat.add_assoc]
  rw[hseg]at hq;have h:=aec t op l N off n cap r m i;rw[hw,Int.toNat_natCast,Nat.mul_one]at h;refine Tr.loop (Tr.path qy h ⟨gb _,by omega,by simp;omega,by simp;omega,by simp;omega,trivial⟩ ?_)
  exact WJ t op l N off n cap m hl hN hn k (i+1) _ (by omega) hq
def BE(off n cap:Nat)(r m:Int):List RV:= [.one (.agg [.int .u32 r,.int .i64 m]),.one (.c (.sl 0 off n cap))]
def MG(off n cap:Nat)(r m:Int):T RV:=match setArgs 28 (BE off n cap r m) 0 .nil some with|some t=>t|none=> .nil
def gF(t:TypeId)(op:Option Nat)(l:aj)(N:Nat):T ax:=aN [(0,.row t true op (.ints .u8 l N))]
theorem TY(off n cap:Nat)(r m:Int):setArgs 28 (BE off n cap r m) 0 .nil some=some (MG off n cap r m):=by kernel_rfl
theorem adx(t:TypeId)(op:Option Nat)(l:aj)(N off n cap:Nat)(r m:Int):az prog uO 300 28 (gL nK) ⟨MG off n cap r m,gF t op l N,1,[]⟩ ⟨0,[],[]⟩ (fun x s Z=>some (x,aE [1,2,4] 28 s,Z.ob))
 =some (.normal,aE [1,2,4] 28 ⟨aN [(1,.one (.c (.sl 0 off n cap))),(2,.one (.c (.ptr 1 0))),(4,.one (.c (.ptr 2 0)))],DO t op l N r m 0 0,3,[]⟩,[]):=by kernel_rfl
theorem adg(t:TypeId)(op:Option Nat)(l:aj)(N off n cap:Nat)(r m:Int):az prog uO 300 28 (gL (gL (gR nK))) (aE [1,2,4] 28 ⟨aN [(1,.one (.c (.sl 0 off n cap))),(2,.one (.c (.ptr 1 0))),(4,.one (.c (.ptr 2 0)))],DO t op l N r m 0 0,3,[]⟩) ⟨0,[],[]⟩ (fun x s Z=>some (x,aE MO 28 s,Z.ob))
 =some (.normal,qc t op l N off n cap r m 0,[]):=by kernel_rfl
def abA(t:TypeId)(op:Option Nat)(l:aj)(N:Nat)(r m x y:Int):S:=aE [4] 28 ⟨aN [(4,.one (.c (.ptr 2 0)))],DO t op l N r m x y,3,[]⟩
theorem adQ(t:TypeId)(op:Option Nat)(l:aj)(N off n cap:Nat)(r m i:Int):az prog uO 300 28 (gR (gR nK)) (qc t op l N off n cap r m i) ⟨0,[],[]⟩ (fun x s Z=>some (x,aE [4] 28 s,Z.ob))
 =some (.ret,abA t op l N r (i64.wrap (m+n)) r (i64.wrap (m+n)),[]):=by kernel_rfl
theorem adi(t:TypeId)(op:Option Nat)(l:aj)(N:Nat)(r m x y:Int):ba prog 28 (abA t op l N r m x y) f279.results.toList=some [.agg [.int .u32 x,.int .i64 y]]:=by kernel_rfl
theorem Lh:f279.body=some nK:=by kernel_rfl
theorem Zw(t:TypeId)(op:Option Nat)(l:aj)(N off n cap:Nat)(r m:Int)(hl:l.length=N)(hN:off+n<=N)(hn:n<=1000000000000):
  Tr prog 28 nK ⟨MG off n cap r m,gF t op l N,1,[]⟩ fun x s1=>(x= .normal\/x= .ret)/\∃L,ba prog 28 s1 f279.results.toList=some L/\c6 L= .one (.agg [.int .u32 (lh r ((l.drop off).take n)),.int .i64 (i64.wrap (m+n))]):=by
 refine Tr.seq (c:=gL nK) (d:=gR nK) (Tr.path qy (adx t op l N off n cap r m) trivial ?_);refine Tr.seq (c:=gL (gR nK)) (d:=gR (gR nK)) ?_;refine Tr.seq (c:=gL (gL (gR nK))) (d:= .block 0 (.loop Me)) (Tr.path qy (adg t op l N off n cap r m) trivial ?_);refine Tr.block (WJ t op l N off n cap m hl hN hn n 0 r (by omega) ?_)
 refine Tr.path qy (adQ t op l N off n cap _ m n) trivial ⟨.inr rfl,_,adi _ _ _ _ _ _ _ _,rfl⟩
def D5:bg:=fun args hp nx=>match args with
 | [.one (.agg [.int .u32 r,.int .i64 m]),.one (.c (.sl nm off n cap))]=>match bn hp.get nm with
  |some (_,_,_,.ints .u8 l N)=>some (.one (.agg [.int .u32 (lh r ((l.drop off).take n)),.int .i64 (i64.wrap (m+n))]),hp,nx,[],[l.length=N,off+n<=N,n<=1000000000000])
  |_=>none
 |_=>none
theorem OI:aI prog 279 D5:=by
 intro args s v hp nx lg ps ht h bB;unfold D5 at h;split at h<;>try(cases h;done)
 rename_i r m nm off n cap;split at h<;>try(cases h;done)
 rename_i t ro op l N bU;simp only[ae,af]at h;obtain⟨rfl,rfl,rfl,rfl,rfl⟩:=h;obtain⟨h1,h2,h3,_⟩:=bB;have hh:s.hp.get nm=some (.row t ro op (.ints .u8 l N)):=by
  unfold bn at bU;split at bU<;>try(cases bU;done)
  rename_i e;cases bU;exact e
 have ci:=aU.small (P:=prog) (f:=279) (args:=BE off n cap r m) (v:= .one (.agg [.int .u32 (lh r ((l.drop off).take n)),.int .i64 (i64.wrap (m+n))])) (k:=1) (hs:=gF t op l N) (θ:=fun _=>nm) (s:=s) ht ⟨_,func279,rfl⟩
  (Tr.small (fn:=f279) (c:=nK) func279 Lh (fun nm h=>by
   have: ∀nm,1<=nm->(gF t op l N).get nm=none:=fun nm h=>by
    show(T.node .nil (some _) .nil:T ax).get nm=none;rw[T.dq,if_neg (by omega)];split<;>rfl
   exact this nm h) (TY off n cap r m) (Zw t op l N off n cap r m h1 h2 h3))
  (fun nm' x hx=>by
   have hx':(T.node .nil (some (.row t true op (.ints .u8 l N))) .nil:T ax).get nm'=some x:=hx;rw[T.dq]at hx';by_cases e:nm'=0
   ·subst e;rw[if_pos rfl]at hx';cases hx';exact⟨by omega,_,hh,ft.ints⟩
   ·rw[if_neg e]at hx';split at hx'<;>cases hx')
  (by rfl) (by rfl)
 exact ci
end Go.Sx
namespace Go.Sx
open Go.Proofs Go.RowKit
def dv(x:Int):List Int:= [u8.wrap (x.fdiv (2 ^ 0)),u8.wrap (x.fdiv (2 ^ 8)),u8.wrap (x.fdiv (2 ^ 16)),u8.wrap (x.fdiv (2 ^ 24))]
def mf:FuncId->Option bg:=fun _=>none
theorem eM:Fit prog (fun f=>(mf f).map bj):=⟨bM,aV,aI.sum fun f sm h=>by cases h⟩
theorem RU(x:Int):cO prog mf 300 223 [.one (.c (.int .u32 x))] s0 ⟨0,[],[]⟩ (fun v _ Z=>some (v,Z.ob))=some (.one (.ints .u8 (dv x) 4),[]):=by kernel_rfl
def EK(args:List RV):Option (RV×List Prop):=match args with
 | [.one (.c (.int .u32 x))]=>some (.one (.ints .u8 (dv x) 4),[])
 |_=>none
theorem PR:cg prog 223 EK:=by
 intro args v ps h hp ρ w vs ha;unfold EK at h;split at h<;>try(cases h;done)
 simp only[ae,af]at h;obtain⟨rfl,rfl⟩:=h;exact cm eM (by rfl) (by rfl) (RU _) trivial ρ w vs ha
def wg(l:aj):Int:=u32.wrap ((BitVec.ofInt 32 4294967295 ^^^ BitVec.ofInt 32 (lh 4294967295 l)).toNat:Int)
def Qd:FuncId->Option bg:=fun f=>match f with| 279=>some D5| 223=>some (aL EK)|_=>none
theorem SI:Fit prog (fun f=>(Qd f).map bj):=⟨bM,aV,aI.sum fun f sm h=>by
 unfold Qd at h;split at h
 ·cases h;exact OI
 ·cases h;exact PR.sum ⟨_,func223,rfl⟩
 ·cases h⟩
def eN:List Int:= [0,0,0,0,0,0,0,0,0,0,0,0,0,0,0,0,0,0,0,0,0,0,0,0,0,0,0,0,0,0,0,0,0,0,0,0,0,0,0,0,0,0,0,0,0,0,0,0,0,0,0,0,0,0,0,0,0,0,0,0,0,0,0,0]
def A7(kind turn:Int)(p:aj):List Int:=aB (((aB eN 0 ((p.drop 0).take 54)).set 54 (u8.wrap kind)).set 55 (u8.wrap (i64.wrap (255 - kind)))) 56 (((dv turn).drop 0).take 4)
end Go.Sx
namespace Go.Sx
open Go.Proofs Go.RowKit
theorem ij(l x:aj):aB l 0 x=x++l.drop x.length:=by simp[aB]
theorem Je(a b x:aj)(h:x.length<=b.length):aB (a++b) a.length x=a++(x++b.drop x.length):=by
 simp[aB,List.drop_append]
theorem Qb(a b:aj)(x:Int)(i:Nat):(a++b).set (a.length+i) x=a++b.set i x:=by
 rw[List.set_append,if_neg (by omega)];simp
theorem aJ{l:aj}{n:Nat}(h:l.length=n):(l.drop 0).take n=l:=by simp[<-h]
theorem fb(x:Int):(dv x).length=4:=rfl
def cr(kind:Int):Bool:=decide (1<=kind) && decide (kind<=6)
def ji(kind turn:Int)(p:aj):List Int:=p++([kind,255 - kind]++dv turn)
def dV(kind turn:Int)(p:aj):List Int:=p++([kind,255 - kind]++dv turn++dv (wg (ji kind turn p)))
theorem JW{k:Int}(h:cr k=true):u8.wrap k=k/\u8.wrap (i64.wrap (255 - k))=255 - k:=by
 simp only[cr,Bool.and_eq_true,decide_eq_true_eq]at h;obtain⟨h1,h2⟩:=h;rw[IntWalk.i64_in _ (by omega)]
 unfold IntKind.wrap;simp only[IntKind.bits,IntKind.signed];constructor<;>(simp;omega)
theorem Jh{kind turn:Int}{p:aj}(hp:p.length=54)(hk:cr kind=true):A7 kind turn p=p++([kind,255 - kind]++dv turn++ [0,0,0,0]):=by
 unfold A7;rw[(JW hk).1,(JW hk).2,aJ hp,ij,hp];have h1:(p++List.drop 54 eN).set 54 kind=p++(List.drop 54 eN).set 0 kind:=by have:=Qb p (List.drop 54 eN) kind 0;rw[hp]at this;exact this
 have h2:(p++(List.drop 54 eN).set 0 kind).set 55 (255 - kind)=p++((List.drop 54 eN).set 0 kind).set 1 (255 - kind):=by have:=Qb p ((List.drop 54 eN).set 0 kind) (255 - kind) 1;rw[hp]at this;exact this
 rw[h1,h2,aJ (fb turn)];rw[show((List.drop 54 eN).set 0 kind).set 1 (255 - kind)= [kind,255 - kind]++ [0,0,0,0,0,0,0,0]from rfl, <-List.append_assoc]
 have h3:=Je (p++ [kind,255 - kind]) [0,0,0,0,0,0,0,0] (dv turn) (by rw[fb];decide)
 rw[show(p++ [kind,255 - kind]).length=56 by simp[hp]]at h3
 rw[h3,fb];simp
def TW(kind turn:Int)(p:aj):List Int:=aB (A7 kind turn p) 60 (((dv (wg (((A7 kind turn p).drop 0).take 60))).drop 0).take 4)
theorem k7{kind turn:Int}{p:aj}(hp:p.length=54):(dV kind turn p).length=64:=by simp[dV,hp,fb]
theorem Yq{kind turn:Int}{p:aj}(hp:p.length=54)(hk:cr kind=true):TW kind turn p=dV kind turn p:=by
 unfold TW;rw[Jh hp hk];have h1:(List.drop 0 (p++([kind,255 - kind]++dv turn++ [0,0,0,0]))).take 60=ji kind turn p:=by
  rw[List.drop_zero, <-List.append_assoc, <-List.append_assoc,List.take_left' (by simp[hp,fb])]
  simp[ji]
 rw[h1,aJ (fb _)];have h2:=Je (p++([kind,255 - kind]++dv turn)) [0,0,0,0] (dv (wg (ji kind turn p))) (by rw[fb];decide)
 rw[show(p++([kind,255 - kind]++dv turn)).length=60 by simp[hp,fb]]at h2
 rw[show p++([kind,255 - kind]++dv turn++ [0,0,0,0])=p++([kind,255 - kind]++dv turn)++ [0,0,0,0]by simp,h2,fb]
 simp[dV]
theorem Yy(kind turn:Int)(p:aj):cO prog Qd 300 219 [.one (.c (.int .i64 kind)),.one (.c (.int .u32 turn)),.one (.ints .u8 p 54)] s0 ⟨0,[(0,true),(1,true),(2,true),(3,false)],[]⟩ (fun v _ Z=>some (v,Z.ob))
 =some (.aF [.ints .u8 (((aB eN 0 (((TW kind turn p).drop 0).take 64)).drop 0).take 64) 64,.c (.int .i64 0)],[(A7 kind turn p).length=64,0+(60 - 0)<=64,60 - 0<=1000000000000,(!if true=true then decide (kind<=6)else false)=false,decide (kind>=1)=true,decide (kind>=1)=true,decide (kind>=1)=true]):=by kernel_rfl
theorem TT(kind turn:Int)(p:aj):cO prog Qd 300 219 [.one (.c (.int .i64 kind)),.one (.c (.int .u32 turn)),.one (.ints .u8 p 54)] s0 ⟨0,[(0,true),(1,true),(2,true),(3,true)],[]⟩ (fun v _ Z=>some (v,Z.ob))
 =some (.aF [.ints .u8 eN 64,.c (.int .i64 2)],[(!if true=true then decide (kind<=6)else false)=true,decide (kind>=1)=true,decide (kind>=1)=true,decide (kind>=1)=true]):=by kernel_rfl
theorem T9(kind turn:Int)(p:aj):cO prog Qd 300 219 [.one (.c (.int .i64 kind)),.one (.c (.int .u32 turn)),.one (.ints .u8 p 54)] s0 ⟨0,[(0,false),(1,false),(2,false)],[]⟩ (fun v _ Z=>some (v,Z.ob))
 =some (.aF [.ints .u8 eN 64,.c (.int .i64 2)],[decide (kind>=1)=false,decide (kind>=1)=false,decide (kind>=1)=false]):=by kernel_rfl
def eh(kind turn:Int)(p:aj):List Int:=if cr kind then dV kind turn p else eN
def cP(kind:Int):Int:=if cr kind then 0 else 2
def LN(args:List RV):Option (RV×List Prop):=match args with
 | [.one (.c (.int .i64 kind)),.one (.c (.int .u32 turn)),.one (.ints .u8 p 54)]=>some (.aF [.ints .u8 (eh kind turn p) 64,.c (.int .i64 (cP kind))],[])
 |_=>none
theorem Kr:cg prog 219 LN:=by
 intro args v ps h hp ρ w vs ha;unfold LN at h;split at h<;>try(cases h;done)
 rename_i kind turn p;simp only[ae,af]at h;obtain⟨rfl,rfl⟩:=h;have hlen:p.length=54:=by
  obtain⟨_,_,_,⟨_,_,_,⟨_,_,h3,_⟩,_⟩,_⟩:=ha;exact h3.1
 cases hk:cr kind with
 |true=>
  have hk':=hk;simp only[cr,Bool.and_eq_true,decide_eq_true_eq]at hk';have hr:=Yy kind turn p;rw[Yq hlen hk,aJ (k7 hlen),ij,k7 hlen]at hr;rw[show eN.drop 64= []from rfl,List.append_nil,aJ (k7 hlen)]at hr
  rw[show eh kind turn p=dV kind turn p by rw[eh,hk];rfl,show cP kind=0 by rw[cP,hk];rfl]
  refine cm SI (by rfl) (by rfl) hr ?_ ρ w vs ha
  have h3:(A7 kind turn p).length=64:=by rw[Jh hlen hk];simp[hlen,fb]
  have h1:decide (kind>=1)=true:=by simp;exact hk'.1
  have h2:decide (kind<=6)=true:=by simp;exact hk'.2
  simp only[aw,h1,h2,h3];simp
 |false=>
  rw[show eh kind turn p=eN by rw[eh,hk];rfl,show cP kind=2 by rw[cP,hk];rfl]
  cases h1:decide (kind>=1)with
  |true=>
   have h2:decide (kind<=6)=false:=by
    simp only[cr,Bool.and_eq_false_iff,decide_eq_false_iff_not]at hk;simp at h1 ⊢;omega
   exact cm SI (by rfl) (by rfl) (TT kind turn p) (by simp only[aw,h1,h2];simp) ρ w vs ha
  |false=>exact cm SI (by rfl) (by rfl) (T9 kind turn p) (by simp only[aw,h1];simp) ρ w vs ha
end Go.Sx
namespace Go.Sx
open Go.Proofs Go.RowKit
def gS(x y:Int):Int:=u32.wrap ((BitVec.ofInt 32 x|||BitVec.ofInt 32 y).toNat:Int)
def jR(x:Int)(n:Nat):Int:=u32.wrap (u32.wrap x*2 ^ n)
def lY(x0 x1 x2 x3:Int):Int:=gS (gS (gS (gS 0 (jR x0 0)) (jR x1 8)) (jR x2 16)) (jR x3 24)
def gx(b:aj):Int:=lY (b.getD (0+56*1) 0) (b.getD (0+57*1) 0) (b.getD (0+58*1) 0) (b.getD (0+59*1) 0)
theorem Uz(b:aj):cO prog mf 300 183 [.one (.ints .u8 b 64)] s0 ⟨0,[],[]⟩ (fun v _ Z=>some (v,Z.ob))=some (.one (.c (.int .u32 (gx b))),[]):=by kernel_rfl
def Dt(args:List RV):Option (RV×List Prop):=match args with
 | [.one (.ints .u8 b 64)]=>some (.one (.c (.int .u32 (gx b))),[])
 |_=>none
theorem Es:cg prog 183 Dt:=by
 intro args v ps h hp ρ w vs ha;unfold Dt at h;split at h<;>try(cases h;done)
 simp only[ae,af]at h;obtain⟨rfl,rfl⟩:=h;exact cm eM (by rfl) (by rfl) (Uz _) trivial ρ w vs ha
def Wp:FuncId->Option bg:=fun f=>match f with| 219=>some (aL LN)| 183=>some (aL Dt)|_=>none
theorem abQ:Fit prog (fun f=>(Wp f).map bj):=⟨bM,aV,aI.sum fun f sm h=>by
 unfold Wp at h;split at h
 ·cases h;exact Kr.sum ⟨_,func219,rfl⟩
 ·cases h;exact Es.sum ⟨_,func183,rfl⟩
 ·cases h⟩
end Go.Sx
namespace Go.Sx
open Go.Proofs Go.RowKit
abbrev fD(b:aj):Int:=i64.wrap (b.getD (0+54*1) 0)
abbrev t64(b:aj):List Int:=(b.drop 0).take 64
abbrev t54(b:aj):List Int:=(b.drop 0).take 54
def fw(b:aj):Bool:=(cP (fD b)==0) &&(eh (fD b) (gx b) (t54 b)==b)
theorem K8(b:aj):cO prog Wp 300 182 [.one (.ints .u8 b 64)] s0 ⟨0,[(6,true),(8,true),(10,true),(11,true)],[]⟩ (fun v _ Z=>some (v,Z.ob))
 =some (.one (.c (.bool (if true=true then t64 (aB eN 0 (eh (fD b) (gx (t64 b)) (t54 b)))==t64 b else false))),[(cP (fD b)==0)=true,(cP (fD b)==0)=true,(cP (fD b)==0)=true,(cP (fD b)==0)=true]):=by kernel_rfl
theorem KG(b:aj):cO prog Wp 300 182 [.one (.ints .u8 b 64)] s0 ⟨0,[(6,false),(7,false),(8,false),(9,false)],[]⟩ (fun v _ Z=>some (v,Z.ob))
 =some (.one (.c (.bool false)),[(cP (fD b)==0)=false,(cP (fD b)==0)=false,(cP (fD b)==0)=false,(cP (fD b)==0)=false]):=by kernel_rfl
def Ed(args:List RV):Option (RV×List Prop):=match args with
 | [.one (.ints .u8 b 64)]=>some (.one (.c (.bool (fw b))),[])
 |_=>none
theorem iu{kind turn:Int}{p:aj}(hp:p.length=54):(eh kind turn p).length=64:=by
 unfold eh;split
 ·exact k7 hp
 ·rfl
theorem rp{b:aj}(h:b.length=64):(t54 b).length=54:=by simp[h]
theorem iE{x:aj}(h:x.length=64):aB eN 0 x=x:=by
 rw[ij,h,show eN.drop 64= []from rfl,List.append_nil]
theorem qh{ρ:aM}{k:IntKind}{b:aj}{n:Nat}{vs:List Value}(h:bo ρ [.one (.ints k b n)] vs):b.length=n:=by
 obtain⟨_,_,h,_⟩:=h;exact h.1
theorem OQ:cg prog 182 Ed:=by
 intro args v ps h hp ρ w vs ha;unfold Ed at h;split at h<;>try(cases h;done)
 rename_i b;simp only[ae,af]at h;obtain⟨rfl,rfl⟩:=h;have hb:b.length=64:=qh ha;unfold fw;cases hk:(cP (fD b)==0)with
 |true=>
  have hr:=K8 b;rw[show t64 b=b from aJ hb,iE (iu (rp hb)),show t64 (eh (fD b) (gx b) (t54 b))=_ from aJ (iu (rp hb))]at hr
  simp only[if_true]at hr;rw[Bool.true_and];exact cm abQ (by rfl) (by rfl) hr (by simp only[aw,hk];simp) ρ w vs ha
 |false=>
  rw[Bool.false_and];exact cm abQ (by rfl) (by rfl) (KG b) (by simp only[aw,hk];simp) ρ w vs ha
def V3:FuncId->Option bg:=fun f=>match f with| 219=>some (aL LN)| 183=>some (aL Dt)| 182=>some (aL Ed)|_=>none
theorem xq:Fit prog (fun f=>(V3 f).map bj):=⟨bM,aV,aI.sum fun f sm h=>by
 unfold V3 at h;split at h
 ·cases h;exact Kr.sum ⟨_,func219,rfl⟩
 ·cases h;exact Es.sum ⟨_,func183,rfl⟩
 ·cases h;exact OQ.sum ⟨_,func182,rfl⟩
 ·cases h⟩
def bA:List Int:= [0,0,0,0,0,0,0,0,0,0,0,0,0,0,0,0,0,0,0,0,0,0,0,0,0,0,0,0,0,0,0,0,0,0,0,0,0,0,0,0,0,0,0,0,0,0,0,0,0,0,0,0,0,0]
def En(kind:Int)(b:aj)(o:List (Nat×Bool)):Option (RV×List Prop):=cO prog V3 300 118 [.one (.c (.int .i64 kind)),.one (.ints .u8 b 64)] s0 ⟨0,o,[]⟩ fun v _ Z=>some (v,Z.ob)
theorem aaY(kind:Int)(b:aj):En kind b [(0,true),(1,true),(2,true),(3,false),(6,true),(7,true),(8,true),(9,true)]=some (.aF [.ints .u8 bA 54,.c (.int .u32 0),.c (.int .i64 21)],
 [(fD b !=kind)=true,(fD b !=kind)=true,(fD b !=kind)=true,(fD b !=kind)=true,(!if true=true then decide (kind<=6)else false)=false,decide (kind>=1)=true,decide (kind>=1)=true,decide (kind>=1)=true]):=by kernel_rfl
theorem abL(kind:Int)(b:aj):En kind b [(0,true),(1,true),(2,true),(3,false),(6,false),(8,false),(9,false),(10,false),(11,false)]=some (.aF [.ints .u8 (t54 (aB bA 0 (t54 b))) 54,.c (.int .u32 (gx (t64 b))),.c (.int .i64 0)],
 [(if false=true then true else !fw (t64 b))=false,(fD b !=kind)=false,(fD b !=kind)=false,(fD b !=kind)=false,(fD b !=kind)=false,(!if true=true then decide (kind<=6)else false)=false,decide (kind>=1)=true,decide (kind>=1)=true,decide (kind>=1)=true]):=by kernel_rfl
theorem abo(kind:Int)(b:aj):En kind b [(0,true),(1,true),(2,true),(3,false),(6,false),(8,false),(9,false),(10,false),(11,true)]=some (.aF [.ints .u8 bA 54,.c (.int .u32 0),.c (.int .i64 21)],
 [(if false=true then true else !fw (t64 b))=true,(fD b !=kind)=false,(fD b !=kind)=false,(fD b !=kind)=false,(fD b !=kind)=false,(!if true=true then decide (kind<=6)else false)=false,decide (kind>=1)=true,decide (kind>=1)=true,decide (kind>=1)=true]):=by kernel_rfl
theorem acD(kind:Int)(b:aj):En kind b [(0,true),(1,true),(2,true),(3,true)]=some (.aF [.ints .u8 bA 54,.c (.int .u32 0),.c (.int .i64 2)],
 [(!if true=true then decide (kind<=6)else false)=true,decide (kind>=1)=true,decide (kind>=1)=true,decide (kind>=1)=true]):=by kernel_rfl
theorem ZX(kind:Int)(b:aj):En kind b [(0,false),(1,false),(2,false)]=some (.aF [.ints .u8 bA 54,.c (.int .u32 0),.c (.int .i64 2)],
 [decide (kind>=1)=false,decide (kind>=1)=false,decide (kind>=1)=false]):=by kernel_rfl
def gV(kind:Int)(b:aj):Bool:=cr kind &&(fD b==kind && fw b)
def cb(kind:Int)(b:aj):List Int:=if gV kind b then t54 b else bA
def oV(kind:Int)(b:aj):Int:=if gV kind b then gx b else 0
def dh(kind:Int)(b:aj):Int:=if cr kind then(if gV kind b then 0 else 21)else 2
def FU(args:List RV):Option (RV×List Prop):=match args with
 | [.one (.c (.int .i64 kind)),.one (.ints .u8 b 64)]=>some (.aF [.ints .u8 (cb kind b) 54,.c (.int .u32 (oV kind b)),.c (.int .i64 (dh kind b))],[])
 |_=>none
theorem ck{x:aj}(h:x.length=54):aB bA 0 x=x:=by
 rw[ij,h,show bA.drop 54= []from rfl,List.append_nil]
theorem wI:cg prog 118 FU:=by
 intro args v ps h hp ρ w vs ha;unfold FU at h;split at h<;>try(cases h;done)
 rename_i kind b;simp only[ae,af]at h;obtain⟨rfl,rfl⟩:=h;have hb:b.length=64:=by obtain⟨_,_,_,⟨_,_,h,_⟩,_⟩:=ha;exact h.1
 have e64:t64 b=b:=aJ hb;unfold cb oV dh gV;cases hk:cr kind with
 |false=>
  simp only[Bool.false_and,Bool.false_eq_true,if_false];cases h1:decide (kind>=1)with
  |true=>
   have h2:decide (kind<=6)=false:=by
    simp only[cr,Bool.and_eq_false_iff,decide_eq_false_iff_not]at hk;simp at h1 ⊢;omega
   exact cm xq (by rfl) (by rfl) (acD kind b) (by simp only[aw,h1,h2];simp) ρ w vs ha
  |false=>exact cm xq (by rfl) (by rfl) (ZX kind b) (by simp only[aw,h1];simp) ρ w vs ha
 |true=>
  have hk':=hk;simp only[cr,Bool.and_eq_true,decide_eq_true_eq]at hk';have h1:decide (kind>=1)=true:=by simp;exact hk'.1
  have h2:decide (kind<=6)=true:=by simp;exact hk'.2
  cases h3:(fD b==kind)with
  |false=>
   have h3':(fD b !=kind)=true:=by simp[bne,h3]
   simp only[Bool.false_and,Bool.and_false,Bool.false_eq_true,if_false,if_true];exact cm xq (by rfl) (by rfl) (aaY kind b) (by simp only[aw,h1,h2,h3'];simp) ρ w vs ha
  |true=>
   have h3':(fD b !=kind)=false:=by simp[bne,h3]
   cases h4:fw b with
   |false=>
    simp only[Bool.and_false,Bool.false_eq_true,if_false,if_true];exact cm xq (by rfl) (by rfl) (abo kind b) (by simp only[aw,h1,h2,h3',e64,h4];simp) ρ w vs ha
   |true=>
    simp only[Bool.and_true,if_true];have hr:=abL kind b;rw[ck (rp hb),show t54 (t54 b)=t54 b from aJ (rp hb),e64]at hr
    exact cm xq (by rfl) (by rfl) hr (by simp only[aw,h1,h2,h3',h4];simp) ρ w vs ha
end Go.Sx
