import Derived.Test.YtfceckiklfkjkaaGreatS25
import Derived.Test.YtfceckiklfkjkaaGreatS22
import Derived.Test.YtfceckiklfkjkaaGreatS19
noncomputable section
open Go.Proofs Go.RowKit
set_option maxRecDepth 100000
open Go.IntKind(i64 u8 u64 u32 u16)
open Go.Proofs.Tryz
namespace Go.Sx
theorem bo.one {ρ:aM}{x:RV}{vs:List Value}(h:bo ρ [x] vs): ∃V,bE ρ x V/\vs= [V]:=by
 obtain⟨V,vs',h1,h2,rfl⟩:=h;cases h2;exact⟨V,h1,rfl⟩
theorem bo.two {ρ:aM}{x y:RV}{vs:List Value}(h:bo ρ [x,y] vs): ∃V W,bE ρ x V/\bE ρ y W/\vs= [V,W]:=by
 obtain⟨V,vs',h1,h2,rfl⟩:=h;obtain⟨W,h3,rfl⟩:=h2.one;exact⟨V,W,h1,h3,rfl⟩
namespace Fi
def vF(args:List RV):Option (RV×List Prop):=match args with
 | [.one (.agg [.int .u8 k,.int .u8 l,.int .u32 s,.int .u16 d0,.int .u16 d1,.int .u16 d2,.int .u16 d3,.int .u16 sg,.int .u16 db])]=>some (.one (.c (.int .i64 (cW (aZ k l s d0 d1 d2 d3 sg db)))),[0<=k,0<=s])
 |_=>none
def Gc(args:List RV):Option (RV×List Prop):=match args with
 | [.one (.c (.int .i64 n))]=>some (.one (.c (.int .i64 (cX n))),[0<=n,n<4294967296])
 |_=>none
def UC(args:List RV):Option (RV×List Prop):=match args with
 | [.one (.agg [.int .i64 a,.int .i64 b,.int .i64 c]),.one (.c (.int .u16 s))]=>some (.one (.c (.bool (c7 a b c s))),[0<=s,s<65536])
 |_=>none
def L9(args:List RV):Option (RV×List Prop):=match args with
 | [.one (.agg [.int .i64 a,.int .i64 b,.int .i64 c]),.one (.c (.int .i64 s))]=>some (.one (.c (.bool (c7 a b c s))),[])
 |_=>none
theorem wS(f:FuncId)(hc: ∀(k l s d0 d1 d2 d3 sg db:Int),0<=k->0<=s->∀w:World,ib f k l s d0 d1 d2 d3 sg db w (cW (aZ k l s d0 d1 d2 d3 sg db))):cg prog f vF:=by
 intro args v ps h hp ρ w vs ha;unfold vF at h;split at h<;>try(cases h;done)
 simp only[ae,af]at h;obtain⟨rfl,rfl⟩:=h;obtain⟨V,h1,rfl⟩:=ha.one;rw[lT h1 rfl];exact(hc _ _ _ _ _ _ _ _ _ hp.1 hp.2.1 w).mono fun e w' ⟨e1,e2⟩=>⟨_,e1,rfl,e2⟩
theorem Bw(f:FuncId)(hc: ∀(n:Int),0<=n->n<4294967296->∀w:World,Calls prog f #[.int .i64 n] w fun e w'=>e= .returned (.int .i64 (cX n))/\w'=w):cg prog f Gc:=by
 intro args v ps h hp ρ w vs ha;unfold Gc at h;split at h<;>try(cases h;done)
 simp only[ae,af]at h;obtain⟨rfl,rfl⟩:=h;obtain⟨V,h1,rfl⟩:=ha.one;cases h1;exact(hc _ hp.1 hp.2.1 w).mono fun e w' ⟨e1,e2⟩=>⟨_,e1,rfl,by rw[e2];exact Below.refl _ _⟩
theorem Zy:cg prog 146 UC:=by
 intro args v ps h hp ρ w vs ha;unfold UC at h;split at h<;>try(cases h;done)
 simp only[ae,af]at h;obtain⟨rfl,rfl⟩:=h;obtain⟨V,W,h1,h2,rfl⟩:=ha.two;rw[lT h1 rfl];cases h2;exact(Yh _ _ _ _ hp.1 hp.2.1 w).mono fun e w' ⟨e1,e2⟩=>⟨_,e1,rfl,e2⟩
theorem UZ:cg prog 56 L9:=by
 intro args v ps h hp ρ w vs ha;unfold L9 at h;split at h<;>try(cases h;done)
 simp only[ae,af]at h;obtain⟨rfl,rfl⟩:=h;obtain⟨V,W,h1,h2,rfl⟩:=ha.two;rw[lT h1 rfl];cases h2;exact(YE _ _ _ _ w).mono fun e w' ⟨e1,e2⟩=>⟨_,e1,rfl,e2⟩
def dp:FuncId->Option bg:=fun f=>match f with
 | 144=>some (aL vF)| 164=>some (aL vF)| 145=>some (aL Gc)| 59=>some (aL Gc)| 146=>some (aL UC)| 56=>some (aL L9)|_=>none
theorem cA:Fit prog (fun f=>(dp f).map bj):=⟨bM,aV,aI.sum fun f sm h=>by
 unfold dp at h;split at h
 ·cases h;exact(wS 144 Tu).sum ⟨_,func144,rfl⟩
 ·cases h;exact(wS 164 Tg).sum ⟨_,func164,rfl⟩
 ·cases h;exact(Bw 145 yW).sum ⟨_,func145,rfl⟩
 ·cases h;exact(Bw 59 Db).sum ⟨_,func59,rfl⟩
 ·cases h;exact Zy.sum ⟨_,func146,rfl⟩
 ·cases h;exact UZ.sum ⟨_,func56,rfl⟩
 ·cases h⟩
end Fi
end Go.Sx
namespace Go.Sx.Fi
def cR:Code->Code| .seq _ b=>b| .block _ c=>c| .loop c=>c| .cond _ _ e=>e|c=>c
def cL:Code->Code| .seq a _=>a| .block _ c=>c| .loop c=>c| .cond _ t _=>t|c=>c
def body(f:Nat):Code:=match prog.funcs[f]? with|some fn=>(match fn.body with|some c=>c|none=> .skip)|none=> .skip
def c9:Code:=body 75
def shp(a b c k l s d0 d1 d2 d3 sg db:Int)(bx:List (Nat×ax)):T ax:=aN ([(0,.row 62 false none (.cells [.int .i64 a,.int .i64 b,.int .i64 c])),(1,.row 27 false none (.cells [.int .u8 k,.int .u8 l,.int .u32 s,.int .u16 d0,.int .u16 d1,.int .u16 d2,.int .u16 d3,.int .u16 sg,.int .u16 db])),
 (2,.row 27 false none (.cells [.int .u8 0,.int .u8 0,.int .u32 0,.int .u16 0,.int .u16 0,.int .u16 0,.int .u16 0,.int .u16 0,.int .u16 0]))]++bx)
def ssl(n:Int)(r:List (Nat×RV)):T RV:=aN ([(1,.one (.c (.int .i64 n))),(3,.one (.c (.ptr 0 0))),(5,.one (.c (.ptr 1 0))),(6,.one (.c (.ptr 2 0)))]++r)
def arr(m:Int):RV:= .one (.agg [.ptr 1 3,.bool (decide (m>0)),.ptr 1 4,.bool (decide (m>1)),.ptr 1 5,.bool (decide (m>2)),.ptr 1 6,.bool (decide (m>3)),.ptr 1 7,.bool (decide (m>4)),.ptr 1 8,.bool (decide (m>31))])
def bxs(m:Int)(j:Nat):List (Nat×ax):=List.take j [(3,.row 208 false none (.cells [.ptr 1 3,.bool (decide (m>0))])),(4,.row 208 false none (.cells [.ptr 1 4,.bool (decide (m>1))])),(5,.row 208 false none (.cells [.ptr 1 5,.bool (decide (m>2))])),
 (6,.row 208 false none (.cells [.ptr 1 6,.bool (decide (m>3))])),(7,.row 208 false none (.cells [.ptr 1 7,.bool (decide (m>4))])),(8,.row 208 false none (.cells [.ptr 1 8,.bool (decide (m>31))]))]
def l9:Code:=cL (cL (cR (cL (cR (cR (cR c9))))))
def mW(a b c n k l s d0 d1 d2 d3 sg db:Int):S:=aE [1,3,5,6] 75 ⟨ssl n [],shp a b c k l s d0 d1 d2 d3 sg db [],3,[]⟩
def I5(m a b c n k l s d0 d1 d2 d3 sg db:Int):S:=aE [1,3,5,6,7] 75 ⟨ssl n [(7,.one (.c (.int .i64 m)))],shp a b c k l s d0 d1 d2 d3 sg db [],3,[]⟩
def cQ(j:Nat)(m a b c n k l s d0 d1 d2 d3 sg db:Int):S:=aE [1,3,5,6,46,47] 75 ⟨ssl n [(46,arr m),(47,.one (.c (.int .i64 j)))],shp a b c k l s d0 d1 d2 d3 sg db (bxs m j),3+j,[]⟩
theorem nz{a b c d:Int}:kp a b c false d=0:=rfl
theorem nD{a b c d:Int}(h:c7 a b c d=false):kp a b c true d=0:=by unfold kp;rw[h];rfl
theorem nB{a b c d:Int}(h:c7 a b c d=true):kp a b c true d=d:=by unfold kp;rw[h];rfl
abbrev KP:List Nat:= [1,3,5,6,46,47]
theorem afe(m a b c n k l s d0 d1 d2 d3 sg db:Int):az prog dp 300 75 l9 (cQ 0 m a b c n k l s d0 d1 d2 d3 sg db) ⟨0,[(2,false),(3,false),(4,false),(5,false),(6,false),(7,false),(8,false),(9,false),(10,true)],[]⟩ (fun x s Z=>some (x,aE KP 75 s,Z.ob))=some (.normal,cQ 1 m a b c n k l s 0 d1 d2 d3 sg db,[(if false=true then true else !c7 a b c d0)=true,(!decide (m>0))=false,(!decide (m>0))=false,0<=d0,d0<65536,(!decide (m>0))=false,(!decide (m>0))=false,(!decide (m>0))=false,(!decide (m>0))=false,(!decide (m>0))=false,(!decide (m>0))=false]):=by kernel_rfl
theorem afW(m a b c n k l s d0 d1 d2 d3 sg db:Int):az prog dp 300 75 l9 (cQ 0 m a b c n k l s d0 d1 d2 d3 sg db) ⟨0,[(2,false),(3,false),(4,false),(5,false),(6,false),(7,false),(8,false),(9,false),(10,false)],[]⟩ (fun x s Z=>some (x,aE KP 75 s,Z.ob))=some (.normal,cQ 1 m a b c n k l s d0 d1 d2 d3 sg db,[(if false=true then true else !c7 a b c d0)=false,(!decide (m>0))=false,(!decide (m>0))=false,0<=d0,d0<65536,(!decide (m>0))=false,(!decide (m>0))=false,(!decide (m>0))=false,(!decide (m>0))=false,(!decide (m>0))=false,(!decide (m>0))=false]):=by kernel_rfl
theorem aff(m a b c n k l s d0 d1 d2 d3 sg db:Int):az prog dp 300 75 l9 (cQ 0 m a b c n k l s d0 d1 d2 d3 sg db) ⟨0,[(2,true),(3,true),(4,true),(5,true),(6,true),(7,true),(8,true),(9,true)],[]⟩ (fun x s Z=>some (x,aE KP 75 s,Z.ob))=some (.normal,cQ 1 m a b c n k l s 0 d1 d2 d3 sg db,[(!decide (m>0))=true,(!decide (m>0))=true,(!decide (m>0))=true,(!decide (m>0))=true,(!decide (m>0))=true,(!decide (m>0))=true,(!decide (m>0))=true,(!decide (m>0))=true]):=by kernel_rfl
theorem it0(m a b c n k l s d0 d1 d2 d3 sg db:Int)(h0:0<=d0)(h1:d0<65536){Q:ag}(hq:Q .normal (cQ 1 m a b c n k l s (kp a b c (decide (m>0)) d0) d1 d2 d3 sg db)):Tr prog 75 l9 (cQ 0 m a b c n k l s d0 d1 d2 d3 sg db) Q:=by
 cases h2:decide (m>0)with
 |false=>rw[h2,nz]at hq;exact Tr.path cA (aff m a b c n k l s d0 d1 d2 d3 sg db) (by simp only[aw,h2];simp) hq
 |true=>
  rw[h2]at hq;cases h3:c7 a b c d0 with
  |false=>rw[nD h3]at hq;exact Tr.path cA (afe m a b c n k l s d0 d1 d2 d3 sg db) (by simp only[aw,h2,h3];simp[h0,h1]) hq
  |true=>rw[nB h3]at hq;exact Tr.path cA (afW m a b c n k l s d0 d1 d2 d3 sg db) (by simp only[aw,h2,h3];simp[h0,h1]) hq
theorem afi(m a b c n k l s d0 d1 d2 d3 sg db:Int):az prog dp 300 75 l9 (cQ 1 m a b c n k l s d0 d1 d2 d3 sg db) ⟨0,[(2,false),(3,false),(4,false),(5,false),(6,false),(7,false),(8,false),(9,false),(10,true)],[]⟩ (fun x s Z=>some (x,aE KP 75 s,Z.ob))=some (.normal,cQ 2 m a b c n k l s d0 0 d2 d3 sg db,[(if false=true then true else !c7 a b c d1)=true,(!decide (m>1))=false,(!decide (m>1))=false,0<=d1,d1<65536,(!decide (m>1))=false,(!decide (m>1))=false,(!decide (m>1))=false,(!decide (m>1))=false,(!decide (m>1))=false,(!decide (m>1))=false]):=by kernel_rfl
theorem afa(m a b c n k l s d0 d1 d2 d3 sg db:Int):az prog dp 300 75 l9 (cQ 1 m a b c n k l s d0 d1 d2 d3 sg db) ⟨0,[(2,false),(3,false),(4,false),(5,false),(6,false),(7,false),(8,false),(9,false),(10,false)],[]⟩ (fun x s Z=>some (x,aE KP 75 s,Z.ob))=some (.normal,cQ 2 m a b c n k l s d0 d1 d2 d3 sg db,[(if false=true then true else !c7 a b c d1)=false,(!decide (m>1))=false,(!decide (m>1))=false,0<=d1,d1<65536,(!decide (m>1))=false,(!decide (m>1))=false,(!decide (m>1))=false,(!decide (m>1))=false,(!decide (m>1))=false,(!decide (m>1))=false]):=by kernel_rfl
theorem afu(m a b c n k l s d0 d1 d2 d3 sg db:Int):az prog dp 300 75 l9 (cQ 1 m a b c n k l s d0 d1 d2 d3 sg db) ⟨0,[(2,true),(3,true),(4,true),(5,true),(6,true),(7,true),(8,true),(9,true)],[]⟩ (fun x s Z=>some (x,aE KP 75 s,Z.ob))=some (.normal,cQ 2 m a b c n k l s d0 0 d2 d3 sg db,[(!decide (m>1))=true,(!decide (m>1))=true,(!decide (m>1))=true,(!decide (m>1))=true,(!decide (m>1))=true,(!decide (m>1))=true,(!decide (m>1))=true,(!decide (m>1))=true]):=by kernel_rfl
theorem it1(m a b c n k l s d0 d1 d2 d3 sg db:Int)(h0:0<=d1)(h1:d1<65536){Q:ag}(hq:Q .normal (cQ 2 m a b c n k l s d0 (kp a b c (decide (m>1)) d1) d2 d3 sg db)):Tr prog 75 l9 (cQ 1 m a b c n k l s d0 d1 d2 d3 sg db) Q:=by
 cases h2:decide (m>1)with
 |false=>rw[h2,nz]at hq;exact Tr.path cA (afu m a b c n k l s d0 d1 d2 d3 sg db) (by simp only[aw,h2];simp) hq
 |true=>
  rw[h2]at hq;cases h3:c7 a b c d1 with
  |false=>rw[nD h3]at hq;exact Tr.path cA (afi m a b c n k l s d0 d1 d2 d3 sg db) (by simp only[aw,h2,h3];simp[h0,h1]) hq
  |true=>rw[nB h3]at hq;exact Tr.path cA (afa m a b c n k l s d0 d1 d2 d3 sg db) (by simp only[aw,h2,h3];simp[h0,h1]) hq
theorem af0(m a b c n k l s d0 d1 d2 d3 sg db:Int):az prog dp 300 75 l9 (cQ 2 m a b c n k l s d0 d1 d2 d3 sg db) ⟨0,[(2,false),(3,false),(4,false),(5,false),(6,false),(7,false),(8,false),(9,false),(10,true)],[]⟩ (fun x s Z=>some (x,aE KP 75 s,Z.ob))=some (.normal,cQ 3 m a b c n k l s d0 d1 0 d3 sg db,[(if false=true then true else !c7 a b c d2)=true,(!decide (m>2))=false,(!decide (m>2))=false,0<=d2,d2<65536,(!decide (m>2))=false,(!decide (m>2))=false,(!decide (m>2))=false,(!decide (m>2))=false,(!decide (m>2))=false,(!decide (m>2))=false]):=by kernel_rfl
theorem af5(m a b c n k l s d0 d1 d2 d3 sg db:Int):az prog dp 300 75 l9 (cQ 2 m a b c n k l s d0 d1 d2 d3 sg db) ⟨0,[(2,false),(3,false),(4,false),(5,false),(6,false),(7,false),(8,false),(9,false),(10,false)],[]⟩ (fun x s Z=>some (x,aE KP 75 s,Z.ob))=some (.normal,cQ 3 m a b c n k l s d0 d1 d2 d3 sg db,[(if false=true then true else !c7 a b c d2)=false,(!decide (m>2))=false,(!decide (m>2))=false,0<=d2,d2<65536,(!decide (m>2))=false,(!decide (m>2))=false,(!decide (m>2))=false,(!decide (m>2))=false,(!decide (m>2))=false,(!decide (m>2))=false]):=by kernel_rfl
theorem ae5(m a b c n k l s d0 d1 d2 d3 sg db:Int):az prog dp 300 75 l9 (cQ 2 m a b c n k l s d0 d1 d2 d3 sg db) ⟨0,[(2,true),(3,true),(4,true),(5,true),(6,true),(7,true),(8,true),(9,true)],[]⟩ (fun x s Z=>some (x,aE KP 75 s,Z.ob))=some (.normal,cQ 3 m a b c n k l s d0 d1 0 d3 sg db,[(!decide (m>2))=true,(!decide (m>2))=true,(!decide (m>2))=true,(!decide (m>2))=true,(!decide (m>2))=true,(!decide (m>2))=true,(!decide (m>2))=true,(!decide (m>2))=true]):=by kernel_rfl
theorem it2(m a b c n k l s d0 d1 d2 d3 sg db:Int)(h0:0<=d2)(h1:d2<65536){Q:ag}(hq:Q .normal (cQ 3 m a b c n k l s d0 d1 (kp a b c (decide (m>2)) d2) d3 sg db)):Tr prog 75 l9 (cQ 2 m a b c n k l s d0 d1 d2 d3 sg db) Q:=by
 cases h2:decide (m>2)with
 |false=>rw[h2,nz]at hq;exact Tr.path cA (ae5 m a b c n k l s d0 d1 d2 d3 sg db) (by simp only[aw,h2];simp) hq
 |true=>
  rw[h2]at hq;cases h3:c7 a b c d2 with
  |false=>rw[nD h3]at hq;exact Tr.path cA (af0 m a b c n k l s d0 d1 d2 d3 sg db) (by simp only[aw,h2,h3];simp[h0,h1]) hq
  |true=>rw[nB h3]at hq;exact Tr.path cA (af5 m a b c n k l s d0 d1 d2 d3 sg db) (by simp only[aw,h2,h3];simp[h0,h1]) hq
theorem agF(m a b c n k l s d0 d1 d2 d3 sg db:Int):az prog dp 300 75 l9 (cQ 3 m a b c n k l s d0 d1 d2 d3 sg db) ⟨0,[(2,false),(3,false),(4,false),(5,false),(6,false),(7,false),(8,false),(9,false),(10,true)],[]⟩ (fun x s Z=>some (x,aE KP 75 s,Z.ob))=some (.normal,cQ 4 m a b c n k l s d0 d1 d2 0 sg db,[(if false=true then true else !c7 a b c d3)=true,(!decide (m>3))=false,(!decide (m>3))=false,0<=d3,d3<65536,(!decide (m>3))=false,(!decide (m>3))=false,(!decide (m>3))=false,(!decide (m>3))=false,(!decide (m>3))=false,(!decide (m>3))=false]):=by kernel_rfl
theorem af3(m a b c n k l s d0 d1 d2 d3 sg db:Int):az prog dp 300 75 l9 (cQ 3 m a b c n k l s d0 d1 d2 d3 sg db) ⟨0,[(2,false),(3,false),(4,false),(5,false),(6,false),(7,false),(8,false),(9,false),(10,false)],[]⟩ (fun x s Z=>some (x,aE KP 75 s,Z.ob))=some (.normal,cQ 4 m a b c n k l s d0 d1 d2 d3 sg db,[(if false=true then true else !c7 a b c d3)=false,(!decide (m>3))=false,(!decide (m>3))=false,0<=d3,d3<65536,(!decide (m>3))=false,(!decide (m>3))=false,(!decide (m>3))=false,(!decide (m>3))=false,(!decide (m>3))=false,(!decide (m>3))=false]):=by kernel_rfl
theorem afX(m a b c n k l s d0 d1 d2 d3 sg db:Int):az prog dp 300 75 l9 (cQ 3 m a b c n k l s d0 d1 d2 d3 sg db) ⟨0,[(2,true),(3,true),(4,true),(5,true),(6,true),(7,true),(8,true),(9,true)],[]⟩ (fun x s Z=>some (x,aE KP 75 s,Z.ob))=some (.normal,cQ 4 m a b c n k l s d0 d1 d2 0 sg db,[(!decide (m>3))=true,(!decide (m>3))=true,(!decide (m>3))=true,(!decide (m>3))=true,(!decide (m>3))=true,(!decide (m>3))=true,(!decide (m>3))=true,(!decide (m>3))=true]):=by kernel_rfl
theorem it3(m a b c n k l s d0 d1 d2 d3 sg db:Int)(h0:0<=d3)(h1:d3<65536){Q:ag}(hq:Q .normal (cQ 4 m a b c n k l s d0 d1 d2 (kp a b c (decide (m>3)) d3) sg db)):Tr prog 75 l9 (cQ 3 m a b c n k l s d0 d1 d2 d3 sg db) Q:=by
 cases h2:decide (m>3)with
 |false=>rw[h2,nz]at hq;exact Tr.path cA (afX m a b c n k l s d0 d1 d2 d3 sg db) (by simp only[aw,h2];simp) hq
 |true=>
  rw[h2]at hq;cases h3:c7 a b c d3 with
  |false=>rw[nD h3]at hq;exact Tr.path cA (agF m a b c n k l s d0 d1 d2 d3 sg db) (by simp only[aw,h2,h3];simp[h0,h1]) hq
  |true=>rw[nB h3]at hq;exact Tr.path cA (af3 m a b c n k l s d0 d1 d2 d3 sg db) (by simp only[aw,h2,h3];simp[h0,h1]) hq
theorem age(m a b c n k l s d0 d1 d2 d3 sg db:Int):az prog dp 300 75 l9 (cQ 4 m a b c n k l s d0 d1 d2 d3 sg db) ⟨0,[(2,false),(3,false),(4,false),(5,false),(6,false),(7,false),(8,false),(9,false),(10,true)],[]⟩ (fun x s Z=>some (x,aE KP 75 s,Z.ob))=some (.normal,cQ 5 m a b c n k l s d0 d1 d2 d3 0 db,[(if false=true then true else !c7 a b c sg)=true,(!decide (m>4))=false,(!decide (m>4))=false,0<=sg,sg<65536,(!decide (m>4))=false,(!decide (m>4))=false,(!decide (m>4))=false,(!decide (m>4))=false,(!decide (m>4))=false,(!decide (m>4))=false]):=by kernel_rfl
theorem agS(m a b c n k l s d0 d1 d2 d3 sg db:Int):az prog dp 300 75 l9 (cQ 4 m a b c n k l s d0 d1 d2 d3 sg db) ⟨0,[(2,false),(3,false),(4,false),(5,false),(6,false),(7,false),(8,false),(9,false),(10,false)],[]⟩ (fun x s Z=>some (x,aE KP 75 s,Z.ob))=some (.normal,cQ 5 m a b c n k l s d0 d1 d2 d3 sg db,[(if false=true then true else !c7 a b c sg)=false,(!decide (m>4))=false,(!decide (m>4))=false,0<=sg,sg<65536,(!decide (m>4))=false,(!decide (m>4))=false,(!decide (m>4))=false,(!decide (m>4))=false,(!decide (m>4))=false,(!decide (m>4))=false]):=by kernel_rfl
theorem agq(m a b c n k l s d0 d1 d2 d3 sg db:Int):az prog dp 300 75 l9 (cQ 4 m a b c n k l s d0 d1 d2 d3 sg db) ⟨0,[(2,true),(3,true),(4,true),(5,true),(6,true),(7,true),(8,true),(9,true)],[]⟩ (fun x s Z=>some (x,aE KP 75 s,Z.ob))=some (.normal,cQ 5 m a b c n k l s d0 d1 d2 d3 0 db,[(!decide (m>4))=true,(!decide (m>4))=true,(!decide (m>4))=true,(!decide (m>4))=true,(!decide (m>4))=true,(!decide (m>4))=true,(!decide (m>4))=true,(!decide (m>4))=true]):=by kernel_rfl
theorem it4(m a b c n k l s d0 d1 d2 d3 sg db:Int)(h0:0<=sg)(h1:sg<65536){Q:ag}(hq:Q .normal (cQ 5 m a b c n k l s d0 d1 d2 d3 (kp a b c (decide (m>4)) sg) db)):Tr prog 75 l9 (cQ 4 m a b c n k l s d0 d1 d2 d3 sg db) Q:=by
 cases h2:decide (m>4)with
 |false=>rw[h2,nz]at hq;exact Tr.path cA (agq m a b c n k l s d0 d1 d2 d3 sg db) (by simp only[aw,h2];simp) hq
 |true=>
  rw[h2]at hq;cases h3:c7 a b c sg with
  |false=>rw[nD h3]at hq;exact Tr.path cA (age m a b c n k l s d0 d1 d2 d3 sg db) (by simp only[aw,h2,h3];simp[h0,h1]) hq
  |true=>rw[nB h3]at hq;exact Tr.path cA (agS m a b c n k l s d0 d1 d2 d3 sg db) (by simp only[aw,h2,h3];simp[h0,h1]) hq
theorem agw(m a b c n k l s d0 d1 d2 d3 sg db:Int):az prog dp 300 75 l9 (cQ 5 m a b c n k l s d0 d1 d2 d3 sg db) ⟨0,[(2,false),(3,false),(4,false),(5,false),(6,false),(7,false),(8,false),(9,false),(10,true)],[]⟩ (fun x s Z=>some (x,aE KP 75 s,Z.ob))=some (.normal,cQ 6 m a b c n k l s d0 d1 d2 d3 sg 0,[(if false=true then true else !c7 a b c db)=true,(!decide (m>31))=false,(!decide (m>31))=false,0<=db,db<65536,(!decide (m>31))=false,(!decide (m>31))=false,(!decide (m>31))=false,(!decide (m>31))=false,(!decide (m>31))=false,(!decide (m>31))=false]):=by kernel_rfl
theorem agN(m a b c n k l s d0 d1 d2 d3 sg db:Int):az prog dp 300 75 l9 (cQ 5 m a b c n k l s d0 d1 d2 d3 sg db) ⟨0,[(2,false),(3,false),(4,false),(5,false),(6,false),(7,false),(8,false),(9,false),(10,false)],[]⟩ (fun x s Z=>some (x,aE KP 75 s,Z.ob))=some (.normal,cQ 6 m a b c n k l s d0 d1 d2 d3 sg db,[(if false=true then true else !c7 a b c db)=false,(!decide (m>31))=false,(!decide (m>31))=false,0<=db,db<65536,(!decide (m>31))=false,(!decide (m>31))=false,(!decide (m>31))=false,(!decide (m>31))=false,(!decide (m>31))=false,(!decide (m>31))=false]):=by kernel_rfl
theorem agT(m a b c n k l s d0 d1 d2 d3 sg db:Int):az prog dp 300 75 l9 (cQ 5 m a b c n k l s d0 d1 d2 d3 sg db) ⟨0,[(2,true),(3,true),(4,true),(5,true),(6,true),(7,true),(8,true),(9,true)],[]⟩ (fun x s Z=>some (x,aE KP 75 s,Z.ob))=some (.normal,cQ 6 m a b c n k l s d0 d1 d2 d3 sg 0,[(!decide (m>31))=true,(!decide (m>31))=true,(!decide (m>31))=true,(!decide (m>31))=true,(!decide (m>31))=true,(!decide (m>31))=true,(!decide (m>31))=true,(!decide (m>31))=true]):=by kernel_rfl
theorem it5(m a b c n k l s d0 d1 d2 d3 sg db:Int)(h0:0<=db)(h1:db<65536){Q:ag}(hq:Q .normal (cQ 6 m a b c n k l s d0 d1 d2 d3 sg (kp a b c (decide (m>31)) db))):Tr prog 75 l9 (cQ 5 m a b c n k l s d0 d1 d2 d3 sg db) Q:=by
 cases h2:decide (m>31)with
 |false=>rw[h2,nz]at hq;exact Tr.path cA (agT m a b c n k l s d0 d1 d2 d3 sg db) (by simp only[aw,h2];simp) hq
 |true=>
  rw[h2]at hq;cases h3:c7 a b c db with
  |false=>rw[nD h3]at hq;exact Tr.path cA (agw m a b c n k l s d0 d1 d2 d3 sg db) (by simp only[aw,h2,h3];simp[h0,h1]) hq
  |true=>rw[nB h3]at hq;exact Tr.path cA (agN m a b c n k l s d0 d1 d2 d3 sg db) (by simp only[aw,h2,h3];simp[h0,h1]) hq
theorem it6(m a b c n k l s d0 d1 d2 d3 sg db:Int):az prog dp 300 75 l9 (cQ 6 m a b c n k l s d0 d1 d2 d3 sg db) ⟨0,[],[]⟩ (fun x s Z=>some (x,aE KP 75 s,Z.ob))=some (.exit 0,cQ 6 m a b c n k l s d0 d1 d2 d3 sg db,[]):=by kernel_rfl
theorem lp6(m a b c n k l s d0 d1 d2 d3 sg db:Int){Q:ag}(hq:Q (.exit 0) (cQ 6 m a b c n k l s d0 d1 d2 d3 sg db)):Tr prog 75 (.loop l9) (cQ 6 m a b c n k l s d0 d1 d2 d3 sg db) Q:=by
 refine Tr.loop (Tr.path cA (it6 m a b c n k l s d0 d1 d2 d3 sg db) trivial ?_);exact hq
theorem lp5(m a b c n k l s d0 d1 d2 d3 sg db:Int)(p5:0<=db/\db<65536){Q:ag}(hq:Q (.exit 0) (cQ 6 m a b c n k l s d0 d1 d2 d3 sg (kp a b c (decide (m>31)) db))):Tr prog 75 (.loop l9) (cQ 5 m a b c n k l s d0 d1 d2 d3 sg db) Q:=
 Tr.loop (it5 m a b c n k l s d0 d1 d2 d3 sg db p5.1 p5.2 (lp6 m a b c n k l s d0 d1 d2 d3 sg (kp a b c (decide (m>31)) db) hq))
theorem lp4(m a b c n k l s d0 d1 d2 d3 sg db:Int)(p4:0<=sg/\sg<65536)(p5:0<=db/\db<65536){Q:ag}(hq:Q (.exit 0) (cQ 6 m a b c n k l s d0 d1 d2 d3 (kp a b c (decide (m>4)) sg) (kp a b c (decide (m>31)) db))):Tr prog 75 (.loop l9) (cQ 4 m a b c n k l s d0 d1 d2 d3 sg db) Q:=
 Tr.loop (it4 m a b c n k l s d0 d1 d2 d3 sg db p4.1 p4.2 (lp5 m a b c n k l s d0 d1 d2 d3 (kp a b c (decide (m>4)) sg) db p5 hq))
theorem lp3(m a b c n k l s d0 d1 d2 d3 sg db:Int)(p3:0<=d3/\d3<65536)(p4:0<=sg/\sg<65536)(p5:0<=db/\db<65536){Q:ag}(hq:Q (.exit 0) (cQ 6 m a b c n k l s d0 d1 d2 (kp a b c (decide (m>3)) d3) (kp a b c (decide (m>4)) sg) (kp a b c (decide (m>31)) db))):Tr prog 75 (.loop l9) (cQ 3 m a b c n k l s d0 d1 d2 d3 sg db) Q:=
 Tr.loop (it3 m a b c n k l s d0 d1 d2 d3 sg db p3.1 p3.2 (lp4 m a b c n k l s d0 d1 d2 (kp a b c (decide (m>3)) d3) sg db p4 p5 hq))
theorem lp2(m a b c n k l s d0 d1 d2 d3 sg db:Int)(p2:0<=d2/\d2<65536)(p3:0<=d3/\d3<65536)(p4:0<=sg/\sg<65536)(p5:0<=db/\db<65536){Q:ag}(hq:Q (.exit 0) (cQ 6 m a b c n k l s d0 d1 (kp a b c (decide (m>2)) d2) (kp a b c (decide (m>3)) d3) (kp a b c (decide (m>4)) sg) (kp a b c (decide (m>31)) db))):Tr prog 75 (.loop l9) (cQ 2 m a b c n k l s d0 d1 d2 d3 sg db) Q:=
 Tr.loop (it2 m a b c n k l s d0 d1 d2 d3 sg db p2.1 p2.2 (lp3 m a b c n k l s d0 d1 (kp a b c (decide (m>2)) d2) d3 sg db p3 p4 p5 hq))
theorem lp1(m a b c n k l s d0 d1 d2 d3 sg db:Int)(p1:0<=d1/\d1<65536)(p2:0<=d2/\d2<65536)(p3:0<=d3/\d3<65536)(p4:0<=sg/\sg<65536)(p5:0<=db/\db<65536){Q:ag}(hq:Q (.exit 0) (cQ 6 m a b c n k l s d0 (kp a b c (decide (m>1)) d1) (kp a b c (decide (m>2)) d2) (kp a b c (decide (m>3)) d3) (kp a b c (decide (m>4)) sg) (kp a b c (decide (m>31)) db))):Tr prog 75 (.loop l9) (cQ 1 m a b c n k l s d0 d1 d2 d3 sg db) Q:=
 Tr.loop (it1 m a b c n k l s d0 d1 d2 d3 sg db p1.1 p1.2 (lp2 m a b c n k l s d0 (kp a b c (decide (m>1)) d1) d2 d3 sg db p2 p3 p4 p5 hq))
theorem lp0(m a b c n k l s d0 d1 d2 d3 sg db:Int)(p0:0<=d0/\d0<65536)(p1:0<=d1/\d1<65536)(p2:0<=d2/\d2<65536)(p3:0<=d3/\d3<65536)(p4:0<=sg/\sg<65536)(p5:0<=db/\db<65536){Q:ag}(hq:Q (.exit 0) (cQ 6 m a b c n k l s (kp a b c (decide (m>0)) d0) (kp a b c (decide (m>1)) d1) (kp a b c (decide (m>2)) d2) (kp a b c (decide (m>3)) d3) (kp a b c (decide (m>4)) sg) (kp a b c (decide (m>31)) db))):Tr prog 75 (.loop l9) (cQ 0 m a b c n k l s d0 d1 d2 d3 sg db) Q:=
 Tr.loop (it0 m a b c n k l s d0 d1 d2 d3 sg db p0.1 p0.2 (lp1 m a b c n k l s (kp a b c (decide (m>0)) d0) d1 d2 d3 sg db p1 p2 p3 p4 p5 hq))
def Bv(a b c n k l s d0 d1 d2 d3 sg db:Int):List RV:= [.one (.agg [.int .i64 a,.int .i64 b,.int .i64 c]),.one (.c (.int .i64 n)),.one (.agg [.int .u8 k,.int .u8 l,.int .u32 s,.int .u16 d0,.int .u16 d1,.int .u16 d2,.int .u16 d3,.int .u16 sg,.int .u16 db])]
def CL(a b c n k l s d0 d1 d2 d3 sg db:Int):T RV:=match setArgs 75 (Bv a b c n k l s d0 d1 d2 d3 sg db) 0 .nil some with|some t=>t|none=> .nil
theorem u6(a b c n k l s d0 d1 d2 d3 sg db:Int):setArgs 75 (Bv a b c n k l s d0 d1 d2 d3 sg db) 0 .nil some=some (CL a b c n k l s d0 d1 d2 d3 sg db):=by kernel_rfl
theorem pA(a b c n k l s d0 d1 d2 d3 sg db:Int):az prog dp 300 75 (cL c9) ⟨CL a b c n k l s d0 d1 d2 d3 sg db,.nil,0,[]⟩ ⟨0,[],[]⟩ (fun x s Z=>some (x,aE [1,3,5,6] 75 s,Z.ob))=some (.normal,mW a b c n k l s d0 d1 d2 d3 sg db,[]):=by kernel_rfl
theorem pB0(a b c n k l s d0 d1 d2 d3 sg db:Int):az prog dp 300 75 (cL (cR c9)) (mW a b c n k l s d0 d1 d2 d3 sg db) ⟨0,[(0,true)],[]⟩ (fun x s Z=>some (x,aE [1,3,5,6] 75 s,Z.ob))=some (.normal,mW a b c n 0 0 0 0 0 0 0 0 0,[(cW (aZ k l s d0 d1 d2 d3 sg db) !=0)=true,0<=k,0<=s]):=by kernel_rfl
theorem pB1(a b c n k l s d0 d1 d2 d3 sg db:Int):az prog dp 300 75 (cL (cR c9)) (mW a b c n k l s d0 d1 d2 d3 sg db) ⟨0,[(0,false)],[]⟩ (fun x s Z=>some (x,aE [1,3,5,6] 75 s,Z.ob))=some (.normal,mW a b c n k l s d0 d1 d2 d3 sg db,[(cW (aZ k l s d0 d1 d2 d3 sg db) !=0)=false,0<=k,0<=s]):=by kernel_rfl
theorem pC(a b c n k l s d0 d1 d2 d3 sg db:Int):az prog dp 300 75 (cL (cR (cR c9))) (mW a b c n k l s d0 d1 d2 d3 sg db) ⟨0,[],[]⟩ (fun x s Z=>some (x,aE [1,3,5,6,7] 75 s,Z.ob))=some (.normal,I5 (cX (i64.wrap s)) a b c n k l s d0 d1 d2 d3 sg db,[0<=i64.wrap s,i64.wrap s<4294967296]):=by kernel_rfl
theorem pD(m a b c n k l s d0 d1 d2 d3 sg db:Int):az prog dp 300 75 (cL (cL (cR (cR (cR c9))))) (I5 m a b c n k l s d0 d1 d2 d3 sg db) ⟨0,[],[]⟩ (fun x s Z=>some (x,aE KP 75 s,Z.ob))=some (.normal,cQ 0 m a b c n k l s d0 d1 d2 d3 sg db,[]):=by kernel_rfl
def agv(m a b c k l s d0 d1 d2 d3 sg db:Int)(r:List Cell):T ax:=aN ([(0,.row 62 false none (.cells [.int .i64 a,.int .i64 b,.int .i64 c])),(1,.row 27 false none (.cells [.int .u8 k,.int .u8 l,.int .u32 s,.int .u16 d0,.int .u16 d1,.int .u16 d2,.int .u16 d3,.int .u16 sg,.int .u16 db])),
 (2,.row 27 false none (.cells r))]++bxs m 6)
def Ww(m a b c k l s d0 d1 d2 d3 sg db:Int)(r:List Cell):S:=aE [6] 75 ⟨aN [(6,.one (.c (.ptr 2 0)))],agv m a b c k l s d0 d1 d2 d3 sg db r,9,[]⟩
def jb(k l s d0 d1 d2 d3 sg db:Int):List Cell:= [.int .u8 k,.int .u8 l,.int .u32 s,.int .u16 d0,.int .u16 d1,.int .u16 d2,.int .u16 d3,.int .u16 sg,.int .u16 db]
def e9:Code:=cR (cR (cR (cR c9)))
theorem pE1(m a b c n k l s d0 d1 d2 d3 sg db:Int):az prog dp 300 75 e9 (cQ 6 m a b c n k l s d0 d1 d2 d3 sg db) ⟨0,[(0,true),(1,true),(2,true),(3,true),(4,true)],[]⟩ (fun x s Z=>some (x,aE [6] 75 s,Z.ob))
 =some (.ret,Ww m a b c k l s d0 d1 d2 d3 sg db (jb 2 1 0 0 0 0 0 0 0),[(if true=true then k !=2 else false)=true,(n==1)=true,(n==1)=true,(n==1)=true,(n==1)=true]):=by kernel_rfl
theorem pE2(m a b c n k l s d0 d1 d2 d3 sg db:Int):az prog dp 300 75 e9 (cQ 6 m a b c n k l s d0 d1 d2 d3 sg db) ⟨0,[(0,true),(1,true),(2,true),(3,true),(4,false)],[]⟩ (fun x s Z=>some (x,aE [6] 75 s,Z.ob))
 =some (.ret,Ww m a b c k l s d0 d1 d2 d3 sg db (jb k l s d0 d1 d2 d3 sg db),[(if true=true then k !=2 else false)=false,(n==1)=true,(n==1)=true,(n==1)=true,(n==1)=true]):=by kernel_rfl
theorem pE3(m a b c n k l s d0 d1 d2 d3 sg db:Int):az prog dp 300 75 e9 (cQ 6 m a b c n k l s d0 d1 d2 d3 sg db) ⟨0,[(0,false),(1,false),(2,false),(3,false)],[]⟩ (fun x s Z=>some (x,aE [6] 75 s,Z.ob))
 =some (.ret,Ww m a b c k l s d0 d1 d2 d3 sg db (jb k l s d0 d1 d2 d3 sg db),[(n==1)=false,(n==1)=false,(n==1)=false,(n==1)=false]):=by kernel_rfl
theorem pR(m a b c k l s d0 d1 d2 d3 sg db x1 x2 x3 x4 x5 x6 x7 x8 x9:Int):ba prog 75 (Ww m a b c k l s d0 d1 d2 d3 sg db (jb x1 x2 x3 x4 x5 x6 x7 x8 x9)) f75.results.toList=some [.agg (jb x1 x2 x3 x4 x5 x6 x7 x8 x9)]:=by kernel_rfl
def nJ(n k l s d0 d1 d2 d3 sg db:Int):List Cell:=if n=1/\k≠2 then jb 2 1 0 0 0 0 0 0 0 else jb k l s d0 d1 d2 d3 sg db
def Hg(a b c n k l s d0 d1 d2 d3 sg db:Int):List Cell:=
 nJ n k l s (kp a b c (decide (cX s>0)) d0) (kp a b c (decide (cX s>1)) d1) (kp a b c (decide (cX s>2)) d2) (kp a b c (decide (cX s>3)) d3) (kp a b c (decide (cX s>4)) sg) (kp a b c (decide (cX s>31)) db)
def tO(a b c n k l s d0 d1 d2 d3 sg db:Int):List Cell:=
 if aZ k l s d0 d1 d2 d3 sg db then Hg a b c n k l s d0 d1 d2 d3 sg db else Hg a b c n 0 0 0 0 0 0 0 0 0
abbrev TP(r:List Cell):X->S->Prop:=fun x s1=>(x= .normal\/x= .ret)/\∃l,ba prog 75 s1 f75.results.toList=some l/\c6 l= .one (.agg r)
theorem afd(m a b c n k l s d0 d1 d2 d3 sg db:Int):Tr prog 75 e9 (cQ 6 m a b c n k l s d0 d1 d2 d3 sg db) (TP (nJ n k l s d0 d1 d2 d3 sg db)):=by
 cases h1:(n==1)with
 |false=>
  refine Tr.path cA (pE3 m a b c n k l s d0 d1 d2 d3 sg db) (by simp only[aw,h1];simp) ⟨.inr rfl,_,pR _ _ _ _ _ _ _ _ _ _ _ _ _ _ _ _ _ _ _ _ _ _,?_⟩
  simp at h1;rw[nJ,if_neg (fun h=>h1 h.1)];rfl
 |true=>
  cases h2:(k !=2)with
  |false=>
   refine Tr.path cA (pE2 m a b c n k l s d0 d1 d2 d3 sg db) (by simp only[aw,h1,h2];simp) ⟨.inr rfl,_,pR _ _ _ _ _ _ _ _ _ _ _ _ _ _ _ _ _ _ _ _ _ _,?_⟩
   simp at h2;rw[nJ,if_neg (fun h=>h.2 h2)];rfl
  |true=>
   refine Tr.path cA (pE1 m a b c n k l s d0 d1 d2 d3 sg db) (by simp only[aw,h1,h2];simp) ⟨.inr rfl,_,pR _ _ _ _ _ _ _ _ _ _ _ _ _ _ _ _ _ _ _ _ _ _,?_⟩
   simp at h1 h2;rw[nJ,if_pos ⟨h1,h2⟩];rfl
theorem wrap_u32{s:Int}(h:0<=s)(h1:s<4294967296):i64.wrap s=s:=by
 have:= @IntWalk.i64_in;exact this _ (by omega)
abbrev bh(x:Int):Prop:=0<=x/\x<65536
theorem Wa(a b c n k l s d0 d1 d2 d3 sg db:Int)(hs:0<=s)(hs1:s<4294967296)(p0:bh d0)(p1:bh d1)(p2:bh d2)(p3:bh d3)(p4:bh sg)(p5:bh db):
  Tr prog 75 (cR (cR c9)) (mW a b c n k l s d0 d1 d2 d3 sg db) (TP (Hg a b c n k l s d0 d1 d2 d3 sg db)):=by
 have hw:=wrap_u32 hs hs1;have hC:=pC a b c n k l s d0 d1 d2 d3 sg db;rw[hw]at hC;refine Tr.seq (c:=cL (cR (cR c9))) (d:=cR (cR (cR c9))) (Tr.path cA hC ⟨hs,hs1,trivial⟩ ?_);refine Tr.seq (c:=cL (cR (cR (cR c9)))) (d:=e9) ?_;refine Tr.seq (c:=cL (cL (cR (cR (cR c9))))) (d:= .block 0 (.loop l9)) (Tr.path cA (pD (cX s) a b c n k l s d0 d1 d2 d3 sg db) trivial ?_);refine Tr.block (lp0 (cX s) a b c n k l s d0 d1 d2 d3 sg db p0 p1 p2 p3 p4 p5 ?_);exact afd _ _ _ _ _ _ _ _ _ _ _ _ _ _
theorem gj(b:Bool):(cW b !=0)= !b:=by cases b<;>simp[cV,bK]
theorem u0:bh 0:=⟨by omega,by omega⟩
theorem Lm(a b c n k l s d0 d1 d2 d3 sg db:Int)(hk:0<=k)(hs:0<=s)(hs1:s<4294967296)(p0:bh d0)(p1:bh d1)(p2:bh d2)(p3:bh d3)(p4:bh sg)(p5:bh db):
  Tr prog 75 c9 ⟨CL a b c n k l s d0 d1 d2 d3 sg db,.nil,0,[]⟩ (TP (tO a b c n k l s d0 d1 d2 d3 sg db)):=by
 refine Tr.seq (c:=cL c9) (d:=cR c9) (Tr.path cA (pA a b c n k l s d0 d1 d2 d3 sg db) trivial ?_);refine Tr.seq (c:=cL (cR c9)) (d:=cR (cR c9)) ?_;cases h:aZ k l s d0 d1 d2 d3 sg db with
 |false=>
  refine Tr.path cA (pB0 a b c n k l s d0 d1 d2 d3 sg db) ⟨by rw[gj,h];rfl,hk,hs,trivial⟩ ?_
  rw[tO,h];exact Wa a b c n 0 0 0 0 0 0 0 0 0 (by omega) (by omega) u0 u0 u0 u0 u0 u0
 |true=>
  refine Tr.path cA (pB1 a b c n k l s d0 d1 d2 d3 sg db) ⟨by rw[gj,h];rfl,hk,hs,trivial⟩ ?_
  rw[tO,h];exact Wa a b c n k l s d0 d1 d2 d3 sg db hs hs1 p0 p1 p2 p3 p4 p5
end Go.Sx.Fi
