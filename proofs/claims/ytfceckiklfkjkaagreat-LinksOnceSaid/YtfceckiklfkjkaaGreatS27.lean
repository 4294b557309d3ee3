import Derived.Test.YtfceckiklfkjkaaGreatS26
import Derived.Test.YtfceckiklfkjkaaGreatS15
import Derived.Test.YtfceckiklfkjkaaGreatS19
import Derived.KernelRfl
noncomputable section
open Go.Proofs Go.RowKit
set_option maxRecDepth 100000
open Go.IntKind(i64 u8 u64 u32 u16)
open Go.Proofs.Tryz
namespace Go.Sx.Fi
def qm:Code:=body 94
def lD:Code:=cR (cR (cR qm))
def fQ:Code:=cL (cR (cL lD))
def js:Code:=cL (cL (cR (cL (cR fQ))))
def xhp(a b c k l s d0 d1 d2 d3 sg db:Int):T ax:=aN [(0,.row 62 false none (.cells [.int .i64 a,.int .i64 b,.int .i64 c])),(1,.row 27 false none (.cells (jb k l s d0 d1 d2 d3 sg db))),
 (2,.row 27 false none (.cells (jb 0 0 0 0 0 0 0 0 0)))]
def Qs(a b c k l s d0 d1 d2 d3 sg db y1 y2 y3 y4 y5 y6 y7 y8 y9:Int)(r:List Cell):T ax:=aN [(0,.row 62 false none (.cells [.int .i64 a,.int .i64 b,.int .i64 c])),(1,.row 27 false none (.cells (jb k l s d0 d1 d2 d3 sg db))),
 (2,.row 27 false none (.cells r)),(3,.row 27 false none (.cells (jb y1 y2 y3 y4 y5 y6 y7 y8 y9)))]
def Pf(n:Int)(r:List (Nat×RV)):T RV:=aN ([(1,.one (.c (.int .i64 n))),(3,.one (.c (.ptr 0 0))),(6,.one (.c (.ptr 2 0)))]++r)
abbrev Z9:List Cell:=jb 0 0 0 0 0 0 0 0 0
abbrev KX:List Nat:= [1,3,5,6]
abbrev KY:List Nat:= [1,3,6,7]
abbrev KM:List Nat:= [1,3,6,7,8]
abbrev KL:List Nat:= [1,3,6,7,8,9]
def sX(a b c n k l s d0 d1 d2 d3 sg db:Int):S:=aE KX 73 ⟨Pf n [(5,.one (.c (.ptr 1 0)))],xhp a b c k l s d0 d1 d2 d3 sg db,3,[]⟩
def sY(a b c n k l s d0 d1 d2 d3 sg db y1 y2 y3 y4 y5 y6 y7 y8 y9:Int):S:=aE KY 73 ⟨Pf n [(7,.one (.c (.ptr 3 0)))],Qs a b c k l s d0 d1 d2 d3 sg db y1 y2 y3 y4 y5 y6 y7 y8 y9 Z9,4,[]⟩
def sM(m a b c n k l s d0 d1 d2 d3 sg db y1 y2 y3 y4 y5 y6 y7 y8 y9:Int):S:=aE KM 73 ⟨Pf n [(7,.one (.c (.ptr 3 0))),(8,.one (.c (.int .i64 m)))],Qs a b c k l s d0 d1 d2 d3 sg db y1 y2 y3 y4 y5 y6 y7 y8 y9 Z9,4,[]⟩
def sL(j:Nat)(m a b c n k l s d0 d1 d2 d3 sg db y1 y2 y3 y4 y5 y6 y7 y8 y9:Int):S:=aE KL 73 ⟨Pf n [(7,.one (.c (.ptr 3 0))),(8,.one (.c (.int .i64 m))),(9,.one (.c (.int .i64 j)))],Qs a b c k l s d0 d1 d2 d3 sg db y1 y2 y3 y4 y5 y6 y7 y8 y9 Z9,4,[]⟩
def sE(a b c k l s d0 d1 d2 d3 sg db y1 y2 y3 y4 y5 y6 y7 y8 y9:Int)(r:List Cell):S:=aE [6] 73 ⟨aN [(6,.one (.c (.ptr 2 0)))],Qs a b c k l s d0 d1 d2 d3 sg db y1 y2 y3 y4 y5 y6 y7 y8 y9 r,4,[]⟩
theorem wrap_u16{s:Int}(h:bh s):i64.wrap s=s:=IntWalk.i64_in _ (by have:=h.1;have:=h.2;omega)
theorem r0a(m a b c n k l s d0 d1 d2 d3 sg db y1 y2 y3 y4 y5 y6 y7 y8 y9:Int):az prog dp 300 73 js (sL 0 m a b c n k l s d0 d1 d2 d3 sg db y1 y2 y3 y4 y5 y6 y7 y8 y9) ⟨0,[(1,false),(2,false),(3,false),(4,false),(6,false),(7,false),(8,false),(9,false),(10,false),(11,true)],[]⟩ (fun x s Z=>some (x,aE KL 73 s,Z.ob))=some (.normal,sL 1 m a b c n k l s d0 d1 d2 d3 sg db y1 y2 y3 0 y5 y6 y7 y8 y9,[(if false=true then true else !c7 a b c (i64.wrap y4))=true,decide (0>=m)=false,decide (0>=m)=false,decide (0>=m)=false,decide (0>=m)=false,decide (0>=m)=false,decide (0>=m)=false,decide (0>=m)=false,decide (0>=m)=false,decide (0>=m)=false]):=by kernel_rfl
theorem r0b(m a b c n k l s d0 d1 d2 d3 sg db y1 y2 y3 y4 y5 y6 y7 y8 y9:Int):az prog dp 300 73 js (sL 0 m a b c n k l s d0 d1 d2 d3 sg db y1 y2 y3 y4 y5 y6 y7 y8 y9) ⟨0,[(1,false),(2,false),(3,false),(4,false),(6,false),(7,false),(8,false),(9,false),(10,false),(11,false)],[]⟩ (fun x s Z=>some (x,aE KL 73 s,Z.ob))=some (.normal,sL 1 m a b c n k l s d0 d1 d2 d3 sg db y1 y2 y3 y4 y5 y6 y7 y8 y9,[(if false=true then true else !c7 a b c (i64.wrap y4))=false,decide (0>=m)=false,decide (0>=m)=false,decide (0>=m)=false,decide (0>=m)=false,decide (0>=m)=false,decide (0>=m)=false,decide (0>=m)=false,decide (0>=m)=false,decide (0>=m)=false]):=by kernel_rfl
theorem r0c(m a b c n k l s d0 d1 d2 d3 sg db y1 y2 y3 y4 y5 y6 y7 y8 y9:Int):az prog dp 300 73 js (sL 0 m a b c n k l s d0 d1 d2 d3 sg db y1 y2 y3 y4 y5 y6 y7 y8 y9) ⟨0,[(1,true),(2,true),(3,true),(4,true),(5,true),(6,true),(7,true),(8,true),(9,true)],[]⟩ (fun x s Z=>some (x,aE KL 73 s,Z.ob))=some (.normal,sL 1 m a b c n k l s d0 d1 d2 d3 sg db y1 y2 y3 0 y5 y6 y7 y8 y9,[decide (0>=m)=true,decide (0>=m)=true,decide (0>=m)=true,decide (0>=m)=true,decide (0>=m)=true,decide (0>=m)=true,decide (0>=m)=true,decide (0>=m)=true,decide (0>=m)=true]):=by kernel_rfl
theorem r0(m a b c n k l s d0 d1 d2 d3 sg db y1 y2 y3 y4 y5 y6 y7 y8 y9:Int)(h:bh y4){Q:ag}(hq:Q .normal (sL 1 m a b c n k l s d0 d1 d2 d3 sg db y1 y2 y3 (kp a b c (decide (m>0)) y4) y5 y6 y7 y8 y9)):Tr prog 73 js (sL 0 m a b c n k l s d0 d1 d2 d3 sg db y1 y2 y3 y4 y5 y6 y7 y8 y9) Q:=by
 cases h2:decide (0>=m)with
 |true=>rw[show decide (m>0)=false by simp at h2 ⊢;omega,nz]at hq;exact Tr.path cA (r0c m a b c n k l s d0 d1 d2 d3 sg db y1 y2 y3 y4 y5 y6 y7 y8 y9) (by simp only[aw,h2];simp) hq
 |false=>
  rw[show decide (m>0)=true by simp at h2 ⊢;omega]at hq
  cases h3:c7 a b c y4 with
  |false=>rw[nD h3]at hq;exact Tr.path cA (r0a m a b c n k l s d0 d1 d2 d3 sg db y1 y2 y3 y4 y5 y6 y7 y8 y9) (by simp only[aw,h2,wrap_u16 h,h3];simp) hq
  |true=>rw[nB h3]at hq;exact Tr.path cA (r0b m a b c n k l s d0 d1 d2 d3 sg db y1 y2 y3 y4 y5 y6 y7 y8 y9) (by simp only[aw,h2,wrap_u16 h,h3];simp) hq
theorem r1a(m a b c n k l s d0 d1 d2 d3 sg db y1 y2 y3 y4 y5 y6 y7 y8 y9:Int):az prog dp 300 73 js (sL 1 m a b c n k l s d0 d1 d2 d3 sg db y1 y2 y3 y4 y5 y6 y7 y8 y9) ⟨0,[(1,false),(2,false),(3,false),(4,false),(6,false),(7,false),(8,false),(9,false),(10,false),(11,true)],[]⟩ (fun x s Z=>some (x,aE KL 73 s,Z.ob))=some (.normal,sL 2 m a b c n k l s d0 d1 d2 d3 sg db y1 y2 y3 y4 0 y6 y7 y8 y9,[(if false=true then true else !c7 a b c (i64.wrap y5))=true,decide (1>=m)=false,decide (1>=m)=false,decide (1>=m)=false,decide (1>=m)=false,decide (1>=m)=false,decide (1>=m)=false,decide (1>=m)=false,decide (1>=m)=false,decide (1>=m)=false]):=by kernel_rfl
theorem r1b(m a b c n k l s d0 d1 d2 d3 sg db y1 y2 y3 y4 y5 y6 y7 y8 y9:Int):az prog dp 300 73 js (sL 1 m a b c n k l s d0 d1 d2 d3 sg db y1 y2 y3 y4 y5 y6 y7 y8 y9) ⟨0,[(1,false),(2,false),(3,false),(4,false),(6,false),(7,false),(8,false),(9,false),(10,false),(11,false)],[]⟩ (fun x s Z=>some (x,aE KL 73 s,Z.ob))=some (.normal,sL 2 m a b c n k l s d0 d1 d2 d3 sg db y1 y2 y3 y4 y5 y6 y7 y8 y9,[(if false=true then true else !c7 a b c (i64.wrap y5))=false,decide (1>=m)=false,decide (1>=m)=false,decide (1>=m)=false,decide (1>=m)=false,decide (1>=m)=false,decide (1>=m)=false,decide (1>=m)=false,decide (1>=m)=false,decide (1>=m)=false]):=by kernel_rfl
theorem r1c(m a b c n k l s d0 d1 d2 d3 sg db y1 y2 y3 y4 y5 y6 y7 y8 y9:Int):az prog dp 300 73 js (sL 1 m a b c n k l s d0 d1 d2 d3 sg db y1 y2 y3 y4 y5 y6 y7 y8 y9) ⟨0,[(1,true),(2,true),(3,true),(4,true),(5,true),(6,true),(7,true),(8,true),(9,true)],[]⟩ (fun x s Z=>some (x,aE KL 73 s,Z.ob))=some (.normal,sL 2 m a b c n k l s d0 d1 d2 d3 sg db y1 y2 y3 y4 0 y6 y7 y8 y9,[decide (1>=m)=true,decide (1>=m)=true,decide (1>=m)=true,decide (1>=m)=true,decide (1>=m)=true,decide (1>=m)=true,decide (1>=m)=true,decide (1>=m)=true,decide (1>=m)=true]):=by kernel_rfl
theorem r1(m a b c n k l s d0 d1 d2 d3 sg db y1 y2 y3 y4 y5 y6 y7 y8 y9:Int)(h:bh y5){Q:ag}(hq:Q .normal (sL 2 m a b c n k l s d0 d1 d2 d3 sg db y1 y2 y3 y4 (kp a b c (decide (m>1)) y5) y6 y7 y8 y9)):Tr prog 73 js (sL 1 m a b c n k l s d0 d1 d2 d3 sg db y1 y2 y3 y4 y5 y6 y7 y8 y9) Q:=by
 cases h2:decide (1>=m)with
 |true=>rw[show decide (m>1)=false by simp at h2 ⊢;omega,nz]at hq;exact Tr.path cA (r1c m a b c n k l s d0 d1 d2 d3 sg db y1 y2 y3 y4 y5 y6 y7 y8 y9) (by simp only[aw,h2];simp) hq
 |false=>
  rw[show decide (m>1)=true by simp at h2 ⊢;omega]at hq
  cases h3:c7 a b c y5 with
  |false=>rw[nD h3]at hq;exact Tr.path cA (r1a m a b c n k l s d0 d1 d2 d3 sg db y1 y2 y3 y4 y5 y6 y7 y8 y9) (by simp only[aw,h2,wrap_u16 h,h3];simp) hq
  |true=>rw[nB h3]at hq;exact Tr.path cA (r1b m a b c n k l s d0 d1 d2 d3 sg db y1 y2 y3 y4 y5 y6 y7 y8 y9) (by simp only[aw,h2,wrap_u16 h,h3];simp) hq
theorem r2a(m a b c n k l s d0 d1 d2 d3 sg db y1 y2 y3 y4 y5 y6 y7 y8 y9:Int):az prog dp 300 73 js (sL 2 m a b c n k l s d0 d1 d2 d3 sg db y1 y2 y3 y4 y5 y6 y7 y8 y9) ⟨0,[(1,false),(2,false),(3,false),(4,false),(6,false),(7,false),(8,false),(9,false),(10,false),(11,true)],[]⟩ (fun x s Z=>some (x,aE KL 73 s,Z.ob))=some (.normal,sL 3 m a b c n k l s d0 d1 d2 d3 sg db y1 y2 y3 y4 y5 0 y7 y8 y9,[(if false=true then true else !c7 a b c (i64.wrap y6))=true,decide (2>=m)=false,decide (2>=m)=false,decide (2>=m)=false,decide (2>=m)=false,decide (2>=m)=false,decide (2>=m)=false,decide (2>=m)=false,decide (2>=m)=false,decide (2>=m)=false]):=by kernel_rfl
theorem r2b(m a b c n k l s d0 d1 d2 d3 sg db y1 y2 y3 y4 y5 y6 y7 y8 y9:Int):az prog dp 300 73 js (sL 2 m a b c n k l s d0 d1 d2 d3 sg db y1 y2 y3 y4 y5 y6 y7 y8 y9) ⟨0,[(1,false),(2,false),(3,false),(4,false),(6,false),(7,false),(8,false),(9,false),(10,false),(11,false)],[]⟩ (fun x s Z=>some (x,aE KL 73 s,Z.ob))=some (.normal,sL 3 m a b c n k l s d0 d1 d2 d3 sg db y1 y2 y3 y4 y5 y6 y7 y8 y9,[(if false=true then true else !c7 a b c (i64.wrap y6))=false,decide (2>=m)=false,decide (2>=m)=false,decide (2>=m)=false,decide (2>=m)=false,decide (2>=m)=false,decide (2>=m)=false,decide (2>=m)=false,decide (2>=m)=false,decide (2>=m)=false]):=by kernel_rfl
theorem r2c(m a b c n k l s d0 d1 d2 d3 sg db y1 y2 y3 y4 y5 y6 y7 y8 y9:Int):az prog dp 300 73 js (sL 2 m a b c n k l s d0 d1 d2 d3 sg db y1 y2 y3 y4 y5 y6 y7 y8 y9) ⟨0,[(1,true),(2,true),(3,true),(4,true),(5,true),(6,true),(7,true),(8,true),(9,true)],[]⟩ (fun x s Z=>some (x,aE KL 73 s,Z.ob))=some (.normal,sL 3 m a b c n k l s d0 d1 d2 d3 sg db y1 y2 y3 y4 y5 0 y7 y8 y9,[decide (2>=m)=true,decide (2>=m)=true,decide (2>=m)=true,decide (2>=m)=true,decide (2>=m)=true,decide (2>=m)=true,decide (2>=m)=true,decide (2>=m)=true,decide (2>=m)=true]):=by kernel_rfl
theorem r2(m a b c n k l s d0 d1 d2 d3 sg db y1 y2 y3 y4 y5 y6 y7 y8 y9:Int)(h:bh y6){Q:ag}(hq:Q .normal (sL 3 m a b c n k l s d0 d1 d2 d3 sg db y1 y2 y3 y4 y5 (kp a b c (decide (m>2)) y6) y7 y8 y9)):Tr prog 73 js (sL 2 m a b c n k l s d0 d1 d2 d3 sg db y1 y2 y3 y4 y5 y6 y7 y8 y9) Q:=by
 cases h2:decide (2>=m)with
 |true=>rw[show decide (m>2)=false by simp at h2 ⊢;omega,nz]at hq;exact Tr.path cA (r2c m a b c n k l s d0 d1 d2 d3 sg db y1 y2 y3 y4 y5 y6 y7 y8 y9) (by simp only[aw,h2];simp) hq
 |false=>
  rw[show decide (m>2)=true by simp at h2 ⊢;omega]at hq
  cases h3:c7 a b c y6 with
  |false=>rw[nD h3]at hq;exact Tr.path cA (r2a m a b c n k l s d0 d1 d2 d3 sg db y1 y2 y3 y4 y5 y6 y7 y8 y9) (by simp only[aw,h2,wrap_u16 h,h3];simp) hq
  |true=>rw[nB h3]at hq;exact Tr.path cA (r2b m a b c n k l s d0 d1 d2 d3 sg db y1 y2 y3 y4 y5 y6 y7 y8 y9) (by simp only[aw,h2,wrap_u16 h,h3];simp) hq
theorem r3a(m a b c n k l s d0 d1 d2 d3 sg db y1 y2 y3 y4 y5 y6 y7 y8 y9:Int):az prog dp 300 73 js (sL 3 m a b c n k l s d0 d1 d2 d3 sg db y1 y2 y3 y4 y5 y6 y7 y8 y9) ⟨0,[(1,false),(2,false),(3,false),(4,false),(6,false),(7,false),(8,false),(9,false),(10,false),(11,true)],[]⟩ (fun x s Z=>some (x,aE KL 73 s,Z.ob))=some (.normal,sL 4 m a b c n k l s d0 d1 d2 d3 sg db y1 y2 y3 y4 y5 y6 0 y8 y9,[(if false=true then true else !c7 a b c (i64.wrap y7))=true,decide (3>=m)=false,decide (3>=m)=false,decide (3>=m)=false,decide (3>=m)=false,decide (3>=m)=false,decide (3>=m)=false,decide (3>=m)=false,decide (3>=m)=false,decide (3>=m)=false]):=by kernel_rfl
theorem r3b(m a b c n k l s d0 d1 d2 d3 sg db y1 y2 y3 y4 y5 y6 y7 y8 y9:Int):az prog dp 300 73 js (sL 3 m a b c n k l s d0 d1 d2 d3 sg db y1 y2 y3 y4 y5 y6 y7 y8 y9) ⟨0,[(1,false),(2,false),(3,false),(4,false),(6,false),(7,false),(8,false),(9,false),(10,false),(11,false)],[]⟩ (fun x s Z=>some (x,aE KL 73 s,Z.ob))=some (.normal,sL 4 m a b c n k l s d0 d1 d2 d3 sg db y1 y2 y3 y4 y5 y6 y7 y8 y9,[(if false=true then true else !c7 a b c (i64.wrap y7))=false,decide (3>=m)=false,decide (3>=m)=false,decide (3>=m)=false,decide (3>=m)=false,decide (3>=m)=false,decide (3>=m)=false,decide (3>=m)=false,decide (3>=m)=false,decide (3>=m)=false]):=by kernel_rfl
theorem r3c(m a b c n k l s d0 d1 d2 d3 sg db y1 y2 y3 y4 y5 y6 y7 y8 y9:Int):az prog dp 300 73 js (sL 3 m a b c n k l s d0 d1 d2 d3 sg db y1 y2 y3 y4 y5 y6 y7 y8 y9) ⟨0,[(1,true),(2,true),(3,true),(4,true),(5,true),(6,true),(7,true),(8,true),(9,true)],[]⟩ (fun x s Z=>some (x,aE KL 73 s,Z.ob))=some (.normal,sL 4 m a b c n k l s d0 d1 d2 d3 sg db y1 y2 y3 y4 y5 y6 0 y8 y9,[decide (3>=m)=true,decide (3>=m)=true,decide (3>=m)=true,decide (3>=m)=true,decide (3>=m)=true,decide (3>=m)=true,decide (3>=m)=true,decide (3>=m)=true,decide (3>=m)=true]):=by kernel_rfl
theorem r3(m a b c n k l s d0 d1 d2 d3 sg db y1 y2 y3 y4 y5 y6 y7 y8 y9:Int)(h:bh y7){Q:ag}(hq:Q .normal (sL 4 m a b c n k l s d0 d1 d2 d3 sg db y1 y2 y3 y4 y5 y6 (kp a b c (decide (m>3)) y7) y8 y9)):Tr prog 73 js (sL 3 m a b c n k l s d0 d1 d2 d3 sg db y1 y2 y3 y4 y5 y6 y7 y8 y9) Q:=by
 cases h2:decide (3>=m)with
 |true=>rw[show decide (m>3)=false by simp at h2 ⊢;omega,nz]at hq;exact Tr.path cA (r3c m a b c n k l s d0 d1 d2 d3 sg db y1 y2 y3 y4 y5 y6 y7 y8 y9) (by simp only[aw,h2];simp) hq
 |false=>
  rw[show decide (m>3)=true by simp at h2 ⊢;omega]at hq
  cases h3:c7 a b c y7 with
  |false=>rw[nD h3]at hq;exact Tr.path cA (r3a m a b c n k l s d0 d1 d2 d3 sg db y1 y2 y3 y4 y5 y6 y7 y8 y9) (by simp only[aw,h2,wrap_u16 h,h3];simp) hq
  |true=>rw[nB h3]at hq;exact Tr.path cA (r3b m a b c n k l s d0 d1 d2 d3 sg db y1 y2 y3 y4 y5 y6 y7 y8 y9) (by simp only[aw,h2,wrap_u16 h,h3];simp) hq
theorem r4a(m a b c n k l s d0 d1 d2 d3 sg db y1 y2 y3 y4 y5 y6 y7 y8 y9:Int):az prog dp 300 73 (cL (cR (cR fQ))) (sM m a b c n k l s d0 d1 d2 d3 sg db y1 y2 y3 y4 y5 y6 y7 y8 y9) ⟨0,[(0,false),(1,false),(2,false),(3,false),(4,false),(5,false),(6,false),(7,true)],[]⟩ (fun x s Z=>some (x,aE KM 73 s,Z.ob))=some (.normal,sM m a b c n k l s d0 d1 d2 d3 sg db y1 y2 y3 y4 y5 y6 y7 0 y9,[(if false=true then true else !c7 a b c (i64.wrap y8))=true,decide (m<=4)=false,decide (m<=4)=false,decide (m<=4)=false,decide (m<=4)=false,decide (m<=4)=false,decide (m<=4)=false,decide (m<=4)=false]):=by kernel_rfl
theorem r4b(m a b c n k l s d0 d1 d2 d3 sg db y1 y2 y3 y4 y5 y6 y7 y8 y9:Int):az prog dp 300 73 (cL (cR (cR fQ))) (sM m a b c n k l s d0 d1 d2 d3 sg db y1 y2 y3 y4 y5 y6 y7 y8 y9) ⟨0,[(0,false),(1,false),(2,false),(3,false),(4,false),(5,false),(6,false),(7,false)],[]⟩ (fun x s Z=>some (x,aE KM 73 s,Z.ob))=some (.normal,sM m a b c n k l s d0 d1 d2 d3 sg db y1 y2 y3 y4 y5 y6 y7 y8 y9,[(if false=true then true else !c7 a b c (i64.wrap y8))=false,decide (m<=4)=false,decide (m<=4)=false,decide (m<=4)=false,decide (m<=4)=false,decide (m<=4)=false,decide (m<=4)=false,decide (m<=4)=false]):=by kernel_rfl
theorem r4c(m a b c n k l s d0 d1 d2 d3 sg db y1 y2 y3 y4 y5 y6 y7 y8 y9:Int):az prog dp 300 73 (cL (cR (cR fQ))) (sM m a b c n k l s d0 d1 d2 d3 sg db y1 y2 y3 y4 y5 y6 y7 y8 y9) ⟨0,[(0,true),(1,true),(2,true),(3,true),(4,true),(5,true),(6,true)],[]⟩ (fun x s Z=>some (x,aE KM 73 s,Z.ob))=some (.normal,sM m a b c n k l s d0 d1 d2 d3 sg db y1 y2 y3 y4 y5 y6 y7 0 y9,[decide (m<=4)=true,decide (m<=4)=true,decide (m<=4)=true,decide (m<=4)=true,decide (m<=4)=true,decide (m<=4)=true,decide (m<=4)=true]):=by kernel_rfl
theorem r4(m a b c n k l s d0 d1 d2 d3 sg db y1 y2 y3 y4 y5 y6 y7 y8 y9:Int)(h:bh y8){Q:ag}(hq:Q .normal (sM m a b c n k l s d0 d1 d2 d3 sg db y1 y2 y3 y4 y5 y6 y7 (kp a b c (decide (m>4)) y8) y9)):Tr prog 73 (cL (cR (cR fQ))) (sM m a b c n k l s d0 d1 d2 d3 sg db y1 y2 y3 y4 y5 y6 y7 y8 y9) Q:=by
 cases h2:decide (m<=4)with
 |true=>rw[show decide (m>4)=false by simp at h2 ⊢;omega,nz]at hq;exact Tr.path cA (r4c m a b c n k l s d0 d1 d2 d3 sg db y1 y2 y3 y4 y5 y6 y7 y8 y9) (by simp only[aw,h2];simp) hq
 |false=>
  rw[show decide (m>4)=true by simp at h2 ⊢;omega]at hq
  cases h3:c7 a b c y8 with
  |false=>rw[nD h3]at hq;exact Tr.path cA (r4a m a b c n k l s d0 d1 d2 d3 sg db y1 y2 y3 y4 y5 y6 y7 y8 y9) (by simp only[aw,h2,wrap_u16 h,h3];simp) hq
  |true=>rw[nB h3]at hq;exact Tr.path cA (r4b m a b c n k l s d0 d1 d2 d3 sg db y1 y2 y3 y4 y5 y6 y7 y8 y9) (by simp only[aw,h2,wrap_u16 h,h3];simp) hq
theorem r5a(m a b c n k l s d0 d1 d2 d3 sg db y1 y2 y3 y4 y5 y6 y7 y8 y9:Int):az prog dp 300 73 (cR (cR (cR fQ))) (sM m a b c n k l s d0 d1 d2 d3 sg db y1 y2 y3 y4 y5 y6 y7 y8 y9) ⟨0,[(0,false),(1,false),(2,false),(3,false),(4,false),(5,false),(6,false),(7,true)],[]⟩ (fun x s Z=>some (x,aE KM 73 s,Z.ob))=some (.normal,sM m a b c n k l s d0 d1 d2 d3 sg db y1 y2 y3 y4 y5 y6 y7 y8 0,[(if false=true then true else !c7 a b c (i64.wrap y9))=true,decide (m<=31)=false,decide (m<=31)=false,decide (m<=31)=false,decide (m<=31)=false,decide (m<=31)=false,decide (m<=31)=false,decide (m<=31)=false]):=by kernel_rfl
theorem r5b(m a b c n k l s d0 d1 d2 d3 sg db y1 y2 y3 y4 y5 y6 y7 y8 y9:Int):az prog dp 300 73 (cR (cR (cR fQ))) (sM m a b c n k l s d0 d1 d2 d3 sg db y1 y2 y3 y4 y5 y6 y7 y8 y9) ⟨0,[(0,false),(1,false),(2,false),(3,false),(4,false),(5,false),(6,false),(7,false)],[]⟩ (fun x s Z=>some (x,aE KM 73 s,Z.ob))=some (.normal,sM m a b c n k l s d0 d1 d2 d3 sg db y1 y2 y3 y4 y5 y6 y7 y8 y9,[(if false=true then true else !c7 a b c (i64.wrap y9))=false,decide (m<=31)=false,decide (m<=31)=false,decide (m<=31)=false,decide (m<=31)=false,decide (m<=31)=false,decide (m<=31)=false,decide (m<=31)=false]):=by kernel_rfl
theorem r5c(m a b c n k l s d0 d1 d2 d3 sg db y1 y2 y3 y4 y5 y6 y7 y8 y9:Int):az prog dp 300 73 (cR (cR (cR fQ))) (sM m a b c n k l s d0 d1 d2 d3 sg db y1 y2 y3 y4 y5 y6 y7 y8 y9) ⟨0,[(0,true),(1,true),(2,true),(3,true),(4,true),(5,true),(6,true)],[]⟩ (fun x s Z=>some (x,aE KM 73 s,Z.ob))=some (.normal,sM m a b c n k l s d0 d1 d2 d3 sg db y1 y2 y3 y4 y5 y6 y7 y8 0,[decide (m<=31)=true,decide (m<=31)=true,decide (m<=31)=true,decide (m<=31)=true,decide (m<=31)=true,decide (m<=31)=true,decide (m<=31)=true]):=by kernel_rfl
theorem r5(m a b c n k l s d0 d1 d2 d3 sg db y1 y2 y3 y4 y5 y6 y7 y8 y9:Int)(h:bh y9){Q:ag}(hq:Q .normal (sM m a b c n k l s d0 d1 d2 d3 sg db y1 y2 y3 y4 y5 y6 y7 y8 (kp a b c (decide (m>31)) y9))):Tr prog 73 (cR (cR (cR fQ))) (sM m a b c n k l s d0 d1 d2 d3 sg db y1 y2 y3 y4 y5 y6 y7 y8 y9) Q:=by
 cases h2:decide (m<=31)with
 |true=>rw[show decide (m>31)=false by simp at h2 ⊢;omega,nz]at hq;exact Tr.path cA (r5c m a b c n k l s d0 d1 d2 d3 sg db y1 y2 y3 y4 y5 y6 y7 y8 y9) (by simp only[aw,h2];simp) hq
 |false=>
  rw[show decide (m>31)=true by simp at h2 ⊢;omega]at hq
  cases h3:c7 a b c y9 with
  |false=>rw[nD h3]at hq;exact Tr.path cA (r5a m a b c n k l s d0 d1 d2 d3 sg db y1 y2 y3 y4 y5 y6 y7 y8 y9) (by simp only[aw,h2,wrap_u16 h,h3];simp) hq
  |true=>rw[nB h3]at hq;exact Tr.path cA (r5b m a b c n k l s d0 d1 d2 d3 sg db y1 y2 y3 y4 y5 y6 y7 y8 y9) (by simp only[aw,h2,wrap_u16 h,h3];simp) hq
theorem r4x(m a b c n k l s d0 d1 d2 d3 sg db y1 y2 y3 y4 y5 y6 y7 y8 y9:Int):az prog dp 300 73 js (sL 4 m a b c n k l s d0 d1 d2 d3 sg db y1 y2 y3 y4 y5 y6 y7 y8 y9) ⟨0,[],[]⟩ (fun x s Z=>some (x,aE KM 73 s,Z.ob))=some (.exit 0,sM m a b c n k l s d0 d1 d2 d3 sg db y1 y2 y3 y4 y5 y6 y7 y8 y9,[]):=by kernel_rfl
theorem rl4(m a b c n k l s d0 d1 d2 d3 sg db y1 y2 y3 y4 y5 y6 y7 y8 y9:Int){Q:ag}(hq:Q (.exit 0) (sM m a b c n k l s d0 d1 d2 d3 sg db y1 y2 y3 y4 y5 y6 y7 y8 y9)):Tr prog 73 (.loop js) (sL 4 m a b c n k l s d0 d1 d2 d3 sg db y1 y2 y3 y4 y5 y6 y7 y8 y9) Q:=by
 refine Tr.loop (Tr.path cA (r4x m a b c n k l s d0 d1 d2 d3 sg db y1 y2 y3 y4 y5 y6 y7 y8 y9) trivial ?_);exact hq
theorem rl3(m a b c n k l s d0 d1 d2 d3 sg db y1 y2 y3 y4 y5 y6 y7 y8 y9:Int)(p3:bh y7){Q:ag}(hq:Q (.exit 0) (sM m a b c n k l s d0 d1 d2 d3 sg db y1 y2 y3 y4 y5 y6 (kp a b c (decide (m>3)) y7) y8 y9)):Tr prog 73 (.loop js) (sL 3 m a b c n k l s d0 d1 d2 d3 sg db y1 y2 y3 y4 y5 y6 y7 y8 y9) Q:=
 Tr.loop (r3 m a b c n k l s d0 d1 d2 d3 sg db y1 y2 y3 y4 y5 y6 y7 y8 y9 p3 (rl4 m a b c n k l s d0 d1 d2 d3 sg db y1 y2 y3 y4 y5 y6 (kp a b c (decide (m>3)) y7) y8 y9 hq))
theorem rl2(m a b c n k l s d0 d1 d2 d3 sg db y1 y2 y3 y4 y5 y6 y7 y8 y9:Int)(p2:bh y6)(p3:bh y7){Q:ag}(hq:Q (.exit 0) (sM m a b c n k l s d0 d1 d2 d3 sg db y1 y2 y3 y4 y5 (kp a b c (decide (m>2)) y6) (kp a b c (decide (m>3)) y7) y8 y9)):Tr prog 73 (.loop js) (sL 2 m a b c n k l s d0 d1 d2 d3 sg db y1 y2 y3 y4 y5 y6 y7 y8 y9) Q:=
 Tr.loop (r2 m a b c n k l s d0 d1 d2 d3 sg db y1 y2 y3 y4 y5 y6 y7 y8 y9 p2 (rl3 m a b c n k l s d0 d1 d2 d3 sg db y1 y2 y3 y4 y5 (kp a b c (decide (m>2)) y6) y7 y8 y9 p3 hq))
theorem rl1(m a b c n k l s d0 d1 d2 d3 sg db y1 y2 y3 y4 y5 y6 y7 y8 y9:Int)(p1:bh y5)(p2:bh y6)(p3:bh y7){Q:ag}(hq:Q (.exit 0) (sM m a b c n k l s d0 d1 d2 d3 sg db y1 y2 y3 y4 (kp a b c (decide (m>1)) y5) (kp a b c (decide (m>2)) y6) (kp a b c (decide (m>3)) y7) y8 y9)):Tr prog 73 (.loop js) (sL 1 m a b c n k l s d0 d1 d2 d3 sg db y1 y2 y3 y4 y5 y6 y7 y8 y9) Q:=
 Tr.loop (r1 m a b c n k l s d0 d1 d2 d3 sg db y1 y2 y3 y4 y5 y6 y7 y8 y9 p1 (rl2 m a b c n k l s d0 d1 d2 d3 sg db y1 y2 y3 y4 (kp a b c (decide (m>1)) y5) y6 y7 y8 y9 p2 p3 hq))
theorem rl0(m a b c n k l s d0 d1 d2 d3 sg db y1 y2 y3 y4 y5 y6 y7 y8 y9:Int)(p0:bh y4)(p1:bh y5)(p2:bh y6)(p3:bh y7){Q:ag}(hq:Q (.exit 0) (sM m a b c n k l s d0 d1 d2 d3 sg db y1 y2 y3 (kp a b c (decide (m>0)) y4) (kp a b c (decide (m>1)) y5) (kp a b c (decide (m>2)) y6) (kp a b c (decide (m>3)) y7) y8 y9)):Tr prog 73 (.loop js) (sL 0 m a b c n k l s d0 d1 d2 d3 sg db y1 y2 y3 y4 y5 y6 y7 y8 y9) Q:=
 Tr.loop (r0 m a b c n k l s d0 d1 d2 d3 sg db y1 y2 y3 y4 y5 y6 y7 y8 y9 p0 (rl1 m a b c n k l s d0 d1 d2 d3 sg db y1 y2 y3 (kp a b c (decide (m>0)) y4) y5 y6 y7 y8 y9 p1 p2 p3 hq))
def Sw(a b c n k l s d0 d1 d2 d3 sg db:Int):T RV:=match setArgs 73 (Bv a b c n k l s d0 d1 d2 d3 sg db) 0 .nil some with|some t=>t|none=> .nil
theorem Zr(a b c n k l s d0 d1 d2 d3 sg db:Int):setArgs 73 (Bv a b c n k l s d0 d1 d2 d3 sg db) 0 .nil some=some (Sw a b c n k l s d0 d1 d2 d3 sg db):=by kernel_rfl
theorem q0(a b c n k l s d0 d1 d2 d3 sg db:Int):az prog dp 300 73 (cL qm) ⟨Sw a b c n k l s d0 d1 d2 d3 sg db,.nil,0,[]⟩ ⟨0,[],[]⟩ (fun x s Z=>some (x,aE KX 73 s,Z.ob))=some (.normal,sX a b c n k l s d0 d1 d2 d3 sg db,[]):=by kernel_rfl
theorem q1a(a b c n k l s d0 d1 d2 d3 sg db:Int):az prog dp 300 73 (cL (cR qm)) (sX a b c n k l s d0 d1 d2 d3 sg db) ⟨0,[(0,true)],[]⟩ (fun x s Z=>some (x,aE KX 73 s,Z.ob))=some (.normal,sX a b c n 0 0 0 0 0 0 0 0 0,[(cW (aZ k l s d0 d1 d2 d3 sg db) !=0)=true,0<=k,0<=s]):=by kernel_rfl
theorem q1b(a b c n k l s d0 d1 d2 d3 sg db:Int):az prog dp 300 73 (cL (cR qm)) (sX a b c n k l s d0 d1 d2 d3 sg db) ⟨0,[(0,false)],[]⟩ (fun x s Z=>some (x,aE KX 73 s,Z.ob))=some (.normal,sX a b c n k l s d0 d1 d2 d3 sg db,[(cW (aZ k l s d0 d1 d2 d3 sg db) !=0)=false,0<=k,0<=s]):=by kernel_rfl
theorem q2(a b c n k l s d0 d1 d2 d3 sg db:Int):az prog dp 300 73 (cL (cR (cR qm))) (sX a b c n k l s d0 d1 d2 d3 sg db) ⟨0,[],[]⟩ (fun x s Z=>some (x,aE KY 73 s,Z.ob))=some (.normal,sY a b c n k l s d0 d1 d2 d3 sg db k l s d0 d1 d2 d3 sg db,[]):=by kernel_rfl
def sK(a b c n k l s d0 d1 d2 d3 sg db y1 y2 y3 y4 y5 y6 y7 y8 y9:Int):S:=aE [1,3,6,7,17] 73 ⟨Pf n [(7,.one (.c (.ptr 3 0))),(17,.one (.c (.bool (y1 !=0))))],Qs a b c k l s d0 d1 d2 d3 sg db y1 y2 y3 y4 y5 y6 y7 y8 y9 Z9,4,[]⟩
theorem q3a(a b c n k l s d0 d1 d2 d3 sg db y1 y2 y3 y4 y5 y6 y7 y8 y9:Int):az prog dp 300 73 (cL lD) (sY a b c n k l s d0 d1 d2 d3 sg db y1 y2 y3 y4 y5 y6 y7 y8 y9) ⟨0,[(0,false)],[]⟩ (fun x s Z=>some (x,aE KY 73 s,Z.ob))=some (.normal,sY a b c n k l s d0 d1 d2 d3 sg db y1 y2 y3 y4 y5 y6 y7 y8 y9,[(y1 !=0)=false]):=by kernel_rfl
theorem q3r(a b c n k l s d0 d1 d2 d3 sg db y1 y2 y3 y4 y5 y6 y7 y8 y9:Int):az prog dp 300 73 (cL (cL lD)) (sY a b c n k l s d0 d1 d2 d3 sg db y1 y2 y3 y4 y5 y6 y7 y8 y9) ⟨0,[],[]⟩ (fun x s Z=>some (x,aE [1,3,6,7,17] 73 s,Z.ob))=some (.normal,sK a b c n k l s d0 d1 d2 d3 sg db y1 y2 y3 y4 y5 y6 y7 y8 y9,[]):=by kernel_rfl
theorem q4(a b c n k l s d0 d1 d2 d3 sg db y1 y2 y3 y4 y5 y6 y7 y8 y9:Int):az prog dp 300 73 (cL fQ) (sY a b c n k l s d0 d1 d2 d3 sg db y1 y2 y3 y4 y5 y6 y7 y8 y9) ⟨0,[],[]⟩ (fun x s Z=>some (x,aE KM 73 s,Z.ob))=some (.normal,sM (cX (i64.wrap y3)) a b c n k l s d0 d1 d2 d3 sg db y1 y2 y3 y4 y5 y6 y7 y8 y9,[0<=i64.wrap y3,i64.wrap y3<4294967296]):=by kernel_rfl
theorem q5(m a b c n k l s d0 d1 d2 d3 sg db y1 y2 y3 y4 y5 y6 y7 y8 y9:Int):az prog dp 300 73 (cL (cL (cR fQ))) (sM m a b c n k l s d0 d1 d2 d3 sg db y1 y2 y3 y4 y5 y6 y7 y8 y9) ⟨0,[],[]⟩ (fun x s Z=>some (x,aE KL 73 s,Z.ob))=some (.normal,sL 0 m a b c n k l s d0 d1 d2 d3 sg db y1 y2 y3 y4 y5 y6 y7 y8 y9,[]):=by kernel_rfl
def PN:Code:=cR lD
theorem e1(a b c n k l s d0 d1 d2 d3 sg db y1 y2 y3 y4 y5 y6 y7 y8 y9:Int):az prog dp 300 73 PN (sY a b c n k l s d0 d1 d2 d3 sg db y1 y2 y3 y4 y5 y6 y7 y8 y9) ⟨0,[(0,true),(1,true),(2,true),(3,true),(4,true)],[]⟩ (fun x s Z=>some (x,aE [6] 73 s,Z.ob))=some (.ret,sE a b c k l s d0 d1 d2 d3 sg db y1 y2 y3 y4 y5 y6 y7 y8 y9 (jb 2 1 0 0 0 0 0 0 0),[(if true=true then y1 !=2 else false)=true,(n==1)=true,(n==1)=true,(n==1)=true,(n==1)=true]):=by kernel_rfl
theorem e2(a b c n k l s d0 d1 d2 d3 sg db y1 y2 y3 y4 y5 y6 y7 y8 y9:Int):az prog dp 300 73 PN (sY a b c n k l s d0 d1 d2 d3 sg db y1 y2 y3 y4 y5 y6 y7 y8 y9) ⟨0,[(0,true),(1,true),(2,true),(3,true),(4,false)],[]⟩ (fun x s Z=>some (x,aE [6] 73 s,Z.ob))=some (.ret,sE a b c k l s d0 d1 d2 d3 sg db y1 y2 y3 y4 y5 y6 y7 y8 y9 (jb y1 y2 y3 y4 y5 y6 y7 y8 y9),[(if true=true then y1 !=2 else false)=false,(n==1)=true,(n==1)=true,(n==1)=true,(n==1)=true]):=by kernel_rfl
theorem e3(a b c n k l s d0 d1 d2 d3 sg db y1 y2 y3 y4 y5 y6 y7 y8 y9:Int):az prog dp 300 73 PN (sY a b c n k l s d0 d1 d2 d3 sg db y1 y2 y3 y4 y5 y6 y7 y8 y9) ⟨0,[(0,false),(1,false),(2,false),(3,false)],[]⟩ (fun x s Z=>some (x,aE [6] 73 s,Z.ob))=some (.ret,sE a b c k l s d0 d1 d2 d3 sg db y1 y2 y3 y4 y5 y6 y7 y8 y9 (jb y1 y2 y3 y4 y5 y6 y7 y8 y9),[(n==1)=false,(n==1)=false,(n==1)=false,(n==1)=false]):=by kernel_rfl
theorem eR(a b c k l s d0 d1 d2 d3 sg db y1 y2 y3 y4 y5 y6 y7 y8 y9 x1 x2 x3 x4 x5 x6 x7 x8 x9:Int):ba prog 73 (sE a b c k l s d0 d1 d2 d3 sg db y1 y2 y3 y4 y5 y6 y7 y8 y9 (jb x1 x2 x3 x4 x5 x6 x7 x8 x9)) f94.results.toList=some [.agg (jb x1 x2 x3 x4 x5 x6 x7 x8 x9)]:=by kernel_rfl
abbrev Mt(r:List Cell):X->S->Prop:=fun x s1=>(x= .normal\/x= .ret)/\∃l,ba prog 73 s1 f94.results.toList=some l/\c6 l= .one (.agg r)
theorem W9(a b c n k l s d0 d1 d2 d3 sg db y1 y2 y3 y4 y5 y6 y7 y8 y9:Int):Tr prog 73 PN (sY a b c n k l s d0 d1 d2 d3 sg db y1 y2 y3 y4 y5 y6 y7 y8 y9) (Mt (nJ n y1 y2 y3 y4 y5 y6 y7 y8 y9)):=by
 cases h1:(n==1)with
 |false=>
  refine Tr.path cA (e3 a b c n k l s d0 d1 d2 d3 sg db y1 y2 y3 y4 y5 y6 y7 y8 y9) (by simp only[aw,h1];simp) ⟨.inr rfl,_,eR _ _ _ _ _ _ _ _ _ _ _ _ _ _ _ _ _ _ _ _ _ _ _ _ _ _ _ _ _ _,?_⟩
  simp at h1;rw[nJ,if_neg (fun h=>h1 h.1)];rfl
 |true=>
  cases h2:(y1 !=2)with
  |false=>
   refine Tr.path cA (e2 a b c n k l s d0 d1 d2 d3 sg db y1 y2 y3 y4 y5 y6 y7 y8 y9) (by simp only[aw,h1,h2];simp) ⟨.inr rfl,_,eR _ _ _ _ _ _ _ _ _ _ _ _ _ _ _ _ _ _ _ _ _ _ _ _ _ _ _ _ _ _,?_⟩
   simp at h2;rw[nJ,if_neg (fun h=>h.2 h2)];rfl
  |true=>
   refine Tr.path cA (e1 a b c n k l s d0 d1 d2 d3 sg db y1 y2 y3 y4 y5 y6 y7 y8 y9) (by simp only[aw,h1,h2];simp) ⟨.inr rfl,_,eR _ _ _ _ _ _ _ _ _ _ _ _ _ _ _ _ _ _ _ _ _ _ _ _ _ _ _ _ _ _,?_⟩
   simp at h1 h2;rw[nJ,if_pos ⟨h1,h2⟩];rfl
theorem agR(a b c n k l s d0 d1 d2 d3 sg db y1 y2 y3 y4 y5 y6 y7 y8 y9 m:Int):aE KY 73 (sM m a b c n k l s d0 d1 d2 d3 sg db y1 y2 y3 y4 y5 y6 y7 y8 y9)=sY a b c n k l s d0 d1 d2 d3 sg db y1 y2 y3 y4 y5 y6 y7 y8 y9:=by kernel_rfl
theorem thn(a b c n k l s d0 d1 d2 d3 sg db y1 y2 y3 y4 y5 y6 y7 y8 y9:Int)(hs:0<=y3)(hs1:y3<4294967296)(p0:bh y4)(p1:bh y5)(p2:bh y6)(p3:bh y7)(p4:bh y8)(p5:bh y9){Q:ag}(hq:Q .normal (sY a b c n k l s d0 d1 d2 d3 sg db y1 y2 y3 (kp a b c (decide ((cX y3)>0)) y4) (kp a b c (decide ((cX y3)>1)) y5) (kp a b c (decide ((cX y3)>2)) y6) (kp a b c (decide ((cX y3)>3)) y7) (kp a b c (decide ((cX y3)>4)) y8) (kp a b c (decide ((cX y3)>31)) y9))):Tr prog 73 fQ (sY a b c n k l s d0 d1 d2 d3 sg db y1 y2 y3 y4 y5 y6 y7 y8 y9) Q:=by
 have hC:=q4 a b c n k l s d0 d1 d2 d3 sg db y1 y2 y3 y4 y5 y6 y7 y8 y9;rw[wrap_u32 hs hs1]at hC;refine Tr.seq (c:=cL fQ) (d:=cR fQ) (Tr.path cA hC ⟨hs,hs1,trivial⟩ ?_);refine Tr.seq (c:=cL (cR fQ)) (d:=cR (cR fQ)) ?_;refine Tr.seq (c:=cL (cL (cR fQ))) (d:= .block 0 (.loop js)) (Tr.path cA (q5 (cX y3) a b c n k l s d0 d1 d2 d3 sg db y1 y2 y3 y4 y5 y6 y7 y8 y9) trivial ?_);refine Tr.block (rl0 (cX y3) a b c n k l s d0 d1 d2 d3 sg db y1 y2 y3 y4 y5 y6 y7 y8 y9 p0 p1 p2 p3 ?_);refine Tr.seq (c:=cL (cR (cR fQ))) (d:=cR (cR (cR fQ))) (r4 (cX y3) a b c n k l s d0 d1 d2 d3 sg db y1 y2 y3 (kp a b c (decide ((cX y3)>0)) y4) (kp a b c (decide ((cX y3)>1)) y5) (kp a b c (decide ((cX y3)>2)) y6) (kp a b c (decide ((cX y3)>3)) y7) y8 y9 p4 ?_);refine Tr.aE KY (r5 (cX y3) a b c n k l s d0 d1 d2 d3 sg db y1 y2 y3 (kp a b c (decide ((cX y3)>0)) y4) (kp a b c (decide ((cX y3)>1)) y5) (kp a b c (decide ((cX y3)>2)) y6) (kp a b c (decide ((cX y3)>3)) y7) (kp a b c (decide ((cX y3)>4)) y8) y9 p5 ?_);rw[agR];exact hq
def sd(a b c n y1 y2 y3 y4 y5 y6 y7 y8 y9:Int):List Cell:=if y1=0 then nJ n y1 y2 y3 y4 y5 y6 y7 y8 y9 else Hg a b c n y1 y2 y3 y4 y5 y6 y7 y8 y9
theorem Od(a b c n k l s d0 d1 d2 d3 sg db y1 y2 y3 y4 y5 y6 y7 y8 y9:Int)(hs:0<=y3)(hs1:y3<4294967296)(p0:bh y4)(p1:bh y5)(p2:bh y6)(p3:bh y7)(p4:bh y8)(p5:bh y9):
  Tr prog 73 lD (sY a b c n k l s d0 d1 d2 d3 sg db y1 y2 y3 y4 y5 y6 y7 y8 y9) (Mt (sd a b c n y1 y2 y3 y4 y5 y6 y7 y8 y9)):=by
 refine Tr.seq (c:=cL lD) (d:=PN) ?_;by_cases h:y1=0
 ·rw[sd,if_pos h];refine Tr.path cA (q3a a b c n k l s d0 d1 d2 d3 sg db y1 y2 y3 y4 y5 y6 y7 y8 y9) ⟨by simp[h],trivial⟩ ?_
  exact W9 a b c n k l s d0 d1 d2 d3 sg db y1 y2 y3 y4 y5 y6 y7 y8 y9
 ·rw[sd,if_neg h];refine Tr.seq (c:=cL (cL lD)) (d:= .cond (.tmp 17) fQ .skip) (Tr.path cA (q3r a b c n k l s d0 d1 d2 d3 sg db y1 y2 y3 y4 y5 y6 y7 y8 y9) trivial ?_);refine Tr.adz (t:=y1 !=0) (by kernel_rfl) (by simp[h]) ?_
  refine Tr.pre KY ?_;rw[show aE KY 73 (sK a b c n k l s d0 d1 d2 d3 sg db y1 y2 y3 y4 y5 y6 y7 y8 y9)=sY a b c n k l s d0 d1 d2 d3 sg db y1 y2 y3 y4 y5 y6 y7 y8 y9 by kernel_rfl]
  refine thn a b c n k l s d0 d1 d2 d3 sg db y1 y2 y3 y4 y5 y6 y7 y8 y9 hs hs1 p0 p1 p2 p3 p4 p5 ?_;exact W9 _ _ _ _ _ _ _ _ _ _ _ _ _ y1 y2 y3 _ _ _ _ _ _
def pc(a b c n k l s d0 d1 d2 d3 sg db:Int):List Cell:=if aZ k l s d0 d1 d2 d3 sg db then sd a b c n k l s d0 d1 d2 d3 sg db else sd a b c n 0 0 0 0 0 0 0 0 0
theorem acp(a b c n k l s d0 d1 d2 d3 sg db:Int)(hk:0<=k)(hs:0<=s)(hs1:s<4294967296)(p0:bh d0)(p1:bh d1)(p2:bh d2)(p3:bh d3)(p4:bh sg)(p5:bh db):
  Tr prog 73 qm ⟨Sw a b c n k l s d0 d1 d2 d3 sg db,.nil,0,[]⟩ (Mt (pc a b c n k l s d0 d1 d2 d3 sg db)):=by
 refine Tr.seq (c:=cL qm) (d:=cR qm) (Tr.path cA (q0 a b c n k l s d0 d1 d2 d3 sg db) trivial ?_);refine Tr.seq (c:=cL (cR qm)) (d:=cR (cR qm)) ?_;cases h:aZ k l s d0 d1 d2 d3 sg db with
 |false=>
  refine Tr.path cA (q1a a b c n k l s d0 d1 d2 d3 sg db) ⟨by rw[gj,h];rfl,hk,hs,trivial⟩ ?_
  rw[pc,h];refine Tr.seq (c:=cL (cR (cR qm))) (d:=lD) (Tr.path cA (q2 a b c n 0 0 0 0 0 0 0 0 0) trivial ?_);exact Od _ _ _ _ _ _ _ _ _ _ _ _ _ _ _ _ _ _ _ _ _ _ (by omega) (by omega) u0 u0 u0 u0 u0 u0
 |true=>
  refine Tr.path cA (q1b a b c n k l s d0 d1 d2 d3 sg db) ⟨by rw[gj,h];rfl,hk,hs,trivial⟩ ?_
  rw[pc,h];refine Tr.seq (c:=cL (cR (cR qm))) (d:=lD) (Tr.path cA (q2 a b c n k l s d0 d1 d2 d3 sg db) trivial ?_);exact Od _ _ _ _ _ _ _ _ _ _ _ _ _ _ _ _ _ _ _ _ _ _ hs hs1 p0 p1 p2 p3 p4 p5
end Go.Sx.Fi
namespace Go.Sx
end Go.Sx
