import Derived.Test.YtfceckiklfkjkaaGreatS25
import Derived.Test.YtfceckiklfkjkaaGreatRows
import Derived.Test.YtfceckiklfkjkaaGreatChecked
import Derived.WalkKit
import Derived.ProofKit
import Derived.OpenShut
import Derived.ShutString
import Derived.ChangeOld
import Derived.Below
import Derived.Deep.Slices
noncomputable section
set_option maxRecDepth 100000
namespace Go.Proofs.YtfceckiklfkjkaaGreat
open Go.ChangeShapes Go.WideShapes Go.ChangeAt Go.RowKit
theorem aq:ownKnob Tryz.prog.godebug=none:=by kernel_rfl
theorem laidOut:laidOutB Tryz.prog=true:=by kernel_rfl
theorem RW{P:Program}{fits:TypeId->Bool}{d:Nat}{e:TypeId}{count off n:Nat}(h:rowAt P fits d e count off n=true):off<=count*P.cellsOf e:=by
 cases d with
 |zero=>unfold rowAt at h;cases h
 |succ d=>
  unfold rowAt at h;simp only at h;split at h
  ·cases h
  ·rename_i hs;have hdiv:=Nat.div_add_mod off (P.cellsOf e);have hmod:=Nat.mod_lt off (Nat.pos_of_ne_zero hs);have hle:off / P.cellsOf e<count\/(off % P.cellsOf e=0/\off / P.cellsOf e<=count):=by
    simp only[Bool.or_eq_true,Bool.and_eq_true,decide_eq_true_eq,beq_iff_eq]at h;rcases h with h|h
    ·exact .inr ⟨h.1.1,by have:=h.1.2;omega⟩
    ·exact .inl h.1
   rcases hle with h1|⟨h1,h2⟩
   ·have:=Nat.mul_le_mul_left (P.cellsOf e) h1;rw[Nat.mul_succ]at this;rw[Nat.mul_comm count];omega
   ·have:=Nat.mul_le_mul_left (P.cellsOf e) h2;rw[Nat.mul_comm count];omega
theorem Ez{P:Program}: ∀ {d:Nat} {e:TypeId} {count off:Nat} {u:TypeId} {n:Nat},liesAt P d e count off u n=true->off<=count*P.cellsOf e
 | 0,_,_,_,_,_,h=>by unfold liesAt at h;cases h
 |d+1,e,count,off,u,n,h=>by
  unfold liesAt at h;simp only[Bool.or_eq_true]at h;rcases h with h|h
  ·exact RW h
  ·split at h
   ·exact Ez h
   ·cases h
theorem OL{H:Type}{enc:TypeId×Value->H}{W:World}{v0:Value}{d0:DataW H}{p0:List MemPlace}(hv:Value.okWide Tryz.prog W .any 0 22 v0)(h0:DataW.Trod enc Tryz.prog W 0 (fun _=>true) true 22 v0 d0 p0):
  v0= .slice none 0 0\/∃(b off n cap:Nat) (cs:Array Value) (t:TypeId) (fr:Nat×Nat) (L:List Int),v0= .slice (some ⟨b,off,none⟩) n cap/\n<=cap/\W.heap[b]? =some (.cells cs t fr)/\L.length=n*64/\off+n*64<=cs.size/\(cs.toList.drop off).take (n*64)=L.map (Value.int .u8)/\Go.Sx.Bytes L:=by
 obtain⟨a0,n,cap,rfl⟩:=okWide_slice Tryz.underlying22 hv;obtain⟨fu,hf⟩:=h0;rcases Go.Deep.open_slice Tryz.underlying22 hf with⟨hcs,_⟩|⟨a,len',cap',m,fu',D,Pl,hcs,_,hle,_,hm,_,hel⟩
 ·left;simp[Value.cells]at hcs;obtain⟨rfl,rfl,rfl⟩:=hcs
  rfl
 ·right;simp[Value.cells]at hcs;obtain⟨rfl,rfl,rfl⟩:=hcs;simp only[if_true]at hm;subst hm;have hok:Cell.ok Tryz.prog W .any 0 22 (.slice (some a) n m):=by
   unfold Value.okWide at hv;rw[Tryz.underlying22]at hv;simp only at hv;unfold Cell.okWide at hv;rw[Tryz.underlying22]at hv;exact hv
  unfold Cell.ok at hok;rw[Tryz.underlying22]at hok;obtain⟨_,_,_,hspot,row,cells,hshape,hlies⟩:=hok;obtain⟨b,off,spot⟩:=a;have hspot':spot=none:=hspot;subst hspot';unfold World.shape? at hshape;split at hshape<;>try(cases hshape;done)
  rename_i cs t fr hheap;have hheap':W.heap[b]? =some (.cells cs t fr):=hheap;simp only[Option.some.injEq,Prod.mk.injEq]at hshape;obtain⟨rfl,rfl⟩:=hshape;have hoff:off<=cs.size:=Nat.le_trans (Ez hlies) (Nat.div_mul_le_self _ _);have rK:Tryz.prog.cellsOf 95=64:=by kernel_rfl
  have c5:Tryz.prog.cellsOf 5=1:=by kernel_rfl
  have hcell: ∀j,j<n*64->∃z:Int,cs[off+j]? =some (.int .u8 z)/\(0<=z/\z<256):=fun j hj=>by
   obtain⟨cs',h1,h2⟩:=hel (j / 64) (by omega)
   rw[rK]at h1;obtain⟨_,hlen,hget⟩:=World.cells?_some h1;obtain⟨xs,fm,_,_,_,hxl,hx⟩:=DataW.trod_array Tryz.underlying95 h2;have hx':=hx (j % 64) (by omega)
   rw[c5,Nat.mul_one,List.getElem?_eq_getElem (by omega)]at hx'
   obtain⟨z,hz,_,hwf⟩:=DataW.trod_int Tryz.underlying5 hx';have hj':=hget (j % 64) (by omega)
   have hcz:cs'[j % 64]? =some (.int .u8 z):=by
    have:(cs'.drop (j % 64)).take 1= [Value.int .u8 z]:=hz;have h3:((cs'.drop (j % 64)).take 1)[0]? =some (Value.int .u8 z):=by rw[this];rfl
    rw[List.getElem?_take_of_lt (by omega),List.getElem?_drop,Nat.add_zero]at h3
    exact h3
   rw[hcz]at hj';refine⟨z,?_,by
    unfold Lit.wf at hwf;simp[IntKind.min,IntKind.max,IntKind.signed,IntKind.bits]at hwf;omega⟩
   rw[Go.Deep.add_add,show j / 64*64+j % 64=j by omega]at hj'
   unfold World.cell? at hj';have hb:((⟨b,off,none⟩:Addr).add j).block=b:=by unfold Addr.add;split<;>rfl
   have ho:((⟨b,off,none⟩:Addr).add j).off=off+j:=by unfold Addr.add;split<;>simp_all
   have hsp:((⟨b,off,none⟩:Addr).add j).spot=none:=by unfold Addr.add;split<;>rfl
   rw[hb,hheap']at hj';simp only[hsp,ho]at hj';exact hj'
  obtain⟨Z,hZ⟩:=Go.Deep.choose_lt hcell;have hsz:off+n*64<=cs.size:=by
   rcases Nat.eq_zero_or_pos (n*64)with h|h
   ·omega
   ·have:=(hZ (n*64 - 1) (by omega)).1
    have:=(Array.getElem?_eq_some_iff.1 this).1;omega
  refine⟨b,off,n,m,cs,t,fr,(List.range (n*64)).map Z,rfl,hle,hheap',by simp,hsz,?_,fun x hx=>by
   obtain⟨j,hj,rfl⟩:=List.mem_map.1 hx;exact(hZ j (List.mem_range.1 hj)).2⟩
  apply List.ext_getElem?;intro j;by_cases hj:j<n*64
  ·rw[List.getElem?_take_of_lt hj,List.getElem?_drop,Array.getElem?_toList,(hZ j hj).1];simp[hj]
  ·rw[List.getElem?_eq_none (by simp;omega),List.getElem?_eq_none (by simp;omega)]
end Go.Proofs.YtfceckiklfkjkaaGreat
