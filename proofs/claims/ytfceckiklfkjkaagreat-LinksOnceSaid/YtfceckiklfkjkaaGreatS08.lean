import Derived.Test.YtfceckiklfkjkaaGreatS07
import Derived.Laws.BytesString
import Derived.Lib.ConvBytes
import Derived.RangeFuncLeaves
import Derived.RangeFuncCalls
import Derived.OrdersIn
import Derived.LoopNIn
import Derived.TacticsIn
noncomputable section
namespace Go.Sx
variable{P:Program}{ρ:aM}{w:World}{hp:Hp}{nx:Nat}
theorem foldl_push: ∀(l:aj) (a:ByteArray),l.foldl (fun r n=>r.push (UInt8.ofNat n.toNat)) a=⟨⟨a.data.toList++l.map fun n=>UInt8.ofNat n.toNat⟩⟩
 | [],a=>by simp
 |x::l,a=>by
  rw[List.foldl_cons,foldl_push l];simp[ByteArray.push]
theorem UA(l:aj):l.foldl (fun r n=>r.push (UInt8.ofNat n.toNat)) ByteArray.empty=strOf l:=by
 rw[foldl_push];unfold strOf Oc;rw[List.map_map]
 rfl
theorem xk{b:Nat}{s:ByteArray}{p:Nat}(h:w.heap[b]? =some (.stringIter s p)):(getObj b).run P w= .ok (.stringIter s p) w:=by
 simp[getObj,Sem.run,h]
section ops
variable{ev:Ev}{va:Operand->Value}{r:br}(hr:bu ρ hp w)(hf:bW ρ nx)
include hr
theorem P9{x:Cell}{s:ByteArray}{nd:List Nat}(h:lF hp x=some (s,nd)){X:Value}(hx:CR ρ x X):(Conv.bytesToString X).run P w= .ok (.string s) w:=by
 unfold lF at h;split at h
 ·simp only[ae,af]at h;obtain⟨rfl,_⟩:=h;simp only[CR]at hx;subst hx;simp[Conv.bytesToString]
 ·have key: ∀(nm m:Nat) (bd:Body) (l:aj),fB hp 1 none x=some (some nm,m,some bd)->(∀us,da ρ bd us->us=l.map (Value.int .u8))->(Conv.bytesToString X).run P w= .ok (.string (strOf l)) w:=by
   intro nm m bd l hs hl;obtain⟨len,us,h1,h2,h3,h4,h5⟩:=nY (P:=P) hr hs hx;have hus:=hl us (h5 _ rfl);subst hus;have hsl: ∃a cap,X= .slice (some a) len cap:=by
    unfold fB at hs;split at hs
    ·split at hs<;>cases hs
    ·split at hs<;>try(cases hs;done)
     rename_i hsp;obtain⟨b,c,cap,e1,rfl⟩:=kA hsp hx;have:=h1 w;simp only[Builtin.lenOf,Sem.run_pure,Result.ok.injEq]at this;exact⟨_,_,by rw[<-this.1]⟩
   obtain⟨a,cap,rfl⟩:=hsl;have h3':=h3 w rfl;simp only[Builtin.firstCells,Nat.mul_one]at h3';simp only[eQ]at h2;subst h2;rw[run_bytesToString w a m cap l h3',UA]
  split at h
  ·rename_i nm m l n hs;simp only[ae,af]at h;obtain⟨rfl,_⟩:=h;exact key nm m _ l hs fun us hu=>hu.2
  ·rename_i nm m cs hs;split at h<;>try(cases h;done)
   rename_i l hl;simp only[ae,af]at h;obtain⟨rfl,_⟩:=h;exact key nm m _ l hs fun us hu=>(nj hl hu).1
  ·cases h
include hf
theorem LF{src dst:TypeId}{x:Operand}(h:l5 P ev hp nx src dst x=some r)(hx:dx ρ ev va x):bw P ρ hp nx w (convert src dst (va x)) r:=by
 unfold l5 at h;split at h
 ·rename_i s hv;have e:va x= .string s:=hx _ hv;split at h<;>try(cases h;done)
  ·rename_i h1 h2;refine bw.quiet hr hf h (V:= .string s) ?_ rfl;simp[convert,run_underlying h1,run_underlying h2,e]
  ·rename_i el h1 h2;split at h<;>try(cases h;done)
   rename_i h3;split at h<;>try(cases h;done)
   rename_i hsz;have hsz:=Nat.le_of_ble_eq_true hsz;simp only[ae]at h;subst h;rw[e];have hcap:s.size<=grownCap w s.size 0 el:=by
    show s.size<=s.size+_;omega
   refine⟨_,_,ext ρ nx w.heap.size (grownCap w s.size 0 el),Lib.run_convert_string_bytes w src dst el s h1 h2 h3,hr.pb hf (o:= .cells (Lib.bytesCells w el s) el ((Lib.bytesCells w el s).size,(Lib.bytesCells w el s).size+1)) ?_ ?_ ⟨w.heap.size,grownCap w s.size 0 el,0,by simp[ext],by omega,.inl (by simp),by simp⟩⟩
   ·refine⟨(s.data.toList.map fun x=>(x.toNat:Int)).map (Value.int .u8),List.replicate (grownCap w s.size 0 el - s.size) (.int .u8 0),((Lib.bytesCells w el s).size,(Lib.bytesCells w el s).size+1),?_,⟨?_,rfl⟩,(fun h=>by cases h),?_,?_⟩
    ·congr 1;apply Array.toList_inj.1;simp[Lib.bytesCells]
    ·simp
    ·simp;omega
    ·exact grownCap_le_maxLen w s.size 0 el (by show s.size<=9223372036854775807;omega)
   ·refine⟨?_,rfl,rfl,rfl⟩;apply Array.ext
    ·simp[Lib.bytesWorld_size]
    ·intro i h1 h2;rw[<-Option.some_inj, <-Array.getElem?_eq_getElem, <-Array.getElem?_eq_getElem];by_cases hi:i<w.heap.size
     ·rw[Lib.bytesWorld_at_old w el s i hi,Array.getElem?_push_lt hi,Array.getElem?_eq_getElem hi]
     ·have:i=w.heap.size:=by rw[Lib.bytesWorld_size]at h1;omega
      subst this;rw[Lib.bytesWorld_at_new,Array.getElem?_push_size]
 ·rename_i x' _ hv;have e:CR ρ x' (va x):=hx _ hv;split at h<;>try(cases h;done)
  rotate_left
  ·rename_i e0 el h1 h2;split at h<;>try(cases h;done)
   rename_i nm off len cap h3 _;split at h<;>try(cases h;done)
   rename_i t o b bI hsd;have hsd:src=dst:=of_decide_eq_true hsd;subst hsd;obtain rfl:e0=el:=by rw[h1]at h2;cases h2;rfl
   simp only[ae]at h;subst h;obtain⟨bl,cc,e1,e2⟩:=e;obtain⟨b',c',ob,g1,g2,vs,tail,fr,rfl,g3,g4,g5⟩:=hr.ok _ _ bI;rw[e1]at g1;simp only[ae,af]at g1;obtain⟨rfl,rfl⟩:=g1;obtain rfl:=g4 rfl;have aA:=bS g2;have hsh:w.shape? bl=some (t,(vs++tail).toArray.size):=by simp[World.shape?,g2]
   refine⟨va x,w.freeze ⟨bl,(vs++tail).toArray.size,none⟩ 1,ρ,?_,hr.jH hf bI rfl e1 (o:= .cells (vs++tail).toArray t ((vs++tail).toArray.size,(vs++tail).toArray.size+1)) ⟨vs,tail,_,rfl,g3,(fun h=>by cases h),g5⟩ ⟨?_,?_,?_,rfl,rfl,rfl⟩ (by rw[e2];exact⟨bl,cc,e1,rfl⟩)⟩
   ·rw[e2];simp[convert,run_underlying h1,run_underlying h3,markStringish,hsh]
   ·simp[World.freeze]
   ·simp only[World.freeze];rw[if_neg (by decide),Array.getElem?_modify,if_pos rfl,g2]
    simp
   ·intro i hi;simp only[World.freeze];rw[if_neg (by decide),Array.getElem?_modify,if_neg (fun e=>hi e.symm)]
  rename_i el h1 h2;split at h<;>try(cases h;done)
  rename_i h3;split at h<;>try(cases h;done)
  rename_i s nd hb;simp only[ae]at h;subst h;have hrun:=P9 (P:=P) hr hb e;refine bw.q hr hf (V:= .string s) ?_ rfl;have hns:(∃A l c,va x= .slice A l c):=by
   unfold lF at hb;split at hb
   ·simp only[CR]at e;exact⟨_,_,_,e⟩
   ·cases x' with
    |sl=>obtain⟨_,_,_,e⟩:=e;exact⟨_,_,_,e⟩
    |aC=>obtain⟨_,_,_,_,_,_,e⟩:=e;exact⟨_,_,_,e⟩
    |bf=>simp only[CR]at e;exact⟨_,_,_,e⟩
    |str s=>rename_i hns _;exact absurd rfl (hns s)
    |_=>simp[fB,dn]at hb
  obtain⟨A,l,c,hA⟩:=hns;rw[hA]at hrun ⊢;simp[convert,run_underlying h1,run_underlying h2,run_underlying h3,hrun]
 ·cases h
theorem K7{src dst:TypeId}{x:Operand}(h:jT P ev hp nx src dst x=some r)(hx:dx ρ ev va x):bw P ρ hp nx w (convert src dst (va x)) r:=by
 unfold jT at h;split at h
 ·rename_i r' h1;simp only[ae]at h;subst h;exact Sm hr hf h1 hx
 ·exact LF hr hf h hx
theorem NS{t:TypeId}{x:Operand}(h:Bl P ev nx t x=some r)(hx:dx ρ ev va x):bw P ρ hp nx w (Instr.range t (va x)) r:=by
 unfold Bl at h;split at h<;>try(cases h;done)
 rename_i s hv;have e:va x= .string s:=hx _ hv;split at h<;>try(cases h;done)
 rename_i hu;simp only[ae]at h;subst h;refine⟨.pointer (some ⟨w.heap.size,0,none⟩),{w with heap:=w.heap.push (.stringIter s 0)},ext ρ nx w.heap.size 0,by simp[Instr.range,run_underlying hu,e],hr.pb hf (o:= .stringIter s 0) rfl ⟨rfl,rfl,rfl,rfl⟩ ⟨w.heap.size,0,by simp[ext],rfl⟩⟩
theorem RS{x:Operand}{b:Bool}{t:TypeId}(h:lM ev hp x b=some r)(hx:dx ρ ev va x):bw P ρ hp nx w (Instr.next (va x) b t) r:=by
 unfold lM at h;split at h<;>try(cases h;done)
 rename_i nm hv;obtain⟨bl,c,e1,e2⟩:=hx _ hv;split at h<;>try(cases h;done)
 rename_i s pos bI;obtain⟨b',c',o,g1,g2,g3⟩:=hr.ok _ _ bI;rw[e1]at g1;simp only[ae,af]at g1;obtain⟨rfl,rfl⟩:=g1;have g3:o= .stringIter s pos:=g3;subst g3;split at h
 ·rename_i aA;have aA:pos<s.size:=by simpa[Nat.blt_eq]using aA
  simp only[ae]at h;subst h;obtain⟨w',s1,s2⟩:=fK (P:=P) (o':= .stringIter s (pos+(Utf8.decode s pos).2)) g2 (by intros;simp)
  refine⟨.tuple #[.bool true,goInt pos,.int .i32 (Utf8.decode s pos).1],w',ρ,?_,hr.jH hf bI rfl e1 rfl s2 ⟨_,⟨_,_,rfl,⟨_,_,rfl,⟨_,_,rfl,rfl,rfl⟩,rfl⟩,rfl⟩,rfl⟩⟩;simp only[Instr.next,e2,Sem.run_bind,Sem.run_pure,Result.andThen_ok,xk g2,aA,if_true,s1]
 ·rename_i aA;have aA: ¬pos<s.size:=by
   intro hh;have:Nat.blt pos s.size=true:=by simpa[Nat.blt_eq]using hh
   rw[this]at aA;cases aA
  simp only[ae]at h;subst h;refine bw.q hr hf (V:= .tuple #[.bool false]) ?_ ⟨_,⟨_,_,rfl,rfl,rfl⟩,rfl⟩;simp only[Instr.next,e2,Sem.run_bind,Sem.run_pure,Result.andThen_ok,xk g2,aA,if_false]
end ops
end Go.Sx
namespace Go.Sx
variable{P:Program}{ρ:aM}{w:World}{hp:Hp}{nx:Nat}
def Jv(P:Program)(ρ:aM)(hp:Hp)(nx:Nat)(w:World)(s:Sem Next)(r:br):Prop:=
 ∃V w' ρ',(s.run P w= .ok (.value V) w'\/(s.run P w= .ok .skip w'/\V=undef))/\Out ρ hp nx w r.u r.v V ρ' w'
theorem bw.op {s:Sem Value}{r:br}(h:bw P ρ hp nx w s r):Jv P ρ hp nx w (do pure (.value (<-s))) r:=by
 obtain⟨V,w',ρ',h1,h2⟩:=h;exact⟨V,w',ρ',.inl (by simp[h1]),h2⟩
section ops
variable{ev:Ev}{va:Operand->Value}{r:br}(hr:bu ρ hp w)(hf:bW ρ nx)
include hr hf
omit hr hf in
theorem Fm{s:Sem Unit}(h: ∃w' ρ',s.run P w= .ok () w'/\Out ρ hp nx w r.u r.v undef ρ' w'):Jv P ρ hp nx w (do s;pure .skip) r:=by
 obtain⟨w',ρ',h1,h2⟩:=h;exact⟨undef,w',ρ',.inr ⟨by simp[h1],rfl⟩,h2⟩
theorem OT{ts:Array TypeId}{ty:TypeId}{x:RV}{X:Value}(h:Fw P ts x=some r)(hx:bE ρ x X):bw P ρ hp nx w (Builtin.cap_ ts ty #[X]) r:=by
 unfold Fw at h;split at h<;>try(cases h;done)
 rename_i t x ht;have hy:CR ρ x X:=hx;clear hx;split at h<;>try(cases h;done)
 ·rename_i hu;simp only[iI,ae]at h;subst h;simp only[CR]at hy;subst hy;exact bw.q hr hf (V:= .int .i64 _) (by simp[Builtin.cap_,ht,run_underlying hu,goInt]) rfl
 ·rename_i hu;simp only[iI,ae]at h;subst h;obtain⟨_,_,_,rfl⟩:=hy;exact bw.q hr hf (V:= .int .i64 _) (by simp[Builtin.cap_,ht,run_underlying hu,goInt]) rfl
theorem KD{b:Builtin}{ts:Array TypeId}{ty:TypeId}{cs:Array Bool}{l:List RV}{vs:List Value}(h:ir P hp nx b ts l=some r)
  (hv: ∀(i:Nat) (x:RV),l[i]? =some x->∃V,vs[i]? =some V/\bE ρ x V) (hlen:vs.length=l.length):Jv P ρ hp nx w (builtin b ts ty cs vs.toArray) r:=by
 unfold ir at h;split at h
 ·rename_i x;obtain⟨X,e0,h0⟩:=hv 0 _ rfl;have:vs= [X]:=by
   match vs,hlen with
   | [a],_=>simp at e0;subst e0;rfl
  subst this;exact(QE hr hf h h0).op
 ·rename_i d s;obtain⟨D,e0,h0⟩:=hv 0 _ rfl;obtain⟨S,e1,h1⟩:=hv 1 _ rfl;have:vs= [D,S]:=by
   match vs,hlen with
   | [a,b],_=>simp at e0 e1;subst e0 e1;rfl
  subst this;exact(LL hr hf h h0 h1).op
 ·rename_i d s;obtain⟨D,e0,h0⟩:=hv 0 _ rfl;obtain⟨S,e1,h1⟩:=hv 1 _ rfl;have:vs= [D,S]:=by
   match vs,hlen with
   | [a,b],_=>simp at e0 e1;subst e0 e1;rfl
  subst this;exact(GY hr hf h h0 h1).op
 ·split at h<;>try(cases h;done)
  rename_i v hm;exact(C2 (s:=fun a=>Builtin.min_ ts ty a) hr hf hm hv hlen (fun k x y=>by simp[Builtin.min_,Builtin.min2]) h).op
 ·split at h<;>try(cases h;done)
  rename_i v hm;exact(C2 (s:=fun a=>Builtin.max_ ts ty a) hr hf hm hv hlen (fun k x y=>by simp[Builtin.max_,Builtin.max2]) h).op
 ·rename_i m k;obtain⟨M,e0,h0⟩:=hv 0 _ rfl;obtain⟨K,e1,h1⟩:=hv 1 _ rfl;have:vs= [M,K]:=by
   match vs,hlen with
   | [a,b],_=>simp at e0 e1;subst e0 e1;rfl
  subst this;exact(FI hr hf h h0 h1).op
 ·rename_i m;obtain⟨M,e0,h0⟩:=hv 0 _ rfl;have:vs= [M]:=by
   match vs,hlen with
   | [a],_=>simp at e0;subst e0;rfl
  subst this;exact(Ir hr hf h h0).op
 ·rename_i x;obtain⟨X,e0,h0⟩:=hv 0 _ rfl;have:vs= [X]:=by
   match vs,hlen with
   | [a],_=>simp at e0;subst e0;rfl
  subst this;exact(OT hr hf h h0).op
 ·cases h
theorem Rq{c:Call}{ty:TypeId}(h:kj P ev hp nx c=some r)(hx: ∀x∈c.args.toList,dx ρ ev va x):Jv P ρ hp nx w (do let d <-resolve va c ty;invoke d.target d.args) r:=by
 unfold kj at h;split at h<;>try(cases h;done)
 rename_i b hb;split at h<;>try(cases h;done)
 rename_i l hl;obtain⟨e1,e2⟩:=Qp hl hx;have hargs:c.args.map va=(c.args.toList.map va).toArray:=by rw[<-Array.toList_map]
 have:=KD (P:=P) (vs:=c.args.toList.map va) (ts:=c.argTypes) (ty:=ty) (cs:=c.args.map fun| .const _=>true|_=>false) hr hf h (fun i x hi=>by
  obtain⟨y,h1,h2⟩:=e2 i x hi;exact⟨va y,by simp only[List.getElem?_map,h1,Option.map_some],h2⟩) (by simp[e1])
 rw[<-hargs]at this;obtain⟨V,w',ρ',h1,h2⟩:=this;refine⟨V,w',ρ',?_,h2⟩;simp only[resolve,hb,Sem.run_bind,Sem.run_pure,Result.andThen_ok,invoke];exact h1
theorem OD{o:Oper}(h:iV P ev hp nx o.op=some r)(hx: ∀x∈o.op.operands.toList,dx ρ ev va x):Jv P ρ hp nx w (execOp va o) r:=by
 cases ho:o.op with
 |move x=>
  rw[ho]at h hx;have:=(C5 (P:=P) hr hf h (hx x (by simp[Op.operands]))).op
  simpa[execOp,ho]using this
 |assign x=>
  rw[ho]at h hx;have:=(C5 (P:=P) hr hf h (hx x (by simp[Op.operands]))).op
  simpa[execOp,ho]using this
 |pick c a b=>
  rw[ho]at h hx;have:=(Rs (P:=P) hr hf h (hx c (by simp[Op.operands])) (hx a (by simp[Op.operands])) (hx b (by simp[Op.operands]))).op
  obtain⟨V,w',ρ',h1,h2⟩:=this;exact⟨V,w',ρ',by simp only[execOp,ho];simpa using h1,h2⟩
 |alloc t=>
  rw[ho]at h hx;have:=(Mp (P:=P) hr hf h).op;obtain⟨V,w',ρ',h1,h2⟩:=this;exact⟨V,w',ρ',by simp only[execOp,ho];exact h1,h2⟩
 |box t x=>
  rw[ho]at h hx;obtain⟨V,w',ρ',h1,h2⟩:=(TQ (P:=P) hr hf h (hx x (by simp[Op.operands]))).op
  exact⟨V,w',ρ',by simp only[execOp,ho];exact h1,h2⟩
 |build t ps=>
  rw[ho]at h hx;obtain⟨V,w',ρ',h1,h2⟩:=(MX (P:=P) hr hf h (fun x hx'=>hx x.2 (by simp[Op.operands];exact⟨x.1,by simpa using hx'⟩))).op
  exact⟨V,w',ρ',by simp only[execOp,ho];exact h1,h2⟩
 |buildSlice t len ps=>
  rw[ho]at h hx;obtain⟨V,w',ρ',h1,h2⟩:=(zr (P:=P) hr hf h (fun x hx'=>hx x.2 (by simp[Op.operands];exact⟨x.1,by simpa using hx'⟩))).op
  exact⟨V,w',ρ',by simp only[execOp,ho];exact h1,h2⟩
 |load t a=>
  rw[ho]at h hx;obtain⟨V,w',ρ',h1,h2⟩:=(KO (P:=P) hr hf h (hx a (by simp[Op.operands]))).op
  exact⟨V,w',ρ',by simp only[execOp,ho];exact h1,h2⟩
 |store t a x=>
  rw[ho]at h hx;obtain⟨V,w',ρ',h1,h2⟩:=Fm (P:=P) (KU (P:=P) hr hf h (hx a (by simp[Op.operands])) (hx x (by simp[Op.operands])))
  exact⟨V,w',ρ',by simp only[execOp,ho];exact h1,h2⟩
 |nilCheck x=>
  rw[ho]at h hx;obtain⟨V,w',ρ',h1,h2⟩:=Vt (P:=P) hr hf ho h (hx x (by simp[Op.operands]))
  exact⟨V,w',ρ',.inl h1,h2⟩
 |binOp op t x y yt=>
  rw[ho]at h hx;obtain⟨V,w',ρ',h1,h2⟩:=(Tc (P:=P) hr hf h (hx x (by simp[Op.operands])) (hx y (by simp[Op.operands])) x y).op
  exact⟨V,w',ρ',by simp only[execOp,ho];exact h1,h2⟩
 |unOp op t x=>
  rw[ho]at h hx;obtain⟨V,w',ρ',h1,h2⟩:=(YG (P:=P) hr hf h (hx x (by simp[Op.operands]))).op
  exact⟨V,w',ρ',by simp only[execOp,ho];exact h1,h2⟩
 |convert src dst x=>
  rw[ho]at h hx;obtain⟨V,w',ρ',h1,h2⟩:=(K7 (P:=P) hr hf h (hx x (by simp[Op.operands]))).op
  exact⟨V,w',ρ',by simp only[execOp,ho];exact h1,h2⟩
 |range t x=>
  rw[ho]at h hx;obtain⟨V,w',ρ',h1,h2⟩:=(NS (P:=P) hr hf h (hx x (by simp[Op.operands]))).op
  exact⟨V,w',ρ',by simp only[execOp,ho];exact h1,h2⟩
 |next x b=>
  rw[ho]at h hx;obtain⟨V,w',ρ',h1,h2⟩:=(RS (P:=P) (t:=o.type) hr hf h (hx x (by simp[Op.operands]))).op
  exact⟨V,w',ρ',by simp only[execOp,ho];exact h1,h2⟩
 |sliceToArrayPointer t x=>
  rw[ho]at h hx;obtain⟨V,w',ρ',h1,h2⟩:=(Vs (P:=P) hr hf h (hx x (by simp[Op.operands]))).op
  exact⟨V,w',ρ',by simp only[execOp,ho];exact h1,h2⟩
 |makeFunc fn first dH=>
  rw[ho]at h hx;obtain⟨V,w',ρ',h1,h2⟩:=(Q5 (P:=P) hr hf h (fun x hx'=>hx x (by simp[Op.operands];left;simpa using hx')) (fun x hx'=>hx x (by simp[Op.operands];right;simpa using hx'))).op
  exact⟨V,w',ρ',by simp only[execOp,ho];exact h1,h2⟩
 |makeMap t x=>
  rw[ho]at h hx;obtain⟨V,w',ρ',h1,h2⟩:=(He (P:=P) (va:=va) (t:=t) hr hf h).op;exact⟨V,w',ρ',by simp only[execOp,ho];exact h1,h2⟩
 |makeSlice t l c=>
  rw[ho]at h hx;obtain⟨V,w',ρ',h1,h2⟩:=(BC (P:=P) hr hf h (hx l (by simp[Op.operands])) (hx c (by simp[Op.operands]))).op
  exact⟨V,w',ρ',by simp only[execOp,ho];exact h1,h2⟩
 |slice t x lo hi mx=>
  rw[ho]at h hx;obtain⟨V,w',ρ',h1,h2⟩:=(MN (P:=P) hr hf h (hx x (by simp[Op.operands])) (fun y hy=>hx y (by simp[Op.operands,hy])) (fun y hy=>hx y (by simp[Op.operands,hy])) (fun y hy=>hx y (by simp[Op.operands,hy]))).op
  exact⟨V,w',ρ',by simp only[execOp,ho];exact h1,h2⟩
 |fieldAddr s x f=>
  rw[ho]at h hx;obtain⟨V,w',ρ',h1,h2⟩:=(AT (P:=P) hr hf h (hx x (by simp[Op.operands]))).op
  exact⟨V,w',ρ',by simp only[execOp,ho];exact h1,h2⟩
 |field t x f=>
  rw[ho]at h hx;obtain⟨V,w',ρ',h1,h2⟩:=(NC (P:=P) hr hf h (hx x (by simp[Op.operands]))).op
  exact⟨V,w',ρ',by simp only[execOp,ho];exact h1,h2⟩
 |indexAddr t x i=>
  rw[ho]at h hx;obtain⟨V,w',ρ',h1,h2⟩:=(BD (P:=P) hr hf h (hx x (by simp[Op.operands])) (hx i (by simp[Op.operands]))).op
  exact⟨V,w',ρ',by simp only[execOp,ho];exact h1,h2⟩
 |index t x i=>
  rw[ho]at h hx;obtain⟨V,w',ρ',h1,h2⟩:=(Ng (P:=P) hr hf h (hx x (by simp[Op.operands])) (hx i (by simp[Op.operands]))).op
  exact⟨V,w',ρ',by simp only[execOp,ho];exact h1,h2⟩
 |lookup t m k ok=>
  rw[ho]at h hx;obtain⟨V,w',ρ',h1,h2⟩:=(IF (P:=P) hr hf h (hx m (by simp[Op.operands])) (hx k (by simp[Op.operands]))).op
  exact⟨V,w',ρ',by simp only[execOp,ho];exact h1,h2⟩
 |mapUpdate t m k x=>
  rw[ho]at h hx;obtain⟨V,w',ρ',h1,h2⟩:=Fm (P:=P) (rn (P:=P) hr hf h (hx m (by simp[Op.operands])) (hx k (by simp[Op.operands])) (hx x (by simp[Op.operands])))
  exact⟨V,w',ρ',by simp only[execOp,ho];exact h1,h2⟩
 |insert t m k x=>
  rw[ho]at h hx;obtain⟨V,w',ρ',h1,h2⟩:=Fm (P:=P) (rn (P:=P) hr hf h (hx m (by simp[Op.operands])) (hx k (by simp[Op.operands])) (hx x (by simp[Op.operands])))
  exact⟨V,w',ρ',by simp only[execOp,ho];exact h1,h2⟩
 |extract x i=>
  rw[ho]at h hx;obtain⟨V,w',ρ',h1,h2⟩:=(GF (P:=P) hr hf h (hx x (by simp[Op.operands]))).op
  exact⟨V,w',ρ',by simp only[execOp,ho];exact h1,h2⟩
 |call c=>
  rw[ho]at h hx;obtain⟨V,w',ρ',h1,h2⟩:=Rq (P:=P) (ty:=o.type) hr hf h (fun x hx'=>hx x (by
   simp only[Op.operands,Call.operands,Array.toList_append,List.mem_append];exact .inr hx'))
  exact⟨V,w',ρ',by simp only[execOp,ho];exact h1,h2⟩
 |_=>rw[ho]at h;simp[iV]at h
end ops
end Go.Sx
namespace Go.Sx
variable{P:Program}{hp h':Hp}{nx:Nat}{ev:Ev}{r:br}
theorem gM{nm:Nat}(h:h' nm=hp nm):bn h' nm=bn hp nm:=by unfold bn;rw[h]
theorem Lv{t:TypeId}{a:Operand}(h:lB P ev hp t a=some r)(hn: ∀nm∈r.ar,h' nm=hp nm):lB P ev h' t a=some r:=by
 unfold lB at h ⊢;split at h<;>try(cases h;done)
 rename_i nm off hv;split at h<;>try(cases h;done)
 rename_i k hk;split at h
 ·rename_i t' ro opn b bU;split at h<;>try(cases h;done)
  rename_i v hg;have e:=h;simp only[ae]at h;subst h;rw[gM (hn nm (by simp)),bU]
  simp only[hg]
 ·rename_i bU;split at h<;>try(cases h;done)
  rename_i v hg;have e:=h;simp only[ae]at h;subst h;rw[gM (hn nm (by simp)),bU,hn nm (by simp)]
  simp only[hg]
theorem IP{t:TypeId}{a:Operand}(h:jU P ev hp t a=some r)(hn: ∀nm∈r.ar,h' nm=hp nm):jU P ev h' t a=some r:=by
 unfold jU at h ⊢;split at h
 ·exact h
 ·exact Lv h hn
theorem IN{t:TypeId}{a x:Operand}(h:kX P ev hp t a x=some r)(hn: ∀nm∈r.ar,h' nm=hp nm):kX P ev h' t a x=some r:=by
 unfold kX at h ⊢;split at h<;>try(cases h;done)
 rename_i nm off hv;split at h<;>try(cases h;done)
 rename_i v hvx;split at h<;>try(cases h;done)
 rename_i ti hti;split at h<;>try(cases h;done)
 rename_i hsz;split at h<;>try(cases h;done)
 rename_i u hu;simp only[ae]at h;subst h;have:setAt h' nm off v=setAt hp nm off v:=by unfold setAt;rw[gM (hn nm (by simp))]
 simp only[hsz,if_true,this,hu]
theorem Er{t:TypeId}{m k:Operand}{ok:Bool}(h:gT P ev hp t m k ok=some r)(hn: ∀nm∈r.ar,h' nm=hp nm):gT P ev h' t m k ok=some r:=by
 unfold gT at h ⊢;split at h<;>try(cases h;done)
 split at h<;>try(cases h;done)
 rename_i mc hmc;split at h<;>try(cases h;done)
 rename_i kc hkc;split at h<;>try(cases h;done)
 rename_i z hz;split at h
 ·rename_i nm v t hvs;split at h<;>try(cases h;done)
  rename_i hko;have e:=h;simp only[ae]at h;subst h;have:nh h' mc kc=nh hp mc kc:=by
   unfold nh at hvs ⊢;split at hvs<;>try rfl
   rename_i nm';split at hvs<;>try(cases hvs;done)
   all_goals
    rename_i bI;simp only[ae,af]at hvs;rw[hn nm' (by simp[hvs.1]),bI]
  rw[this,hvs];simp only;rw[if_pos hko]
 rename_i hvs;have hvs':(∀nm∈r.ar,h' nm=hp nm)->(∀nm,mc= .map nm->nm∈r.ar)->nh h' mc kc=none:=fun h1 h2=>by
  rw[<-hvs];unfold nh;cases mc<;>try rfl
  rename_i nm;simp only;rw[h1 nm (h2 nm rfl)]
 split at h
 ·rename_i nm es hmp;split at h<;>try(cases h;done)
  rename_i hko;have hnd:r.ar= [nm]:=by
   unfold Nt at h;split at h<;>first|(simp only[ae]at h;subst h;rfl)|(cases h;done)
  have:kq h' mc=kq hp mc:=by
   unfold kq at hmp ⊢;split at hmp<;>try rfl
   rename_i nm';split at hmp<;>try(cases hmp;done)
   rename_i bI;simp only[ae,af]at hmp;rw[hn nm' (by rw[hnd,hmp.1];simp),bI]
  rw[hvs' hn (fun nm' e=>by
   subst e;unfold kq at hmp;simp only at hmp;split at hmp<;>try(cases hmp;done)
   simp only[ae,af]at hmp;rw[hnd,hmp.1];simp),this,hmp]
  simp only[hko,if_true];exact h
 rename_i hmp;split at h<;>try(cases h;done)
 rename_i es nd hes;have hmp':kq h' mc=none:=by
  have hnd':r.ar=nd:=by
   split at h<;>try(cases h;done)
   unfold kT at h;split at h<;>first|(simp only[ae]at h;subst h;rfl)|(cases h;done)
  unfold kq at hmp ⊢;split at hmp
  ·rename_i nm';unfold kC at hes;simp only at hes;split at hes<;>try(cases hes;done)
   all_goals
    rename_i bI;simp only[ae,af]at hes;rw[hn nm' (by rw[hnd', <-hes.2];simp),bI]
  ·rfl
 rw[hmp',hvs' hn (fun nm' e=>by
  have hnd':r.ar=nd:=by
   split at h<;>try(cases h;done)
   unfold kT at h;split at h<;>first|(simp only[ae]at h;subst h;rfl)|(cases h;done)
  subst e;unfold kC at hes;simp only at hes;split at hes<;>try(cases hes;done)
  all_goals
   simp only[ae,af]at hes;rw[hnd', <-hes.2];simp)]
 simp only;split at h<;>try(cases h;done)
 rename_i hko;have hnd:r.ar=nd:=by
  unfold kT at h;split at h<;>first|(simp only[ae]at h;subst h;rfl)|(cases h;done)
 have:kC h' mc=kC hp mc:=by
  unfold kC at hes ⊢;split at hes<;>try rfl
  rename_i nm;split at hes<;>try(cases hes;done)
  all_goals
   rename_i bI;simp only[ae,af]at hes;rw[hn nm (by rw[hnd, <-hes.2];simp),bI]
 simp only[this,hes,hko,if_true];exact h
theorem ql{t:TypeId}{m k x:Operand}(h:eB P ev hp t m k x=some r)(hn: ∀nm∈r.ar,h' nm=hp nm):eB P ev h' t m k x=some r:=by
 unfold eB at h ⊢;split at h<;>try(cases h;done)
 rename_i nm hmc;split at h<;>try(cases h;done)
 split at h<;>try(cases h;done)
 split at h<;>try(cases h;done)
 ·rename_i es bI;split at h<;>try(cases h;done)
  rename_i hko;have hnd:nm∈r.ar:=by
   unfold zT at h;split at h<;>first|(simp only[ae]at h;subst h;simp)|(cases h;done)
  simp only[hn nm hnd,bI,hko,if_true];exact h
 ·rename_i vk l bI;split at h<;>try(cases h;done)
  rename_i hko;have hnd:nm∈r.ar:=by
   unfold vK at h;split at h<;>try(cases h;done)
   split at h<;>first|(simp only[ae]at h;subst h;simp)|(cases h;done)
  simp only[hn nm hnd,bI,hko,if_true];exact h
 ·rename_i l bI;split at h<;>try(cases h;done)
  rename_i hko;have hnd:nm∈r.ar:=by
   unfold vW at h;split at h<;>first|(simp only[ae]at h;subst h;simp)|(cases h;done)
  simp only[hn nm hnd,bI,hko,if_true];exact h
 ·rename_i l bI;split at h<;>try(cases h;done)
  rename_i hko;have hnd:nm∈r.ar:=by
   unfold wa at h;split at h<;>first|(simp only[ae]at h;subst h;simp)|(cases h;done)
  simp only[hn nm hnd,bI,hko,if_true];exact h
theorem eV{s:Nat}{n:Option Nat}{x:Cell}{from_:Option Nat}{m:Nat}{b:Option Body}(h:fB hp s n x=some (from_,m,b))(hn: ∀nm∈dY from_,h' nm=hp nm):
  fB h' s n x=some (from_,m,b):=by
 unfold fB at h ⊢;split at h
 ·exact h
 ·split at h<;>try(cases h;done)
  ·exact h
  ·rename_i nm off len hs;split at h<;>try(cases h;done)
   rename_i b2 hcut;have e:=h;simp only[ae,af]at e;obtain⟨e1,e2,e3⟩:=e;subst e1;have:iJ h' nm off (eQ n len*s)=iJ hp nm off (eQ n len*s):=by unfold iJ;rw[hn nm (by simp[dY])]
   simp only[this,hcut];exact h
theorem Nj{nm off n:Nat}(h:h' nm=hp nm):oK h' nm off n=oK hp nm off n:=by unfold oK;rw[gM h]
theorem Nl{ts:Array TypeId}{x:RV}(h:qI P hp ts x=some r)(hn: ∀nm∈r.ar,h' nm=hp nm):qI P h' ts x=some r:=by
 unfold qI at h ⊢;split at h<;>try(cases h;done)
 split at h<;>try(cases h;done)
 ·exact h
 ·exact h
 ·unfold HF at h ⊢;split at h<;>try(cases h;done)
  ·exact h
  ·rename_i nm;split at h<;>try(cases h;done)
   all_goals
   rename_i es bI;have e:=h;simp only[iI,ae]at e;subst e;simp only[hn nm (by simp),bI]
   exact h
 ·exact h
theorem Iv{ts:Array TypeId}{d s:RV}(h:jX P hp ts d s=some r)(hn: ∀nm∈r.ar,h' nm=hp nm):jX P h' ts d s=some r:=by
 unfold jX at h ⊢;split at h<;>try(cases h;done)
 rename_i dt dc sc ht;split at h<;>try(cases h;done)
 rename_i e hu;split at h<;>try(cases h;done)
 rename_i ti hti;split at h<;>try(cases h;done)
 ·split at h<;>try(cases h;done)
  rename_i f m b hsrc;simp only[ae]at h;subst h;simp only[eV hsrc hn]
 ·rename_i nm off len hp0;unfold uB at h ⊢;split at h<;>try(cases h;done)
  rename_i f m b hsrc;split at h
  ·simp only[ae]at h;subst h;simp only[eV hsrc hn]
  ·rename_i m;split at h<;>try(cases h;done)
   rename_i xb;split at h<;>try(cases h;done)
   rename_i t o bd bU;split at h<;>try(cases h;done)
   rename_i bd' hput;simp only[ae]at h;subst h;have:=eV (h':=h') hsrc (fun nm' hm=>hn nm' (List.mem_cons_of_mem _ hm))
   simp only[this,gM (hn nm (by simp)),bU,hput]
theorem Dd{ts:Array TypeId}{m k:RV}(h:kN P hp ts m k=some r)(hn: ∀nm∈r.ar,h' nm=hp nm):kN P h' ts m k=some r:=by
 unfold kN at h ⊢;split at h<;>try(cases h;done)
 rename_i t nm kc ht;split at h<;>try(cases h;done)
 rename_i es bI;split at h<;>try(cases h;done)
 rename_i hko;have hnd:nm∈r.ar:=by
  unfold HB at h;split at h<;>first|(simp only[ae]at h;subst h;simp)|(cases h;done)
 simp only[hn nm hnd,bI,hko,if_true];exact h
theorem Hf{ts:Array TypeId}{m:RV}(h:mq P hp ts m=some r)(hn: ∀nm∈r.ar,h' nm=hp nm):mq P h' ts m=some r:=by
 unfold mq at h ⊢;split at h<;>try(cases h;done)
 rotate_left
 ·rename_i t x _ ht;split at h<;>try(cases h;done)
  rename_i e hu;unfold Bo at h ⊢;split at h<;>try(cases h;done)
  rename_i ti z hti hz;split at h<;>try(cases h;done)
  rename_i hsz;simp only[hsz,if_true];split at h<;>try(cases h;done)
  ·rename_i hp0;exact h
  ·rename_i nm off len hp0;split at h
   ·exact h
   ·split at h<;>try(cases h;done)
    rename_i t' o bd bU;have hnd:nm∈r.ar:=by
     split at h<;>try(cases h;done)
     simp only[ae]at h;subst h;simp
    simp only[gM (hn nm hnd),bU];exact h
 rename_i t nm ht;split at h<;>try(cases h;done)
 rename_i kt e hu;split at h<;>try(cases h;done)
 rename_i es bI;have hnd:nm∈r.ar:=by simp only[ae]at h;subst h;simp
 simp only[hn nm hnd,bI];exact h
theorem C9{ts:Array TypeId}{d s:RV}(h:im P hp nx ts d s=some r)(hn: ∀nm∈r.ar,h' nm=hp nm):im P h' nx ts d s=some r:=by
 unfold im at h ⊢;split at h<;>try(cases h;done)
 rename_i dt dc sc ht;split at h<;>try(cases h;done)
 rename_i e hu;split at h<;>try(cases h;done)
 rename_i ti hti;split at h<;>try(cases h;done)
 rename_i z hz;split at h<;>try(cases h;done)
 rename_i hcond;simp only[hcond,and_self,if_true];unfold Ao at h ⊢;split at h<;>try(cases h;done)
 rename_i f n x hsrc;split at h
 ·have hnd: ∀nm∈dY f,nm∈r.ar:=by
   intro nm hm;unfold uf at h;split at h
   ·simp only[ae]at h;subst h;exact hm
   ·split at h<;>try(cases h;done)
    split at h<;>try(cases h;done)
    simp only[ae]at h;subst h;exact hm
  simp only[eV hsrc fun nm hm=>hn nm (hnd nm hm)]
  exact h
 ·rename_i nm off len cap;unfold oa at h;split at h
  ·split at h<;>try(cases h;done)
   rename_i hle;simp only[ae]at h;subst h;simp only[eV hsrc hn,oa,hle,if_true]
  ·rename_i m;split at h
   rotate_left
   ·rename_i hc0;split at h<;>try(cases h;done)
    rename_i hle;have hnd:r.ar=nm::dY f:=by
     unfold DJ at h;split at h<;>try(cases h;done)
     split at h<;>try(cases h;done)
     simp only[ae]at h;subst h;rfl
    simp only[eV hsrc fun nm' hm=>hn nm' (by rw[hnd];exact List.mem_cons_of_mem _ hm),oa]
    rw[if_neg hc0,if_pos hle];unfold DJ at h ⊢;rw[gM (hn nm (by rw[hnd];simp))]
    exact h
   rename_i hc;have hnd:r.ar=nm::dY f:=by
    unfold zh at h;split at h<;>try(cases h;done)
    split at h<;>try(cases h;done)
    simp only[ae]at h;subst h;rfl
   simp only[eV hsrc fun nm' hm=>hn nm' (by rw[hnd];exact List.mem_cons_of_mem _ hm),oa]
   rw[Nj (hn nm (by rw[hnd];simp)),if_pos hc]
   exact h
 ·rename_i nm sz a len;unfold oE at h;split at h
  ·simp only[ae]at h;subst h;simp only[eV hsrc hn,oE]
  ·rename_i m;split at h<;>try(cases h;done)
   rename_i hc;split at h<;>try(cases h;done)
   rename_i t sz' bd bU;split at h<;>try(cases h;done)
   rename_i hc2;have hnd:r.ar=nm::dY f:=by
    unfold DB at h;split at h<;>try(cases h;done)
    split at h<;>try(cases h;done)
    simp only[ae]at h;subst h;rfl
   simp only[eV hsrc fun nm' hm=>hn nm' (by rw[hnd];exact List.mem_cons_of_mem _ hm),oE]
   rw[gM (hn nm (by rw[hnd];simp)),bU,if_pos hc]
   simp only[hc2,and_self,if_true];obtain⟨rfl,rfl⟩:=hc2;exact h
 ·cases h
theorem Li{c:Call}(h:kj P ev hp nx c=some r)(hn: ∀nm∈r.ar,h' nm=hp nm):kj P ev h' nx c=some r:=by
 unfold kj at h ⊢;split at h<;>try(cases h;done)
 split at h<;>try(cases h;done)
 rename_i l hl;unfold ir at h ⊢;split at h
 ·exact Nl h hn
 ·exact Iv h hn
 ·exact C9 h hn
 ·exact h
 ·exact h
 ·exact Dd h hn
 ·exact Hf h hn
 ·exact h
 ·cases h
theorem HV{a b:TypeId}{x:Operand}(h:jT P ev hp nx a b x=some r)(hn: ∀nm∈r.ar,h' nm=hp nm):jT P ev h' nx a b x=some r:=by
 unfold jT at h ⊢;cases hc:py P ev a b x with
 |some r'=>rw[hc]at h;exact h
 |none=>
  rw[hc]at h;simp only at h ⊢;unfold l5 at h ⊢;split at h
  ·exact h
  ·rename_i c _ hv;split at h<;>try(cases h;done)
   rotate_left
   ·rename_i e0 e h1 h2;split at h<;>try(cases h;done)
    rename_i nm off len cap h3 _;split at h<;>try(cases h;done)
    rename_i t o b bI hsd;have hnd:nm∈r.ar:=by simp only[ae]at h;subst h;simp
    simp only[h3,hn nm hnd,bI,hsd];exact h
   rename_i e h1 h2;split at h<;>try(cases h;done)
   rename_i h3;split at h<;>try(cases h;done)
   rename_i s nd hb;have hnd:r.ar=nd:=by simp only[ae]at h;subst h;rfl
   have:lF h' c=some (s,nd):=by
    unfold lF at hb ⊢;split at hb
    ·exact hb
    ·split at hb
     ·rename_i nm m l n hs;simp only[ae,af]at hb;rw[eV hs (fun nm' hm=>hn nm' (by rw[hnd, <-hb.2];exact hm))]
      simp only[hb.1,hb.2]
     ·rename_i nm m cs hs;split at hb<;>try(cases hb;done)
      rename_i l hl;simp only[ae,af]at hb;rw[eV hs (fun nm' hm=>hn nm' (by rw[hnd, <-hb.2];exact hm))]
      simp only[hl,hb.1,hb.2]
     ·cases hb
   simp only[h3,this];exact h
  ·cases h
theorem LU{x:Operand}{b:Bool}(h:lM ev hp x b=some r)(hn: ∀nm∈r.ar,h' nm=hp nm):lM ev h' x b=some r:=by
 unfold lM at h ⊢;split at h<;>try(cases h;done)
 rename_i nm hv;split at h<;>try(cases h;done)
 rename_i s pos bI;have hnd:nm∈r.ar:=by
  split at h<;>(simp only[ae]at h;subst h;simp)
 simp only[hn nm hnd,bI];exact h
theorem LZ{o:Op}(h:iV P ev hp nx o=some r)(hn: ∀nm∈r.ar,h' nm=hp nm):iV P ev h' nx o=some r:=by
 cases o with
 |load t a=>exact IP h hn
 |store t a x=>exact IN h hn
 |lookup t m k ok=>exact Er h hn
 |mapUpdate t m k x=>exact ql h hn
 |insert t m k x=>exact ql h hn
 |call c=>exact Li h hn
 |convert a b x=>exact HV h hn
 |next x b=>exact LU h hn
 |_=>exact h
end Go.Sx
namespace Go.Sx
variable{P:Program}
abbrev FR(ro:Option Nat):Fence:= {fn:=fun _=>True,depth:=none,alive:=false,round:=ro}
theorem GA{ro:Option Nat}{n:Nat}{f:FuncId}{args:Array Value}{w:World}{R:Ending->World->Prop}(h:Calls P f args w R):CallsIn (FR ro) n P f args w R:=(callsIn_wide (n:=n)).2 h
theorem Vp{ro:Option Nat}{n m l:Nat}{f:FuncId}{tmps:Array Value}{aa bd:Code}{w:World}{R:Ending->World->Prop}(h:RoundIn Fence.wide n P l f tmps aa bd w R):RoundIn (FR ro) m P l f tmps aa bd w R:=
 ⟨trivial,fun c cs _=>h.2 c cs (room_wide _)⟩
theorem xE{ro:Option Nat}{p:Prop}:(FR ro).depth.isSome=true->p:=fun h=>by cases h
theorem Cx{c:Code}{Q:Exit->Act->World->Prop}: ∀ {m:Nat} {a:Act} {w:World},Code.roundsIn (FR none) 0 P c Q m a w->Code.rounds P c Q m a w
 | 0,_,_,h=>h
 |m+1,a,w,h=>by
  have h':=wpIn_wide.1 h;rw[rounds_succ];refine wp_mono h' fun e a w hq=> ?_
  cases e with
  |normal=>exact Cx hq
  |_=>exact hq
end Go.Sx
