import Derived.Test.YtfceckiklfkjkaaGreatS05
import Derived.MapKept
import Derived.IntWalk
import Derived.Laws.Append
noncomputable section
open Go.IntKind(i64 u8 u64 u32 u16)
namespace Go.Sx
variable{P:Program}{ρ:aM}{w:World}{hp:Hp}{nx:Nat}
theorem kz{Z:Type}(l:List Z): ∀n,(cx l n).length=n*l.length
 | 0=>by simp[cx]
 |n+1=>by simp[cx,kz l n,Nat.add_mul];omega
theorem bt.cx {l:List Cell}{vs:List Value}(h:bt ρ l vs): ∀n,bt ρ (cx l n) (Sx.cx vs n)
 | 0=>rfl
 |n+1=>h.append (h.cx n)
theorem rP{Z β:Type}(f:Z->β)(l:List Z): ∀n,(cx l n).map f=cx (l.map f) n
 | 0=>rfl
 |n+1=>by simp[cx,rP f l n]
theorem r7(zs:List Value)(s:Nat)(hs:zs.length=s): ∀n,(List.range (n*s)).map (fun i=>zs.toArray[i % zs.toArray.size]!)=cx zs n
 | 0=>by simp[cx]
 |n+1=>by
  have ih:=r7 zs s hs n;rw[show(n+1)*s=s+n*s by rw[Nat.add_mul];omega,List.range_add,List.map_append,List.map_map]
  simp only[cx];congr 1
  ·apply List.ext_getElem?;intro i;by_cases h:i<s
   ·have:i % zs.length=i:=Nat.mod_eq_of_lt (by omega)
    simp[h,this,List.getElem!_eq_getElem?_getD,List.getElem?_eq_getElem (show i<zs.length by omega)]
   ·simp[h];omega
  ·rw[<-ih];apply List.map_congr_left;intro i _;simp[hs,Nat.add_comm s i]
theorem vh{e:TypeId}{z:AV}{zv:Value}(hz:bY ρ z zv)(n:Nat):da ρ (rowsOf P e z n) (cx zv.cells.toList n):=by
 obtain⟨h1,h2,_⟩:=hz.cells;unfold rowsOf;split
 ·unfold GP;split
  ·rename_i l hl;rw[hl]at h1;exact bt.cx h1 n
  ·rename_i k l m hl;rw[hl]at h1;obtain⟨e1,e2⟩:=h1;rw[e2, <-rP];exact⟨by rw[kz,e1,Nat.mul_comm],rfl⟩
  ·rename_i l m hl;rw[hl]at h1;obtain⟨e1,e2⟩:=h1;rw[e2, <-rP];exact⟨by rw[kz,e1,Nat.mul_comm],rfl⟩
 ·split
  ·simp only[bY,CR]at hz;subst hz;refine⟨by rw[kz];simp,?_⟩
   rw[rP];rfl
  ·exact h2.cx n
theorem Gr{zv:Value}{s:Nat}(hs:zv.cells.size=s)(n:Nat):
  ((Array.range (n*s)).map (fun i=>(if n*s=0 then #[]else zv.cells)[i %(if n*s=0 then #[]else zv.cells:Array Value).size]!)).toList=cx zv.cells.toList n:=by
 by_cases h:n*s=0
 ·rw[h];have:(cx zv.cells.toList n).length=0:=by rw[kz];simp[hs,h]
  simp[List.length_eq_zero_iff.1 this]
 ·simp only[h,if_false];have:=r7 zv.cells.toList s (by simpa using hs) n
  rw[<-this];simp
section ops
variable{ev:Ev}{va:Operand->Value}{r:br}(hr:bu ρ hp w)(hf:bW ρ nx)
include hr hf
theorem zr{t:TypeId}{len:Nat}{ps:Array (Nat×Operand)}(h:oI P ev nx t len ps=some r)(hx: ∀x∈ps.toList,dx ρ ev va x.2):
  bw P ρ hp nx w (Instr.buildSlice t len (ps.map fun(i,x)=>(i,va x))) r:=by
 unfold oI at h;split at h<;>try(cases h;done)
 rename_i e hu;split at h<;>try(cases h;done)
 rename_i z hz;split at h<;>try(cases h;done)
 rename_i ti hti;split at h<;>try(cases h;done)
 rename_i l hl;split at h<;>try(cases h;done)
 rename_i b hb;split at h<;>try(cases h;done)
 rename_i hc;obtain⟨hc1,hc2⟩:=hc;simp only[ae]at h;subst h;obtain⟨zv,z1,z2⟩:=gG (w:=w) (ρ:=ρ) hz;obtain⟨_,_,c3⟩:=z2.cells;have hb0:da ρ (rowsOf P e z len) ((Array.range (len*ti.size)).map (fun i=>(if len*ti.size=0 then #[]else zv.cells)[i %(if len*ti.size=0 then #[]else zv.cells:Array Value).size]!)).toList:=by
  rw[Gr (by omega)];exact vh z2 len
 obtain⟨cs',q1,q2,q3⟩:=yH hl hx (fun i=>some (i*ti.size,ti.size)) (fun i=>some (i*ti.size,ti.size)) _ b _ (fun _ _ h=>h) hb0 hb
 have hargs:(ps.map fun(i,x)=>(i,va x)).toList=ps.toList.map fun x=>(x.1,va x.2):=by simp
 obtain⟨w',n1,n2⟩:=pQ (P:=P) hr hf (c:=0) (t:=e) (cells:=cs') (v:= .one (.c (.sl nx 0 len len))) (V:= .slice (some ⟨w.heap.size,0,none⟩) len len) q2 ⟨w.heap.size,0,by simp[ext],rfl⟩
 refine⟨_,w',_,?_,n2⟩;simp only[Instr.buildSlice,Sem.run_bind,run_underlying hu,Result.andThen_ok,cZ hti];rw[if_neg (by omega)]
 by_cases h0:len*ti.size=0
 ·simp only[h0,if_true]at q1 ⊢;simp only[Sem.run_bind,Sem.run_pure,Result.andThen_ok,hargs,q1,n1]
 ·simp only[h0,if_false]at q1 ⊢;simp only[Sem.run_bind,Sem.run_pure,Result.andThen_ok,z1,hargs,q1,n1]
omit hr hf in
theorem VT(n:Nat)(h:n<1000000000):i64.wrap (n:Int)=(n:Int):=IntWalk.i64_in _ (by omega)
theorem BC{t:TypeId}{l c:Operand}(h:kr P ev nx t l c=some r)(hl:dx ρ ev va l)(hc:dx ρ ev va c):bw P ρ hp nx w (Instr.makeSlice t (va l) (va c)) r:=by
 unfold kr at h;split at h<;>try(cases h;done)
 rename_i e hu;split at h<;>try(cases h;done)
 rename_i k1 n0 hn;split at h<;>try(cases h;done)
 rename_i k2 n hm;split at h<;>try(cases h;done)
 rename_i z hz;split at h<;>try(cases h;done)
 rename_i ti hti;split at h<;>try(cases h;done)
 rename_i hc';obtain⟨hle,hb,hn1,hsz⟩:=hc';simp only[ae]at h;subst h;have e1:=hl _ hn;have e2:=hc _ hm;simp only[bE,bY,CR]at e1 e2;obtain⟨zv,z1,z2⟩:=gG (w:=w) (ρ:=ρ) hz;obtain⟨_,_,c3⟩:=z2.cells;have hb0:da ρ (rowsOf P e z n) ((Array.range (n*ti.size)).map (fun i=>(if n*ti.size=0 then #[]else zv.cells)[i %(if n*ti.size=0 then #[]else zv.cells:Array Value).size]!)).toList:=by
  rw[Gr (by omega)];exact vh z2 n
 obtain⟨w',n1,n2⟩:=pQ (P:=P) hr hf (c:=0) (t:=e) (cells:=(Array.range (n*ti.size)).map (fun i=>(if n*ti.size=0 then #[]else zv.cells)[i %(if n*ti.size=0 then #[]else zv.cells:Array Value).size]!)) (v:= .one (.c (.sl nx 0 n0 n))) (V:= .slice (some ⟨w.heap.size,0,none⟩) n0 n) hb0 ⟨w.heap.size,0,by simp[ext],rfl⟩
 refine⟨_,w',_,?_,n2⟩;have hw:i64.wrap (Int.ofNat n)=(n:Int):=VT n hn1;have hw0:i64.wrap (Int.ofNat n0)=(n0:Int):=VT n0 (by omega)
 simp only[Instr.makeSlice,Sem.run_bind,run_underlying hu,Result.andThen_ok,e1,e2,asInt,asIntOf,Sem.run_pure,m7 hti,hw,hw0];have h1: ¬((n:Int)<0):=by omega
 have h3: ¬((n0:Int)<0):=by omega
 have h4: ¬((n:Int)<(n0:Int)):=by omega
 have h2: ¬((ti.bytes:Int)*(n:Int)>2 ^ 48):=by
  have:((ti.bytes*n:Nat):Int)<=(1000000000:Nat):=Int.ofNat_le.2 hb;rw[Int.natCast_mul]at this;omega
 simp only[h1,h2,h3,h4,decide_false,Bool.or_self,gt_iff_lt,Bool.false_eq_true,if_false,run_askRoom,Sem.run_bind,Result.andThen_ok,cZ hti,Int.toNat_natCast];by_cases h0:n*ti.size=0
 ·simp only[h0,if_true]at n1;rw[if_pos h0];simp only[Sem.run_bind,Sem.run_pure,Result.andThen_ok,h0,n1]
 ·simp only[h0,if_false]at n1;rw[if_neg h0];simp only[Sem.run_bind,Sem.run_pure,Result.andThen_ok,z1,n1]
omit hr hf in
theorem dX{b:Nat}{es:Array MapEntry}{cl:Nat}(h:w.heap[b]? =some (.map es cl)):(getObj b).run P w= .ok (.map es cl) w:=by
 simp[getObj,Sem.run,h]
omit hr hf in
theorem fK{b:Nat}{o o':Obj}(h:w.heap[b]? =some o)(ho: ∀c t f,o≠ .cells c t f): ∃w',(setObj b o').run P w= .ok () w'/\Jq w b o' w':=by
 refine⟨{w with heap:=w.heap.setIfInBounds b o'},?_,by simp,?_,?_,rfl,rfl,rfl⟩
 ·cases o<;>simp_all[setObj,Sem.run]
 ·have:=bS h;simp[this]
 ·intro i hi;simp[Ne.symm hi]
omit hr hf in
theorem rU{d:TypeDesc}{k c:Cell}{K C:Value}{b:Bool}(hd:eI (some d) k=true)(h:jE k c=some b)(hk:CR ρ k K)(hc:CR ρ c C):Instr.sameNow d K C=some b:=by
 unfold jE at h;split at h<;>try(cases h;done)
 ·split at h<;>try(cases h;done)
  rename_i hkk;subst hkk;simp only[ae]at h;simp only[CR]at hk hc;subst hk hc h;cases d<;>simp[eI]at hd
  simp[Instr.sameNow]
 ·simp only[ae]at h;simp only[CR]at hk hc;subst hk hc h;cases d<;>simp[eI]at hd
  simp[Instr.sameNow]
 ·simp only[ae]at h;simp only[CR]at hk hc;subst hk hc h;cases d<;>simp[eI]at hd
  simp[Instr.sameNow]
omit hr hf in
theorem eF{d:TypeDesc}{k:Cell}{K:Value}(hd:eI (some d) k=true)(hk:CR ρ k K): ∀ {es:List (Cell×AV)} {aD:List MapEntry} {i:Nat} {r:Option (Nat×AV)},findKey k es i=some r->ct ρ es aD->
  match r with
  |none=>Instr.findNow d K aD i=some none
  |some (j,v)=> ∃V e,Instr.findNow d K aD i=some (some (j,V))/\bY ρ v V/\i<=j/\aD[j - i]? =some e/\∃c,es[j - i]? =some (c,v)/\jE k c=some true/\CR ρ c e.key
 | [],_,i,r,h,he=>by
  simp only[ct]at he;subst he;simp[Sx.findKey]at h;subst h
  rfl
 |(c,v)::es,_,i,r,h,⟨e,es',h1,h2,h3,h4⟩=>by
  subst h4;simp only[Sx.findKey]at h;split at h<;>try(cases h;done)
  ·rename_i heq;simp only[ae]at h;subst h;have:=rU hd heq hk h1;exact⟨e.val,e,by simp[Instr.findNow,this],h2,Nat.le_refl _,by simp,c,by simp,heq,h1⟩
  ·rename_i heq;have:=rU hd heq hk h1;have ih:=eF hd hk h h3;cases r with
   |none=>simpa[Instr.findNow,this]using ih
   |some x=>
    obtain⟨j,v'⟩:=x;obtain⟨V,e',q1,q2,q3,q4,c',q5,q6⟩:=ih;refine⟨V,e',by simp[Instr.findNow,this,q1],q2,by omega,?_,c',?_,q6⟩
    ·rw[show j - i=(j - (i+1))+1 by omega];simpa using q4
    ·rw[show j - i=(j - (i+1))+1 by omega];simpa using q5
omit hr hf in
theorem run_checkKey{kt:TypeId}{d:TypeDesc}{k:Cell}{K:Value}(hu:P.underlying kt=some d)(hd:eI (some d) k=true)(hk:CR ρ k K)(e:Bool):(Instr.checkKey e 10000 kt K).run P w= .ok () w:=by
 suffices h: ∀n,(Instr.checkKey e (n+1) kt K).run P w= .ok () w from h 9999
 intro n;cases k<;>simp[eI]at hd<;>cases d<;>simp at hd<;>simp only[CR]at hk<;>subst hk<;>simp[Instr.checkKey,run_underlying hu]
omit hr hf in
theorem run_findKey{kt:TypeId}{d:TypeDesc}{K:Value}{aD:List MapEntry}{x:Option (Nat×Value)}(hu:P.underlying kt=some d)(h:Instr.findNow d K aD 0=some x):(Instr.findKey kt K aD).run P w= .ok x w:=by
 simp[Instr.findKey,run_underlying hu,h]
omit hr hf in
theorem ix{d:Option TypeDesc}{k:Cell}(h:eI d k=true): ∃d',d=some d':=by
 cases d with
 |none=>simp[eI]at h
 |some d=>exact⟨d,rfl⟩
omit hr hf in
theorem nV{d:TypeDesc}{k:Cell}{K:Value}(hd:eI (some d) k=true)(hk:CR ρ k K): ∀ {es:List (Cell×AV)} {aD:List MapEntry} {r:Option AV},findAll k es=some r->ct ρ es aD->
  (∀e∈aD,∃b,Instr.sameNow d K e.key=some b)/\match r with
  |none=> ∀e∈aD,Instr.sameNow d K e.key=some false
  |some v=> ∃e∈aD,Instr.sameNow d K e.key=some true/\bY ρ v e.val
 | [],_,r,h,he=>by
  simp only[ct]at he;subst he;simp only[findAll,ae]at h;subst h;exact⟨(fun e h=>by cases h),(fun e h=>by cases h)⟩
 |(c,v)::es,_,r,h,⟨e,es',h1,h2,h3,h4⟩=>by
  subst h4;simp only[findAll]at h;split at h<;>try(cases h;done)
  ·rename_i x heq hx;simp only[ae]at h;subst h;obtain⟨g1,_⟩:=nV hd hk hx h3;have:=rU hd heq hk h1;refine⟨fun e' hm=> ?_,e,List.mem_cons_self ..,this,h2⟩
   rcases List.mem_cons.1 hm with rfl|hm
   ·exact⟨_,this⟩
   ·exact g1 _ hm
  ·rename_i x heq hx;simp only[ae]at h;subst h;obtain⟨g1,g2⟩:=nV hd hk hx h3;have:=rU hd heq hk h1;refine⟨fun e' hm=> ?_,?_⟩
   ·rcases List.mem_cons.1 hm with rfl|hm
    ·exact⟨_,this⟩
    ·exact g1 _ hm
   ·cases x with
    |none=>
     intro e' hm;rcases List.mem_cons.1 hm with rfl|hm
     ·exact this
     ·exact g2 _ hm
    |some v'=>
     obtain⟨e',q1,q2⟩:=g2;exact⟨e',List.mem_cons_of_mem _ q1,q2⟩
omit hr hf in
theorem wW{d:TypeDesc}{K:Value}: ∀ {aD:List MapEntry} {i:Nat},(∀e∈aD,Instr.sameNow d K e.key=some false)->Instr.findNow d K aD i=some none
 | [],_,_=>rfl
 |e::es,i,h=>by
  simp only[Instr.findNow,h e (List.mem_cons_self ..)];exact wW fun e' hm=>h e' (List.mem_cons_of_mem _ hm)
omit hr hf in
theorem w6{d:TypeDesc}{K:Value}{V:Value}: ∀ {aD:List MapEntry} {i:Nat},(∀e∈aD,∃b,Instr.sameNow d K e.key=some b)->(∀e∈aD,Instr.sameNow d K e.key=some true->e.val=V)->(∃e∈aD,Instr.sameNow d K e.key=some true)->
  ∃j,Instr.findNow d K aD i=some (some (j,V))
 | [],_,_,_,⟨e,h,_⟩=>by cases h
 |e::es,i,h1,h2,h3=>by
  obtain⟨b,hb⟩:=h1 e (List.mem_cons_self ..);cases b with
  |true=>exact⟨i,by simp only[Instr.findNow,hb,h2 e (List.mem_cons_self ..) hb]⟩
  |false=>
   simp only[Instr.findNow,hb];refine w6 (fun e' hm=>h1 e' (List.mem_cons_of_mem _ hm)) (fun e' hm=>h2 e' (List.mem_cons_of_mem _ hm)) ?_
   obtain⟨e',hm,he⟩:=h3;rcases List.mem_cons.1 hm with rfl|hm
   ·rw[hb]at he;cases he
   ·exact⟨e',hm,he⟩
omit hr hf in
theorem zA: ∀ {l:List MapEntry},l.Pairwise (fun x y=>x.key≠y.key)->∀ {x y:MapEntry},x∈l->y∈l->x≠y->x.key≠y.key
 | [],_,_,_,h,_,_=>by cases h
 |e::l,hp,x,y,hx,hy,bT=>by
  obtain⟨h1,h2⟩:=List.pairwise_cons.1 hp;have ex:=List.mem_cons.1 hx;have ey:=List.mem_cons.1 hy;rcases ex with ex|ex<;>rcases ey with ey|ey
  ·exact absurd (ex.trans ey.symm) bT
  ·rw[ex];exact h1 y ey
  ·rw[ey];exact Ne.symm (h1 x ex)
  ·exact zA h2 ex ey bT
omit hr hf in
theorem Lo{d:TypeDesc}{K A B:Value}(h1:Instr.sameNow d K A=some true)(h2:Instr.sameNow d K B=some true):A=B:=by
 have key: ∀X,Instr.sameNow d K X=some true->X=K:=fun X h=>by
  unfold Instr.sameNow at h;split at h<;>try(cases h;done)
  ·split at h<;>try(cases h;done)
   rename_i hk;simp only[ae,beq_iff_eq]at h;rw[h,hk]
  ·simp only[ae]at h;rw[(MapKept.bytes_beq _ _).1 h]
  ·simp only[ae]at h;rw[eq_of_beq h]
 rw[key _ h1,key _ h2]
omit hr hf in
theorem vr(k:Int): ∀(l:List (Int×List Int)) (i:Nat),findKey (.int .i64 k) (iy l) i=if se l k then some (some (i+l.findIdx (fun p=>p.1==k),.c (.dI (gY l k))))else some none
 | [],i=>rfl
 |(a,b)::r,i=>by
  show findKey (.int .i64 k) ((.int .i64 a,.c (.dI b))::iy r) i=_;simp only[findKey,jE,if_true,se,gY,List.findIdx_cons];by_cases h:a=k
  ·subst h;simp
  ·have:(a==k)=false:=by simp[h]
   have h2:(k==a)=false:=by simp[Ne.symm h]
   simp only[this,h2,if_neg h,cond_false];rw[vr k r (i+1)];have e:i+1+r.findIdx (fun p=>p.1==k)=i+(r.findIdx (fun p=>p.1==k)+1):=by omega
   rw[e]
omit hr hf in
theorem O3{l:List (Int×List Int)}{k:Int}(h:se l k=false):gY l k= []:=by
 induction l with
 |nil=>rfl
 |cons p r ih=>
  obtain⟨a,b⟩:=p;simp only[se,gY]at h ⊢;by_cases e:a=k
  ·rw[if_pos e]at h;cases h
  ·rw[if_neg e]at h ⊢;exact ih h
omit hr hf in
theorem Cn(l:List ByteArray)(s:ByteArray): ∀(i:Nat),match findKey (.str s) (gO l) i with
  |some (some (j,v))=>(nC l s=true/\v= .c (.bool true))/\i<=j/\(gO l).set (j - i) (.str s,.c (.bool true))=gO l
  |some none=>nC l s=false
  |none=>False:=by
 induction l with
 |nil=>intro i;rfl
 |cons c r ih=>
  intro i;show match findKey (.str s) ((.str c,.c (.bool true))::gO r) i with
   |some (some (j,v))=>(nC (c::r) s=true/\v= .c (.bool true))/\i<=j/\((.str c,.c (.bool true))::gO r).set (j - i) (.str s,.c (.bool true))=(.str c,.c (.bool true))::gO r
   |some none=>nC (c::r) s=false
   |none=>False
  have hc:nC (c::r) s=((s==c)||nC r s):=rfl
  simp only[findKey,jE];cases h:(s==c)with
  |true=>
   have e:s=c:=(MapKept.bytes_beq s c).1 h;simp only[hc,h,Bool.true_or,and_self,Nat.le_refl,Nat.sub_self,List.set_cons_zero,true_and];rw[e]
  |false=>
   have:=ih (i+1);simp only[hc,h,Bool.false_or];split at this
   ·rename_i j v e
    try rw[e]
    obtain⟨h1,h2,h3⟩:=this;refine⟨h1,by omega,?_⟩
    obtain⟨d,hd⟩: ∃d,j - i=d+1:=⟨j - i - 1,by omega⟩
    rw[hd,List.set_cons_succ,show d=j - (i+1)by omega,h3]
   ·rename_i e;try rw[e]
    exact this
   ·exact this.elim
theorem IF{t:TypeId}{m k:Operand}{ok:Bool}(h:gT P ev hp t m k ok=some r)(hm:dx ρ ev va m)(hk:dx ρ ev va k):bw P ρ hp nx w (Instr.lookup t (va m) (va k) ok) r:=by
 unfold gT at h;split at h<;>try(cases h;done)
 rename_i kt e hu;split at h<;>try(cases h;done)
 rename_i mc hmc;split at h<;>try(cases h;done)
 rename_i kc hkc;split at h<;>try(cases h;done)
 rename_i z hz;split at h
 ·rename_i nm v tb hvs;split at h<;>try(cases h;done)
  rename_i hko;obtain⟨hko,hzv⟩:=hko;simp only[ae]at h;subst h;have em:CR ρ mc (va m):=hm _ hmc;have ek:CR ρ kc (va k):=hk _ hkc;obtain⟨d,hd⟩:=ix hko;rw[hd]at hko;obtain⟨zv,z1,z2⟩:=gG (w:=w) (ρ:=ρ) hz;have key: ∃(aD:Array MapEntry) (es:List (Cell×AV)),(Instr.lookup t (va m) (va k) ok).run P w=(do
   Instr.checkKey aD.isEmpty 10000 kt (va k)
   let (v,ok') <-match <-Instr.findKey kt (va k) aD.toList with
    |some (_,v)=>pure (v,true)
    |none=>pure (<-zeroValue e,false)
   pure (if ok then .tuple #[v,.bool ok']else v):Sem Value).run P w/\ct ρ es aD.toList/\((tb=true/\∃j,findKey kc es 0=some (some (j,.c v)))\/(tb=false/\findKey kc es 0=some none/\CR ρ v zv)):=by
   unfold nh at hvs;split at hvs<;>try(cases hvs;done)
   rename_i nm';split at hvs<;>try(cases hvs;done)
   ·rename_i l kn bI;simp only[ae,af]at hvs;obtain⟨rfl,rfl,rfl⟩:=hvs;obtain⟨b,c,e1,e2⟩:=em;obtain⟨b',c',o,g1,g2,g3⟩:=hr.ok _ _ bI;rw[e1]at g1;simp only[ae,af]at g1;obtain⟨rfl,rfl⟩:=g1;obtain⟨aD,cl,rfl,g4,g5⟩:=g3;refine⟨aD,_,?_,g4,?_⟩
    ·simp only[Instr.lookup,Sem.run_bind,run_underlying hu,Result.andThen_ok,e2,dX g2,Sem.run_pure];rfl
    rw[vr];cases hh:se l kn with
    |true=>exact .inl ⟨rfl,_,rfl⟩
    |false=>
     refine .inr ⟨rfl,rfl,?_⟩;cases z with
     |c zc=>cases zc<;>first|(cases hzv;done)|(rw[O3 hh];exact .inl ⟨rfl,z2⟩)
     |_=>cases hzv
   ·rename_i l s bI;simp only[ae,af]at hvs;obtain⟨rfl,rfl,rfl⟩:=hvs;obtain⟨b,c,e1,e2⟩:=em;obtain⟨b',c',o,g1,g2,g3⟩:=hr.ok _ _ bI;rw[e1]at g1;simp only[ae,af]at g1;obtain⟨rfl,rfl⟩:=g1;obtain⟨aD,cl,rfl,g4,g5⟩:=g3;refine⟨aD,_,?_,g4,?_⟩
    ·simp only[Instr.lookup,Sem.run_bind,run_underlying hu,Result.andThen_ok,e2,dX g2,Sem.run_pure];rfl
    have hT:=Cn l s 0;split at hT
    ·rename_i j v e;exact .inl ⟨hT.1.1,j,by rw[e,hT.1.1,hT.1.2]⟩
    ·rename_i e;refine .inr ⟨hT,e,?_⟩;rw[hT];cases z with
     |c zc=>
      cases zc<;>try(cases hzv;done)
      rename_i bz;have:bz=false:=by simpa[zVS]using hzv
      subst this;exact z2
     |_=>cases hzv
    ·exact hT.elim
  obtain⟨aD,es,hrun,he,hcase⟩:=key;rcases hcase with⟨rfl,j,hfk⟩|⟨rfl,hfk,hcr⟩
  ·obtain⟨V,e',q1,q2,_⟩:=eF hko ek hfk he;refine⟨if ok then .tuple #[V,.bool true]else V,w,ρ,?_,Out.quiet ?_ hr hf⟩
   ·rw[hrun];simp only[Sem.run_bind,run_checkKey hd hko ek,Result.andThen_ok,run_findKey hd q1,Sem.run_pure]
   ·cases ok
    ·exact q2
    ·exact⟨[V,.bool true],⟨V,_,q2,⟨_,_,rfl,rfl,rfl⟩,rfl⟩,rfl⟩
  ·have q1:=eF hko ek hfk he;refine⟨if ok then .tuple #[zv,.bool false]else zv,w,ρ,?_,Out.quiet ?_ hr hf⟩
   ·rw[hrun];simp only[Sem.run_bind,run_checkKey hd hko ek,Result.andThen_ok,run_findKey hd q1,Sem.run_pure,z1]
   ·cases ok
    ·exact hcr
    ·exact⟨[zv,.bool false],⟨zv,_,hcr,⟨_,_,rfl,rfl,rfl⟩,rfl⟩,rfl⟩
 split at h
 ·rename_i nm es hmp;split at h<;>try(cases h;done)
  rename_i hko;have em:CR ρ mc (va m):=hm _ hmc;have ek:CR ρ kc (va k):=hk _ hkc;obtain⟨d,hd⟩:=ix hko;rw[hd]at hko;obtain⟨zv,z1,z2⟩:=gG (w:=w) (ρ:=ρ) hz;unfold kq at hmp;split at hmp<;>try(cases hmp;done)
  split at hmp<;>try(cases hmp;done)
  rename_i bI;simp only[ae,af]at hmp;obtain⟨rfl,rfl⟩:=hmp;obtain⟨b,c,e1,e2⟩:=em;obtain⟨b',c',o,g1,g2,g3⟩:=hr.ok _ _ bI;rw[e1]at g1;simp only[ae,af]at g1;obtain⟨rfl,rfl⟩:=g1;obtain⟨aD,cl,es',rfl,g4,g5,g6⟩:=g3;obtain⟨_,_,hpw⟩:=(MapKept.stamped_iff aD cl).1 g6;have hrun:(Instr.lookup t (va m) (va k) ok).run P w=(do
   Instr.checkKey aD.isEmpty 10000 kt (va k)
   let (v,ok') <-match <-Instr.findKey kt (va k) aD.toList with
    |some (_,v)=>pure (v,true)
    |none=>pure (<-zeroValue e,false)
   pure (if ok then .tuple #[v,.bool ok']else v):Sem Value).run P w:=by
   simp only[Instr.lookup,Sem.run_bind,run_underlying hu,Result.andThen_ok,e2,dX g2,Sem.run_pure];rfl
  unfold Nt at h;split at h
  ·rename_i v hfa;simp only[ae]at h;subst h;obtain⟨q1,e',q2,q3,q4⟩:=nV hko ek hfa g4;obtain⟨j,q5⟩:=w6 (V:=e'.val) (i:=0) (fun x hx=>q1 x (g5.mem_iff.2 hx)) (fun x hx hs=>by
    have hk:=Lo hs q3;have hx':e'∈aD.toList:=g5.mem_iff.1 q2;by_cases he:x=e'
    ·rw[he]
    ·exact absurd hk (zA hpw hx hx' he)) ⟨e',g5.mem_iff.1 q2,q3⟩
   refine⟨if ok then .tuple #[e'.val,.bool true]else e'.val,w,ρ,?_,Out.quiet ?_ hr hf⟩
   ·rw[hrun];simp only[Sem.run_bind,run_checkKey hd hko ek,Result.andThen_ok,run_findKey hd q5,Sem.run_pure]
   ·cases ok
    ·exact q4
    ·exact⟨[e'.val,.bool true],⟨_,_,q4,⟨_,_,rfl,rfl,rfl⟩,rfl⟩,rfl⟩
  ·rename_i hfa;simp only[ae]at h;subst h;obtain⟨q1,q2⟩:=nV hko ek hfa g4;have q5:=wW (i:=0) fun x hx=>q2 x (g5.mem_iff.2 hx)
   refine⟨if ok then .tuple #[zv,.bool false]else zv,w,ρ,?_,Out.quiet ?_ hr hf⟩
   ·rw[hrun];simp only[Sem.run_bind,run_checkKey hd hko ek,Result.andThen_ok,run_findKey hd q5,Sem.run_pure,z1]
   ·cases ok
    ·exact z2
    ·exact⟨[zv,.bool false],⟨_,_,z2,⟨_,_,rfl,rfl,rfl⟩,rfl⟩,rfl⟩
  ·cases h
 split at h<;>try(cases h;done)
 rename_i es nd hes;split at h<;>try(cases h;done)
 rename_i hko;have em:CR ρ mc (va m):=hm _ hmc;have ek:CR ρ kc (va k):=hk _ hkc;obtain⟨d,hd⟩:=ix hko;rw[hd]at hko;obtain⟨zv,z1,z2⟩:=gG (w:=w) (ρ:=ρ) hz;have hent: ∃aD:Array MapEntry,ct ρ es aD.toList/\(Instr.lookup t (va m) (va k) ok).run P w=(do
   Instr.checkKey aD.isEmpty 10000 kt (va k)
   let (v,ok') <-match <-Instr.findKey kt (va k) aD.toList with
    |some (_,v)=>pure (v,true)
    |none=>pure (<-zeroValue e,false)
   pure (if ok then .tuple #[v,.bool ok']else v):Sem Value).run P w:=by
  unfold kC at hes;split at hes<;>try(cases hes;done)
  ·simp only[ae,af]at hes;obtain⟨rfl,rfl⟩:=hes;simp only[CR]at em;exact⟨#[],rfl,by simp only[Instr.lookup,Sem.run_bind,run_underlying hu,Result.andThen_ok,em,Sem.run_pure];rfl⟩
  ·split at hes<;>try(cases hes;done)
   all_goals
   rename_i bI;simp only[ae,af]at hes;obtain⟨rfl,rfl⟩:=hes;obtain⟨b,c,e1,e2⟩:=em;obtain⟨b',c',o,g1,g2,g3⟩:=hr.ok _ _ bI;rw[e1]at g1;simp only[ae,af]at g1;obtain⟨rfl,rfl⟩:=g1;obtain⟨aD,cl,rfl,g4,g5⟩:=g3;exact⟨aD,g4,by simp only[Instr.lookup,Sem.run_bind,run_underlying hu,Result.andThen_ok,e2,dX g2,Sem.run_pure];rfl⟩
 obtain⟨aD,he,hrun⟩:=hent;unfold kT at h;split at h
 ·rename_i j v hfk;simp only[ae]at h;subst h;obtain⟨V,e',q1,q2,_⟩:=eF hko ek hfk he;refine⟨if ok then .tuple #[V,.bool true]else V,w,ρ,?_,Out.quiet ?_ hr hf⟩
  ·rw[hrun];simp only[Sem.run_bind,run_checkKey hd hko ek,Result.andThen_ok,run_findKey hd q1,Sem.run_pure]
  ·cases ok
   ·exact q2
   ·exact⟨[V,.bool true],⟨V,_,q2,⟨_,_,rfl,rfl,rfl⟩,rfl⟩,rfl⟩
 ·rename_i hfk;simp only[ae]at h;subst h;have q1:=eF hko ek hfk he;refine⟨if ok then .tuple #[zv,.bool false]else zv,w,ρ,?_,Out.quiet ?_ hr hf⟩
  ·rw[hrun];simp only[Sem.run_bind,run_checkKey hd hko ek,Result.andThen_ok,run_findKey hd q1,Sem.run_pure,z1]
  ·cases ok
   ·exact z2
   ·exact⟨[zv,.bool false],⟨zv,_,z2,⟨_,_,rfl,rfl,rfl⟩,rfl⟩,rfl⟩
 ·cases h
omit hr hf in
theorem ct.set: ∀ {es:List (Cell×AV)} {aD:List MapEntry},ct ρ es aD->∀(i:Nat) (k:Cell) (v:AV) (f:MapEntry->MapEntry),(∀e,CR ρ k (f e).key/\bY ρ v (f e).val)->ct ρ (es.set i (k,v)) (aD.modify i f)
 | [],_,h,i,k,v,f,_=>by simp only[ct]at h;subst h;simp[ct]
 |(c,u)::es,_,⟨e,es',h1,h2,h3,h4⟩,i,k,v,f,hf=>by
  subst h4;cases i with
  |zero=>exact⟨f e,es',(hf e).1,(hf e).2,h3,by simp⟩
  |succ i=>exact⟨e,es'.modify i f,h1,h2,h3.set i k v f hf,by simp⟩
omit hr hf in
theorem ct.push: ∀ {es:List (Cell×AV)} {aD:List MapEntry},ct ρ es aD->∀(k:Cell) (v:AV) (e:MapEntry),CR ρ k e.key->bY ρ v e.val->ct ρ (es++ [(k,v)]) (aD++ [e])
 | [],_,h,k,v,e,h1,h2=>by simp only[ct]at h;subst h;exact⟨e,[],h1,h2,rfl,rfl⟩
 |(c,u)::es,_,⟨e',es',h1,h2,h3,h4⟩,k,v,e,g1,g2=>by
  subst h4;exact⟨e',es'++ [e],h1,h2,h3.push k v e g1 g2,rfl⟩
omit hr hf in
theorem ct.erase: ∀ {es:List (Cell×AV)} {aD:List MapEntry},ct ρ es aD->∀(i:Nat),ct ρ (es.eraseIdx i) (aD.eraseIdx i)
 | [],_,h,i=>by simp only[ct]at h;subst h;simp[ct]
 |(c,u)::es,_,⟨e,es',h1,h2,h3,h4⟩,i=>by
  subst h4;cases i with
  |zero=>exact h3
  |succ i=>exact⟨e,es'.eraseIdx i,h1,h2,h3.erase i,by simp⟩
omit hr hf in
theorem xz{d:TypeDesc}{k c:Cell}{K C:Value}(hd:eI (some d) k=true)(h:jE k c=some true)(hk:CR ρ k K)(hc:CR ρ c C):(Instr.keyThatStays C K).run P w= .ok K w:=by
 have: ∀n,Instr.sameBits n C K=true:=by
  intro n;unfold jE at h;split at h<;>try(cases h;done)
  ·split at h<;>try(cases h;done)
   rename_i hkk;subst hkk;simp only[ae,beq_iff_eq]at h;simp only[CR]at hk hc;subst hk hc h;cases n<;>simp[Instr.sameBits]
  ·simp only[ae]at h;simp only[CR]at hk hc;subst hk hc;rw[beq_toListBytes,beq_iff_eq]at h;cases n<;>simp[Instr.sameBits,beq_toListBytes,h]
  ·simp only[ae,beq_iff_eq]at h;simp only[CR]at hk hc;subst hk hc h;cases n<;>simp[Instr.sameBits]
 simp[Instr.keyThatStays,this]
omit hr hf in
theorem n9{k c:Cell}{K C:Value}{b:Bool}(h:jE k c=some b)(hk:CR ρ k K)(hc:CR ρ c C):(C=K)↔b=true:=by
 unfold jE at h;split at h<;>try(cases h;done)
 ·rename_i k1 x k2 y;split at h<;>try(cases h;done)
  rename_i hkk;subst hkk;simp only[ae]at h;simp only[CR]at hk hc;subst hk hc;rw[<-h,beq_iff_eq];exact⟨fun e=>by cases e;rfl,fun e=>by rw[e]⟩
 ·rename_i x y;simp only[ae]at h;simp only[CR]at hk hc;subst hk hc;rw[<-h];exact⟨fun e=>by cases e;exact(MapKept.bytes_beq _ _).2 rfl,fun e=>by rw[(MapKept.bytes_beq x y).1 e]⟩
 ·rename_i x y;simp only[ae]at h;simp only[CR]at hk hc;subst hk hc;rw[<-h,beq_iff_eq];exact⟨fun e=>by cases e;rfl,fun e=>by rw[e]⟩
omit hr hf in
theorem lr{k:Cell}{K:Value}(hk:CR ρ k K): ∀ {es:List (Cell×AV)} {aD:List MapEntry} {i:Nat},findKey k es i=some none->ct ρ es aD->∀x∈aD,x.key≠K
 | [],_,_,_,he,x,hx=>by simp only[ct]at he;subst he;cases hx
 |(c,v)::es,_,i,h,⟨e,es',h1,h2,h3,h4⟩,x,hx=>by
  subst h4;simp only[Sx.findKey]at h;split at h<;>try(cases h;done)
  rename_i heq;rcases List.mem_cons.1 hx with rfl|hx
  ·intro e;have:=(n9 heq hk h1).1 e;cases this
  ·exact lr hk h h3 x hx
omit hr hf in
theorem rZ{t:TypeId}{d:TypeDesc}(h:kD P t=some d): ∃kt e,P.underlying t=some (.map kt e)/\P.underlying kt=some d:=by
 unfold kD at h;split at h
 ·exact⟨_,_,by assumption,h⟩
 ·cases h
omit hr hf in
theorem OE{vk:Option IntKind}{v:AV}{x:Int}(h:Hi vk v=some x):v= .c (pG vk x):=by
 unfold Hi at h;split at h<;>try(cases h;done)
 ·split at h<;>try(cases h;done)
  rename_i e;cases h;subst e;rfl
 ·rename_i b;cases h;cases b<;>rfl
omit hr hf in
theorem vu(vk:Option IntKind)(k:Int): ∀(l:ak) (i:Nat),findKey (.int .i64 k) (gq vk l) i=if sG l k then some (some (i+l.findIdx (fun p=>p.1==k),.c (pG vk (bp l k))))else some none
 | [],i=>rfl
 |(a,b)::r,i=>by
  show findKey (.int .i64 k) ((.int .i64 a,.c (pG vk b))::gq vk r) i=_;simp only[findKey,jE,if_true,sG,bp,List.findIdx_cons];by_cases h:a=k
  ·subst h;simp
  ·have:(a==k)=false:=by simp[h]
   have h2:(k==a)=false:=by simp[Ne.symm h]
   simp only[this,h2,if_neg h,cond_false];rw[vu vk k r (i+1)];have e:i+1+r.findIdx (fun p=>p.1==k)=i+(r.findIdx (fun p=>p.1==k)+1):=by omega
   rw[e]
omit hr hf in
theorem Xy(vk:Option IntKind)(l:ak)(k v:Int):match findKey (.int .i64 k) (gq vk l) 0 with
  |some (some (i,_))=>gq vk (bC l k v)=(gq vk l).set i (.int .i64 k,.c (pG vk v))
  |some none=>gq vk (bC l k v)=gq vk l++ [(.int .i64 k,.c (pG vk v))]
  |none=>False:=by
 rw[vu]
 induction l with
 |nil=>rfl
 |cons p r ih=>
  obtain⟨a,b⟩:=p;simp only[sG,bC,List.findIdx_cons];by_cases h:a=k
  ·subst h;simp[gq]
  ·have:(a==k)=false:=by simp[h]
   simp only[if_neg h,this,cond_false,bp,Nat.zero_add]at ih ⊢;cases hh:sG r k with
   |true=>rw[hh]at ih;simp only[if_true]at ih ⊢;simpa[gq]using ih
   |false=>rw[hh]at ih;simp only[Bool.false_eq_true,if_false]at ih ⊢;simpa[gq]using ih
omit hr hf in
theorem XW(l:List (Int×List Int))(k:Int)(v:aj):match findKey (.int .i64 k) (iy l) 0 with
  |some (some (i,_))=>iy (iF l k v)=(iy l).set i (.int .i64 k,.c (.dI v))
  |some none=>iy (iF l k v)=iy l++ [(.int .i64 k,.c (.dI v))]
  |none=>False:=by
 rw[vr]
 induction l with
 |nil=>rfl
 |cons p r ih=>
  obtain⟨a,b⟩:=p;simp only[se,iF,List.findIdx_cons];by_cases h:a=k
  ·subst h;simp[iy]
  ·have:(a==k)=false:=by simp[h]
   simp only[if_neg h,this,cond_false,gY,Nat.zero_add]at ih ⊢;cases hh:se r k with
   |true=>rw[hh]at ih;simp only[if_true]at ih ⊢;simpa[iy]using ih
   |false=>rw[hh]at ih;simp only[Bool.false_eq_true,if_false]at ih ⊢;simpa[iy]using ih
omit hr hf in
theorem YT(l:List ByteArray)(s:ByteArray):match findKey (.str s) (gO l) 0 with
  |some (some (i,_))=>gO (lJ l s)=(gO l).set i (.str s,.c (.bool true))
  |some none=>gO (lJ l s)=gO l++ [(.str s,.c (.bool true))]
  |none=>False:=by
 have h:=Cn l s 0;split at h
 ·obtain⟨⟨h1,_⟩,_,h2⟩:=h;unfold lJ;rw[h1,cond_true];exact h2.symm
 ·unfold lJ;rw[h,cond_false];simp[gO]
 ·exact h.elim
theorem Aj{t:TypeId}{m k x:Operand}{nm:Nat}{kc:Cell}{v:AV}{X Y:ax}{es es':List (Cell×AV)}(hmc:ev m=some (.one (.c (.map nm))))(hkc:ev k=some (.one (.c kc)))(hv:ev x=some (.one v))(bI:hp nm=some X)(hwr:X.wr=true)
  (hko:eI (kD P t) kc=true) (hX: ∀ρ c o,cD ρ c X o->∃aD clock,o= .map aD clock/\ct ρ es aD.toList/\MapKept.Stamped aD clock) (hY: ∀ρ c aD clock,ct ρ es' aD.toList->MapKept.Stamped aD clock->cD ρ c Y (.map aD clock))
  (hput:match findKey kc es 0 with|some (some (i,_))=>es'=es.set i (kc,v)|some none=>es'=es++ [(kc,v)]|none=>False)
  (hm:dx ρ ev va m) (hk:dx ρ ev va k) (hx:dx ρ ev va x):
  ∃w' ρ',(Instr.mapUpdate t (va m) (va k) (va x)).run P w= .ok () w'/\Out ρ hp nx w (.wr nm Y) fc undef ρ' w':=by
 obtain⟨b,c,e1,e2⟩:=hm _ hmc;have ek:CR ρ kc (va k):=hk _ hkc;have ex:bY ρ v (va x):=hx _ hv;obtain⟨d,hd⟩:=ix hko;rw[hd]at hko;obtain⟨kt,e,hu,hu2⟩:=rZ hd;obtain⟨b',c',o,g1,g2,g3⟩:=hr.ok _ _ bI;rw[e1]at g1;simp only[ae,af]at g1;obtain⟨rfl,rfl⟩:=g1;obtain⟨aD,cl,rfl,g4,g5⟩:=hX _ _ _ g3;split at hput
 ·rename_i i v0 hfk;obtain⟨V,e',q1,q2,q3,q4,c',q5,q6,q7⟩:=eF hko ek hfk g4;have hent:aD[i]? =some e':=by simpa using q4
  obtain⟨w',s1,s2⟩:=fK (P:=P) (o':= .map (aD.modify i fun e=> {e with key:=va k,val:=va x}) cl) g2 (by intros;simp)
  refine⟨w',ρ,?_,hr.jH hf bI hwr e1 (hY _ _ _ _ ?_ (MapKept.stamped_modify g5 i (fun e=> {e with key:=va k,val:=va x}) (fun _ _=>rfl) fun e he hi=>by rw[hent]at hi;cases hi;exact((n9 q6 ek q7).2 rfl).symm)) s2 ⟨[],rfl,rfl⟩⟩
  ·simp only[Instr.mapUpdate,Sem.run_bind,run_underlying hu,Result.andThen_ok,e2,dX g2,run_checkKey hu2 hko ek,run_findKey hu2 q1,hent,Option.map_some,Option.getD_some,xz hko q6 ek q7,s1]
  ·have:=g4.set i kc v (fun e=> {e with key:=va k,val:=va x}) fun e=>⟨ek,ex⟩
   rw[hput];simpa using this
 ·rename_i hfk;have q1:=eF hko ek hfk g4;obtain⟨w',s1,s2⟩:=fK (P:=P) (o':= .map (aD.push {key:=va k,val:=va x,born:=cl}) (cl+1)) g2 (by intros;simp)
  refine⟨w',ρ,?_,hr.jH hf bI hwr e1 (hY _ _ _ _ ?_ (MapKept.stamped_push g5 (lr ek hfk g4))) s2 ⟨[],rfl,rfl⟩⟩
  ·simp only[Instr.mapUpdate,Sem.run_bind,run_underlying hu,Result.andThen_ok,e2,dX g2,run_checkKey hu2 hko ek,run_findKey hu2 q1,s1]
  ·have:=g4.push kc v {key:=va k,val:=va x,born:=cl} ek ex;rw[hput];simpa using this
 ·exact hput.elim
theorem rn{t:TypeId}{m k x:Operand}(h:eB P ev hp t m k x=some r)(hm:dx ρ ev va m)(hk:dx ρ ev va k)(hx:dx ρ ev va x):
  ∃w' ρ',(Instr.mapUpdate t (va m) (va k) (va x)).run P w= .ok () w'/\Out ρ hp nx w r.u r.v undef ρ' w':=by
 unfold eB at h;split at h<;>try(cases h;done)
 rename_i nm hmc;split at h<;>try(cases h;done)
 rename_i kc hkc;split at h<;>try(cases h;done)
 rename_i v hv;split at h<;>try(cases h;done)
 ·rename_i es bI;split at h<;>try(cases h;done)
  rename_i hko;obtain⟨b,c,e1,e2⟩:=hm _ hmc;have ek:CR ρ kc (va k):=hk _ hkc;have ex:bY ρ v (va x):=hx _ hv;obtain⟨d,hd⟩:=ix hko;rw[hd]at hko;obtain⟨kt,e,hu,hu2⟩:=rZ hd;obtain⟨b',c',o,g1,g2,g3⟩:=hr.ok _ _ bI;rw[e1]at g1;simp only[ae,af]at g1;obtain⟨rfl,rfl⟩:=g1;obtain⟨aD,cl,rfl,g4,g5⟩:=g3;unfold zT at h;split at h
  ·rename_i i v0 hfk;simp only[ae]at h;subst h;obtain⟨V,e',q1,q2,q3,q4,c',q5,q6,q7⟩:=eF hko ek hfk g4;have hent:aD[i]? =some e':=by simpa using q4
   obtain⟨w',s1,s2⟩:=fK (P:=P) (o':= .map (aD.modify i fun e=> {e with key:=va k,val:=va x}) cl) g2 (by intros;simp)
   refine⟨w',ρ,?_,hr.jH hf bI rfl e1 ⟨_,_,rfl,?_,MapKept.stamped_modify g5 i (fun e=> {e with key:=va k,val:=va x}) (fun _ _=>rfl) fun e he hi=>by rw[hent]at hi;cases hi;exact((n9 q6 ek q7).2 rfl).symm⟩ s2 ⟨[],rfl,rfl⟩⟩
   ·simp only[Instr.mapUpdate,Sem.run_bind,run_underlying hu,Result.andThen_ok,e2,dX g2,run_checkKey hu2 hko ek,run_findKey hu2 q1,hent,Option.map_some,Option.getD_some,xz hko q6 ek q7,s1]
   ·have:=g4.set i kc v (fun e=> {e with key:=va k,val:=va x}) fun e=>⟨ek,ex⟩
    simpa using this
  ·rename_i hfk;simp only[ae]at h;subst h;have q1:=eF hko ek hfk g4;obtain⟨w',s1,s2⟩:=fK (P:=P) (o':= .map (aD.push {key:=va k,val:=va x,born:=cl}) (cl+1)) g2 (by intros;simp)
   refine⟨w',ρ,?_,hr.jH hf bI rfl e1 ⟨_,_,rfl,?_,MapKept.stamped_push g5 (lr ek hfk g4)⟩ s2 ⟨[],rfl,rfl⟩⟩
   ·simp only[Instr.mapUpdate,Sem.run_bind,run_underlying hu,Result.andThen_ok,e2,dX g2,run_checkKey hu2 hko ek,run_findKey hu2 q1,s1]
   ·have:=g4.push kc v {key:=va k,val:=va x,born:=cl} ek ex;simpa using this
  ·cases h
 ·rename_i vk l bI;split at h<;>try(cases h;done)
  rename_i hko;obtain⟨b,c,e1,e2⟩:=hm _ hmc;have ek:CR ρ kc (va k):=hk _ hkc;have ex:bY ρ v (va x):=hx _ hv;obtain⟨d,hd⟩:=ix hko;rw[hd]at hko;obtain⟨kt,e,hu,hu2⟩:=rZ hd;obtain⟨b',c',o,g1,g2,g3⟩:=hr.ok _ _ bI;rw[e1]at g1;simp only[ae,af]at g1;obtain⟨rfl,rfl⟩:=g1;obtain⟨aD,cl,rfl,g4,g5⟩:=g3;unfold vK at h;split at h<;>try(cases h;done)
  rename_i kn;split at h<;>try(cases h;done)
  rename_i xn hun;simp only[ae]at h;subst h;have hv':=OE hun;have hput:=Xy vk l kn xn;split at hput
  ·rename_i i v0 hfk;obtain⟨V,e',q1,q2,q3,q4,c',q5,q6,q7⟩:=eF hko ek hfk g4;have hent:aD[i]? =some e':=by simpa using q4
   obtain⟨w',s1,s2⟩:=fK (P:=P) (o':= .map (aD.modify i fun e=> {e with key:=va k,val:=va x}) cl) g2 (by intros;simp)
   refine⟨w',ρ,?_,hr.jH hf bI rfl e1 ⟨_,_,rfl,?_,MapKept.stamped_modify g5 i (fun e=> {e with key:=va k,val:=va x}) (fun _ _=>rfl) fun e he hi=>by rw[hent]at hi;cases hi;exact((n9 q6 ek q7).2 rfl).symm⟩ s2 ⟨[],rfl,rfl⟩⟩
   ·simp only[Instr.mapUpdate,Sem.run_bind,run_underlying hu,Result.andThen_ok,e2,dX g2,run_checkKey hu2 hko ek,run_findKey hu2 q1,hent,Option.map_some,Option.getD_some,xz hko q6 ek q7,s1]
   ·have:=g4.set i (.int .i64 kn) v (fun e=> {e with key:=va k,val:=va x}) fun e=>⟨ek,ex⟩
    rw[hput, <-hv'];simpa using this
  ·rename_i hfk;have q1:=eF hko ek hfk g4;obtain⟨w',s1,s2⟩:=fK (P:=P) (o':= .map (aD.push {key:=va k,val:=va x,born:=cl}) (cl+1)) g2 (by intros;simp)
   refine⟨w',ρ,?_,hr.jH hf bI rfl e1 ⟨_,_,rfl,?_,MapKept.stamped_push g5 (lr ek hfk g4)⟩ s2 ⟨[],rfl,rfl⟩⟩
   ·simp only[Instr.mapUpdate,Sem.run_bind,run_underlying hu,Result.andThen_ok,e2,dX g2,run_checkKey hu2 hko ek,run_findKey hu2 q1,s1]
   ·have:=g4.push (.int .i64 kn) v {key:=va k,val:=va x,born:=cl} ek ex;rw[hput, <-hv'];simpa using this
  ·exact hput.elim
 ·rename_i l bI;split at h<;>try(cases h;done)
  rename_i hko;unfold vW at h;split at h<;>try(cases h;done)
  rename_i kn c;simp only[ae]at h;subst h;exact Aj hr hf hmc hkc hv bI rfl hko (fun _ _ _ h=>h) (fun _ _ aD clock h1 h2=>⟨aD,clock,rfl,h1,h2⟩) (XW l kn c) hm hk hx
 ·rename_i l bI;split at h<;>try(cases h;done)
  rename_i hko;unfold wa at h;split at h<;>try(cases h;done)
  rename_i s;simp only[ae]at h;subst h;exact Aj hr hf hmc hkc hv bI rfl hko (fun _ _ _ h=>h) (fun _ _ aD clock h1 h2=>⟨aD,clock,rfl,h1,h2⟩) (YT l s) hm hk hx
end ops
end Go.Sx
