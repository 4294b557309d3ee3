import Derived.Test.YtfceckiklfkjkaaGreatS02
import Derived.Laws.StructEq
import Derived.ChangeKeysEq
noncomputable section
namespace Go.Sx
variable{P:Program}
theorem m7{t:TypeId}{i:TypeInfo}(h:P.info? t=some i)(w:World):(typeInfo t).run P w= .ok i w:=by
 simp[typeInfo,h]
theorem cZ{t:TypeId}{i:TypeInfo}(h:P.info? t=some i)(w:World):(sizeOf t).run P w= .ok i.size w:=by
 simp[sizeOf,m7 h]
theorem n6{t:TypeId}{d:TypeDesc}(h:P.underlying t=some d)(w:World):(isAgg t).run P w= .ok (iw d) w:=by
 unfold isAgg;simp only[Sem.run_bind,run_underlying h,Result.andThen_ok];cases d<;>rfl
def jg(d:TypeDesc)(vs:List Value):Value:=if iw d then .agg vs.toArray else vs.headD undef
theorem pP{t:TypeId}{d:TypeDesc}{i:TypeInfo}(h:P.underlying t=some d)(hi:P.info? t=some i)(vs:List Value)(off:Nat)
  (hl:off+i.size<=vs.length) (h1:iw d=false->0<i.size) (w:World):
  (part t vs.toArray off).run P w= .ok (jg d ((vs.drop off).take i.size)) w:=by
 unfold part jg;simp only[Sem.run_bind,n6 h,Result.andThen_ok];cases hd:iw d
 ·have:=h1 hd;have aA:off<vs.length:=by omega
  simp only[Bool.false_eq_true,if_false];simp only[List.getElem?_toArray,List.getElem?_eq_getElem aA,Sem.run_pure];congr 1;have e:(vs.drop off).take i.size=vs[off]::((vs.drop (off+1)).take (i.size - 1)):=by
   rw[List.drop_eq_getElem_cons aA];obtain⟨m,hm⟩: ∃m,i.size=m+1:=⟨i.size - 1,by omega⟩
   rw[hm,List.take_succ_cons];rfl
  rw[e];rfl
 ·simp[cZ hi,List.extract_toArray,List.extract_eq_take_drop]
theorem bt.length {ρ:aM}: ∀ {l:List Cell} {vs:List Value},bt ρ l vs->vs.length=l.length
 | [],_,h=>by simp only[bt]at h;subst h;rfl
 |_::_,_,⟨_,_,_,h2,h3⟩=>by subst h3;simp[bt.length h2]
theorem bt.get {ρ:aM}: ∀ {l:List Cell} {vs:List Value},bt ρ l vs->∀ {i:Nat} {c:Cell},l[i]? =some c->∃v,vs[i]? =some v/\CR ρ c v
 | [],_,_,_,_,hc=>by simp at hc
 |_::_,_,⟨v,vs',h1,h2,h3⟩,i,c,hc=>by
  subst h3;cases i with
  |zero=>simp at hc;subst hc;exact⟨v,rfl,h1⟩
  |succ i=>simp at hc;obtain⟨u,hu,hr⟩:=h2.get hc;exact⟨u,by simpa using hu,hr⟩
theorem bt.drop {ρ:aM}: ∀ {l:List Cell} {vs:List Value},bt ρ l vs->∀n,bt ρ (l.drop n) (vs.drop n)
 | [],_,h,n=>by simp only[bt]at h;subst h;simp[bt]
 |_::_,_,⟨v,vs',h1,h2,h3⟩,n=>by
  subst h3;cases n with
  |zero=>exact⟨v,vs',h1,h2,rfl⟩
  |succ n=>exact h2.drop n
theorem bt.take {ρ:aM}: ∀ {l:List Cell} {vs:List Value},bt ρ l vs->∀n,bt ρ (l.take n) (vs.take n)
 | [],_,h,n=>by simp only[bt]at h;subst h;simp[bt]
 |_::_,_,⟨v,vs',h1,h2,h3⟩,n=>by
  subst h3;cases n with
  |zero=>simp[bt]
  |succ n=>exact⟨v,_,h1,h2.take n,rfl⟩
theorem bt.append {ρ:aM}: ∀ {l m:List Cell} {vs us:List Value},bt ρ l vs->bt ρ m us->bt ρ (l++m) (vs++us)
 | [],_,_,_,h,g=>by simp only[bt]at h;subst h;simpa using g
 |_::_,_,_,_,⟨v,vs',h1,h2,h3⟩,g=>by subst h3;exact⟨v,_,h1,h2.append g,rfl⟩
theorem bt.ints {ρ:aM}(k:IntKind): ∀l:List Int,bt ρ (l.map (Cell.int k)) (l.map (Value.int k))
 | []=>rfl
 |_::l=>⟨_,_,rfl,bt.ints k l,rfl⟩
theorem bt.aT {ρ:aM}: ∀l:List Bool,bt ρ (l.map Cell.bool) (l.map Value.bool)
 | []=>rfl
 |_::l=>⟨_,_,rfl,bt.aT l,rfl⟩
theorem si{ρ:aM}: ∀ {l:List Cell} {r:List Bool} {vs:List Value},oq l=some r->bt ρ l vs->vs=r.map Value.bool/\r.length=l.length
 | [],r,vs,h,hr=>by simp[oq]at h;subst h;simp only[bt]at hr;subst hr;exact⟨rfl,rfl⟩
 |c::l,r,vs,h,⟨v,vs',h1,h2,h3⟩=>by
  subst h3;cases c<;>simp only[oq]at h<;>try cases h
  split at h
  ·rename_i r' hr';simp only[ae]at h;subst h;obtain⟨e1,e2⟩:=si hr' h2;simp only[CR]at h1;subst h1;exact⟨by simp[e1],by simp[e2]⟩
  ·cases h
theorem nj{ρ:aM}{k:IntKind}: ∀ {l:List Cell} {r:aj} {vs:List Value},nq k l=some r->bt ρ l vs->vs=r.map (Value.int k)/\r.length=l.length
 | [],r,vs,h,hr=>by simp[nq]at h;subst h;simp only[bt]at hr;subst hr;exact⟨rfl,rfl⟩
 |c::l,r,vs,h,⟨v,vs',h1,h2,h3⟩=>by
  subst h3;cases c<;>simp only[nq]at h<;>try cases h
  split at h
  ·rename_i k' n hk;subst hk;split at h
   ·rename_i r' hr';simp only[ae]at h;subst h;obtain⟨e1,e2⟩:=nj hr' h2;simp only[CR]at h1;subst h1;exact⟨by simp[e1],by simp[e2]⟩
   ·cases h
  ·cases h
theorem CR.one {ρ:aM}{c:Cell}{v:Value}(h:CR ρ c v):v.oneCell'=true:=by
 cases c<;>simp only[CR]at h
 all_goals first
  |exact h
  |(subst h;rfl)
  |(rcases h with⟨_,rfl⟩|⟨_,_,_,_,rfl⟩<;>rfl)
  |(obtain⟨_,_,_,rfl⟩:=h;rfl)
  |(obtain⟨_,_,rfl⟩:=h;rfl)
  |(obtain⟨_,_,_,_,rfl⟩:=h;rfl)
  |(obtain⟨_,_,rfl⟩:=h;rfl)
  |(obtain⟨_,_,_,_,_,_,rfl⟩:=h;rfl)
theorem CR.cells {ρ:aM}{c:Cell}{v:Value}(h:CR ρ c v):v.cells= #[v]:=by
 have:=h.one;cases v<;>simp_all[Value.oneCell',Value.cells]
theorem bt.one {ρ:aM}: ∀ {l:List Cell} {vs:List Value},bt ρ l vs->∀v∈vs,v.oneCell'=true
 | [],_,h,v,hv=>by simp only[bt]at h;subst h;cases hv
 |_::_,_,⟨_,_,h1,h2,h3⟩,v,hv=>by
  subst h3;rcases List.mem_cons.1 hv with rfl|hv
  ·exact h1.one
  ·exact h2.one v hv
theorem CT{ρ:aM}{t:TypeId}{d:TypeDesc}(hd:P.underlying t=some d){xs ys:List Cell}{r:Bool}(h:qS (some d) xs ys=some r)
  {vs us:List Value} (hx:bt ρ xs vs) (hy:bt ρ ys us) (D:Nat) (w:World):
  xs.length=1/\ys.length=1/\iw d=false/\(Op.equalIn (D+1) t (jg d vs) (jg d us)).run P w= .ok r w:=by
 unfold qS at h;split at h<;>try cases h
 ·rename_i k0 k a k' b hd';simp only[ae]at hd';subst hd';split at h<;>try cases h
  rename_i hk;subst hk;obtain⟨v,vs',h1,h2,h3⟩:=hx;obtain⟨u,us',g1,g2,g3⟩:=hy;simp only[CR]at h1 g1;subst h3 g3 h1 g1;exact⟨rfl,rfl,rfl,run_equalIn_int w D t _ _ _ _ hd⟩
 ·rename_i a b hd';simp only[ae]at hd';subst hd';obtain⟨v,vs',h1,h2,h3⟩:=hx;obtain⟨u,us',g1,g2,g3⟩:=hy;simp only[CR]at h1 g1;subst h3 g3 h1 g1;exact⟨rfl,rfl,rfl,run_equalIn_bool' w D t _ _ hd⟩
 ·rename_i a b hd';simp only[ae]at hd';subst hd';obtain⟨v,vs',h1,h2,h3⟩:=hx;obtain⟨u,us',g1,g2,g3⟩:=hy;simp only[CR]at h1 g1;subst h3 g3 h1 g1;refine⟨rfl,rfl,rfl,?_⟩;have:=run_equalIn_string w D t a b hd;rw[<-beq_toListBytes]at this;exact this
theorem xJ{ρ:aM}{e:TypeId}{d:TypeDesc}{i:TypeInfo}(hd:P.underlying e=some d)(hi:P.info? e=some i)(h1:i.size=1)(hag:iw d=false)(D:Nat)(w:World)(vs us:List Value):
  ∀ {xs ys:List Cell} {r:Bool} (pre:Nat),od (some d) xs ys=some r->bt ρ xs (vs.drop pre)->bt ρ ys (us.drop pre)->
   (Op.eqItems (D+1) e (P.cellsOf e) vs.toArray us.toArray (List.range' pre xs.length)).run P w= .ok r w
 | [],[],r,pre,h,_,_=>by
  simp[od]at h;subst h;simp[Op.eqItems]
 |x::xs,y::ys,r,pre,h,hx,hy=>by
  have hc:P.cellsOf e=1:=by simp[Program.cellsOf,hi,h1]
  simp only[od]at h;split at h
  ·rename_i a b ha hb;simp only[ae]at h;subst h;have lx:=hx.length;have ly:=hy.length;have hlx:pre<vs.length:=by simp at lx;omega
   have hly:pre<us.length:=by simp at ly;omega
   obtain⟨v,vs',c1,c2,c3⟩:=hx;obtain⟨u,us',g1,g2,g3⟩:=hy;have e1:=List.drop_eq_getElem_cons hlx;have e2:=List.drop_eq_getElem_cons hly;rw[c3]at e1;rw[g3]at e2;simp only[List.cons.injEq]at e1 e2;obtain⟨e1a,e1b⟩:=e1;obtain⟨e2a,e2b⟩:=e2;rw[e1b]at c2;rw[e2b]at g2;have ih:=xJ hd hi h1 hag D w vs us (pre+1) hb c2 g2;obtain⟨_,_,_,q⟩:=CT hd ha (vs:= [v]) (us:= [u]) ⟨v,[],c1,rfl,rfl⟩ ⟨u,[],g1,rfl,rfl⟩ D w;have p1:=pP hd hi vs pre (by omega) (fun _=>by omega) w
   have p2:=pP hd hi us pre (by omega) (fun _=>by omega) w
   have f1:jg d ((vs.drop pre).take i.size)=v:=by
    simp[jg,hag,h1,c3]
   have f2:jg d ((us.drop pre).take i.size)=u:=by
    simp[jg,hag,h1,g3]
   rw[f1]at p1;rw[f2]at p2;have q':(Op.equalIn (D+1) e v u).run P w= .ok a w:=by simpa[jg,hag]using q
   rw[hc]at ih ⊢;simp only[List.length_cons,List.range'_succ,Op.eqItems,Nat.mul_one,Sem.run_bind,p1,p2,q',Result.andThen_ok];cases a
   ·simp
   ·simpa using ih
  ·cases h
 | [],_::_,_,_,h,_,_=>by simp[od]at h
 |_::_,[],_,_,h,_,_=>by simp[od]at h
theorem Lx{e:TypeId}(h:A2 P e=true): ∃d i,P.underlying e=some d/\P.info? e=some i/\i.size=1/\iw d=false:=by
 unfold A2 at h;split at h
 ·rename_i k i h1 h2;exact⟨_,i,h1,h2,by simpa using h,rfl⟩
 ·rename_i i h1 h2;exact⟨_,i,h1,h2,by simpa using h,rfl⟩
 ·rename_i i h1 h2;exact⟨_,i,h1,h2,by simpa using h,rfl⟩
 ·cases h
def aal(P:Program)(w:World)(ρ:aM)(d:Nat)(t:TypeId)(xs ys:List Cell)(r:Bool):Prop:=
 ∀D dd,P.underlying t=some dd->∀vs us,bt ρ xs vs->bt ρ ys us->(iw dd=false->xs.length=1/\ys.length=1)/\(Op.equalIn (D+d) t (jg dd vs) (jg dd us)).run P w= .ok r w
theorem AS{ρ:aM}{w:World}{d:Nat}{eq:TypeId->List Cell->List Cell->Option Bool}(hq: ∀t xs ys r,eq t xs ys=some r->(∃dd,P.underlying t=some dd)/\aal P w ρ d t xs ys r)
  {xs ys:List Cell} {vs us:List Value} (hx:bt ρ xs vs) (hy:bt ρ ys us) (D:Nat):
  ∀ {fs:List Field} {r:Bool},By P eq xs ys fs=some r->(Op.eqFields (D+d) vs.toArray us.toArray fs).run P w= .ok r w
 | [],r,h=>by simp[By]at h;subst h;simp[Op.eqFields]
 |f::fs,r,h=>by
  simp only[By]at h;split at h
  ·rename_i hn;have hn:f.name= "_" :=by simpa using hn
   have ih:=AS hq hx hy D h;simp only[Op.eqFields,hn,ne_eq,not_true_eq_false,if_false];exact ih
  ·rename_i hn;have hn:f.name≠ "_" :=by simpa using hn
   split at h
   ·rename_i i hi;split at h
    ·rename_i hl;split at h
     ·rename_i a b ha hb;simp only[ae]at h;subst h;obtain⟨⟨dd,hdd⟩,hk⟩:=hq _ _ _ _ ha;have ih:=AS hq hx hy D hb;have lx:=hx.length;have ly:=hy.length;obtain⟨h1,h2⟩:=hk D dd hdd _ _ ((hx.drop f.offset).take i.size) ((hy.drop f.offset).take i.size);have sz:iw dd=false->0<i.size:=fun hg=>by
       have:=(h1 hg).1;simp[Us]at this;omega
      have p1:=pP hdd hi vs f.offset (by omega) sz w
      have p2:=pP hdd hi us f.offset (by omega) sz w
      simp only[Op.eqFields,ne_eq,hn,not_false_eq_true,if_true,Sem.run_bind,p1,p2,h2,Result.andThen_ok];cases a
      ·simp
      ·simpa using ih
     ·cases h
    ·cases h
   ·cases h
theorem Rp{ρ:aM}{w:World}: ∀(d:Nat) (t:TypeId) (xs ys:List Cell) (r:Bool),Re P d t xs ys=some r->(∃dd,P.underlying t=some dd)/\aal P w ρ (d+1) t xs ys r
 | 0,_,_,_,_,h=>by simp[Re]at h
 |d+1,t,xs,ys,r,h=>by
  simp only[Re]at h;split at h
  ·rename_i fs hu;split at h
   ·cases h
   ·rename_i hs;refine⟨⟨_,hu⟩,fun D dd hdd vs us hx hy=> ?_⟩
    rw[hu]at hdd;simp only[ae]at hdd;subst hdd;refine⟨fun hg=>by simp[iw]at hg,?_⟩
    have hf:P.fieldsOf t=fs:=by simp[Program.fieldsOf,hu]
    have:=AS (P:=P) (w:=w) (fun t xs ys r hh=>Rp d t xs ys r hh) hx hy D h
    have e:=run_equalIn_struct w (D+(d+1)) t vs.toArray us.toArray (by rw[hf];exact hu) (by simpa using hs)
    rw[hf]at e;simp only[jg,iw,if_true];rw[show D+(d+1+1)=D+(d+1)+1 from rfl,e]
    exact this
  ·rename_i len e hu;split at h
   ·rename_i hc;obtain⟨hl,hxl,hyl⟩:=hc;obtain⟨dd',i,q1,q2,q3,q4⟩:=Lx hl;refine⟨⟨_,hu⟩,fun D dd hdd vs us hx hy=> ?_⟩
    rw[hu]at hdd;simp only[ae]at hdd;subst hdd;refine⟨fun hg=>by simp[iw]at hg,?_⟩
    rw[q1]at h;have:=xJ q1 q2 q3 q4 (D+d) w vs us 0 h hx hy;simp only[jg,iw,if_true];rw[show D+(d+1+1)=D+(d+1)+1 from rfl,run_equalIn_array w (D+(d+1)) vs.toArray us.toArray hu q2,List.range_eq_range', <-hxl]
    exact this
   ·cases h
  ·rename_i u hn1 hn2;cases hu:P.underlying t with
   |none=>rw[hu]at h;simp[qS]at h
   |some dd=>
    rw[hu]at h;refine⟨⟨_,rfl⟩,fun D dd' hdd vs us hx hy=> ?_⟩
    rw[hu]at hdd;simp only[ae]at hdd;subst hdd;obtain⟨l1,l2,l3,q⟩:=CT hu h hx hy (D+(d+1)) w;exact⟨fun _=>⟨l1,l2⟩,q⟩
theorem HK{k:IntKind}{d:TypeDesc}(hd: ∃k',d= .int k'): ∀(l m:aj),l.length=m.length->od (some d) (l.map (Cell.int k)) (m.map (Cell.int k))=some (l==m)
 | [],[],_=>rfl
 |x::l,y::m,h=>by
  obtain⟨k',rfl⟩:=hd;have ih:=HK (k:=k) ⟨k',rfl⟩ l m (by simpa using h)
  simp only[List.map_cons,od,qS,if_true,ih];simp[List.cons_beq_cons]
 | [],_::_,h=>by simp at h
 |_::_,[],h=>by simp at h
end Go.Sx
namespace Go.Sx
variable{P:Program}{ρ:aM}{w:World}
theorem kb(op:BinOp)(t:TypeId)(x y:Operand)(a b:Value)(h:(∀c,a≠ .agg c)\/(∀c,b≠ .agg c))(h2:a≠ .nilIface\/b≠ .nilIface):(eqGuard op t x y a b).run P w= .ok () w:=by
 unfold eqGuard;generalize (!(match op with| .eql| .neq=>true|_=>false))=c
 cases c
 ·simp only[Bool.false_eq_true,if_false];split
  ·exfalso;rcases h2 with h2|h2<;>exact h2 rfl
  ·exfalso;rcases h with h|h<;>exact h _ rfl
  ·rfl
 ·rfl
theorem EX(op:BinOp)(k:IntKind)(a b n:Int)(h:DK op k a b=some n):(Op.intBits op k a b).run P w= .ok (.int k n) w:=by
 cases op<;>simp only[DK,ae]at h<;>first|cases h;done|(subst h;rfl)
theorem KC(op:BinOp)(t:TypeId)(k:IntKind)(a b:Int)(c:Cell)(hs:qG op=false)(h:pa op k a b=some c): ∃V,CR ρ c V/\(binOp op t (.int k a) (.int k b)).run P w= .ok V w:=by
 cases op<;>simp only[qG,reduceCtorEq]at hs<;>simp only[pa,ae]at h
 case add=>subst h;exact⟨_,rfl,by simp[binOp,Op.intArith]⟩
 case sub=>subst h;exact⟨_,rfl,by simp[binOp,Op.intArith]⟩
 case mul=>subst h;exact⟨_,rfl,by simp[binOp,Op.intArith]⟩
 case quo=>
  split at h
  ·cases h
  ·rename_i h0;simp only[ae]at h;subst h;exact⟨_,rfl,by simp[binOp,Op.intDiv,h0]⟩
 case rem=>
  split at h
  ·cases h
  ·rename_i h0;simp only[ae]at h;subst h;exact⟨_,rfl,by simp[binOp,Op.intDiv,h0]⟩
 case eql=>subst h;exact⟨_,rfl,by simp[binOp,Op.intCmp]⟩
 case neq=>subst h;exact⟨_,rfl,by simp[binOp,Op.intCmp]⟩
 case lss=>subst h;exact⟨_,rfl,by simp[binOp,Op.intCmp]⟩
 case leq=>subst h;exact⟨_,rfl,by simp[binOp,Op.intCmp]⟩
 case gtr=>subst h;exact⟨_,rfl,by simp[binOp,Op.intCmp]⟩
 case geq=>subst h;exact⟨_,rfl,by simp[binOp,Op.intCmp]⟩
 all_goals
  split at h
  ·rename_i n hn;simp only[ae]at h;subst h;exact⟨_,rfl,by simp only[binOp,ne_eq,not_true_eq_false,if_false];exact EX _ _ _ _ _ hn⟩
  ·cases h
theorem Lc(op:BinOp)(t:TypeId)(k k':IntKind)(a b:Int)(v:AV)(h:qD op k a k' b=some v): ∃V,bY ρ v V/\(binOp op t (.int k a) (.int k' b)).run P w= .ok V w:=by
 unfold qD at h;split at h
 ·rename_i hs;cases op<;>simp only[qG,reduceCtorEq]at hs<;>simp only[oH]at h
  ·split at h
   ·cases h
   ·rename_i h0;simp only[ae]at h;subst h;exact⟨_,rfl,by simp[binOp,Op.shift,h0]⟩
  ·split at h
   ·cases h
   ·rename_i h0;simp only[ae]at h;subst h;exact⟨_,rfl,by simp[binOp,Op.shift,h0]⟩
 ·rename_i hs;split at h
  ·rename_i hk;subst hk;split at h
   ·rename_i c hc;simp only[ae]at h;subst h;obtain⟨V,h1,h2⟩:=KC (ρ:=ρ) (P:=P) (w:=w) op t k a b c hs hc;exact⟨V,h1,h2⟩
   ·cases h
  ·cases h
theorem pU{v:Value}{c:Cell}(h:cellOf v=some c):CR ρ c v:=by
 cases v<;>simp only[cellOf]at h<;>try(cases h;done)
 all_goals first
  |(simp only[ae]at h;subst h;rfl)
  |(split at h<;>first|(simp only[ae]at h;subst h;rename_i h1;simp_all[CR];done)|(cases h;done)|skip)
 all_goals simp_all[CR]
theorem Ia{s:Sem Value}{c:Cell}(h:xO s=some c): ∃V,CR ρ c V/\s.run P w= .ok V w:=by
 cases s<;>simp only[xO]at h<;>try(cases h;done)
 exact⟨_,pU h,rfl⟩
theorem YW(t:TypeId)(x y:Cell)(r:Bool)(h:ZN P t x y=some r){V U:Value}(hx:CR ρ x V)(hy:CR ρ y U)(D:Nat):
  (Op.equalIn (D+1) t V U).run P w= .ok r w/\(∀k n,V≠ .int k n)/\(∀c,V≠ .agg c)/\(∀k n,V≠ .float k n)/\(∀k n m,V≠ .complex k n m)/\(∀s,V≠ .string s)/\V≠ .nilIface:=by
 unfold ZN at h;split at h<;>try(cases h;done)
 all_goals
  rename_i hu;simp only[ae]at h;subst h;simp only[CR]at hx hy
 ·subst hx hy;exact⟨run_equalIn_bool' w D t _ _ hu,by simp⟩
 ·subst hx hy;simp[Op.equalIn,run_underlying hu]
 ·obtain⟨_,_,_,rfl⟩:=hy;subst hx;simp[Op.equalIn,run_underlying hu]
 ·obtain⟨_,_,_,rfl⟩:=hx;subst hy;simp[Op.equalIn,run_underlying hu]
 ·subst hx hy;simp[Op.equalIn,run_underlying hu]
 ·obtain⟨_,_,_,rfl⟩:=hx;subst hy;simp[Op.equalIn,run_underlying hu]
 ·obtain⟨_,_,_,_,_,_,rfl⟩:=hx;subst hy;simp[Op.equalIn,run_underlying hu]
 ·obtain⟨_,_,_,rfl⟩:=hy;subst hx;simp[Op.equalIn,run_underlying hu]
 ·obtain⟨_,_,_,_,_,_,rfl⟩:=hy;subst hx;simp[Op.equalIn,run_underlying hu]
 ·subst hx hy;simp[Op.equalIn,run_underlying hu]
 ·obtain⟨_,_,_,rfl⟩:=hx;subst hy;simp[Op.equalIn,run_underlying hu]
 ·obtain⟨_,_,_,rfl⟩:=hy;subst hx;simp[Op.equalIn,run_underlying hu]
 ·subst hx hy;simp[Op.equalIn,run_underlying hu]
 ·obtain⟨_,_,_,_,rfl⟩:=hx;subst hy;simp[Op.equalIn,run_underlying hu]
 ·obtain⟨_,_,_,_,rfl⟩:=hy;subst hx;simp[Op.equalIn,run_underlying hu]
theorem E8(t:TypeId)(V U:Value)(h1: ∀k n,V≠ .int k n)(h3: ∀k n,V≠ .float k n)(h4: ∀k n m,V≠ .complex k n m)(h5: ∀s,V≠ .string s):
  (binOp .eql t V U)=(do pure (.bool (<-Op.equal t V U)))/\(binOp .neq t V U)=(do pure (.bool (!(<-Op.equal t V U)))):=by
 cases V<;>first
  |exact absurd rfl (h1 _ _)
  |exact absurd rfl (h3 _ _)
  |exact absurd rfl (h4 _ _ _)
  |exact absurd rfl (h5 _)
  |exact⟨rfl,rfl⟩
theorem C1(t:TypeId)(x y:AV)(r:Bool)(h:Dw P t x y=some r){V U:Value}(hx:bY ρ x V)(hy:bY ρ y U)(op:BinOp)(ox oy:Operand):
  (Op.equal t V U).run P w= .ok r w/\(eqGuard op t ox oy V U).run P w= .ok () w/\(∀k n,V≠ .int k n)/\(∀k n,V≠ .float k n)/\(∀k n m,V≠ .complex k n m)/\(∀s,V≠ .string s):=by
 unfold Dw at h;split at h
 ·rename_i a b;obtain⟨q,h1,h2,h3,h4,h5,h6⟩:=YW (w:=w) t a b r h hx hy 9999;exact⟨q,kb op t ox oy V U (.inl h2) (.inl h6),h1,h3,h4,h5⟩
 ·rename_i l m;split at h
  ·rename_i hg;obtain⟨hg,hag⟩:=hg;obtain⟨vs,h1,rfl⟩:=hx;obtain⟨us,h2,rfl⟩:=hy;obtain⟨⟨dd,hdd⟩,hk⟩:=Rp (w:=w) (ρ:=ρ) 5 t l m r h;obtain⟨q1,q2⟩:=hk 9994 dd hdd vs us h1 h2;refine⟨?_,run_eqGuard_agg w op t ox oy _ _ hg,by simp,by simp,by simp,by simp⟩
   have:iw dd=true:=by simpa[ZU,hdd]using hag
   simp only[jg,this,if_true]at q2;exact q2
  ·cases h
 ·rename_i k l n k' m n';split at h
  ·rename_i hc;obtain⟨rfl,rfl,hc,hg⟩:=hc;simp only[ae]at h;subst h;obtain⟨h1,rfl⟩:=hx;obtain⟨h2,rfl⟩:=hy;refine⟨?_,run_eqGuard_agg w op t ox oy _ _ hg,by simp,by simp,by simp,by simp⟩
   unfold Rc at hc;split at hc
   ·rename_i len e hu;split at hc
    ·rename_i k' i hd hi;simp only[Bool.and_eq_true,beq_iff_eq]at hc;have hr:=HK (k:=k) (d:= .int k') ⟨_,rfl⟩ l m (h1.trans h2.symm);have q:=xJ (P:=P) (ρ:=ρ) hd hi hc.1 rfl 9998 w _ _ 0 hr (bt.ints k l) (bt.ints k m);show(Op.equalIn 10000 t _ _).run P w=_;rw[run_equalIn_array w 9999 _ _ hu hi,List.range_eq_range',hc.2, <-h1];simpa using q
    ·cases hc
   ·cases hc
  ·cases h
 ·cases h
theorem KR(op:BinOp)(t:TypeId)(x y:AV)(v:AV)(h:rq P op t x y=some v){X Y:Value}(hx:bY ρ x X)(hy:bY ρ y Y)(ox oy:Operand):
  ∃V,bY ρ v V/\(do eqGuard op t ox oy X Y;binOp op t X Y:Sem Value).run P w= .ok V w:=by
 unfold rq at h;split at h
 ·rename_i k a k' b;simp only[bY,CR]at hx hy;subst hx hy;obtain⟨V,h1,h2⟩:=Lc (ρ:=ρ) (P:=P) (w:=w) op t k k' a b v h;exact⟨V,h1,by simp[kb,h2]⟩
 ·rename_i a b;simp only[bY,CR]at hx hy;subst hx hy;split at h
  ·rename_i c hc;simp only[ae]at h;subst h;obtain⟨V,h1,h2⟩:=Ia (ρ:=ρ) (P:=P) (w:=w) hc;refine⟨V,h1,?_⟩;have:binOp op t (.string a) (.string b)=Op.stringOp op a b:=by cases op<;>rfl
   simp[kb,this,h2]
  ·cases h
 ·unfold VP at h;split at h
  ·split at h
   ·rename_i b hb;simp only[ae]at h;subst h;obtain⟨q,g,h1,h2,h3,h4⟩:=C1 (w:=w) t x y b hb hx hy .eql ox oy;exact⟨_,rfl,by simp[g,(E8 t X Y h1 h2 h3 h4).1,q]⟩
   ·cases h
  ·split at h
   ·rename_i b hb;simp only[ae]at h;subst h;obtain⟨q,g,h1,h2,h3,h4⟩:=C1 (w:=w) t x y b hb hx hy .neq ox oy;exact⟨_,rfl,by simp[g,(E8 t X Y h1 h2 h3 h4).2,q]⟩
   ·cases h
  ·cases h
theorem P0(op:UnOp)(x:RV)(v:AV)(h:LY op x=some v){X:Value}(hx:bE ρ x X): ∃V,bY ρ v V/\(Op.unary op X).run P w= .ok V w:=by
 unfold LY at h;split at h
 ·simp only[bE,bY,CR]at hx;subst hx;simp only[ae]at h;subst h;exact⟨_,rfl,by simp[Op.unary,Op.intArith]⟩
 ·simp only[bE,bY,CR]at hx;subst hx;split at h
  ·rename_i m hm;simp only[ae]at h;subst h;exact⟨_,rfl,by simp only[Op.unary];exact EX _ _ _ _ _ hm⟩
  ·cases h
 ·simp only[bE,bY,CR]at hx;subst hx;simp only[ae]at h;subst h;exact⟨_,rfl,by simp[Op.unary]⟩
 ·cases h
end Go.Sx
namespace Go.Sx
variable{P:Program}{ρ:aM}{w:World}
theorem iW(b off n:Nat):(⟨b,off,none⟩:Addr).add n=⟨b,off+n,none⟩:=by unfold Addr.add;split<;>simp_all
theorem gN{b off:Nat}{arr:Array Value}{t:TypeId}{fr:Nat×Nat}(h:w.heap[b]? =some (.cells arr t fr))(n:Nat)(hl:off+n<=arr.size):
  (loadCells ⟨b,off,none⟩ n).run P w= .ok ((arr.toList.drop off).take n).toArray w:=by
 have:=run_loadCells_list (P:=P) w ⟨b,off,none⟩ ((arr.toList.drop off).take n) (fun j v hj=>by
  rw[iW];have hjn:j<n:=by
   rcases Nat.lt_or_ge j n with h'|h'
   ·exact h'
   ·rw[List.getElem?_eq_none (by simp;omega)]at hj;cases hj
  rw[List.getElem?_take_of_lt hjn,List.getElem?_drop]at hj;simpa[World.cell?,h]using hj)
 have e:((arr.toList.drop off).take n).length=n:=by simp;omega
 rw[e]at this;exact this
theorem Sk{b off:Nat}{arr:Array Value}{t:TypeId}{fr:Nat×Nat}{v:Value}(h:w.heap[b]? =some (.cells arr t fr))(hv:arr.toList[off]? =some v):
  (load ⟨b,off,none⟩).run P w= .ok v w:=by
 have hc:w.cell? ⟨b,off,none⟩=some v:=by simpa[World.cell?,h]using hv
 simp[run_load,hc]
theorem M0{t:TypeId}{k:TK}(h:tk P t=some k): ∃d i,P.underlying t=some d/\P.info? t=some i/\
  (match k with| .sc=>iw d=false| .ints _ n=>iw d=true/\i.size=n| .agg n=>iw d=true/\i.size=n):=by
 unfold tk at h;split at h
 ·rename_i fs i h1 h2;simp only[ae]at h;subst h;exact⟨_,i,h1,h2,rfl,rfl⟩
 ·rename_i n e i h1 h2;split at h<;>simp only[ae]at h<;>subst h<;>exact⟨_,i,h1,h2,rfl,rfl⟩
 ·rename_i d i hn1 hn2 h1 h2;simp only[ae]at h;subst h;refine⟨_,i,h1,h2,?_⟩;cases d<;>simp_all[iw]
 ·cases h
theorem da.length {b:Body}{vs:List Value}(h:da ρ b vs):vs.length=b.size:=by
 cases b with
 |cells l=>exact bt.length h
 |ints k l n=>obtain⟨h1,rfl⟩:=h;simp[Body.size,h1]
 |aT l n=>obtain⟨h1,rfl⟩:=h;simp[Body.size,h1]
theorem Body.RH {b:Body}{off:Nat}{k:TK}{v:AV}(h:b.get off k=some v){vs:List Value}(hb:da ρ b vs):
  match k with
  | .sc=> ∃V,vs[off]? =some V/\bY ρ v V
  | .ints _ n| .agg n=>off+n<=vs.length/\bY ρ v (.agg ((vs.drop off).take n).toArray):=by
 have hl:=hb.length;cases b with
 |ints k' l n=>
  obtain⟨h1,rfl⟩:=hb;cases k with
  |sc=>
   simp only[Body.get]at h;split at h
   ·rename_i aA;simp only[ae]at h;subst h;refine⟨_,?_,rfl⟩;have:off<l.length:=by omega
    simp[List.getElem?_eq_getElem this,List.getD]
   ·cases h
  |ints k2 m=>
   simp only[Body.get]at h;split at h
   ·rename_i hc;simp only[ae]at h;subst h;refine⟨by simp;omega,by simp;omega,?_⟩
    simp[List.map_take,List.map_drop]
   ·cases h
  |agg m=>simp[Body.get]at h
 |aT l n=>
  obtain⟨h1,rfl⟩:=hb;cases k with
  |sc=>
   simp only[Body.get]at h;split at h
   ·rename_i aA;simp only[ae]at h;subst h;refine⟨_,?_,rfl⟩;have:off<l.length:=by omega
    simp[List.getElem?_eq_getElem this,List.getD]
   ·cases h
  |_=>simp[Body.get]at h
 |cells l=>
  cases k with
  |sc=>
   simp only[Body.get]at h;split at h
   ·rename_i c hc;simp only[ae]at h;subst h;obtain⟨V,h1,h2⟩:=bt.get hb hc;exact⟨V,h1,h2⟩
   ·cases h
  |agg m=>
   simp only[Body.get]at h;split at h
   ·rename_i hc;simp only[ae]at h;subst h;refine⟨by simp[Body.size]at hl;omega,_,(bt.drop hb off).take m,rfl⟩
   ·cases h
  |ints k m=>
   simp only[Body.get]at h;split at h
   ·rename_i hc;split at h
    ·rename_i r hr;simp only[ae]at h;subst h;obtain⟨e1,e2⟩:=nj hr ((bt.drop hb off).take m);refine⟨by simp[Body.size]at hl;omega,by simp at e2;omega,by rw[e1]⟩
    ·cases h
   ·cases h
theorem oM{b off:Nat}{arr:Array Value}{t' t:TypeId}{fr:Nat×Nat}(h:w.heap[b]? =some (.cells arr t' fr)){k:TK}(hk:tk P t=some k)
  {bd:Body} {v:AV} (hg:bd.get off k=some v) {vs tail:List Value} (ha:arr=(vs++tail).toArray) (hb:da ρ bd vs):
  ∃V,bY ρ v V/\(loadVar t ⟨b,off,none⟩).run P w= .ok V w:=by
 obtain⟨d,i,h1,h2,h3⟩:=M0 hk;have g:=Body.RH hg hb;subst ha;unfold loadVar;simp only[Sem.run_bind,n6 h1,Result.andThen_ok];cases k with
 |sc=>
  obtain⟨V,g1,g2⟩:=g;have aA:off<vs.length:=by
   rcases Nat.lt_or_ge off vs.length with h'|h'
   ·exact h'
   ·rw[List.getElem?_eq_none h']at g1;cases g1
  refine⟨V,g2,?_⟩;simp only at h3;simp only[h3,Bool.false_eq_true,if_false];exact Sk h (by simp[List.getElem?_append_left aA,g1])
 |ints k n=>
  obtain⟨g1,g2⟩:=g;obtain⟨h3,h4⟩:=h3;refine⟨_,g2,?_⟩;simp only[h3,if_true,Sem.run_bind,cZ h2,Result.andThen_ok,h4];rw[gN h n (by simp;omega)]
  simp only[Result.andThen_ok,Sem.run_pure];rw[List.drop_append_of_le_length (by omega),List.take_append_of_le_length (by simp;omega)]
 |agg n=>
  obtain⟨g1,g2⟩:=g;obtain⟨h3,h4⟩:=h3;refine⟨_,g2,?_⟩;simp only[h3,if_true,Sem.run_bind,cZ h2,Result.andThen_ok,h4];rw[gN h n (by simp;omega)]
  simp only[Result.andThen_ok,Sem.run_pure];rw[List.drop_append_of_le_length (by omega),List.take_append_of_le_length (by simp;omega)]
theorem bY.cells {v:AV}{V:Value}(h:bY ρ v V):da ρ v.body V.cells.toList/\bt ρ v.pz V.cells.toList/\V.cells.size=v.size:=by
 cases v with
 |c x=>
  have e:=CR.cells (ρ:=ρ) h;rw[e];refine⟨?_,⟨V,[],h,rfl,rfl⟩,rfl⟩;cases x<;>first
   |exact⟨V,[],h,rfl,rfl⟩
   |(simp only[bY,CR]at h;subst h;exact⟨rfl,rfl⟩)
 |agg l=>
  obtain⟨vs,h1,rfl⟩:=h;exact⟨h1,h1,by simp[Value.cells,AV.size,h1.length]⟩
 |ints k l n=>
  obtain⟨h1,rfl⟩:=h;exact⟨⟨h1,rfl⟩,bt.ints k l,by simp[Value.cells,AV.size,h1]⟩
theorem zN{t:TypeId}{v:AV}{V:Value}(h:bY ρ v V):da ρ (wK P t v) V.cells.toList:=by
 obtain⟨h1,h2,_⟩:=h.cells;unfold wK;split
 ·exact h1
 ·exact h2
 ·exact h2
 ·exact h2
theorem ja{Z:Type}(l:List Z)(off:Nat)(x:List Z)(h:off+x.length<=l.length):(aB l off x).length=l.length:=by
 simp[aB];omega
theorem bt.aB {l x:List Cell}{vs us:List Value}(h:bt ρ l vs)(g:bt ρ x us)(off:Nat):bt ρ (aB l off x) (Sx.aB vs off us):=by
 unfold Sx.aB;rw[g.length];exact((h.take off).append g).append (h.drop _)
theorem Body.bR {b b':Body}{off:Nat}{v:AV}(h:b.set off v=some b'){vs:List Value}(hb:da ρ b vs){V:Value}(hv:bY ρ v V):
  off+V.cells.toList.length<=vs.length/\da ρ b' (aB vs off V.cells.toList):=by
 have hl:=hb.length;obtain⟨c1,c2,c3⟩:=hv.cells;have c3':V.cells.toList.length=v.size:=by simpa using c3
 cases b with
 |cells l=>
  simp only[Body.set]at h;split at h
  ·rename_i hc;simp only[ae]at h;subst h;exact⟨by simp[Body.size]at hl;omega,bt.aB hb c2 off⟩
  ·cases h
 |aT l n=>
  obtain⟨h1,rfl⟩:=hb;cases v with
  |agg l'=>simp[Body.set]at h
  |ints=>simp[Body.set]at h
  |c x=>
   cases x<;>simp only[Body.set]at h<;>try(cases h;done)
   split at h
   ·rename_i hc;simp only[ae]at h;subst h;simp only[bY,CR]at hv;subst hv;refine⟨by simp[Value.cells];omega,by simp[h1],?_⟩
    simp only[Value.cells,aB,List.length_cons,List.length_nil];apply List.ext_getElem?;intro i;have aA:off<l.length:=by omega
    simp only[List.getElem?_map,List.getElem?_set,List.append_assoc,List.getElem?_append,List.length_take,List.length_map,Nat.min_eq_left (Nat.le_of_lt aA),List.getElem?_take,List.getElem?_drop];by_cases h2:i<off
    ·have:off≠i:=by omega
     simp[h2,this]
    ·by_cases h3:i=off
     ·subst h3;simp[aA]
     ·have h4:off≠i:=by omega
      have h5: ¬i - off<1:=by omega
      simp only[h2,h4,if_false,List.length_singleton,h5,Nat.zero_add];rw[show off+1+(i - off - 1)=i by omega]
   ·cases h
 |ints k l n=>
  obtain⟨h1,rfl⟩:=hb;cases v with
  |agg l'=>simp[Body.set]at h
  |c x=>
   cases x<;>simp only[Body.set]at h<;>try(cases h;done)
   rename_i k' z;split at h
   ·rename_i hc;obtain⟨rfl,hc⟩:=hc;simp only[ae]at h;subst h;simp only[bY,CR]at hv;subst hv;refine⟨by simp[Value.cells];omega,by simp[h1],?_⟩
    simp only[Value.cells,aB,List.length_cons,List.length_nil];apply List.ext_getElem?;intro i;have aA:off<l.length:=by omega
    simp only[List.getElem?_map,List.getElem?_set,List.append_assoc,List.getElem?_append,List.length_take,List.length_map,Nat.min_eq_left (Nat.le_of_lt aA),List.getElem?_take,List.getElem?_drop];by_cases h2:i<off
    ·have:off≠i:=by omega
     simp[h2,this]
    ·by_cases h3:i=off
     ·subst h3;simp[aA]
     ·have h4:off≠i:=by omega
      have h5: ¬i - off<1:=by omega
      simp only[h2,h4,if_false,List.length_singleton,h5,Nat.zero_add];rw[show off+1+(i - off - 1)=i by omega]
   ·cases h
  |ints k' x m=>
   simp only[Body.set]at h;split at h
   ·rename_i hc;obtain⟨rfl,hc⟩:=hc;simp only[ae]at h;subst h;obtain⟨h2,rfl⟩:=hv;refine⟨by simp[Value.cells];omega,?_,?_⟩
    ·rw[ja _ _ _ (by omega)];exact h1
    ·simp[Value.cells,aB,List.map_append,List.map_take,List.map_drop]
   ·cases h
theorem NU{b:Nat}{arr cs:Array Value}{t:TypeId}{fr:Nat×Nat}(h:w.heap[b]? =some (.cells arr t fr)):Jq w b (.cells cs t fr) (w.setRow b cs) where
 size:=by simp
 at_:=setRow_heap w b arr cs t fr h
 other:=fun i hi=>by simp[World.setRow,Array.getElem?_modify,Ne.symm hi]
 os:=rfl
 tape:=rfl
 al:=rfl
theorem uG{b off:Nat}{vs tail:List Value}{t:TypeId}(h:w.heap[b]? =some (.cells (vs++tail).toArray t (0,0)))(us:List Value)(hl:off+us.length<=vs.length)(h1: ∀v∈us,v.oneCell'=true):
  ∃w',(storeCells ⟨b,off,none⟩ us).run P w= .ok () w'/\Jq w b (.cells (aB vs off us++tail).toArray t (0,0)) w':=by
 refine⟨_,run_storeCells_at P b off t us 0 _ w h (by simp;omega) h1,?_⟩
 have e:(List.take (off+0) (vs++tail).toArray.toList++us++List.drop (off+0+us.length) (vs++tail).toArray.toList)=aB vs off us++tail:=by
  simp only[Nat.add_zero,aB];rw[List.take_append_of_le_length (by omega),List.drop_append_of_le_length (by omega)]
  simp
 rw[e];exact NU h
end Go.Sx
