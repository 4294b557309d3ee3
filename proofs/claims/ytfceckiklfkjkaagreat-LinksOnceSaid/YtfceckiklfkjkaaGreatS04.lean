import Derived.Test.YtfceckiklfkjkaaGreatS03
noncomputable section
namespace Go.Sx
variable{P:Program}{ρ:aM}{w:World}{hp:Hp}{nx:Nat}
def bw(P:Program)(ρ:aM)(hp:Hp)(nx:Nat)(w:World)(s:Sem Value)(r:br):Prop:=
 ∃V w' ρ',s.run P w= .ok V w'/\Out ρ hp nx w r.u r.v V ρ' w'
theorem bw.q {s:Sem Value}{v:RV}{nd:List Nat}{fz:Bool}{V:Value}(hr:bu ρ hp w)(hf:bW ρ nx)(h:s.run P w= .ok V w)(hv:bE ρ v V):bw P ρ hp nx w s ⟨v,.none,nd,fz⟩:=
 ⟨V,w,ρ,h,Out.quiet hv hr hf⟩
theorem bw.quiet {s:Sem Value}{v:AV}{r:br}{V:Value}(hr:bu ρ hp w)(hf:bW ρ nx)(h:quiet v=some r)(hs:s.run P w= .ok V w)(hv:bY ρ v V):bw P ρ hp nx w s r:=by
 simp only[Sx.quiet,ae]at h;subst h;exact bw.q hr hf hs hv
theorem qX{x:Option AV}{r:br}(h:r9 x=some r): ∃v,x=some v/\quiet v=some r:=by
 unfold r9 at h;split at h
 ·exact⟨_,rfl,h⟩
 ·cases h
theorem BJ{x:Option Cell}{r:br}(h:xr x=some r): ∃v,x=some v/\quiet (.c v)=some r:=by
 unfold xr at h;split at h
 ·exact⟨_,rfl,h⟩
 ·cases h
def dx(ρ:aM)(ev:Ev)(va:Operand->Value)(x:Operand):Prop:= ∀v,ev x=some v->bE ρ v (va x)
section ops
variable{ev:Ev}{va:Operand->Value}{r:br}(hr:bu ρ hp w)(hf:bW ρ nx)
include hr hf
theorem C5{x:Operand}(h:zJ ev x=some r)(hx:dx ρ ev va x):bw P ρ hp nx w (pure (va x)) r:=by
 unfold zJ at h;split at h
 ·rename_i v hv;simp only[ae]at h;subst h;exact bw.q hr hf rfl (hx v hv)
 ·cases h
theorem Rs{c a b:Operand}(h:vm ev c a b=some r)(hc:dx ρ ev va c)(ha:dx ρ ev va a)(hb:dx ρ ev va b):
  bw P ρ hp nx w (do pure (if <-asBool (va c)then va a else va b)) r:=by
 unfold vm at h;split at h<;>try(cases h;done)
 rename_i t ht;split at h<;>try(cases h;done)
 rename_i x hx;split at h<;>try(cases h;done)
 rename_i y hy;have h1:=hc _ ht;have h2:=ha _ hx;have h3:=hb _ hy;simp only[bE,bY,CR]at h1;unfold LO at h;split at h
 ·rename_i p q;simp only[bE,bY,CR]at h2 h3;refine bw.quiet hr hf h (V:= .bool (if t then p else q)) ?_ rfl
  rw[h1,h2,h3];cases t<;>simp[asBool]
 ·split at h
  ·simp only[ae]at h;subst h;exact bw.q hr hf (by rw[h1];simp[asBool]) h2
  ·simp only[ae]at h;subst h;exact bw.q hr hf (by rw[h1];simp[asBool]) h3
theorem Vt{x:Operand}{o:Oper}(ho:o.op= .nilCheck x)(h:MK ev x=some r)(hx:dx ρ ev va x): ∃V w' ρ',(execOp va o).run P w= .ok (.value V) w'/\Out ρ hp nx w r.u r.v V ρ' w':=by
 unfold MK at h;split at h<;>try(cases h;done)
 ·rename_i nm off hv;have h1:=hx _ hv;simp only[quiet,ae]at h;subst h;have h1':=h1;simp only[bE,bY,CR]at h1;obtain⟨b,c,e,h1⟩:=h1;exact⟨_,w,ρ,by simp only[execOp,ho,h1];rfl,Out.quiet (by rw[<-h1];exact h1') hr hf⟩
 ·rename_i f cs hv;have h1:=hx _ hv;simp only[quiet,ae]at h;subst h;have h1':=h1;simp only[bE,bY,CR]at h1;obtain⟨us,vs,e0,e,h1⟩:=h1;exact⟨_,w,ρ,by simp only[execOp,ho,h1];rfl,Out.quiet (by rw[<-h1];exact h1') hr hf⟩
theorem Tc{op:BinOp}{t:TypeId}{x y:Operand}(h:Al P ev op t x y=some r)(hx:dx ρ ev va x)(hy:dx ρ ev va y)(ox oy:Operand):
  bw P ρ hp nx w (do eqGuard op t ox oy (va x) (va y);binOp op t (va x) (va y)) r:=by
 unfold Al at h;split at h<;>try(cases h;done)
 rename_i a ha;split at h<;>try(cases h;done)
 rename_i b hb;obtain⟨v,hv,hq⟩:=qX h;obtain⟨V,h1,h2⟩:=KR (w:=w) (P:=P) op t a b v hv (hx _ ha) (hy _ hb) ox oy;exact bw.quiet hr hf hq h2 h1
theorem YG{op:UnOp}{x:Operand}(h:S5 ev op x=some r)(hx:dx ρ ev va x):bw P ρ hp nx w (Op.unary op (va x)) r:=by
 unfold S5 at h;split at h<;>try(cases h;done)
 rename_i a ha;obtain⟨v,hv,hq⟩:=qX h;obtain⟨V,h1,h2⟩:=P0 (w:=w) (P:=P) op a v hv (hx _ ha);exact bw.quiet hr hf hq h2 h1
theorem Sm{src dst:TypeId}{x:Operand}(h:py P ev src dst x=some r)(hx:dx ρ ev va x):bw P ρ hp nx w (convert src dst (va x)) r:=by
 unfold py at h;split at h<;>try(cases h;done)
 rename_i k n hv;split at h<;>try(cases h;done)
 rename_i k1 h1;split at h<;>try(cases h;done)
 rename_i k2 h2;have e:=hx _ hv;simp only[bE,bY,CR]at e;refine bw.quiet hr hf h (V:= .int k2 (k2.wrap n)) ?_ rfl;simp[convert,run_underlying h1,run_underlying h2,e,Conv.intToInt]
omit hr hf in
theorem bt.recC: ∀(ks:List IntKind) (l:aj) (j:Nat),bt ρ (recC ks l j) ((ks.zipIdx j).map fun p=>Value.int p.1 (l.getD p.2 0))
 | [],_,_=>rfl
 |k::ks,l,j=>⟨_,_,rfl,bt.recC ks l (j+1),by simp[List.zipIdx_cons]⟩
omit hr hf in
theorem X2{ks:List IntKind}{l:aj}{j:Nat}(h0:j % ks.length=0)(h1:j+ks.length<=l.length):((Wv ks l).drop j).take ks.length=(ks.zipIdx j).map fun p=>Value.int p.1 (l.getD p.2 0):=by
 apply List.ext_getElem
 ·simp[Wv];omega
 ·intro i a1 a2;have hi:i<ks.length:=by simpa using a2
  have hm:(j+i) % ks.length=i:=by
   rw[Nat.add_mod,h0,Nat.zero_add,Nat.mod_mod,Nat.mod_eq_of_lt hi]
  simp[Wv,hm,List.getD,List.getElem?_eq_getElem hi,List.getElem?_eq_getElem (show j+i<l.length by omega)]
theorem Qi{t:TypeId}{a:Operand}(h:lB P ev hp t a=some r)(hx:dx ρ ev va a):bw P ρ hp nx w (Instr.loadAt t (va a)) r:=by
 unfold lB at h;split at h<;>try(cases h;done)
 rename_i nm off hv;split at h<;>try(cases h;done)
 rename_i k hk;split at h
 ·rename_i t' ro opn b bU;split at h<;>try(cases h;done)
  rename_i v hg;simp only[ae]at h;subst h;have e:=hx _ hv;simp only[bE,bY,CR]at e;obtain⟨bl,c,e1,e2⟩:=e;unfold bn at bU;split at bU<;>try(cases bU;done)
  rename_i bI;simp only[ae,af]at bU;obtain⟨rfl,rfl,rfl,rfl⟩:=bU;obtain⟨b',c',o,g1,g2,g3⟩:=hr.ok _ _ bI;rw[e1]at g1;simp only[ae,af]at g1;obtain⟨rfl,rfl⟩:=g1;obtain⟨vs,tail,fr,rfl,q1,q2,q3⟩:=g3;obtain⟨V,p1,p2⟩:=oM (P:=P) g2 hk hg rfl q1;refine bw.q hr hf (V:=V) ?_ p1;simp[Instr.loadAt,Instr.sureAddr,e2,p2]
 ·rename_i bU;split at h<;>try(cases h;done)
  rename_i v hg;simp only[ae]at h;subst h;have e:=hx _ hv;simp only[bE,bY,CR]at e;obtain⟨bl,c,e1,e2⟩:=e;unfold Ex at hg;split at hg<;>try(cases hg;done)
  rename_i o ks l m bI;split at hg<;>try(cases hg;done)
  rename_i hp';obtain⟨p0,p1,p2,p3⟩:=hp';simp only[ae]at hg;subst hg;obtain⟨b',c',ob,g1,g2,g3⟩:=hr.ok _ _ bI;rw[e1]at g1;simp only[ae,af]at g1;obtain⟨rfl,rfl⟩:=g1;obtain⟨cs,t',fr,rfl,q1,q2⟩:=g3;obtain⟨d,ti,k1,k2,k3,k4⟩:=M0 hk;have hseg:(cs.toList.drop off).take m=(ks.zipIdx (off - o)).map fun p=>Value.int p.1 (l.getD p.2 0):=by
   rw[<-X2 p1 (by omega), <-q2,List.drop_take,List.take_take,List.drop_drop,Nat.min_eq_left (by omega),p2,show o+(off - o)=off by omega]
  have hsz:cs.toList.length=cs.size:=by simp
  refine bw.q hr hf (V:= .agg ((cs.toList.drop off).take m).toArray) ?_ ⟨_,bt.recC ks l (off - o),by rw[hseg]⟩
  have hrow2:=gN (P:=P) (t:=t') (fr:=fr) (w:=w) (b:=bl) (off:=off) (arr:=cs) g2 m (by omega)
  simp[Instr.loadAt,Instr.sureAddr,e2,loadVar,n6 k1,k3,cZ k2,k4,hrow2]
theorem KO{t:TypeId}{a:Operand}(h:jU P ev hp t a=some r)(hx:dx ρ ev va a):bw P ρ hp nx w (Instr.loadAt t (va a)) r:=by
 unfold jU at h;split at h
 ·rename_i l i hv;unfold FX at hv;split at hv<;>try(cases hv;done)
  rename_i hev;simp only[ae,af]at hv;obtain⟨rfl,rfl⟩:=hv;unfold LI at h;split at h<;>try(cases h;done)
  rename_i hk;split at h<;>try(cases h;done)
  rename_i l i _ aA;simp only[ae]at h;subst h;have e:=hx _ hev;simp only[bE,bY,CR]at e;obtain⟨bl,e1,e2⟩:=e;obtain⟨cs,t',fr,g1,g2⟩:=(hr.fz bl _ e1).1;rw[List.length_map]at g2;have hcs:cs=(l.map (Value.int .i64)++cs.toList.drop l.length).toArray:=by
   apply Array.toList_inj.1;rw[<-g2];simp
  rw[hcs]at g1;obtain⟨V,p1,p2⟩:=oM (P:=P) (b:=bl) (off:=i) (vs:=l.map (Value.int .i64)) (ρ:=ρ) (bd:= .ints .i64 l l.length) (v:= .c (.int .i64 (l.getD i 0))) g1 hk (by simp[Body.get,aA]) rfl ⟨rfl,rfl⟩
  refine bw.q hr hf (V:=V) ?_ p1;simp[Instr.loadAt,Instr.sureAddr,e2,p2]
 ·exact Qi hr hf h hx
omit hf in
theorem m6{nm:Nat}{t:TypeId}{ro:Bool}{opn:Option Nat}{b:Body}(bU:bn hp nm=some (t,ro,opn,b)):
  hp nm=some (.row t ro opn b)/\∃bl c vs tail fr,ρ nm=some (bl,c)/\w.heap[bl]? =some (.cells (vs++tail).toArray t fr)/\da ρ b vs/\(ro=false->fr=(0,0))/\tR opn c (vs++tail).length tail:=by
 unfold bn at bU;split at bU<;>try(cases bU;done)
 rename_i bI;simp only[ae,af]at bU;obtain⟨rfl,rfl,rfl,rfl⟩:=bU;obtain⟨b',c',o,g1,g2,g3⟩:=hr.ok _ _ bI;obtain⟨vs,tail,fr,rfl,q1,q2,q3⟩:=g3;exact⟨bI,b',c',vs,tail,fr,g1,g2,q1,q2,q3⟩
theorem DM{nm bl c:Nat}{t:TypeId}{opn:Option Nat}{b b':Body}{vs tail us:List Value}{off:Nat}{v:RV}{V:Value}
  (bI:hp nm=some (.row t false opn b)) (e1:ρ nm=some (bl,c)) (g2:w.heap[bl]? =some (.cells (vs++tail).toArray t (0,0)))
  (q3:tR opn c (vs++tail).length tail)
  (hl:off+us.length<=vs.length) (h1: ∀u∈us,u.oneCell'=true) (hb:da ρ b' (aB vs off us)) (hv:bE ρ v V):
  ∃w',(storeCells ⟨bl,off,none⟩ us).run P w= .ok () w'/\Out ρ hp nx w (.wr nm (.row t false opn b')) v V ρ w':=by
 obtain⟨w',k1,k2⟩:=uG (P:=P) g2 us hl h1;refine⟨w',k1,hr.jH hf bI rfl e1 (o:=_) ?_ k2 hv⟩;refine⟨_,tail,_,rfl,hb,fun _=>rfl,?_⟩
 simp only[List.length_append,ja _ _ _ hl]at q3 ⊢;exact q3
theorem KU{t:TypeId}{a x:Operand}(h:kX P ev hp t a x=some r)(ha:dx ρ ev va a)(hx:dx ρ ev va x):
  ∃w' ρ',(Instr.storeAt t (va a) (va x)).run P w= .ok () w'/\Out ρ hp nx w r.u r.v undef ρ' w':=by
 unfold kX at h;split at h<;>try(cases h;done)
 rename_i nm off hv;split at h<;>try(cases h;done)
 rename_i v hvx;split at h<;>try(cases h;done)
 rename_i ti hti;split at h<;>try(cases h;done)
 rename_i hsz;split at h<;>try(cases h;done)
 rename_i u hu;simp only[ae]at h;subst h;unfold setAt at hu;split at hu<;>try(cases hu;done)
 rename_i t' opn b bU;split at hu<;>try(cases hu;done)
 rename_i b' hset;simp only[ae]at hu;subst hu;obtain⟨bI,bl,c,vs,tail,fr,e1,g2,q1,q2,q3⟩:=m6 hr bU;have e:=ha _ hv;simp only[bE,bY,CR]at e;obtain⟨bl',c',e1',e2⟩:=e;rw[e1]at e1';simp only[ae,af]at e1';obtain⟨rfl,rfl⟩:=e1';have hX:bY ρ v (va x):=hx _ hvx;obtain⟨k1,k2⟩:=Body.bR hset q1 hX;obtain⟨c1,c2,c3⟩:=hX.cells;have:=q2 rfl;subst this;obtain⟨w',p1,p2⟩:=DM (P:=P) hr hf (v:=fc) (V:=undef) bI e1 g2 q3 k1 (c2.one) k2 ⟨[],rfl,rfl⟩;refine⟨w',ρ,?_,p2⟩;simp only[Instr.storeAt,Instr.sureAddr,e2,storeVar,Sem.run_bind,Sem.run_pure,Result.andThen_ok,cZ hti];rw[if_neg (by omega)]
 exact p1
omit hr hf in
theorem gG{t:TypeId}{z:AV}(h:iT P t=some z): ∃zv,(zeroValue t).run P w= .ok zv w/\bY ρ z zv:=by
 unfold iT at h;split at h<;>try(cases h;done)
 rename_i k hk;split at h<;>try(cases h;done)
 rename_i i hi;have key: ∀zv,i.zero=some zv->(zeroValue t).run P w= .ok zv w:=fun zv hz=>by simp[zeroValue,m7 hi,hz]
 have cs_ok: ∀(l:List Value) (m:List Cell),cellsOf l=some m->bt ρ m l:=by
  intro l
  induction l with
  |nil=>intro m hm;simp[cellsOf]at hm;subst hm;rfl
  |cons v vs ih=>
   intro m hm;simp only[cellsOf]at hm;split at hm<;>try(cases hm;done)
   rename_i c cs h1 h2;simp only[ae]at hm;subst hm;exact⟨v,vs,pU h1,ih _ h2,rfl⟩
 split at h
 ·rename_i cs hz;refine⟨_,key _ hz,?_⟩;unfold zeroOf at h;split at h<;>try(cases h;done)
  rename_i l hl;have hc:=cs_ok _ _ hl;split at h<;>try(cases h;done)
  ·split at h<;>try(cases h;done)
   rename_i l' hl';split at h<;>try(cases h;done)
   rename_i hn;simp only[ae]at h;subst h;obtain⟨e1,e2⟩:=nj hl' hc;exact⟨hn,by rw[<-e1]⟩
  ·simp only[ae]at h;subst h;exact⟨_,hc,rfl⟩
 ·rename_i zv _ hz;split at h<;>try(cases h;done)
  rename_i c hc;simp only[ae]at h;subst h;exact⟨_,key _ hz,pU hc⟩
 ·cases h
theorem pQ{t:TypeId}{b:Body}{cells:Array Value}{c:Nat}{v:RV}{V:Value}(hb:da ρ b cells.toList)(hv:bE (ext ρ nx w.heap.size c) v V):
  ∃w',(newRow t cells).run P w= .ok ⟨w.heap.size,0,none⟩ w'/\Out ρ hp nx w (.new (.row t false none b)) v V (ext ρ nx w.heap.size c) w':=by
 refine⟨{w with heap:=w.heap.push (.cells cells t)},?_,hr.pb hf (o:= .cells cells t) ?_ ⟨rfl,rfl,rfl,rfl⟩ hv⟩
 ·simp[newRow]
 ·exact⟨cells.toList,[],(0,0),by simp,hb.mono (fW hf _ _),fun _=>rfl,rfl⟩
theorem Mp{t:TypeId}(h:Bi P nx t=some r):bw P ρ hp nx w (Instr.alloc t true (.tuple #[])) r:=by
 unfold Bi at h;split at h<;>try(cases h;done)
 rename_i z hz;simp only[ae]at h;subst h;obtain⟨zv,h1,h2⟩:=gG (w:=w) hz;obtain⟨w',h3,h4⟩:=pQ (P:=P) hr hf (c:=0) (t:=t) (v:= .one (.c (.ptr nx 0))) (V:= .pointer (some ⟨w.heap.size,0,none⟩)) (zN (P:=P) (t:=t) h2) ⟨w.heap.size,0,by simp[ext],rfl⟩
 exact⟨_,w',_,by simp[Instr.alloc,h1,newVar,h3],h4⟩
theorem TQ{t:TypeId}{x:Operand}(h:NQ P ev nx t x=some r)(hx:dx ρ ev va x):bw P ρ hp nx w (Instr.box t (va x)) r:=by
 unfold NQ at h;split at h<;>try(cases h;done)
 rename_i v hv;simp only[ae]at h;subst h;have h2:bY ρ v (va x):=hx _ hv;obtain⟨w',h3,h4⟩:=pQ (P:=P) hr hf (c:=0) (t:=t) (v:= .one (.c (.ptr nx 0))) (V:= .pointer (some ⟨w.heap.size,0,none⟩)) (zN (P:=P) (t:=t) h2) ⟨w.heap.size,0,by simp[ext],rfl⟩
 exact⟨_,w',_,by simp[Instr.box,newVar,h3],h4⟩
theorem Vs{t:TypeId}{x:Operand}(h:KS P ev t x=some r)(hx:dx ρ ev va x):bw P ρ hp nx w (Instr.arrayAt t (va x)) r:=by
 unfold KS at h;split at h<;>try(cases h;done)
 rename_i c hc;split at h<;>try(cases h;done)
 rename_i n e hu;split at h<;>try(cases h;done)
 rename_i ti hti;have e:=hx _ hc;split at h<;>try(cases h;done)
 rename_i nm off len hs;split at h<;>try(cases h;done)
 rename_i aA;unfold dn at hs;split at hs<;>try(cases hs;done)
 ·simp only[ae,af]at hs;obtain⟨rfl,rfl,rfl⟩:=hs;obtain⟨b,c,e1,e2⟩:=e;refine bw.quiet hr hf h (V:= .pointer (some ⟨b,_,none⟩)) ?_ ⟨b,c,e1,rfl⟩;simp[Instr.arrayAt,run_underlying hu,e2,aA]
 ·split at hs
  rotate_left
  ·split at hs<;>cases hs
  rename_i hsz;obtain⟨hsz,hl0⟩:=hsz;subst hsz;simp only[ae,af]at hs;obtain⟨rfl,rfl,rfl⟩:=hs;obtain⟨b,c,ao,e1,e0,e3,e2⟩:=e;obtain rfl:=e3.resolve_right (by omega)
  refine bw.quiet hr hf h (V:= .pointer (some ⟨b,_,none⟩)) ?_ ⟨b,c,e1,rfl⟩;simp[Instr.arrayAt,run_underlying hu,e2,aA]
omit hr hf in
theorem Qp: ∀ {l:List Operand} {vs:List RV},lS ev l=some vs->(∀x∈l,dx ρ ev va x)->vs.length=l.length/\∀(i:Nat) (v:RV),vs[i]? =some v->∃x:Operand,l[i]? =some x/\bE ρ v (va x)
 | [],vs,h,_=>by simp[lS]at h;subst h;simp
 |x::l,vs,h,hx=>by
  simp only[lS]at h;split at h<;>try(cases h;done)
  rename_i v vs' h1 h2;simp only[ae]at h;subst h;obtain⟨e1,e2⟩:=Qp h2 fun y hy=>hx y (List.mem_cons_of_mem _ hy)
  refine⟨by simp[e1],fun i u hu=> ?_⟩
  cases i with
  |zero=>simp at hu;subst hu;exact⟨x,rfl,hx x (by simp) _ h1⟩
  |succ i=>simp at hu;simpa using e2 i u hu
theorem He{t:TypeId}{ro:Option Operand}(h:uM nx ro=some r):bw P ρ hp nx w (Instr.makeMap t (ro.map va)) r:=by
 unfold uM at h;split at h<;>try(cases h;done)
 simp only[ae]at h;subst h;refine⟨.map (some w.heap.size),{w with heap:=w.heap.push (.map #[] 0)},ext ρ nx w.heap.size 0,by simp[Instr.makeMap],hr.pb hf (o:= .map #[] 0) ?_ ⟨rfl,rfl,rfl,rfl⟩ ⟨w.heap.size,0,by simp[ext],rfl⟩⟩
 exact⟨#[],0,rfl,rfl,MapKept.stamped_empty 0⟩
omit hr hf in
theorem tS: ∀ {l:List Operand} {vs:List RV} {cs:List (Nat×Nat)},lS ev l=some vs->qz vs=some cs->(∀x∈l,dx ρ ev va x)->dF ρ cs (l.map va)
 | [],vs,cs,h,hc,_=>by simp[lS]at h;subst h;simp[qz]at hc;subst hc;rfl
 |x::l,vs,cs,h,hc,hx=>by
  simp only[lS]at h;split at h<;>try(cases h;done)
  rename_i v vs' h1 h2;simp only[ae]at h;subst h;unfold qz at hc;split at hc<;>try(cases hc;done)
  ·rename_i heq;cases heq
  ·rename_i nm off r' heq;simp only[List.cons.injEq]at heq;obtain⟨rfl,rfl⟩:=heq;split at hc<;>try(cases hc;done)
   rename_i cs' hcs;simp only[ae]at hc;subst hc;obtain⟨b,c,e1,e2⟩:=hx x (by simp) _ h1
   exact⟨b,c,_,e1,tS h2 hcs fun y hy=>hx y (List.mem_cons_of_mem _ hy),by simp[e2]⟩
theorem Q5{fn:Fn}{first dH:Array Operand}(h:GW ev fn first dH=some r)(hx0: ∀x∈first.toList,dx ρ ev va x)(hx: ∀x∈dH.toList,dx ρ ev va x):bw P ρ hp nx w (Instr.makeFunc fn (first.map va) (dH.map va)) r:=by
 unfold GW at h;split at h<;>try(cases h;done)
 rename_i f;split at h<;>try(cases h;done)
 rename_i fl hfl;split at h<;>try(cases h;done)
 rename_i fs hfs;split at h<;>try(cases h;done)
 rename_i l hl;split at h<;>try(cases h;done)
 rename_i cs hcs;refine bw.quiet hr hf h (V:= .func (.func f) (first.map va) (dH.map va)) (by simp[Instr.makeFunc]) ⟨_,_,tS hfl hfs hx0,tS hl hcs hx,?_⟩
 rw[<-Array.toList_map, <-Array.toList_map]
end ops
end Go.Sx
namespace Go.Sx
variable{P:Program}{ρ:aM}{w:World}{hp:Hp}{nx:Nat}
section ops
variable{ev:Ev}{va:Operand->Value}{r:br}(hr:bu ρ hp w)(hf:bW ρ nx)
def vo(ρ:aM)(v:Option RV)(X:Option Value):Prop:=
 match v with
 |none=>X=none
 |some v=> ∃V,X=some V/\bE ρ v V
theorem kQ{x:Option RV}{lo hi d n:Nat}(h:ga x lo hi d=some n){X:Option Value}(hx:vo ρ x X):
  (X=none/\n=d)\/∃k,X=some (.int k (n:Int))/\n<=hi:=by
 unfold ga at h;split at h
 ·simp only[ae]at h;exact .inl ⟨hx,h.symm⟩
 ·split at h
  ·split at h<;>try(cases h;done)
   rename_i hc;simp only[ae]at h;subst h;obtain⟨V,h1,h2⟩:=hx;simp only[bE,bY,CR]at h2;subst h2;exact .inr ⟨_,h1,hc.2⟩
  ·cases h
 ·cases h
theorem kY(k:IntKind)(n y:Nat)(code:BoundsCode)(h:n<=y):(Instr.sliceBound (.int k (n:Int)) y code).run P w= .ok n w:=by
 simp[Instr.sliceBound,asIntOf];intro h';omega
theorem n7(b:Bool)(len cap h l:Nat){lo hi:Option RV}{L H:Option Value}(h1:ga hi 0 cap len=some h)(h2:ga lo 0 h 0=some l)
  (hL:vo ρ lo L) (hH:vo ρ hi H):
  (Instr.sliceBounds b len cap L H none).run P w= .ok (l,h,cap) w:=by
 rcases kQ h1 hH with⟨rfl,rfl⟩|⟨k,rfl,h3⟩<;>rcases kQ h2 hL with⟨rfl,rfl⟩|⟨k',rfl,h4⟩
 ·simp[Instr.sliceBounds]
 ·simp[Instr.sliceBounds,kY _ _ _ _ h4]
 ·simp[Instr.sliceBounds,kY _ _ _ _ h3]
 ·simp[Instr.sliceBounds,kY _ _ _ _ h3,kY _ _ _ _ h4]
theorem Hz{x:Option Operand}{v:Option RV}(h:vM ev x=some v)(hx: ∀y,x=some y->dx ρ ev va y):vo ρ v (x.map va):=by
 unfold vM at h;split at h
 ·simp only[ae]at h;subst h;rfl
 ·split at h<;>try(cases h;done)
  rename_i y v' hv;simp only[ae]at h;subst h;exact⟨_,rfl,hx _ rfl _ hv⟩
theorem Z0(m l:Nat)(b off s:Nat):(if m=l then(⟨b,off,none⟩:Addr)else(⟨b,off,none⟩:Addr).add (l*s))=⟨b,if m=l then off else off+l*s,none⟩:=by
 split<;>simp[iW]
theorem vE{s nm off len cap:Nat}{c:Cell}{lo hi:Option RV}(h:fO s (.sl nm off len cap) lo hi=some c){L H:Option Value}
  (hL:vo ρ lo L) (hH:vo ρ hi H) (b:Bool) {bl cc:Nat} (e:ρ nm=some (bl,cc)):
  ∃l h,(Instr.sliceBounds b len cap L H none).run P w= .ok (l,h,cap) w/\
   CR ρ c (.slice (some (if cap=l then⟨bl,off,none⟩else(⟨bl,off,none⟩:Addr).add (l*s))) (h - l) (cap - l)):=by
 simp only[fO]at h;split at h<;>try(cases h;done)
 rename_i hh h1;split at h<;>try(cases h;done)
 rename_i l h2;simp only[ae]at h;subst h;exact⟨l,hh,n7 b len cap hh l h1 h2 hL hH,bl,cc,e,by rw[Z0]⟩
theorem Ix{x:Option RV}{hi hi' d n:Nat}(h:ga x 0 hi d=some n)(hle:hi<=hi'):ga x 0 hi' d=some n:=by
 unfold ga at h ⊢;split at h
 ·exact h
 ·split at h
  ·split at h<;>try(cases h;done)
   rename_i hc;rw[if_pos ⟨hc.1,by omega⟩];exact h
  ·cases h
 ·cases h
include hr hf
theorem Zm{t e:TypeId}{x:Cell}{X:Value}(ht:P.underlying t=some (.slice e))(hx:CR ρ x X){lo hi:Option RV}(h:ED P e x lo hi=some r){L H:Option Value}
  (hL:vo ρ lo L) (hH:vo ρ hi H):
  bw P ρ hp nx w (Instr.slice t X L H none) r:=by
 unfold ED at h;split at h<;>try(cases h;done)
 rename_i ti hti;obtain⟨c,hc,hq⟩:=BJ h;cases x with
 |sl nm off len cap=>
  obtain⟨bl,cc,e1,rfl⟩:=hx;obtain⟨l,hh,p1,p2⟩:=vE (P:=P) (w:=w) hc hL hH true e1;refine bw.quiet hr hf hq ?_ p2;simp[Instr.slice,run_underlying ht,p1,cZ hti];split<;>rfl
 |aC nm sz a len=>
  obtain⟨bl,cc,ao,e1,e2,e3,rfl⟩:=hx;simp only[fO]at hc;split at hc<;>try(cases hc;done)
  rename_i hh h1;split at hc<;>try(cases hc;done)
  rename_i l h2;split at hc<;>try(cases hc;done)
  rename_i hcond;subst hcond;simp only[ae]at hc;subst hc;have h1':=Ix h1 (show len<=cc - a by omega)
  have p1:=n7 (P:=P) (w:=w) true len (cc - a) hh l h1' h2 hL hH;have hlh:l<=hh/\hh<=len:=by
   rcases kQ h1 hH with⟨_,rfl⟩|⟨_,_,h3⟩<;>rcases kQ h2 hL with⟨_,rfl⟩|⟨_,_,h4⟩<;>omega
  by_cases hml:cc - a=l
  ·refine bw.quiet hr hf hq (V:= .slice (some ⟨bl,ao,none⟩) (hh - l) (cc - a - l)) ?_ ⟨bl,cc,ao,e1,by omega,?_,by rw[show cc - a - l=cc - (a+l)by omega]⟩
   ·simp only[Instr.slice,Sem.run_bind,run_underlying ht,Result.andThen_ok,p1,cZ hti,Sem.run_pure];rw[if_pos hml]
   ·rcases e3 with e3|e3
    ·rcases Nat.eq_zero_or_pos l with h0|h0
     ·exact .inl (by rw[h0];exact e3)
     ·exact .inr ⟨by omega,by omega⟩
    ·exact .inr ⟨by omega,by omega⟩
  ·have e4:ao=a*ti.size:=by
    rcases e3 with e3|e3
    ·exact e3
    ·omega
   subst e4;refine bw.quiet hr hf hq (V:= .slice (some ⟨bl,(a+l)*ti.size,none⟩) (hh - l) (cc - a - l)) ?_ ⟨bl,cc,_,e1,by omega,.inl rfl,by rw[show cc - a - l=cc - (a+l)by omega]⟩
   simp only[Instr.slice,Sem.run_bind,run_underlying ht,Result.andThen_ok,p1,cZ hti,Sem.run_pure];simp[hml,iW,Nat.add_mul]
 |bf=>
  simp only[CR]at hx;subst hx;simp only[fO]at hc;split at hc<;>try(cases hc;done)
  rename_i hh h1;split at hc<;>try(cases hc;done)
  rename_i l h2;simp only[ae]at hc;subst hc;have hh0:hh=0:=by rcases kQ h1 hH with⟨_,h⟩|⟨_,_,h⟩<;>omega
  have hl0:l=0:=by rcases kQ h2 hL with⟨_,h⟩|⟨_,_,h⟩<;>omega
  subst hh0 hl0;have p1:=n7 (P:=P) (w:=w) true 0 0 0 0 h1 h2 hL hH;refine bw.quiet hr hf hq (V:= .slice none 0 0) ?_ rfl;simp[Instr.slice,run_underlying ht,p1,cZ hti]
 |_=>simp[fO]at hc
omit hr hf in
theorem Cm{x:Operand}(h:isZero (ev x)=true)(hx:dx ρ ev va x): ∃k,va x= .int k 0:=by
 unfold isZero at h;split at h<;>try(cases h;done)
 rename_i k hv;exact⟨k,hx _ hv⟩
theorem MN{t:TypeId}{x:Operand}{lo hi mx:Option Operand}(h:jD P ev t x lo hi mx=some r)(hx:dx ρ ev va x)(hlo: ∀y,lo=some y->dx ρ ev va y)(hhi: ∀y,hi=some y->dx ρ ev va y)(hmx: ∀y,mx=some y->dx ρ ev va y):
  bw P ρ hp nx w (Instr.sliceAt t (va x) (lo.map va) (hi.map va) (mx.map va)) r:=by
 unfold jD at h;split at h
 ·rename_i mx;unfold st3 at h;split at h<;>try(cases h;done)
  rename_i hi';split at h<;>try(cases h;done)
  rename_i hz;split at h<;>try(cases h;done)
  rename_i c hc;split at h<;>try(cases h;done)
  rename_i e hu;split at h<;>try(cases h;done)
  rename_i ti hti;obtain⟨k1,z1⟩:=Cm hz.1 (hhi hi' rfl);obtain⟨k2,z2⟩:=Cm hz.2 (hmx mx rfl);obtain⟨c',hc',hq⟩:=BJ h;have e1:CR ρ c (va x):=hx _ hc;have hrun: ∀(A:Option Addr) (len cap:Nat),(Instr.sliceAt t (.slice A len cap) none (some (.int k1 0)) (some (.int k2 0))).run P w= .ok (.slice A 0 0) w:=fun A len cap=>by
   have b2:=kY (P:=P) (w:=w) k2 0 cap .slice3Acap (Nat.zero_le _);have b1:=kY (P:=P) (w:=w) k1 0 0 .slice3B (Nat.le_refl _);simp only[Int.natCast_zero,Int.ofNat_zero]at b1 b2;simp[Instr.sliceAt,Instr.slice,Sem.run_bind,run_underlying hu,Result.andThen_ok,Instr.sliceBounds,b1,b2,Sem.run_pure,cZ hti]
  have hout: ∀A len cap,va x= .slice A len cap->CR ρ c' (.slice A 0 0)->bw P ρ hp nx w (Instr.sliceAt t (va x) ((none:Option Operand).map va) ((some hi').map va) ((some mx).map va)) r:=fun A len cap hv hcr=>by
   rw[hv];simp only[Option.map_none,Option.map_some,z1,z2];exact bw.quiet hr hf hq (hrun A len cap) hcr
  unfold IX at hc';split at hc'
  ·cases hc';simp only[CR]at e1;exact hout _ _ _ e1 rfl
  ·cases hc';obtain⟨b,cc,g1,g2⟩:=e1;exact hout _ _ _ g2 ⟨b,cc,g1,rfl⟩
  ·split at hc'<;>try(cases hc';done)
   rename_i ha;cases hc';obtain⟨b,cc,off,g1,g2,g3,g4⟩:=e1;have hoff:off=0:=by
    subst ha;rcases g3 with g3|g3
    ·simpa using g3
    ·omega
   subst hoff;exact hout _ _ _ g4 ⟨b,cc,g1,rfl⟩
  ·cases hc'
 split at h<;>try(cases h;done)
 rename_i lo' hlo';split at h<;>try(cases h;done)
 rename_i hi' hhi';have hL:=Hz hlo' hlo;have hH:=Hz hhi' hhi;split at h<;>try(cases h;done)
 rename_i c hc;have e:CR ρ c (va x):=hx _ hc;have arr: ∀n e nm off,wy P n e nm off lo' hi'=some r->(∃bl cc,ρ nm=some (bl,cc)/\va x= .pointer (some ⟨bl,off,none⟩))->
   ∃ti l h bl,P.info? e=some ti/\(Instr.sliceBounds false n n (lo.map va) (hi.map va) none).run P w= .ok (l,h,n) w/\va x= .pointer (some ⟨bl,off,none⟩)/\
    bw P ρ hp nx w (pure (.slice (some (if n=l then⟨bl,off,none⟩else(⟨bl,off,none⟩:Addr).add (l*ti.size))) (h - l) (n - l))) r:=by
  intro n e nm off h ⟨bl,cc,e1,e2⟩;unfold wy at h;split at h<;>try(cases h;done)
  rename_i ti hti;obtain⟨c',hc',hq⟩:=BJ h;obtain⟨l,hh,p1,p2⟩:=vE (P:=P) (w:=w) hc' hL hH false e1;exact⟨ti,l,hh,bl,hti,p1,e2,bw.quiet hr hf hq rfl p2⟩
 split at h
 ·rename_i n e' hu;split at h<;>try(cases h;done)
  rename_i nm off;obtain⟨ti,l,hh,bl,h1,h2,h3,V,w',ρ',h4,h5⟩:=arr _ _ _ _ h e;refine⟨V,w',ρ',?_,h5⟩;rw[<-h4,h3];simp only[Instr.sliceAt,Sem.run_bind,run_underlying hu,Result.andThen_ok,Instr.sureAddr,Sem.run_pure,Option.map_none,h2,cZ h1]
 ·rename_i e' hu;obtain⟨V,w',ρ',h4,h5⟩:=Zm (P:=P) hr hf hu e h hL hH;refine⟨V,w',ρ',?_,h5⟩;rw[<-h4];simp[Instr.sliceAt,run_underlying hu]
 ·rename_i arr' hu;split at h<;>try(cases h;done)
  rename_i nm off;split at h<;>try(cases h;done)
  rename_i n e' hu';obtain⟨ti,l,hh,bl,h1,h2,h3,V,w',ρ',h4,h5⟩:=arr _ _ _ _ h e;refine⟨V,w',ρ',?_,h5⟩;rw[<-h4,h3];simp only[Instr.sliceAt,Instr.slice,Sem.run_bind,run_underlying hu,Result.andThen_ok,asAddr,Sem.run_pure,Option.map_none,run_underlying hu',h2,cZ h1]
 ·rename_i hu;split at h<;>try(cases h;done)
  rename_i st;unfold DP at h;split at h<;>try(cases h;done)
  rename_i hh h1;split at h<;>try(cases h;done)
  rename_i l h2;simp only[CR]at e;refine bw.quiet hr hf h (V:= .string (st.extract l hh)) ?_ rfl;have p1:=n7 (P:=P) (w:=w) false st.size st.size hh l h1 h2 hL hH;rw[e];simp only[Instr.sliceAt,Instr.slice,Sem.run_bind,run_underlying hu,Result.andThen_ok,Option.map_none,Option.isSome_none,Bool.false_eq_true,if_false,p1,Sem.run_pure]
 ·cases h
theorem AT{s:TypeId}{x:Operand}{f:Nat}(h:qu P ev s x f=some r)(hx:dx ρ ev va x):bw P ρ hp nx w (Instr.fieldAt s (va x) f) r:=by
 unfold qu at h;split at h<;>try(cases h;done)
 rename_i nm off hv;split at h<;>try(cases h;done)
 rename_i fs hu;split at h<;>try(cases h;done)
 rename_i fd hfd;split at h<;>try(cases h;done)
 rename_i ti hti;split at h<;>try(cases h;done)
 rename_i hsz;obtain⟨bl,cc,e1,e2⟩:=hx _ hv;refine bw.quiet hr hf h (V:= .pointer (some ⟨bl,off+fd.offset,none⟩)) ?_ ⟨bl,cc,e1,rfl⟩;simp[Instr.fieldAt,run_underlying hu,hfd,Instr.sureAddr,e2,fieldPlace,cZ hti,hsz,iW]
omit hr hf in
theorem ra{i:Int}{len j:Nat}(h:idx i len=some j):i=(j:Int)/\j<len:=by
 unfold idx at h;split at h
 ·split at h<;>try(cases h;done)
  rename_i hc;simp only[ae]at h;subst h;exact⟨rfl,hc⟩
 ·cases h
theorem BD{t:TypeId}{x i:Operand}(h:iY P ev t x i=some r)(hx:dx ρ ev va x)(hi:dx ρ ev va i):bw P ρ hp nx w (Instr.indexAt t (va x) (va i)) r:=by
 unfold iY at h;split at h<;>try(cases h;done)
 rename_i k z hz;have ez:=hi _ hz;simp only[bE,bY,CR]at ez;split at h<;>try(cases h;done)
 rename_i c hc;have e:CR ρ c (va x):=hx _ hc;split at h
 ·rename_i len e' hu;split at h<;>try(cases h;done)
  unfold DA at h;split at h<;>try(cases h;done)
  rename_i ti hti;split at h<;>try(cases h;done)
  rename_i j hj;obtain⟨rfl,aA⟩:=ra hj;obtain⟨bl,cc,e1,e2⟩:=e;refine bw.quiet hr hf h (V:= .pointer (some ⟨bl,_,none⟩)) ?_ ⟨bl,cc,e1,rfl⟩;simp[Instr.indexAt,ez,asIntOf,run_underlying hu,e2,Instr.sureAddr,aA,cZ hti,iW]
 ·rename_i e' hu;unfold Gx at h;split at h<;>try(cases h;done)
  rename_i ti hti;split at h
  rotate_left
  ·unfold Z6 at h;split at h<;>try(cases h;done)
   rename_i l;split at h<;>try(cases h;done)
   rename_i hsz;split at h<;>try(cases h;done)
   rename_i j hj;obtain⟨rfl,aA⟩:=ra hj;rcases e with⟨rfl,_⟩|⟨_,bl,cc,e1,e2⟩
   ·simp at aA
   ·refine bw.quiet hr hf h (V:= .pointer (some ⟨bl,j,none⟩)) ?_ ⟨bl,e1,rfl⟩;simp[Instr.indexAt,ez,asIntOf,run_underlying hu,e2,aA,cZ hti,iW,hsz]
  rename_i nm off len hs;split at h<;>try(cases h;done)
  rename_i j hj;obtain⟨rfl,aA⟩:=ra hj;unfold dn at hs;split at hs<;>try(cases hs;done)
  ·simp only[ae,af]at hs;obtain⟨rfl,rfl,rfl⟩:=hs;obtain⟨bl,cc,e1,e2⟩:=e;refine bw.quiet hr hf h (V:= .pointer (some ⟨bl,_,none⟩)) ?_ ⟨bl,cc,e1,rfl⟩;simp[Instr.indexAt,ez,asIntOf,run_underlying hu,e2,aA,cZ hti,iW]
  ·split at hs
   rotate_left
   ·split at hs<;>cases hs
   rename_i hsz;obtain⟨hsz,hl0⟩:=hsz;subst hsz;simp only[ae,af]at hs;obtain⟨rfl,rfl,rfl⟩:=hs;obtain⟨bl,cc,ao,e1,e0,e3,e2⟩:=e;obtain rfl:=e3.resolve_right (by omega)
   refine bw.quiet hr hf h (V:= .pointer (some ⟨bl,_,none⟩)) ?_ ⟨bl,cc,e1,rfl⟩;simp[Instr.indexAt,ez,asIntOf,run_underlying hu,e2,aA,cZ hti,iW]
 ·cases h
omit hr hf in
theorem NB{v:AV}{V:Value}(h:bY ρ v V):da ρ v.AQ V.cells.toList:=by
 obtain⟨h1,h2,_⟩:=h.cells;cases v with
 |c x=>exact h2
 |agg l=>exact h2
 |ints k l n=>exact h1
omit hr hf in
theorem zg{t:TypeId}{k:TK}{b:Body}{off:Nat}{v:AV}(hk:tk P t=some k)(hg:b.get off k=some v){cs:Array Value}(hb:da ρ b cs.toList): ∃V,bY ρ v V/\(part t cs off).run P w= .ok V w:=by
 obtain⟨d,i,h1,h2,h3⟩:=M0 hk;have g:=Body.RH hg hb;unfold part;simp only[Sem.run_bind,n6 h1,Result.andThen_ok];cases k with
 |sc=>
  obtain⟨V,g1,g2⟩:=g;refine⟨V,g2,?_⟩;simp only at h3;have g1':cs[off]? =some V:=by simpa using g1
  simp[h3,g1']
 |ints k n=>
  obtain⟨g1,g2⟩:=g;obtain⟨h3,h4⟩:=h3;refine⟨_,g2,?_⟩;simp only[h3,if_true,Sem.run_bind,cZ h2,Result.andThen_ok,h4,Sem.run_pure];congr 2;rw[<-Array.toArray_toList (xs:=cs),List.extract_toArray,List.extract_eq_take_drop];simp
 |agg n=>
  obtain⟨g1,g2⟩:=g;obtain⟨h3,h4⟩:=h3;refine⟨_,g2,?_⟩;simp only[h3,if_true,Sem.run_bind,cZ h2,Result.andThen_ok,h4,Sem.run_pure];congr 2;rw[<-Array.toArray_toList (xs:=cs),List.extract_toArray,List.extract_eq_take_drop];simp
omit hr hf in
theorem bY.agg {v:AV}{V:Value}(h:bY ρ v V)(hv:tA v=true): ∃cs,V= .agg cs/\V.cells=cs:=by
 cases v with
 |c x=>simp[tA]at hv
 |agg l=>obtain⟨vs,_,rfl⟩:=h;exact⟨_,rfl,rfl⟩
 |ints k l n=>obtain⟨_,rfl⟩:=h;exact⟨_,rfl,rfl⟩
end ops
end Go.Sx
