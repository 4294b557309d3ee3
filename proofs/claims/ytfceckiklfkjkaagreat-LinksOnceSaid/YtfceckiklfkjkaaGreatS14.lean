import Derived.Test.YtfceckiklfkjkaaGreatS13
noncomputable section
namespace Go.Sx
section
variable{β:Type}{Y:Type}
def lK(Z:A)(k:Y->A->Option β)(r:β)(g:Y->Prop):Prop:= ∃v α',k v α'=some r/\(α'.Sat->Z.Sat/\g v)
theorem ky{Z:A}{t:Bool}{k:Bool->A->Option β}{r:β}(h:ask Z t k=some r):lK Z k r (fun b=>t=b):=by
 unfold ask at h;obtain⟨n,orc,ob⟩:=Z;simp only at h;split at h
 ·cases t with
  |false=>exact⟨_,_,h,fun s=>⟨s,rfl⟩⟩
  |true=>exact⟨_,_,h,fun s=>⟨s,rfl⟩⟩
 ·rename_i i b rest;rw[fy]at h;cases hb:Nat.beq i n with
  |true=>
   rw[hb]at h;exact⟨_,_,h,fun s=>⟨s.2,s.1⟩⟩
  |false=>
   rw[hb]at h;cases t with
   |false=>exact⟨_,_,h,fun s=>⟨s,rfl⟩⟩
   |true=>exact⟨_,_,h,fun s=>⟨s,rfl⟩⟩
theorem dj{Z:A}{p:Prop} [Decidable p]{k:A->Option β}{r:β}(h:fE Z p k=some r): ∃α',k α'=some r/\(α'.Sat->Z.Sat/\p):=by
 unfold fE at h;obtain⟨b,α',h1,h2⟩:=ky h;cases b with
 |false=>cases h1
 |true=>exact⟨α',h1,fun s=>⟨(h2 s).1,of_decide_eq_true (h2 s).2⟩⟩
theorem gD{x:Option Y}{Z:A}{k:Y->A->Option β}{r:β}(h:fN x Z k=some r): ∃v,x=some v/\k v Z=some r:=by
 unfold fN at h;split at h<;>try(cases h;done)
 exact⟨_,rfl,h⟩
theorem fY{x:Option Y}{Z:A}{k:Y->A->Option β}{r:β}(h:fN x Z k=some r):lK Z k r (fun v=>x=some v):=by
 obtain⟨v,h1,h2⟩:=gD h;exact⟨v,Z,h2,fun s=>⟨s,h1⟩⟩
theorem JU{b:Body}{off:Nat}{t:TK}{Z:A}{k:AV->A->Option β}{r:β}(h:b.ML off t Z k=some r):lK Z k r (fun v=>b.get off t=some v):=by
 unfold Body.ML at h;split at h
 ·obtain⟨α',h1,h2⟩:=dj h;exact⟨_,α',h1,fun s=>⟨(h2 s).1,by simp only[Body.get];rw[if_pos (h2 s).2]⟩⟩
 ·split at h<;>try(cases h;done)
  rename_i hk;obtain⟨α',h1,h2⟩:=dj h;exact⟨_,α',h1,fun s=>⟨(h2 s).1,by simp only[Body.get];rw[if_pos ⟨hk,(h2 s).2⟩]⟩⟩
 ·obtain⟨α',h1,h2⟩:=dj h;exact⟨_,α',h1,fun s=>⟨(h2 s).1,by simp only[Body.get];rw[if_pos (h2 s).2]⟩⟩
 ·exact fY h
theorem Zo{b:Body}{off:Nat}{v:AV}{Z:A}{k:Body->A->Option β}{r:β}(h:b.Vc off v Z k=some r):lK Z k r (fun b'=>b.set off v=some b'):=by
 unfold Body.Vc at h;split at h
 ·split at h<;>try(cases h;done)
  rename_i hk;obtain⟨α',h1,h2⟩:=dj h;exact⟨_,α',h1,fun s=>⟨(h2 s).1,by simp only[Body.set];rw[if_pos ⟨hk,(h2 s).2⟩]⟩⟩
 ·split at h<;>try(cases h;done)
  rename_i hk;obtain⟨α',h1,h2⟩:=dj h;exact⟨_,α',h1,fun s=>⟨(h2 s).1,by simp only[Body.set];rw[if_pos ⟨hk,(h2 s).2⟩]⟩⟩
 ·obtain⟨α',h1,h2⟩:=dj h;exact⟨_,α',h1,fun s=>⟨(h2 s).1,by simp only[Body.set];rw[if_pos (h2 s).2]⟩⟩
 ·exact fY h
theorem qV{i:Int}{len:Nat}{Z:A}{k:Nat->A->Option β}{r:β}(h:yf i len Z k=some r):lK Z k r (fun j=>idx i len=some j):=by
 unfold yf at h;obtain⟨α',h1,h2⟩:=dj h;refine⟨_,α',h1,fun s=>⟨(h2 s).1,?_⟩⟩
 obtain⟨p1,p2⟩:=(h2 s).2;obtain⟨m,rfl⟩:=Int.eq_ofNat_of_zero_le p1;show(if m<len then some m else none)=_
 rw[if_pos (by omega)];rfl
abbrev gK(Z:A)(k:br->A->Option β)(r:β)(x:Option br):Prop:=lK Z k r (fun v=>x=some v)
theorem MM{P:Program}{ev:Ev}{hp:Hp}{t:TypeId}{a:Operand}{Z:A}{k:br->A->Option β}{r:β}(h:BW P ev hp t a Z k=some r):gK Z k r (lB P ev hp t a):=by
 unfold BW at h;split at h<;>try(cases h;done)
 rename_i nm off e1;split at h<;>try(cases h;done)
 rename_i kd e2;split at h
 ·rename_i b e3;obtain⟨v,α',h1,h2⟩:=JU h;exact⟨_,α',h1,fun s=>⟨(h2 s).1,by simp only[lB,e1,e2,e3,(h2 s).2]⟩⟩
 ·rename_i e3;split at h<;>try(cases h;done)
  rename_i o ks l m e4;obtain⟨α',h1,h2⟩:=dj h;exact⟨_,α',h1,fun s=>⟨(h2 s).1,by simp only[lB,e1,e2,e3,Ex,e4];rw[if_pos (h2 s).2]⟩⟩
theorem IL{P:Program}{ev:Ev}{hp:Hp}{t:TypeId}{a:Operand}{Z:A}{k:br->A->Option β}{r:β}(h:yn P ev hp t a Z k=some r):gK Z k r (jU P ev hp t a):=by
 unfold yn at h;split at h
 ·rename_i l i e1;unfold Px at h;split at h<;>try(cases h;done)
  rename_i e2;obtain⟨α',h1,h2⟩:=dj h;exact⟨_,_,h1,fun s=>⟨(h2 s).1,by simp only[jU,e1,e2,LI];rw[if_pos (h2 s).2]⟩⟩
 ·rename_i e1;obtain⟨v,α',h1,h2⟩:=MM h;exact⟨v,α',h1,fun s=>⟨(h2 s).1,by simp only[jU,e1,(h2 s).2]⟩⟩
theorem Ih{P:Program}{ev:Ev}{hp:Hp}{t:TypeId}{a x:Operand}{Z:A}{k:br->A->Option β}{r:β}(h:xw P ev hp t a x Z k=some r):gK Z k r (kX P ev hp t a x):=by
 unfold xw at h;split at h<;>try(cases h;done)
 rename_i nm off e1;split at h<;>try(cases h;done)
 rename_i v e2;split at h<;>try(cases h;done)
 rename_i ti e3;split at h<;>try(cases h;done)
 rename_i e4;split at h<;>try(cases h;done)
 rename_i ty o b e5;obtain⟨v,α',h1,h2⟩:=Zo h;exact⟨_,α',h1,fun s=>⟨(h2 s).1,by simp only[kX,e1,e2,e3,if_pos e4,setAt,e5,(h2 s).2]⟩⟩
theorem my{c:Cell}{sz:Nat}{Z:A}{k:Option (Nat×Nat×Nat)->A->Option β}{r:β}(h:kv c sz Z k=some r):lK Z k r (fun v=>dn c sz=some v):=by
 unfold kv at h;split at h
 ·obtain⟨α',h1,h2⟩:=dj h;split at h1<;>try(cases h1;done)
  rename_i e;exact⟨_,α',h1,fun s=>⟨(h2 s).1,by simp only[dn];rw[if_pos ⟨e,(h2 s).2⟩]⟩⟩
 ·exact fY h
theorem QM{P:Program}{e:TypeId}{nm off len:Nat}{i:Int}{Z:A}{k:br->A->Option β}{r:β}(h:Ge P e nm off len i Z k=some r):gK Z k r (DA P e nm off len i):=by
 unfold Ge at h;split at h<;>try(cases h;done)
 rename_i ti e1;obtain⟨v,α',h1,h2⟩:=qV h;exact⟨_,α',h1,fun s=>⟨(h2 s).1,by simp only[DA,e1,(h2 s).2,quiet]⟩⟩
theorem T8{P:Program}{e:TypeId}{x:Cell}{i:Int}{Z:A}{k:br->A->Option β}{r:β}(h:Ni P e x i Z k=some r):gK Z k r (Gx P e x i):=by
 unfold Ni at h;split at h<;>try(cases h;done)
 rename_i ti e1;split at h
 ·rename_i l e2;split at h<;>try(cases h;done)
  rename_i e3;obtain⟨j,α',h1,h2⟩:=qV h;refine⟨_,α',h1,fun s=>⟨(h2 s).1,?_⟩⟩
  unfold W8 at e2;split at e2<;>try(cases e2;done)
  simp only[ae]at e2;subst e2;simp only[Gx,e1,dn,Z6,if_pos e3,(h2 s).2,quiet]
 obtain⟨p,α',h1,h2⟩:=my h;cases p with
 |none=>cases h1
 |some p=>
 obtain⟨nm,off,len⟩:=p;obtain⟨v,α'',h3,h4⟩:=qV h1;exact⟨_,α'',h3,fun s=>⟨(h2 (h4 s).1).1,by simp only[Gx,e1,(h2 (h4 s).1).2,(h4 s).2,quiet]⟩⟩
theorem yL{P:Program}{ev:Ev}{t:TypeId}{x i:Operand}{Z:A}{k:br->A->Option β}{r:β}(h:oJ P ev t x i Z k=some r):gK Z k r (iY P ev t x i):=by
 unfold oJ at h;split at h<;>try(cases h;done)
 rename_i e1;split at h<;>try(cases h;done)
 rename_i x e2;split at h<;>try(cases h;done)
 ·rename_i len e e3;split at h<;>try(cases h;done)
  obtain⟨v,α',h1,h2⟩:=QM h;exact⟨_,α',h1,fun s=>⟨(h2 s).1,by simp only[iY,e1,e2,e3,(h2 s).2]⟩⟩
 ·rename_i e e3;obtain⟨v,α',h1,h2⟩:=T8 h;exact⟨_,α',h1,fun s=>⟨(h2 s).1,by simp only[iY,e1,e2,e3,(h2 s).2]⟩⟩
theorem Pv{st:ByteArray}{i:Int}{Z:A}{k:br->A->Option β}{r:β}(h:Hn st i Z k=some r):gK Z k r (DD (.c (.str st)) i):=by
 unfold Hn at h;obtain⟨j,α',h1,h2⟩:=qV h;refine⟨_,_,h1,fun s=>⟨(h2 s).1,?_⟩⟩
 have hj:=(h2 s).2;have aA:=(ra hj).2;have e:st[j]? =some (FE st j):=by
  unfold FE;rw[getElem?_pos st j aA]
 simp only[DD,hj,e,quiet]
theorem Is{P:Program}{ev:Ev}{t:TypeId}{x i:Operand}{Z:A}{k:br->A->Option β}{r:β}(h:yk P ev t x i Z k=some r):gK Z k r (oh P ev t x i):=by
 unfold yk at h;split at h<;>try(cases h;done)
 rename_i e1;split at h<;>try(cases h;done)
 rename_i x e2;split at h<;>try(cases h;done)
 rotate_left
 ·rename_i e3;split at h<;>try(cases h;done)
  obtain⟨v,α',h1,h2⟩:=Pv h;exact⟨_,α',h1,fun s=>⟨(h2 s).1,by simp only[oh,e1,e2,e3,(h2 s).2]⟩⟩
 rename_i len e e3;split at h<;>try(cases h;done)
 rename_i ti e4;split at h<;>try(cases h;done)
 rename_i kd e5;split at h<;>try(cases h;done)
 rename_i e6;obtain⟨j,α',h1,h2⟩:=qV h;obtain⟨v,α'',h3,h4⟩:=JU h1;exact⟨_,α'',h3,fun s=>⟨(h2 (h4 s).1).1,by simp only[oh,e1,e2,e3,e4,e5,(h2 (h4 s).1).2,if_pos e6,(h4 s).2,r9,quiet]⟩⟩
theorem KE{op:BinOp}{kd:IntKind}{a b:Int}{Z:A}{k:Cell->A->Option β}{r:β}(h:BH op kd a b Z k=some r):lK Z k r (fun c=>pa op kd a b=some c):=by
 unfold BH at h;split at h
 ·obtain⟨α',h1,h2⟩:=dj h;exact⟨_,α',h1,fun s=>⟨(h2 s).1,by simp only[pa,if_neg (h2 s).2]⟩⟩
 ·obtain⟨α',h1,h2⟩:=dj h;exact⟨_,α',h1,fun s=>⟨(h2 s).1,by simp only[pa,if_neg (h2 s).2]⟩⟩
 ·exact fY h
theorem Gp{op:BinOp}{kd:IntKind}{a b:Int}{Z:A}{k:AV->A->Option β}{r:β}(h:vA op kd a b Z k=some r):lK Z k r (fun c=>oH op kd a b=some c):=by
 unfold vA at h;split at h
 ·obtain⟨α',h1,h2⟩:=dj h;exact⟨_,α',h1,fun s=>⟨(h2 s).1,by simp only[oH,if_neg (h2 s).2]⟩⟩
 ·obtain⟨α',h1,h2⟩:=dj h;exact⟨_,α',h1,fun s=>⟨(h2 s).1,by simp only[oH,if_neg (h2 s).2]⟩⟩
 ·cases h
theorem LM{op:BinOp}{kd:IntKind}{a:Int}{k':IntKind}{b:Int}{Z:A}{k:AV->A->Option β}{r:β}(h:Bp op kd a k' b Z k=some r):lK Z k r (fun c=>qD op kd a k' b=some c):=by
 unfold Bp at h;split at h
 ·rename_i e;obtain⟨v,α',h1,h2⟩:=Gp h;exact⟨_,α',h1,fun s=>⟨(h2 s).1,by simp only[qD,e,(h2 s).2]⟩⟩
 ·rename_i e;split at h<;>try(cases h;done)
  rename_i hk;obtain⟨v,α',h1,h2⟩:=KE h;exact⟨_,α',h1,fun s=>⟨(h2 s).1,by simp only[qD,e,if_pos hk,(h2 s).2]⟩⟩
theorem KW{P:Program}{op:BinOp}{t:TypeId}{x y:AV}{Z:A}{k:AV->A->Option β}{r:β}(h:AW P op t x y Z k=some r):lK Z k r (fun c=>rq P op t x y=some c):=by
 unfold AW at h;split at h
 ·obtain⟨v,α',h1,h2⟩:=LM h;exact⟨_,α',h1,fun s=>⟨(h2 s).1,by simp only[rq,(h2 s).2]⟩⟩
 ·exact fY h
theorem Pq{P:Program}{ev:Ev}{op:BinOp}{t:TypeId}{x y:Operand}{Z:A}{k:br->A->Option β}{r:β}(h:DU P ev op t x y Z k=some r):gK Z k r (Al P ev op t x y):=by
 unfold DU at h;split at h<;>try(cases h;done)
 rename_i e1;split at h<;>try(cases h;done)
 rename_i e2;obtain⟨v,α',h1,h2⟩:=KW h;exact⟨_,α',h1,fun s=>⟨(h2 s).1,by simp only[Al,e1,e2,(h2 s).2,r9,quiet]⟩⟩
theorem qq{kc:Cell}{r:β}{k:Option (Nat×AV)->A->Option β}: ∀ {es:List (Cell×AV)} {i:Nat} {Z:A},oP kc es i Z k=some r->lK Z k r (fun v=>findKey kc es i=some v)
 | [],i,Z,h=>⟨_,_,h,fun s=>⟨s,rfl⟩⟩
 |(c,v)::es,i,Z,h=>by
  unfold oP at h;split at h<;>try(cases h;done)
  rename_i t e1;obtain⟨b,α',h1,h2⟩:=ky h;cases b with
  |false=>
   obtain⟨v',α'',h3,h4⟩:=qq h1;exact⟨_,_,h3,fun s=>⟨(h2 (h4 s).1).1,by simp only[findKey,e1,(h2 (h4 s).1).2,(h4 s).2]⟩⟩
  |true=>exact⟨_,_,h1,fun s=>⟨(h2 s).1,by simp only[findKey,e1,(h2 s).2]⟩⟩
theorem aey{vk:Option IntKind}{z:AV}(h:zI vk z=true):z= .c (pG vk 0):=by
 unfold zI at h;split at h
 ·simp only[Bool.and_eq_true,decide_eq_true_eq]at h;obtain⟨rfl,rfl⟩:=h;rfl
 ·simp only[Bool.not_eq_true']at h;subst h;rfl
 ·cases h
theorem PU{l:ak}{k:Int}(h:sG l k=false):bp l k=0:=by
 induction l with
 |nil=>rfl
 |cons p r ih=>
  obtain⟨a,b⟩:=p;simp only[sG,bp]at h ⊢;by_cases e:a=k
  ·rw[if_pos e]at h;cases h
  ·rw[if_neg e]at h ⊢;exact ih h
theorem Cw{hp:Hp}{m:Cell}{x:List (Cell×AV)×List Nat}(h:kC hp m=some x):kq hp m=none:=by
 unfold kC at h;unfold kq;split at h<;>try(cases h;done)
 ·rfl
 ·split at h<;>try(cases h;done)
  all_goals
   rename_i e;simp only[e]
theorem EV{P:Program}{ev:Ev}{hp:Hp}{t:TypeId}{m kx:Operand}{ok:Bool}{Z:A}{k:br->A->Option β}{r:β}(h:tI P ev hp t m kx ok Z k=some r):gK Z k r (gT P ev hp t m kx ok):=by
 unfold tI at h;split at h<;>try(cases h;done)
 rename_i kt e e1;split at h<;>try(cases h;done)
 rename_i m' e2;split at h<;>try(cases h;done)
 rename_i kc e3;split at h<;>try(cases h;done)
 rename_i z e4;split at h
 ·rename_i nm v t e5;split at h<;>try(cases h;done)
  rename_i e6;exact⟨_,_,h,fun s=>⟨s,by simp only[gT,e1,e2,e3,e4,e5,if_pos e6]⟩⟩
 rename_i e5v;split at h
 ·rename_i nm vk l e5;split at h<;>try(cases h;done)
  rename_i kn;split at h<;>try(cases h;done)
  rename_i e6;have e7:kC hp m'=some (gq vk l,[nm]):=by
   unfold OJ at e5;split at e5<;>try(cases e5;done)
   split at e5<;>try(cases e5;done)
   rename_i e8;cases e5;simp only[kC,e8]
  refine⟨_,_,h,fun s=>⟨s,?_⟩⟩
  simp only[gT,e1,e2,e3,e4,e5v,Cw e7,e7,if_pos e6.2,vu];cases hh:sG l kn with
  |true=>simp only[if_true,kT]
  |false=>
   simp only[Bool.false_eq_true,if_false,kT];rw[PU hh, <-aey e6.1]
 ·split at h<;>try(cases h;done)
  rename_i es nd e5;split at h<;>try(cases h;done)
  rename_i e6;obtain⟨v,α',h1,h2⟩:=qq h;obtain⟨v',h3,h4⟩:=gD h1;exact⟨_,_,h4,fun s=>⟨(h2 s).1,by simp only[gT,e1,e2,e3,e4,e5v,Cw e5,e5,if_pos e6,(h2 s).2,h3]⟩⟩
theorem qd{P:Program}{ev:Ev}{hp:Hp}{t:TypeId}{m kx x:Operand}{Z:A}{k:br->A->Option β}{r:β}(h:ln P ev hp t m kx x Z k=some r):gK Z k r (eB P ev hp t m kx x):=by
 unfold ln at h;split at h<;>try(cases h;done)
 rename_i nm e2;split at h<;>try(cases h;done)
 rename_i kc e3;split at h<;>try(cases h;done)
 rename_i v e4;split at h<;>try(cases h;done)
 ·rename_i es e5;split at h<;>try(cases h;done)
  rename_i e6;obtain⟨v,α',h1,h2⟩:=qq h;obtain⟨v',h3,h4⟩:=gD h1;exact⟨_,_,h4,fun s=>⟨(h2 s).1,by simp only[eB,e2,e3,e4,e5,if_pos e6,(h2 s).2,h3]⟩⟩
 ·rename_i vk l e5;split at h<;>try(cases h;done)
  rename_i e6;obtain⟨v',h3,h4⟩:=gD h;exact⟨_,_,h4,fun s=>⟨s,by simp only[eB,e2,e3,e4,e5,if_pos e6,h3]⟩⟩
 ·rename_i l e5;split at h<;>try(cases h;done)
  rename_i e6;obtain⟨v',h3,h4⟩:=gD h;exact⟨_,_,h4,fun s=>⟨s,by simp only[eB,e2,e3,e4,e5,if_pos e6,h3]⟩⟩
 ·rename_i l e5;split at h<;>try(cases h;done)
  rename_i e6;obtain⟨v',h3,h4⟩:=gD h;exact⟨_,_,h4,fun s=>⟨s,by simp only[eB,e2,e3,e4,e5,if_pos e6,h3]⟩⟩
theorem jG{x:Option RV}{lo hi d:Nat}{Z:A}{k:Nat->A->Option β}{r:β}(h:kZ x lo hi d Z k=some r):lK Z k r (fun v=>ga x lo hi d=some v):=by
 unfold kZ at h;split at h
 ·exact⟨_,_,h,fun s=>⟨s,rfl⟩⟩
 ·rename_i kd i;obtain⟨α',h1,h2⟩:=dj h;refine⟨_,_,h1,fun s=>⟨(h2 s).1,?_⟩⟩
  obtain⟨p1,p2⟩:=(h2 s).2;obtain⟨m,rfl⟩:=Int.eq_ofNat_of_zero_le (show 0<=i by omega)
  show(if lo<=m/\m<=hi then some m else none)=_
  rw[if_pos (by omega)];rfl
 ·cases h
theorem tw{sz:Nat}{x:Cell}{lo hi:Option RV}{Z:A}{k:Cell->A->Option β}{r:β}(h:nW sz x lo hi Z k=some r):lK Z k r (fun v=>fO sz x lo hi=some v):=by
 unfold nW at h;split at h
 ·obtain⟨v,α',h1,h2⟩:=jG h;obtain⟨u,α'',h3,h4⟩:=jG h1;exact⟨_,_,h3,fun s=>⟨(h2 (h4 s).1).1,by simp only[fO,(h2 (h4 s).1).2,(h4 s).2]⟩⟩
 ·obtain⟨v,α',h1,h2⟩:=jG h;obtain⟨u,α'',h3,h4⟩:=jG h1;split at h3<;>try(cases h3;done)
  rename_i e;exact⟨_,_,h3,fun s=>⟨(h2 (h4 s).1).1,by simp only[fO,(h2 (h4 s).1).2,(h4 s).2,if_pos e]⟩⟩
 ·exact fY h
theorem CJ{P:Program}{n:Nat}{e:TypeId}{nm off:Nat}{lo hi:Option RV}{Z:A}{k:br->A->Option β}{r:β}(h:zq P n e nm off lo hi Z k=some r):gK Z k r (wy P n e nm off lo hi):=by
 unfold zq at h;split at h<;>try(cases h;done)
 rename_i ti e1;obtain⟨v,α',h1,h2⟩:=tw h;exact⟨_,α',h1,fun s=>⟨(h2 s).1,by simp only[wy,e1,(h2 s).2,xr,quiet]⟩⟩
theorem Va{P:Program}{e:TypeId}{x:Cell}{lo hi:Option RV}{Z:A}{k:br->A->Option β}{r:β}(h:KK P e x lo hi Z k=some r):gK Z k r (ED P e x lo hi):=by
 unfold KK at h;split at h<;>try(cases h;done)
 rename_i ti e1;obtain⟨v,α',h1,h2⟩:=tw h;exact⟨_,α',h1,fun s=>⟨(h2 s).1,by simp only[ED,e1,(h2 s).2,xr,quiet]⟩⟩
theorem PC{st:ByteArray}{lo hi:Option RV}{Z:A}{k:br->A->Option β}{r:β}(h:HG st lo hi Z k=some r):gK Z k r (DP st lo hi):=by
 unfold HG at h;obtain⟨v,α',h1,h2⟩:=jG h;obtain⟨u,α'',h3,h4⟩:=jG h1;exact⟨_,_,h3,fun s=>⟨(h2 (h4 s).1).1,by simp only[DP,(h2 (h4 s).1).2,(h4 s).2,quiet]⟩⟩
theorem NI{ev:Ev}{hp:Hp}{x:Operand}{b:Bool}{Z:A}{k:br->A->Option β}{r:β}(h:BO ev hp x b Z k=some r):gK Z k r (lM ev hp x b):=by
 unfold BO at h;split at h<;>try(cases h;done)
 rename_i e1;split at h<;>try(cases h;done)
 rename_i e2;obtain⟨t,α',h1,h2⟩:=ky h;cases t with
 |false=>exact⟨_,_,h1,fun s=>⟨(h2 s).1,by simp only[lM,e1,e2,(h2 s).2]⟩⟩
 |true=>exact⟨_,_,h1,fun s=>⟨(h2 s).1,by simp only[lM,e1,e2,(h2 s).2]⟩⟩
theorem Ig{P:Program}{ev:Ev}{t:TypeId}{x:Operand}{lo hi mx:Option Operand}{Z:A}{k:br->A->Option β}{r:β}(h:yv P ev t x lo hi mx Z k=some r):gK Z k r (jD P ev t x lo hi mx):=by
 unfold yv at h;split at h
 ·rename_i mx;obtain⟨v,h1,h2⟩:=gD h;exact⟨_,_,h2,fun s=>⟨s,by simp only[jD,h1]⟩⟩
 split at h<;>try(cases h;done)
 rename_i e1;split at h<;>try(cases h;done)
 rename_i e2;split at h<;>try(cases h;done)
 rename_i x e3;split at h<;>try(cases h;done)
 ·rename_i len e e4;split at h<;>try(cases h;done)
  obtain⟨v,α',h1,h2⟩:=CJ h;exact⟨_,α',h1,fun s=>⟨(h2 s).1,by simp only[jD,e1,e2,e3,e4,(h2 s).2]⟩⟩
 ·rename_i e e4;obtain⟨v,α',h1,h2⟩:=Va h;exact⟨_,α',h1,fun s=>⟨(h2 s).1,by simp only[jD,e1,e2,e3,e4,(h2 s).2]⟩⟩
 ·rename_i arr e4;split at h<;>try(cases h;done)
  split at h<;>try(cases h;done)
  rename_i e5;obtain⟨v,α',h1,h2⟩:=CJ h;exact⟨_,α',h1,fun s=>⟨(h2 s).1,by simp only[jD,e1,e2,e3,e4,e5,(h2 s).2]⟩⟩
 ·rename_i e4;split at h<;>try(cases h;done)
  obtain⟨v,α',h1,h2⟩:=PC h;exact⟨_,α',h1,fun s=>⟨(h2 s).1,by simp only[jD,e1,e2,e3,e4,(h2 s).2]⟩⟩
theorem z7{P:Program}{ev:Ev}{nx:Nat}{t:TypeId}{l c:Operand}{Z:A}{k:br->A->Option β}{r:β}(h:pF P ev nx t l c Z k=some r):gK Z k r (kr P ev nx t l c):=by
 unfold pF at h;split at h<;>try(cases h;done)
 rename_i e e1;split at h<;>try(cases h;done)
 rename_i n e2;split at h<;>try(cases h;done)
 rename_i m e3;split at h<;>try(cases h;done)
 rename_i z e4;split at h<;>try(cases h;done)
 rename_i ti e5;obtain⟨α',h1,h2⟩:=dj h;split at h1<;>try(cases h1;done)
 rename_i e6;refine⟨_,α',h1,fun s=>⟨(h2 s).1,?_⟩⟩
 obtain⟨p1,p2,p3,p4⟩:=(h2 s).2;subst p2;obtain⟨m,rfl⟩:=Int.eq_ofNat_of_zero_le p1;simp only[Int.toNat_natCast]at p3 p4;simp only[kr,e1,e2,e3,e4,e5];rw[show((m:Nat):Int)=Int.ofNat m from rfl]
 rw[if_pos ⟨Nat.le_refl _,p3,p4,e6⟩]
 rfl
theorem Ba{b:Body}{off n:Nat}{Z:A}{k:Body->A->Option β}{r:β}(h:b.Fz off n Z k=some r):lK Z k r (fun v=>b.cut off n=some v):=by
 unfold Body.Fz at h;split at h
 ·obtain⟨α',h1,h2⟩:=dj h;exact⟨_,α',h1,fun s=>⟨(h2 s).1,by simp only[Body.cut];rw[if_pos (h2 s).2]⟩⟩
 ·obtain⟨α',h1,h2⟩:=dj h;exact⟨_,α',h1,fun s=>⟨(h2 s).1,by simp only[Body.cut];rw[if_pos (h2 s).2]⟩⟩
 ·exact fY h
theorem Yb{b:Body}{off:Nat}{x:Body}{Z:A}{k:Body->A->Option β}{r:β}(h:b.S7 off x Z k=some r):lK Z k r (fun v=>b.put off x=some v):=by
 unfold Body.S7 at h;split at h
 ·split at h<;>try(cases h;done)
  rename_i hk;obtain⟨α',h1,h2⟩:=dj h;exact⟨_,α',h1,fun s=>⟨(h2 s).1,by simp only[Body.put];rw[if_pos ⟨hk,(h2 s).2⟩]⟩⟩
 ·exact fY h
theorem EL{hp:Nat->Option ax}{nm off n:Nat}{Z:A}{k:Body->A->Option β}{r:β}(h:uP hp nm off n Z k=some r):lK Z k r (fun v=>iJ hp nm off n=some v):=by
 unfold uP at h;split at h<;>try(cases h;done)
 ·rename_i e;obtain⟨v,α',h1,h2⟩:=Ba h;exact⟨_,_,h1,fun s=>⟨(h2 s).1,by simp only[iJ,e,(h2 s).2]⟩⟩
 ·rename_i e;obtain⟨α',h1,h2⟩:=dj h;exact⟨_,_,h1,fun s=>⟨(h2 s).1,by simp only[iJ,e];rw[if_pos (h2 s).2]⟩⟩
theorem qn{hp:Nat->Option ax}{sz:Nat}{n:Option Nat}{x:Cell}{Z:A}{k:Option Nat×Nat×Option Body->A->Option β}{r:β}(h:oL hp sz n x Z k=some r):lK Z k r (fun v=>fB hp sz n x=some v):=by
 unfold oL at h;split at h
 ·exact fY h
 ·rename_i hns;obtain⟨p,α',h1,h2⟩:=my h;have hsb:fB hp sz n x=(match dn x sz with
   |some none=>some (none,0,none)
   |some (some (nm,off,len))=>match iJ hp nm off (eQ n len*sz)with
    |some b=>some (some nm,eQ n len,some b)
    |none=>none
   |none=>none):=by
   cases x<;>first|rfl|exact absurd rfl (hns _)
  cases p with
  |none=>exact⟨_,_,h1,fun s=>⟨(h2 s).1,by rw[hsb];simp only[(h2 s).2]⟩⟩
  |some p=>
   obtain⟨nm,off,len⟩:=p;simp only at h1;obtain⟨v,α'',h3,h4⟩:=EL h1;exact⟨_,_,h3,fun s=>⟨(h2 (h4 s).1).1,by rw[hsb];simp only[(h2 (h4 s).1).2,(h4 s).2]⟩⟩
theorem MA{hp:Nat->Option ax}{nm off:Nat}{sb:Option Nat×Nat×Option Body}{Z:A}{k:br->A->Option β}{r:β}(h:AI hp nm off sb Z k=some r):gK Z k r (uB hp nm off (some sb)):=by
 unfold AI at h;obtain⟨fr,n,x⟩:=sb;obtain⟨b,α',h1,h2⟩:=ky h;cases b with
 |true=>
  refine⟨_,_,h1,fun s=>⟨(h2 s).1,?_⟩⟩
  have:n=0:=Nat.eq_of_beq_eq_true (h2 s).2;subst this
  rfl
 |false=>
  simp only at h1;split at h1<;>try(cases h1;done)
  rename_i x e1;split at h1<;>try(cases h1;done)
  rename_i t o b e2;obtain⟨v,α'',h3,h4⟩:=Yb h1;refine⟨_,_,h3,fun s=>⟨(h2 (h4 s).1).1,?_⟩⟩
  have hn:Nat.beq n 0=false:=(h2 (h4 s).1).2;cases n with
  |zero=>cases hn
  |succ m=>simp only[uB,e2,(h4 s).2]
theorem IK{P:Program}{hp:Nat->Option ax}{ts:Array TypeId}{d sv:RV}{Z:A}{k:br->A->Option β}{r:β}(h:yb P hp ts d sv Z k=some r):gK Z k r (jX P hp ts d sv):=by
 unfold yb at h;split at h<;>try(cases h;done)
 rename_i dt d sv e0;split at h<;>try(cases h;done)
 rename_i e e1;split at h<;>try(cases h;done)
 rename_i ti e2;obtain⟨p,α',h1,h2⟩:=my h;cases p with
 |none=>
  obtain⟨v,h3,h4⟩:=gD h1;exact⟨_,_,h4,fun s=>⟨(h2 s).1,h3⟩⟩
 |some p=>
  obtain⟨nm,off,len⟩:=p;obtain⟨sb,α'',h3,h4⟩:=qn h1;obtain⟨v,α3,h5,h6⟩:=MA h3;exact⟨_,_,h5,fun s=>⟨(h2 (h4 (h6 s).1).1).1,by simp only[jX,e0,e1,e2,(h2 (h4 (h6 s).1).1).2,(h4 (h6 s).1).2,(h6 s).2]⟩⟩
theorem Lj{e:TypeId}{ti:TypeInfo}{hp:Nat->Option ax}{nx nm sz a len:Nat}{fr:Option Nat}{n:Nat}{x:Option Body}{Z:A}{k:br->A->Option β}{r:β}(h:AB e ti hp nx nm sz a len fr n x Z k=some r):
  gK Z k r (oE e ti hp nx nm sz a len fr n x):=by
 unfold AB at h;obtain⟨b,α',h1,h2⟩:=ky h;cases b with
 |true=>
  refine⟨_,_,h1,fun s=>⟨(h2 s).1,?_⟩⟩
  have:n=0:=Nat.eq_of_beq_eq_true (h2 s).2;subst this
  rfl
 |false=>
  obtain⟨α2,h3,h4⟩:=dj h1;split at h3<;>try(cases h3;done)
  rename_i e1;split at h3<;>try(cases h3;done)
  rename_i t sz' b e2;split at h3<;>try(cases h3;done)
  rename_i e3;obtain⟨v,α3,h5,h6⟩:=Ba h3;obtain⟨u,h7,h8⟩:=gD h5;refine⟨_,_,h8,fun s=>⟨(h2 (h4 (h6 s).1).1).1,?_⟩⟩
  have hn:Nat.beq n 0=false:=(h2 (h4 (h6 s).1).1).2;cases n with
  |zero=>cases hn
  |succ m=>
   simp only[oE];rw[if_pos ⟨e1.1,e1.2,(h4 (h6 s).1).2⟩];simp only[e2];rw[if_pos e3,(h6 s).2];exact h7
theorem Py{e:TypeId}{ti:TypeInfo}{hp:Nat->Option ax}{nx nm off len cap:Nat}{fr:Option Nat}{n:Nat}{x:Option Body}{Z:A}{k:br->A->Option β}{r:β}(h:Fl e ti hp nx nm off len cap fr n x Z k=some r):
  gK Z k r (oa e ti hp nx nm off len cap fr n x):=by
 unfold Fl at h;obtain⟨b,α',h1,h2⟩:=ky h;cases b with
 |true=>
  obtain⟨α2,h3,h4⟩:=dj h1;refine⟨_,_,h3,fun s=>⟨(h2 (h4 s).1).1,?_⟩⟩
  have:n=0:=Nat.eq_of_beq_eq_true (h2 (h4 s).1).2;subst this;simp only[oa];rw[if_pos (h4 s).2]
 |false=>
  obtain⟨α2,h3,h4⟩:=dj h1;split at h3<;>try(cases h3;done)
  rename_i e1;obtain⟨v,α3,h5,h6⟩:=Ba h3;obtain⟨u,h7,h8⟩:=gD h5;refine⟨_,_,h8,fun s=>⟨(h2 (h4 (h6 s).1).1).1,?_⟩⟩
  have hn:Nat.beq n 0=false:=(h2 (h4 (h6 s).1).1).2;cases n with
  |zero=>cases hn
  |succ m=>
   simp only[oa];rw[if_pos (h4 (h6 s).1).2];unfold oK;simp only[e1,(h6 s).2];exact h7
theorem LB{e:TypeId}{ti:TypeInfo}{nx:Nat}{fr:Option Nat}{n:Nat}{x:Option Body}{Z:A}{k:br->A->Option β}{r:β}(h:Bu e ti nx fr n x Z k=some r):
  gK Z k r (uf e ti nx fr n x):=by
 unfold Bu at h;obtain⟨b,α',h1,h2⟩:=ky h;cases b with
 |true=>
  refine⟨_,_,h1,fun s=>⟨(h2 s).1,?_⟩⟩
  have:n=0:=Nat.eq_of_beq_eq_true (h2 s).2;subst this
  rfl
 |false=>
  obtain⟨α2,h3,h4⟩:=dj h1;split at h3<;>try(cases h3;done)
  refine⟨_,_,h3,fun s=>⟨(h2 (h4 s).1).1,?_⟩⟩
  have hn:Nat.beq n 0=false:=(h2 (h4 s).1).2;cases n with
  |zero=>cases hn
  |succ m=>
   simp only[uf];rw[if_pos (h4 s).2]
theorem P4{e:TypeId}{ti:TypeInfo}{hp:Nat->Option ax}{nx:Nat}{d:Cell}{sb:Option Nat×Nat×Option Body}{Z:A}{k:br->A->Option β}{r:β}(h:Fc e ti hp nx d sb Z k=some r):
  gK Z k r (Ao e ti hp nx d (some sb)):=by
 unfold Fc at h;split at h
 ·exact LB h
 ·exact Lj h
 ·exact Py h
 ·exact fY h
theorem Dj{P:Program}{hp:Nat->Option ax}{nx:Nat}{ts:Array TypeId}{d sv:RV}{Z:A}{k:br->A->Option β}{r:β}(h:rO P hp nx ts d sv Z k=some r):gK Z k r (im P hp nx ts d sv):=by
 unfold rO at h;split at h<;>try(cases h;done)
 rename_i dt d sv e0;split at h<;>try(cases h;done)
 rename_i e e1;split at h<;>try(cases h;done)
 rename_i ti e2;split at h<;>try(cases h;done)
 rename_i z e3;split at h<;>try(cases h;done)
 rename_i e4;obtain⟨sb,α',h1,h2⟩:=qn h;obtain⟨v,α'',h3,h4⟩:=P4 h1;exact⟨_,_,h3,fun s=>⟨(h2 (h4 s).1).1,by simp only[im,e0,e1,e2,e3,if_pos e4,(h2 (h4 s).1).2,(h4 s).2]⟩⟩
theorem KQ{P:Program}{ev:Ev}{hp:Hp}{nx:Nat}{c:Call}{Z:A}{k:br->A->Option β}{r:β}(h:Bh P ev hp nx c Z k=some r):gK Z k r (kj P ev hp nx c):=by
 unfold Bh at h;split at h<;>try(cases h;done)
 rename_i b e0;split at h<;>try(cases h;done)
 rename_i l e1;split at h
 ·obtain⟨v,α',h1,h2⟩:=IK h;exact⟨_,_,h1,fun s=>⟨(h2 s).1,by simp only[kj,e0,e1,ir,(h2 s).2]⟩⟩
 ·obtain⟨v,α',h1,h2⟩:=Dj h;exact⟨_,_,h1,fun s=>⟨(h2 s).1,by simp only[kj,e0,e1,ir,(h2 s).2]⟩⟩
 ·obtain⟨v,h1,h2⟩:=gD h;exact⟨_,_,h2,fun s=>⟨s,by simp only[kj,e0,e1,h1]⟩⟩
theorem Kx{hp:Hp}{x:Cell}{Z:A}{k:br->A->Option β}{r:β}(h:Mq hp x Z k=some r):gK Z k r (match lF hp x with
  |some (s,nd)=>some ⟨.one (.c (.str s)),.none,nd,true⟩
  |none=>none):=by
 unfold Mq at h;obtain⟨sb,α',h1,h2⟩:=qn h;dsimp only at h1;split at h1<;>try(cases h1;done)
 rename_i nm n1 l n2;refine⟨_,_,h1,fun s=>⟨(h2 s).1,?_⟩⟩
 have e:=(h2 s).2;have hx:lF hp x=some (strOf l,[nm]):=by
  unfold lF;split
  ·have:fB hp 1 none .bf=some (none,0,none):=rfl;rw[this]at e;cases e
  ·rw[e]
 rw[hx]
theorem NH{P:Program}{ev:Ev}{hp:Hp}{nx:Nat}{src dst:TypeId}{x:Operand}{Z:A}{k:br->A->Option β}{r:β}(h:BA P ev hp nx src dst x Z k=some r):gK Z k r (iV P ev hp nx (.convert src dst x)):=by
 unfold BA at h;split at h
 ·rename_i nm off len cap e ex es ed;split at h<;>try(cases h;done)
  rename_i ee;obtain⟨v,α',h1,h2⟩:=Kx h;exact⟨_,_,h1,fun s=>⟨(h2 s).1,by simp only[iV,jT,py,l5,ex,es,ed,ee];exact(h2 s).2⟩⟩
 ·rename_i nm off len cap e ex es ed;split at h<;>try(cases h;done)
  rename_i ee;obtain⟨v,α',h1,h2⟩:=Kx h;exact⟨_,_,h1,fun s=>⟨(h2 s).1,by simp only[iV,jT,py,l5,ex,es,ed,ee];exact(h2 s).2⟩⟩
 ·rename_i st e ex es ed;split at h<;>try(cases h;done)
  rename_i ee;obtain⟨α',h1,h2⟩:=dj h;exact⟨_,_,h1,fun s=>⟨(h2 s).1,by simp only[iV,jT,py,l5,ex,es,ed,ee];rw[show Nat.ble st.size 1000000000=true from Nat.ble_eq_true_of_le (h2 s).2]⟩⟩
 ·exact fY h
theorem NP{ev:Ev}{c a b:Operand}{Z:A}{k:br->A->Option β}{r:β}(h:Aq ev c a b Z k=some r):gK Z k r (vm ev c a b):=by
 unfold Aq at h;split at h<;>try(cases h;done)
 rename_i e1;split at h<;>try(cases h;done)
 rename_i e2;split at h<;>try(cases h;done)
 rename_i e3;obtain⟨t,α',h1,h2⟩:=ky h;obtain⟨v,h3,h4⟩:=gD h1;exact⟨_,_,h4,fun s=>⟨(h2 s).1,by simp only[vm,e1,e2,e3,(h2 s).2,h3]⟩⟩
theorem MS{P:Program}{ev:Ev}{hp:Hp}{nx:Nat}{o:Op}{Z:A}{k:br->A->Option β}{r:β}(h:AN P ev hp nx o Z k=some r):gK Z k r (iV P ev hp nx o):=by
 unfold AN at h;split at h
 ·exact NP h
 ·exact IL h
 ·exact Ih h
 ·exact Pq h
 ·exact z7 h
 ·exact Ig h
 ·exact yL h
 ·exact Is h
 ·exact EV h
 ·exact qd h
 ·exact qd h
 ·exact NI h
 ·exact KQ h
 ·exact NH h
 ·exact fY h
end
end Go.Sx
