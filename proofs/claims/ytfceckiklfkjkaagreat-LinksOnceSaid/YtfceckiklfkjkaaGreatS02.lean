import Derived.Test.YtfceckiklfkjkaaGreatS01
noncomputable section
namespace Go.Sx
namespace T
variable{Z:Type}{β:Type}
theorem get_nil(i:Nat):(T.nil:T Z).get i=none:=rfl
theorem dq(l r:T Z)(v:Option Z)(i:Nat):
  (T.node l v r).get i=if i=0 then v else if i % 2=1 then l.get (i / 2)else r.get (i / 2 - 1):=by
 show Bool.rec (motive:=fun _=>Option Z) (Bool.rec (motive:=fun _=>Option Z) (r.get (Nat.pred (Nat.div i 2))) (l.get (Nat.div i 2)) (Nat.beq (Nat.mod i 2) 1)) v (Nat.beq i 0)=_
 by_cases h:i=0
 ·subst h;rfl
 ·have e:Nat.beq i 0=false:=by cases i<;>simp_all[Nat.beq]
  rw[e,if_neg h];by_cases h2:i % 2=1
  ·have e2:Nat.beq (Nat.mod i 2) 1=true:=by show Nat.beq (i % 2) 1=true;rw[h2];rfl
   rw[e2,if_pos h2];rfl
  ·have e2:Nat.beq (Nat.mod i 2) 1=false:=by
    show Nat.beq (i % 2) 1=false;have:i % 2=0:=by omega
    rw[this];rfl
   rw[e2,if_neg h2];rfl
theorem X5(x:Option Z)(f:Nat): ∀(i:Nat) (k:T Z->Option β) (r:β),path x f i k=some r->
  ∃t,k t=some r/\∀j,t.get j=if j=i then x else none:=by
 induction f with
 |zero=>intro i k r h;simp[path]at h
 |succ f ih=>
  intro i k r h;have h':Bool.rec (motive:=fun _=>Option β) (Bool.rec (motive:=fun _=>Option β) (path x f (Nat.pred (Nat.div i 2)) fun r=>k (.node .nil none r)) (path x f (Nat.div i 2) fun l=>k (.node l none .nil)) (Nat.beq (Nat.mod i 2) 1))
   (k (.node .nil x .nil)) (Nat.beq i 0)=some r:=h
  by_cases h0:i=0
  ·subst h0;refine⟨_,h',fun j=> ?_⟩
   rw[dq];split<;>simp[*,get_nil]
  ·have e:Nat.beq i 0=false:=by cases i<;>simp_all[Nat.beq]
   rw[e]at h';by_cases h2:i % 2=1
   ·have e2:Nat.beq (Nat.mod i 2) 1=true:=by show Nat.beq (i % 2) 1=true;rw[h2];rfl
    rw[e2]at h';obtain⟨t,hk,hg⟩:=ih _ _ _ h';refine⟨_,hk,fun j=> ?_⟩
    rw[dq,hg,get_nil];have:(Nat.div i 2)=i / 2:=rfl;rw[this];by_cases hj:j=i
    ·subst hj;simp[h0,h2]
    ·rw[if_neg hj];split
     ·rfl
     ·split
      ·rw[if_neg (by omega)]
      ·rfl
   ·have e2:Nat.beq (Nat.mod i 2) 1=false:=by
     show Nat.beq (i % 2) 1=false;have:i % 2=0:=by omega
     rw[this];rfl
    rw[e2]at h';obtain⟨t,hk,hg⟩:=ih _ _ _ h';refine⟨_,hk,fun j=> ?_⟩
    rw[dq,hg,get_nil];have:(Nat.pred (Nat.div i 2))=i / 2 - 1:=rfl;rw[this];by_cases hj:j=i
    ·subst hj;simp[h0,h2]
    ·rw[if_neg hj];split
     ·rfl
     ·split
      ·rfl
      ·rw[if_neg (by omega)]
theorem bR(d:Nat)(t:T Z): ∀(i:Nat) (x:Option Z) (k:T Z->Option β) (r:β),set d t i x k=some r->
  ∃t',k t'=some r/\∀j,t'.get j=if j=i then x else t.get j:=by
 induction t with
 |nil=>
  intro i x k r h;obtain⟨t,hk,hg⟩:=X5 x d i k r h;exact⟨t,hk,fun j=>by rw[hg,get_nil]⟩
 |node l v rr ihl ihr=>
  intro i x k r h;have h':Bool.rec (motive:=fun _=>Option β) (Bool.rec (motive:=fun _=>Option β) (set d rr (Nat.pred (Nat.div i 2)) x fun r'=>k (.node l v r')) (set d l (Nat.div i 2) x fun l'=>k (.node l' v rr)) (Nat.beq (Nat.mod i 2) 1))
   (k (.node l x rr)) (Nat.beq i 0)=some r:=h
  by_cases h0:i=0
  ·subst h0;refine⟨_,h',fun j=> ?_⟩
   rw[dq,dq];split<;>simp[*]
  ·have e:Nat.beq i 0=false:=by cases i<;>simp_all[Nat.beq]
   rw[e]at h';by_cases h2:i % 2=1
   ·have e2:Nat.beq (Nat.mod i 2) 1=true:=by show Nat.beq (i % 2) 1=true;rw[h2];rfl
    rw[e2]at h';obtain⟨t,hk,hg⟩:=ihl _ _ _ _ h';refine⟨_,hk,fun j=> ?_⟩
    rw[dq,dq,hg];have:(Nat.div i 2)=i / 2:=rfl;rw[this];by_cases hj:j=i
    ·subst hj;simp[h0,h2]
    ·rw[if_neg hj];split
     ·rfl
     ·split
      ·rw[if_neg (by omega)]
      ·rfl
   ·have e2:Nat.beq (Nat.mod i 2) 1=false:=by
     show Nat.beq (i % 2) 1=false;have:i % 2=0:=by omega
     rw[this];rfl
    rw[e2]at h';obtain⟨t,hk,hg⟩:=ihr _ _ _ _ h';refine⟨_,hk,fun j=> ?_⟩
    rw[dq,dq,hg];have:(Nat.pred (Nat.div i 2))=i / 2 - 1:=rfl;rw[this];by_cases hj:j=i
    ·subst hj;simp[h0,h2]
    ·rw[if_neg hj];split
     ·rfl
     ·split
      ·rfl
      ·rw[if_neg (by omega)]
end T
section force
variable{β:Type}
theorem fy(n:Nat)(k:Nat->β):eX n k=k n:=by cases n<;>rfl
theorem Jy(n:Int)(k:Int->β):NG n k=k n:=by cases n<;>simp[NG,fy]
theorem HQ(b:Bool)(k:Bool->β):KV b k=k b:=by cases b<;>rfl
theorem EY(l:aj): ∀k:List Int->β,yD l k=k l:=by
 induction l with
 |nil=>intro k;rfl
 |cons x l ih=>intro k;simp[yD,Jy,ih]
theorem Vu(l:List Nat): ∀k:List Nat->β,Dr l k=k l:=by
 induction l with
 |nil=>intro k;rfl
 |cons x l ih=>intro k;simp[Dr,fy,ih]
theorem On(l:List Bool): ∀k:List Bool->β,yQ l k=k l:=by
 induction l with
 |nil=>intro k;rfl
 |cons x l ih=>intro k;simp[yQ,HQ,ih]
theorem acw(s:ByteArray):Oc (s.data.toList.map UInt8.toNat)=s:=by
 obtain⟨⟨l⟩⟩:=s;unfold Oc;congr 2;rw[List.map_map]
 conv=>rhs;rw[<-List.map_id l]
 refine List.map_congr_left fun x _=> ?_
 simp
theorem YR(s:ByteArray)(k:ByteArray->β):TR s k=k s:=by
 unfold TR;rw[Vu,acw]
theorem xQ(c:Cell)(k:Cell->β):zL c k=k c:=by cases c<;>simp[zL,Jy,fy,HQ,YR]
theorem C3(l:List Cell): ∀k:List Cell->β,uS l k=k l:=by
 induction l with
 |nil=>intro k;rfl
 |cons x l ih=>intro k;simp[uS,xQ,ih]
theorem Hw(v:AV)(k:AV->β):Pz v k=k v:=by cases v<;>simp[Pz,xQ,C3,EY,fy]
theorem Ys(l:List AV): ∀k:List AV->β,KH l k=k l:=by
 induction l with
 |nil=>intro k;rfl
 |cons x l ih=>intro k;simp[KH,Hw,ih]
theorem abn(v:RV)(k:RV->β):fRV v k=k v:=by cases v<;>simp[fRV,Hw,Ys]
theorem Gb(l:List (Cell×AV)): ∀k:List (Cell×AV)->β,Ja l k=k l:=by
 induction l with
 |nil=>intro k;rfl
 |cons x l ih=>intro k;cases x;simp[Ja,Hw,xQ,ih]
theorem YD(b:ax)(k:ax->β):yh b k=k b:=by
 cases b with
 |row t ro o b=>cases b<;>simp[yh,C3,EY,On,fy]
 |map es=>simp[yh,Gb]
 |dK=>rfl
 |aQ=>rfl
 |mapR es=>simp[yh,Gb]
 |loop=>rfl
 |iter=>simp[yh,fy]
 |mapP es=>simp[yh,Gb]
 |recs=>rfl
 |eE=>rfl
 |di=>rfl
theorem Ph(z:Bool)(v:RV)(k:RV->β):sRV z v k=k v:=by cases z<;>simp[sRV,abn]
theorem mn(z:Bool)(v:ax)(k:ax->β):GQ z v k=k v:=by cases z<;>simp[GQ,YD]
end force
structure aM where
 nm:Nat->Option (Nat×Nat)
 fz:Nat->Option (List Value)
instance:CoeFun aM (fun _=>Nat->Option (Nat×Nat)):=⟨aM.nm⟩
def mz:aM:=⟨fun _=>none,fun _=>none⟩
def dF(ρ:aM):List (Nat×Nat)->List Value->Prop
 | [],vs=>vs= []
 |(nm,off)::l,vs=> ∃b c vs',ρ nm=some (b,c)/\dF ρ l vs'/\vs= .pointer (some ⟨b,off,none⟩)::vs'
def CR(ρ:aM):Cell->Value->Prop
 | .int k n,v=>v= .int k n
 | .bool b,v=>v= .bool b
 | .str s,v=>v= .string s
 | .ptr0,v=>v= .pointer none
 | .ptr nm off,v=> ∃b c,ρ nm=some (b,c)/\v= .pointer (some ⟨b,off,none⟩)
 | .bf,v=>v= .slice none 0 0
 | .sl nm off len cap,v=> ∃b c,ρ nm=some (b,c)/\v= .slice (some ⟨b,off,none⟩) len cap
 | .aC nm sz at_ len,v=> ∃b c off,ρ nm=some (b,c)/\at_+len<=c/\(off=at_*sz\/(at_=c/\0<at_))/\v= .slice (some ⟨b,off,none⟩) len (c - at_)
 | .map0,v=>v= .map none
 | .map nm,v=> ∃b c,ρ nm=some (b,c)/\v= .map (some b)
 | .fn0,v=>v= .nilFunc
 | .fn f fs dH,v=> ∃us vs,dF ρ fs us/\dF ρ dH vs/\v= .func (.func f) us.toArray vs.toArray
 | .any,v=>v.oneCell'=true
 | .yield nm,v=> ∃b c,ρ nm=some (b,c)/\v= .func (.yield b) #[] #[]
 | .dI l,v=>(l= []/\v= .slice none 0 0)\/(l≠ []/\∃b c,ρ.fz b=some (l.map (Value.int .i64))/\v= .slice (some ⟨b,0,none⟩) l.length c)
 | .vptr l i,v=> ∃b,ρ.fz b=some (l.map (Value.int .i64))/\v= .pointer (some ⟨b,i,none⟩)
def bt(ρ:aM):List Cell->List Value->Prop
 | [],vs=>vs= []
 |c::l,vs=> ∃v vs',CR ρ c v/\bt ρ l vs'/\vs=v::vs'
def bY(ρ:aM):AV->Value->Prop
 | .c x,v=>CR ρ x v
 | .agg l,v=> ∃vs,bt ρ l vs/\v= .agg vs.toArray
 | .ints k l n,v=>l.length=n/\v= .agg (l.map (Value.int k)).toArray
def eA(ρ:aM):List AV->List Value->Prop
 | [],vs=>vs= []
 |c::l,vs=> ∃v vs',bY ρ c v/\eA ρ l vs'/\vs=v::vs'
def bE(ρ:aM):RV->Value->Prop
 | .one v,V=>bY ρ v V
 | .aF l,V=> ∃vs,eA ρ l vs/\V= .tuple vs.toArray
 | .any,_=>True
def da(ρ:aM):Body->List Value->Prop
 | .cells l,vs=>bt ρ l vs
 | .ints k l n,vs=>l.length=n/\vs=l.map (Value.int k)
 | .aT l n,vs=>l.length=n/\vs=l.map Value.bool
def ct(ρ:aM):List (Cell×AV)->List MapEntry->Prop
 | [],es=>es= []
 |(c,v)::l,es=> ∃e es',CR ρ c e.key/\bY ρ v e.val/\ct ρ l es'/\es=e::es'
def tR(opn:Option Nat)(c n:Nat)(tail:List Value):Prop:=
 match opn with
 |none=>tail= []
 |some sz=>n=c*sz/\c<=9223372036854775807
def Tx:LSt->LoopState->Option Code->Prop
 | .ready,st,pd=>st= .ready/\pd=none
 | .busy,st,_=>st= .busy
 | .done none,st,pd=>st= .done/\pd=some .ret
 | .done (some id),st,pd=>st= .done/\pd=some (.exit id)
def bo(ρ:aM):List RV->List Value->Prop
 | [],vs=>vs= []
 |v::l,vs=> ∃V vs',bE ρ v V/\bo ρ l vs'/\vs=V::vs'
def Wv(ks:List IntKind)(l:aj):List Value:=l.zipIdx.map fun p=>Value.int (ks.getD (p.2 % ks.length) .i64) p.1
def cD(ρ:aM)(c:Nat):ax->Obj->Prop
 | .row t ro opn b,o=> ∃vs tail fr,o= .cells (vs++tail).toArray t fr/\da ρ b vs/\(ro=false->fr=(0,0))/\tR opn c (vs++tail).length tail
 | .map es,o=> ∃aD clock,o= .map aD clock/\ct ρ es aD.toList/\MapKept.Stamped aD clock
 | .aQ vk l,o=> ∃aD clock,o= .map aD clock/\ct ρ (gq vk l) aD.toList/\MapKept.Stamped aD clock
 | .mapR es,o=> ∃aD clock,o= .map aD clock/\ct ρ es aD.toList/\MapKept.Stamped aD clock
 | .loop st sl ps aa bd,o=> ∃r:Loop,o= .loop r/\bo ρ sl r.tmps.toList/\r.params.toList=ps/\r.assign=aa/\r.body=bd/\Tx st r.state r.pending
 | .iter s pos,o=>o= .stringIter s pos
 | .mapP es,o=> ∃aD clock es',o= .map aD clock/\ct ρ es es'/\es'.Perm aD.toList/\MapKept.Stamped aD clock
 | .recs off ks l,o=> ∃cs t fr,o= .cells cs t fr/\off+l.length<=cs.size/\(cs.toList.drop off).take l.length=Wv ks l
 | .eE l,o=> ∃aD clock,o= .map aD clock/\ct ρ (iy l) aD.toList/\MapKept.Stamped aD clock
 | .di l,o=> ∃aD clock,o= .map aD clock/\ct ρ (gO l) aD.toList/\MapKept.Stamped aD clock
 | .dK off k l,o=> ∃cs t fr,o= .cells cs t fr/\off+l.length<=cs.size/\(cs.toList.drop off).take l.length=l.map (Value.int k)
def ax.wr:ax->Bool
 | .row _ ro _ _=> !ro
 | .map _=>true
 | .dK .. =>false
 | .recs .. =>false
 | .aQ .. =>true
 | .mapR _=>false
 | .loop .. =>true
 | .iter .. =>true
 | .mapP _=>false
 | .eE _=>true
 | .di _=>true
def Z5(w:World)(b:Nat)(l:List Value):Prop:= ∃cs t fr,w.heap[b]? =some (.cells cs t fr)/\cs.toList.take l.length=l
def FQ(ρ:aM)(hp:Hp)(w:World):Prop:= ∀b l,ρ.fz b=some l->Z5 w b l/\∀nm x c,hp nm=some x->x.wr=true->ρ nm≠some (b,c)
structure bu(ρ:aM)(hp:Hp)(w:World):Prop where
 ok: ∀nm x,hp nm=some x->∃b c o,ρ nm=some (b,c)/\w.heap[b]? =some o/\cD ρ c x o
 inj: ∀nm nm' x y b c c',hp nm=some x->hp nm'=some y->x.wr=true->ρ nm=some (b,c)->ρ nm'=some (b,c')->nm=nm'
 fz:FQ ρ hp w
theorem Z5.lt {w:World}{b:Nat}{l:List Value}(h:Z5 w b l):b<w.heap.size:=by
 obtain⟨cs,t,fr,h1,_⟩:=h;rcases Nat.lt_or_ge b w.heap.size with h'|h'
 ·exact h'
 ·rw[Array.getElem?_eq_none h']at h1;cases h1
theorem FQ.of {ρ ρ':aM}{hp hp':Hp}{w w':World}(h:FQ ρ hp w)(e: ∀b l,ρ'.fz b=some l->ρ.fz b=some l)(hw: ∀b l,ρ.fz b=some l->w'.heap[b]? =w.heap[b]?)
  (hn: ∀nm x b c,hp' nm=some x->x.wr=true->ρ' nm=some (b,c)->(∃bs x0 c0,hp bs=some x0/\x0.wr=true/\ρ bs=some (b,c0))\/w.heap.size<=b):FQ ρ' hp' w':=fun b l hb=>by
 obtain⟨h1,h2⟩:=h b l (e b l hb);refine⟨?_,fun nm x c hx hwr he=> ?_⟩
 ·obtain⟨cs,t,fr,g1,g2⟩:=h1;exact⟨cs,t,fr,(hw b l (e b l hb)).trans g1,g2⟩
 ·rcases hn nm x b c hx hwr he with⟨bs,x0,c0,k1,k2,k3⟩|k
  ·exact h2 bs x0 c0 k1 k2 k3
  ·have:=h1.lt;omega
theorem bu.T0 {ρ:aM}{hp:Hp}{w:World}(hr:bu ρ hp w){nm b0 c:Nat}{x:ax}(hx:hp nm=some x)(hw:x.wr=true)(hb:ρ nm=some (b0,c)){b:Nat}{l:List Value}(h:ρ.fz b=some l):b≠b0:=fun e=>by
 subst e;exact(hr.fz b l h).2 nm x c hx hw hb
structure Sub(ρ ρ':aM):Prop where
 nm: ∀nm b,ρ nm=some b->ρ' nm=some b
 fz: ∀b l,ρ.fz b=some l->ρ'.fz b=some l
instance{ρ ρ':aM}:CoeFun (Sub ρ ρ') (fun _=> ∀nm b,ρ nm=some b->ρ' nm=some b):=⟨Sub.nm⟩
theorem Sub.refl (ρ:aM):Sub ρ ρ:=⟨fun _ _ h=>h,fun _ _ h=>h⟩
section mono
variable{ρ ρ':aM}(h:Sub ρ ρ')
include h
theorem dF.mono: ∀ {l:List (Nat×Nat)} {vs:List Value},dF ρ l vs->dF ρ' l vs
 | [],_,hr=>hr
 |(_,_)::_,_,⟨b,c,vs',h1,h2,h3⟩=>⟨b,c,vs',h _ _ h1,dF.mono h2,h3⟩
theorem CR.mono {c:Cell}{v:Value}(hr:CR ρ c v):CR ρ' c v:=by
 cases c<;>simp only[CR]at hr ⊢ <;>try exact hr
 ·obtain⟨b,c,h1,h2⟩:=hr;exact⟨b,c,h _ _ h1,h2⟩
 ·obtain⟨b,c,h1,h2⟩:=hr;exact⟨b,c,h _ _ h1,h2⟩
 ·obtain⟨b,c,off,h1,h2⟩:=hr;exact⟨b,c,off,h _ _ h1,h2⟩
 ·obtain⟨b,c,h1,h2⟩:=hr;exact⟨b,c,h _ _ h1,h2⟩
 ·obtain⟨us,vs,h0,h1,h2⟩:=hr;exact⟨us,vs,h0.mono h,h1.mono h,h2⟩
 ·obtain⟨b,c,h1,h2⟩:=hr;exact⟨b,c,h _ _ h1,h2⟩
 ·rcases hr with h0|⟨h0,b,c,h1,h2⟩
  ·exact .inl h0
  ·exact .inr ⟨h0,b,c,h.fz _ _ h1,h2⟩
 ·obtain⟨b,h1,h2⟩:=hr;exact⟨b,h.fz _ _ h1,h2⟩
theorem bt.mono: ∀ {l:List Cell} {vs:List Value},bt ρ l vs->bt ρ' l vs
 | [],_,hr=>hr
 |_::_,_,⟨v,vs',h1,h2,h3⟩=>⟨v,vs',h1.mono h,bt.mono h2,h3⟩
theorem bY.mono {c:AV}{v:Value}(hr:bY ρ c v):bY ρ' c v:=by
 cases c with
 |c x=>exact CR.mono h hr
 |agg l=>obtain⟨vs,h1,h2⟩:=hr;exact⟨vs,h1.mono h,h2⟩
 |ints k l n=>exact hr
theorem eA.mono: ∀ {l:List AV} {vs:List Value},eA ρ l vs->eA ρ' l vs
 | [],_,hr=>hr
 |_::_,_,⟨v,vs',h1,h2,h3⟩=>⟨v,vs',h1.mono h,eA.mono h2,h3⟩
theorem bE.mono {c:RV}{v:Value}(hr:bE ρ c v):bE ρ' c v:=by
 cases c with
 |one x=>exact bY.mono h hr
 |aF l=>obtain⟨vs,h1,h2⟩:=hr;exact⟨vs,h1.mono h,h2⟩
 |any=>trivial
theorem bo.mono: ∀ {l:List RV} {vs:List Value},bo ρ l vs->bo ρ' l vs
 | [],_,hr=>hr
 |_::_,_,⟨v,vs',h1,h2,h3⟩=>⟨v,vs',h1.mono h,bo.mono h2,h3⟩
theorem da.mono {c:Body}{v:List Value}(hr:da ρ c v):da ρ' c v:=by
 cases c with
 |cells l=>exact bt.mono h hr
 |ints k l n=>exact hr
 |aT l n=>exact hr
theorem ct.mono: ∀ {l:List (Cell×AV)} {es:List MapEntry},ct ρ l es->ct ρ' l es
 | [],_,hr=>hr
 |(_,_)::_,_,⟨e,es',h0,h1,h2,h3⟩=>⟨e,es',h0.mono h,h1.mono h,ct.mono h2,h3⟩
theorem cD.mono {c:Nat}{x:ax}{o:Obj}(hr:cD ρ c x o):cD ρ' c x o:=by
 cases x with
 |row t ro opn b=>obtain⟨vs,tail,fr,h1,h2,h3⟩:=hr;exact⟨vs,tail,fr,h1,h2.mono h,h3⟩
 |map es=>obtain⟨aD,cl,h1,h2,h3⟩:=hr;exact⟨aD,cl,h1,h2.mono h,h3⟩
 |dK=>exact hr
 |recs=>exact hr
 |aQ vk l=>obtain⟨aD,cl,h1,h2,h3⟩:=hr;exact⟨aD,cl,h1,h2.mono h,h3⟩
 |mapR es=>obtain⟨aD,cl,h1,h2,h3⟩:=hr;exact⟨aD,cl,h1,h2.mono h,h3⟩
 |loop=>obtain⟨r,h1,h2,h3⟩:=hr;exact⟨r,h1,h2.mono h,h3⟩
 |iter=>exact hr
 |mapP es=>obtain⟨aD,cl,es',h1,h2,h3⟩:=hr;exact⟨aD,cl,es',h1,h2.mono h,h3⟩
 |eE=>obtain⟨aD,cl,h1,h2,h3⟩:=hr;exact⟨aD,cl,h1,h2.mono h,h3⟩
 |di=>obtain⟨aD,cl,h1,h2,h3⟩:=hr;exact⟨aD,cl,h1,h2.mono h,h3⟩
end mono
structure dN(ρ:aM)(hp:Hp)(nx:Nat)(w:World)(ρ':aM)(hp':Hp)(nx':Nat)(w':World)(L:List Nat):Prop where
 le:nx<=nx'
 rho: ∀nm,nm<nx->ρ' nm=ρ nm
 aH: ∀nm,nm<nx->nm∉L->hp' nm=hp nm
 size:w.heap.size<=w'.heap.size
 frame: ∀b,b<w.heap.size->(∀nm c,nm∈L->nm<nx->ρ nm≠some (b,c))->w'.heap[b]? =w.heap[b]?
 new: ∀nm b c,nx<=nm->ρ' nm=some (b,c)->w.heap.size<=b\/∃bs c0,bs∈L/\bs<nx/\ρ bs=some (b,c0)
 aq: ∀nm,nm∈L->nm<nx->∃x,hp nm=some x/\x.wr=true
 os:w'.os=w.os
 tape:w'.tape=w.tape
 al:w'.output=w.output
 je: ∀b l,ρ.fz b=some l->ρ'.fz b=some l
 fzn: ∀b l,ρ'.fz b=some l->ρ.fz b=some l\/w.heap.size<=b\/∃nm c,nm∈L/\nm<nx/\ρ nm=some (b,c)
def bW(ρ:aM)(nx:Nat):Prop:= ∀nm,nx<=nm->ρ nm=none
theorem dN.sub {ρ ρ':aM}{hp hp':Hp}{nx nx':Nat}{w w':World}{L:List Nat}(h:dN ρ hp nx w ρ' hp' nx' w' L)(hf:bW ρ nx):Sub ρ ρ':=by
 refine⟨?_,h.je⟩;intro nm b hb;by_cases aA:nm<nx
 ·rw[h.rho nm aA];exact hb
 ·rw[hf nm (by omega)]at hb;cases hb
theorem dN.refl {ρ:aM}{hp:Hp}{nx:Nat}{w:World}(hf:bW ρ nx):dN ρ hp nx w ρ hp nx w [] where
 le:=Nat.le_refl _
 rho:=fun _ _=>rfl
 aH:=fun _ _ _=>rfl
 size:=Nat.le_refl _
 frame:=fun _ _ _=>rfl
 new:=fun nm b c h e=>by rw[hf nm h]at e;cases e
 aq:=fun _ h=>by cases h
 os:=rfl
 tape:=rfl
 al:=rfl
 je:=fun _ _ h=>h
 fzn:=fun _ _ h=> .inl h
theorem dN.draw {ρ:aM}{hp:Hp}{nx:Nat}{w w':World}(hf:bW ρ nx)(h:w'.heap=w.heap)(h1:w'.os=w.os)(h2:w'.tape=w.tape)(h3:w'.output=w.output):
  dN ρ hp nx w ρ hp nx w' [] where
 le:=Nat.le_refl _
 rho:=fun _ _=>rfl
 aH:=fun _ _ _=>rfl
 size:=by rw[h];exact Nat.le_refl _
 frame:=fun _ _ _=>by rw[h]
 new:=fun nm b c h e=>by rw[hf nm h]at e;cases e
 aq:=fun _ h=>by cases h
 os:=h1
 tape:=h2
 al:=h3
 je:=fun _ _ h=>h
 fzn:=fun _ _ h=> .inl h
theorem dN.trans {ρ1 ρ2 ρ3:aM}{h1 h2 h3:Hp}{n1 n2 n3:Nat}{w1 w2 w3:World}{L1 L2:List Nat}
  (a:dN ρ1 h1 n1 w1 ρ2 h2 n2 w2 L1) (b:dN ρ2 h2 n2 w2 ρ3 h3 n3 w3 L2):dN ρ1 h1 n1 w1 ρ3 h3 n3 w3 (L2++L1) where
 le:=Nat.le_trans a.le b.le
 rho:=fun nm h=>by rw[b.rho nm (Nat.lt_of_lt_of_le h a.le),a.rho nm h]
 aH:=fun nm h hn=>by
  rw[List.mem_append,not_or]at hn;rw[b.aH nm (Nat.lt_of_lt_of_le h a.le) hn.1,a.aH nm h hn.2]
 size:=Nat.le_trans a.size b.size
 frame:=fun bl hb hL=>by
  have e1:=a.frame bl hb fun nm c hm aA=>hL nm c (List.mem_append.2 (.inr hm)) aA
  have e2:=b.frame bl (Nat.lt_of_lt_of_le hb a.size) fun nm c hm aA he=>by
   by_cases h:nm<n1
   ·rw[a.rho nm h]at he;exact hL nm c (List.mem_append.2 (.inl hm)) h he
   ·rcases a.new nm bl c (by omega) he with h'|⟨bs,c0,hm0,hlt0,he0⟩
    ·omega
    ·exact hL bs c0 (List.mem_append.2 (.inr hm0)) hlt0 he0
  rw[e2,e1]
 new:=fun nm bl c hle he=>by
  by_cases h:nm<n2
  ·rw[b.rho nm h]at he;rcases a.new nm bl c hle he with h'|⟨bs,c0,hm0,hlt0,he0⟩
   ·exact .inl h'
   ·exact .inr ⟨bs,c0,List.mem_append.2 (.inr hm0),hlt0,he0⟩
  ·rcases b.new nm bl c (by omega) he with h'|⟨bs,c0,hm0,hlt0,he0⟩
   ·exact .inl (Nat.le_trans a.size h')
   ·by_cases h0:bs<n1
    ·rw[a.rho bs h0]at he0;exact .inr ⟨bs,c0,List.mem_append.2 (.inl hm0),h0,he0⟩
    ·rcases a.new bs bl c0 (by omega) he0 with h'|⟨nm1,c1,hm1,hlt1,he1⟩
     ·exact .inl h'
     ·exact .inr ⟨nm1,c1,List.mem_append.2 (.inr hm1),hlt1,he1⟩
 aq:=fun nm hm aA=>by
  by_cases h1:nm∈L1
  ·exact a.aq nm h1 aA
  ·rcases List.mem_append.1 hm with hm|hm
   ·obtain⟨x,h2,h3⟩:=b.aq nm hm (Nat.lt_of_lt_of_le aA a.le);rw[a.aH nm aA h1]at h2;exact⟨x,h2,h3⟩
   ·exact absurd hm h1
 os:=by rw[b.os,a.os]
 tape:=by rw[b.tape,a.tape]
 al:=by rw[b.al,a.al]
 je:=fun bl l h=>b.je bl l (a.je bl l h)
 fzn:=fun bl l h=>by
  rcases b.fzn bl l h with h|h|⟨nm,c,hm,aA,he⟩
  ·rcases a.fzn bl l h with h|h|⟨nm,c,hm,aA,he⟩
   ·exact .inl h
   ·exact .inr (.inl h)
   ·exact .inr (.inr ⟨nm,c,List.mem_append.2 (.inr hm),aA,he⟩)
  ·exact .inr (.inl (Nat.le_trans a.size h))
  ·by_cases h0:nm<n1
   ·rw[a.rho nm h0]at he;exact .inr (.inr ⟨nm,c,List.mem_append.2 (.inl hm),h0,he⟩)
   ·rcases a.new nm bl c (by omega) he with h'|⟨nm1,c1,hm1,hlt1,he1⟩
    ·exact .inr (.inl h')
    ·exact .inr (.inr ⟨nm1,c1,List.mem_append.2 (.inr hm1),hlt1,he1⟩)
def mS(hp:Hp)(nm:Nat)(x:Option ax):Hp:=fun i=>if i=nm then x else hp i
theorem kF(hp:Hp)(nm:Nat)(x:Option ax):mS hp nm x nm=x:=by simp[mS]
theorem cu(hp:Hp){nm i:Nat}(x:Option ax)(h:i≠nm):mS hp nm x i=hp i:=by simp[mS,h]
def cf.hp (u:cf)(hp:Hp)(nx:Nat):Hp:=
 match u with
 | .none=>hp
 | .new b=>Sx.mS hp nx (some b)
 | .wr nm b=>Sx.mS hp nm (some b)
 | .mv nm b=>Sx.mS (Sx.mS hp nm Option.none) nx (some b)
def cf.nx (u:cf)(nx:Nat):Nat:=
 match u with
 | .new _| .mv _ _=>nx+1
 |_=>nx
def cf.log:cf->List Nat
 | .wr nm _| .mv nm _=> [nm]
 |_=> []
structure Out(ρ:aM)(hp:Hp)(nx:Nat)(w:World)(u:cf)(v:RV)(V:Value)(ρ':aM)(w':World):Prop where
 val:bE ρ' v V
 rel:bu ρ' (u.hp hp nx) w'
 fresh:bW ρ' (u.nx nx)
 ff:dN ρ hp nx w ρ' (u.hp hp nx) (u.nx nx) w' u.log
theorem Out.quiet {ρ:aM}{hp:Hp}{nx:Nat}{w:World}{v:RV}{V:Value}(hv:bE ρ v V)(hr:bu ρ hp w)(hf:bW ρ nx):Out ρ hp nx w .none v V ρ w:=
 ⟨hv,hr,hf,dN.refl hf⟩
structure Jq(w:World)(b:Nat)(o:Obj)(w':World):Prop where
 size:w'.heap.size=w.heap.size
 at_:w'.heap[b]? =some o
 other: ∀i,i≠b->w'.heap[i]? =w.heap[i]?
 os:w'.os=w.os
 tape:w'.tape=w.tape
 al:w'.output=w.output
theorem bu.jH {ρ:aM}{hp:Hp}{nx:Nat}{w w':World}{nm b c:Nat}{x y:ax}{o:Obj}{v:RV}{V:Value}(hr:bu ρ hp w)(hf:bW ρ nx)
  (hx:hp nm=some x) (hw:x.wr=true) (hb:ρ nm=some (b,c)) (ho:cD ρ c y o) (hW:Jq w b o w') (hv:bE ρ v V):Out ρ hp nx w (.wr nm y) v V ρ w' where
 val:=hv
 rel:=by
  constructor
  ·intro i z hz;by_cases h:i=nm
   ·subst h;simp only[cf.hp,kF,ae]at hz;subst hz;exact⟨b,c,o,hb,hW.at_,ho⟩
   ·simp only[cf.hp,cu _ _ h]at hz;obtain⟨b',c',o',h1,h2,h3⟩:=hr.ok i z hz;refine⟨b',c',o',h1,?_,h3⟩;rw[hW.other b' fun e=> ?_,h2]
    subst e;exact h (hr.inj nm i x z b' c c' hx hz hw hb h1).symm
  ·intro i j p q b1 c1 c2 hp1 hq1 hpw h1 h2;by_cases hi:i=nm<;>by_cases hj:j=nm
   ·rw[hi,hj]
   ·subst hi;simp only[cf.hp,cu _ _ hj]at hq1;exact hr.inj _ _ _ _ _ _ _ hx hq1 hw h1 h2
   ·subst hj;simp only[cf.hp,cu _ _ hi]at hp1;exact hr.inj _ _ _ _ _ _ _ hp1 hx hpw h1 h2
   ·simp only[cf.hp,cu _ _ hi]at hp1;simp only[cf.hp,cu _ _ hj]at hq1;exact hr.inj _ _ _ _ _ _ _ hp1 hq1 hpw h1 h2
  ·refine hr.fz.of (fun _ _ h=>h) (fun b' l h=>hW.other b' (hr.T0 hx hw hb h)) fun i z b' c' hz hzw he=> .inl ?_
   by_cases h:i=nm
   ·subst h;exact⟨i,x,c',hx,hw,he⟩
   ·simp only[cf.hp,cu _ _ h]at hz;exact⟨i,z,c',hz,hzw,he⟩
 fresh:=hf
 ff:=by
  constructor
  ·exact Nat.le_refl _
  ·exact fun _ _=>rfl
  ·intro i _ hi;simp only[cf.log,List.mem_singleton]at hi;simp[cf.hp,cu _ _ hi]
  ·rw[hW.size];exact Nat.le_refl _
  ·intro i hi hL;refine hW.other i fun e=> ?_
   subst e;by_cases aA:nm<nx
   ·exact hL nm c (by simp[cf.log]) aA hb
   ·rw[hf nm (by omega)]at hb;cases hb
  ·intro i b' c' hi he;rw[hf i hi]at he;cases he
  ·intro i hi _;simp only[cf.log,List.mem_singleton]at hi;subst hi;exact⟨x,hx,hw⟩
  ·exact hW.os
  ·exact hW.tape
  ·exact hW.al
  ·exact fun _ _ h=>h
  ·exact fun _ _ h=> .inl h
structure Uf(w:World)(o:Obj)(w':World):Prop where
 heap:w'.heap=w.heap.push o
 os:w'.os=w.os
 tape:w'.tape=w.tape
 al:w'.output=w.output
def ext(ρ:aM)(nx b c:Nat):aM:=⟨fun i=>if i=nx then some (b,c)else ρ i,ρ.fz⟩
theorem fW{ρ:aM}{nx:Nat}(hf:bW ρ nx)(b c:Nat):Sub ρ (ext ρ nx b c):=by
 refine⟨?_,fun _ _ h=>h⟩
 intro i x hx;by_cases h:i=nx
 ·subst h;rw[hf i (Nat.le_refl _)]at hx;cases hx
 ·simp[ext,h,hx]
theorem bS{Z:Type}{l:Array Z}{i:Nat}{x:Z}(h:l[i]? =some x):i<l.size:=by
 rcases Nat.lt_or_ge i l.size with h'|h'
 ·exact h'
 ·rw[Array.getElem?_eq_none h']at h;cases h
theorem bu.pb {ρ:aM}{hp:Hp}{nx:Nat}{w w':World}{c:Nat}{y:ax}{o:Obj}{v:RV}{V:Value}(hr:bu ρ hp w)(hf:bW ρ nx)
  (ho:cD (ext ρ nx w.heap.size c) c y o) (hW:Uf w o w') (hv:bE (ext ρ nx w.heap.size c) v V):Out ρ hp nx w (.new y) v V (ext ρ nx w.heap.size c) w':=by
 have hn: ∀x,hp nx≠some x:=fun x hx=>by
  obtain⟨_,_,_,h,_⟩:=hr.ok nx x hx;rw[hf nx (Nat.le_refl _)]at h;cases h
 have old: ∀i b' c',i≠nx->ext ρ nx w.heap.size c i=some (b',c')->ρ i=some (b',c'):=by
  intro i b' c' h e;simpa[ext,h]using e
 constructor
 ·exact hv
 ·constructor
  ·intro i z hz;by_cases h:i=nx
   ·subst h;simp only[cf.hp,kF,ae]at hz;subst hz;exact⟨w.heap.size,c,o,by simp[ext],by simp[hW.heap],ho⟩
   ·simp only[cf.hp,cu _ _ h]at hz;obtain⟨b',c',o',h1,h2,h3⟩:=hr.ok i z hz;refine⟨b',c',o',by simp[ext,h,h1],?_,h3.mono (fW hf _ _)⟩
    have:=bS h2;rw[hW.heap,Array.getElem?_push_lt this, <-h2,Array.getElem?_eq_getElem this]
  ·intro i j p q b1 c1 c2 hp1 hq1 hpw h1 h2;by_cases hi:i=nx<;>by_cases hj:j=nx
   ·rw[hi,hj]
   ·subst hi;simp only[cf.hp,cu _ _ hj]at hq1;obtain⟨b',c',o',g1,g2,_⟩:=hr.ok j q hq1;rw[old j _ _ hj h2]at g1;simp only[ae,af]at g1;have:=bS g2;simp[ext]at h1;omega
   ·subst hj;simp only[cf.hp,cu _ _ hi]at hp1;obtain⟨b',c',o',g1,g2,_⟩:=hr.ok i p hp1;rw[old i _ _ hi h1]at g1;simp only[ae,af]at g1;have:=bS g2;simp[ext]at h2;omega
   ·simp only[cf.hp,cu _ _ hi]at hp1;simp only[cf.hp,cu _ _ hj]at hq1;exact hr.inj _ _ _ _ _ _ _ hp1 hq1 hpw (old i _ _ hi h1) (old j _ _ hj h2)
  ·refine hr.fz.of (fun _ _ h=>h) (fun b' l h=>by
    have:=(hr.fz b' l h).1.lt;rw[hW.heap,Array.getElem?_push_lt this,Array.getElem?_eq_getElem this]) fun i z b' c' hz hzw he=> ?_
   by_cases h:i=nx
   ·subst h;simp[ext]at he;right;omega
   ·simp only[cf.hp,cu _ _ h]at hz;exact .inl ⟨i,z,c',hz,hzw,old i _ _ h he⟩
 ·intro i hi;simp only[cf.nx]at hi;have:i≠nx:=by omega
  simp[ext,this,hf i (by omega)]
 ·constructor
  ·simp[cf.nx]
  ·intro i hi;have:i≠nx:=by omega
   simp[ext,this]
  ·intro i hi _;have:i≠nx:=by omega
   simp[cf.hp,cu _ _ this]
  ·rw[hW.heap];simp
  ·intro i hi _;rw[hW.heap,Array.getElem?_push_lt hi,Array.getElem?_eq_getElem hi]
  ·intro i b' c' hi he;by_cases h:i=nx
   ·subst h;simp[ext]at he;left;omega
   ·have he:=old i _ _ h he;rw[hf i (by omega)]at he;cases he
  ·intro i hi;cases hi
  ·exact hW.os
  ·exact hW.tape
  ·exact hW.al
  ·exact fun _ _ h=>h
  ·exact fun _ _ h=> .inl h
end Go.Sx
