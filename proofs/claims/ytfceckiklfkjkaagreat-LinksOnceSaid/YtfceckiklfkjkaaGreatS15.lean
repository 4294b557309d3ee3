import Derived.Test.YtfceckiklfkjkaaGreatS14
noncomputable section
namespace Go.Sx
section
variable{β:Type}
namespace T
variable{Y:Type}
theorem T5(x:Option Y)(f:Nat): ∀(i:Nat) (k:T Y->Option β) (r:β),path x f i k=some r->
  ∃t,k t=some r/\∀(Z:Type) (k':T Y->Option Z),path x f i k'=k' t:=by
 induction f with
 |zero=>intro i k r h;simp[path]at h
 |succ f ih=>
  intro i k r h;have E: ∀(Z:Type) (k':T Y->Option Z),path x (f+1) i k'=Bool.rec (motive:=fun _=>Option Z) (Bool.rec (motive:=fun _=>Option Z) (path x f (Nat.pred (Nat.div i 2)) fun r=>k' (.node .nil none r)) (path x f (Nat.div i 2) fun l=>k' (.node l none .nil)) (Nat.beq (Nat.mod i 2) 1))
   (k' (.node .nil x .nil)) (Nat.beq i 0):=fun _ _=>rfl
  rw[E]at h;simp only[E];cases h0:Nat.beq i 0 with
  |true=>rw[h0]at h;exact⟨_,h,fun _ _=>rfl⟩
  |false=>
   rw[h0]at h;cases h1:Nat.beq (Nat.mod i 2) 1 with
   |true=>
    rw[h1]at h;obtain⟨t,g1,g2⟩:=ih _ _ _ h;exact⟨_,g1,fun Z k'=>g2 Z _⟩
   |false=>
    rw[h1]at h;obtain⟨t,g1,g2⟩:=ih _ _ _ h;exact⟨_,g1,fun Z k'=>g2 Z _⟩
theorem oe(d:Nat)(t:T Y): ∀(i:Nat) (x:Option Y) (k:T Y->Option β) (r:β),set d t i x k=some r->
  ∃t',k t'=some r/\∀(Z:Type) (k':T Y->Option Z),set d t i x k'=k' t':=by
 induction t with
 |nil=>intro i x k r h;exact T5 x d i k r h
 |node l v rr ihl ihr=>
  intro i x k r h;have E: ∀(Z:Type) (k':T Y->Option Z),set d (.node l v rr) i x k'=Bool.rec (motive:=fun _=>Option Z) (Bool.rec (motive:=fun _=>Option Z) (set d rr (Nat.pred (Nat.div i 2)) x fun r'=>k' (.node l v r')) (set d l (Nat.div i 2) x fun l'=>k' (.node l' v rr)) (Nat.beq (Nat.mod i 2) 1))
   (k' (.node l x rr)) (Nat.beq i 0):=fun _ _=>rfl
  rw[E]at h;simp only[E];cases h0:Nat.beq i 0 with
  |true=>rw[h0]at h;exact⟨_,h,fun _ _=>rfl⟩
  |false=>
   rw[h0]at h;cases h1:Nat.beq (Nat.mod i 2) 1 with
   |true=>
    rw[h1]at h;obtain⟨t,g1,g2⟩:=ihl _ _ _ _ h;exact⟨_,g1,fun Z k'=>g2 Z _⟩
   |false=>
    rw[h1]at h;obtain⟨t,g1,g2⟩:=ihr _ _ _ _ h;exact⟨_,g1,fun Z k'=>g2 Z _⟩
end T
theorem xB(c:Cell)(k:Cell->Option β):zy c k=k c:=by cases c<;>simp[zy,fy]
theorem BZ(l:List Cell): ∀k:List Cell->Option β,uE l k=k l:=by
 induction l with
 |nil=>intro k;rfl
 |cons x l ih=>intro k;simp[uE,xB,ih]
theorem GL(v:AV)(k:AV->Option β):Oo v k=k v:=by cases v<;>simp[Oo,xB,BZ]
theorem Zb(l:List AV): ∀k:List AV->Option β,K4 l k=k l:=by
 induction l with
 |nil=>intro k;rfl
 |cons x l ih=>intro k;simp[K4,GL,ih]
theorem PY(v:RV)(k:RV->Option β):Wm v k=k v:=by cases v<;>simp[Wm,GL,Zb]
theorem acM(l:List (Cell×AV)): ∀k:List (Cell×AV)->Option β,Xs l k=k l:=by
 induction l with
 |nil=>intro k;rfl
 |cons x l ih=>intro k;cases x;simp[Xs,GL,xB,ih]
theorem IU(b:ax)(k:ax->Option β):xA b k=k b:=by
 cases b with
 |row t ro o b=>cases b<;>simp[xA,BZ]
 |map es=>simp[xA,acM]
 |dK=>rfl
 |recs=>rfl
 |aQ=>rfl
 |mapR=>rfl
 |loop=>rfl
 |iter=>rfl
 |mapP=>rfl
 |eE=>rfl
 |di=>rfl
theorem NM(u:cf)(s:S)(k:S->Option β):A9 u s k=iQ false u s k:=by
 obtain⟨sl,hp,nx,lg⟩:=s;cases u<;>simp only[A9,iQ,IU,mn]
theorem tf(n:Nat)(d:Option Tmp)(v:RV)(s:S)(k:S->Option β):vH n d v s k=putDst n d v s k:=by
 obtain⟨sl,hp,nx,lg⟩:=s;cases d<;>rfl
theorem Na{u:cf}{s:S}{k:S->Option β}{r:β}(h:iQ false u s k=some r): ∃s',k s'=some r/\∀(Z:Type) (k':S->Option Z),iQ false u s k'=k' s':=by
 cases u with
 |none=>exact⟨s,h,fun _ _=>rfl⟩
 |new b=>
  simp only[iQ,mn]at h ⊢;obtain⟨t,h1,h2⟩:=T.oe _ _ _ _ _ _ h;rw[fy]at h1;exact⟨_,h1,fun Z k'=>by rw[h2,fy]⟩
 |wr nm b=>
  simp only[iQ,mn]at h ⊢;cases hb:Nat.blt nm s.nx with
  |false=>rw[hb]at h;cases h
  |true=>
   rw[hb]at h;obtain⟨t,h1,h2⟩:=T.oe _ _ _ _ _ _ h;exact⟨_,h1,fun Z k'=>h2 _ _⟩
 |mv nm b=>
  simp only[iQ,mn]at h ⊢;cases hb:Nat.blt nm s.nx with
  |false=>rw[hb]at h;cases h
  |true=>
   rw[hb]at h;obtain⟨t,h1,h2⟩:=T.oe _ _ _ _ _ _ h;obtain⟨t',h3,h4⟩:=T.oe _ _ _ _ _ _ h1;rw[fy]at h3;refine⟨_,h3,fun Z k'=> ?_⟩
   show T.set depth s.hp nm none _=_;rw[h2,h4,fy]
theorem sP{n:Nat}{d:Option Tmp}{v:RV}{s:S}{k:S->Option β}{r:β}(h:putDst n d v s k=some r): ∃s',k s'=some r/\∀(Z:Type) (k':S->Option Z),putDst n d v s k'=k' s':=by
 cases d with
 |none=>exact⟨s,h,fun _ _=>rfl⟩
 |some d=>
  simp only[putDst]at h ⊢;split at h<;>try(cases h;done)
  rename_i aA;obtain⟨t,h1,h2⟩:=T.oe _ _ _ _ _ _ h;exact⟨_,h1,fun Z k'=>by rw[if_pos aA,h2]⟩
theorem xa{n:Nat}: ∀ {args:List RV} {i:Nat} {sl:T RV} {k:T RV->Option β} {r:β},setArgs n args i sl k=some r->
  ∃sl',k sl'=some r/\∀(Z:Type) (k':T RV->Option Z),setArgs n args i sl k'=k' sl'
 | [],i,sl,k,r,h=>⟨sl,h,fun _ _=>rfl⟩
 |v::vs,i,sl,k,r,h=>by
  simp only[setArgs]at h ⊢;split at h<;>try(cases h;done)
  rename_i aA;obtain⟨t,h1,h2⟩:=T.oe _ _ _ _ _ _ h;obtain⟨sl',h3,h4⟩:=xa h1;exact⟨sl',h3,fun Z k'=>by rw[if_pos aA,h2,h4]⟩
def Jx(callA:lj β)(call: ∀Z:Type,fJ Z):Prop:= ∀f args s Y k r,callA f args s Y k=some r->
 ∃v s' α',k v s' α'=some r/\(α'.Sat->Y.Sat/\∀(Z:Type) (k':RV->S->Option Z),call Z f args s k'=k' v s')
def Aw(exA:np β)(ex: ∀Z:Type,fU Z):Prop:= ∀n c s Y k r,exA n c s Y k=some r->
 ∃x s' α',k x s' α'=some r/\(α'.Sat->Y.Sat/\∀(Z:Type) (k':X->S->Option Z),ex Z n c s k'=k' x s')
variable{P:Program}
theorem O0{n:Nat}{o:Oper}{s:S}{Y:A}{k:fG->S->A->Option β}{r:β}(h:Hq P n o s Y k=some r):
  ∃nd s' α',k nd s' α'=some r/\(α'.Sat->Y.Sat/\∀(Z:Type) (k':fG->S->Option Z),oF P false n o s k'=k' nd s'):=by
 unfold Hq at h;obtain⟨sl,hp,nx,lg⟩:=s;simp only at h;obtain⟨re,α',h1,h2⟩:=MS h;obtain⟨v,u,ar,fz⟩:=re;simp only[PY,NM,tf]at h1;obtain⟨s1,h3,h4⟩:=Na h1;obtain⟨s2,h5,h6⟩:=sP h3;refine⟨_,_,_,h5,fun st=>⟨(h2 st).1,fun Z k'=> ?_⟩⟩
 simp only[oF,(h2 st).2,Bool.false_and,Ph,h4,h6]
theorem PM{n:Nat}{ops:List Oper}{sl:T RV}{o:Oper}{Y:A}{k:Bool->A->Option β}{r:β}(h:Gh n ops sl o Y k=some r):lK Y k r (fun g=>guardOf n ops sl o=some g):=by
 unfold Gh at h;unfold guardOf;split at h
 ·rename_i e;rw[e];exact⟨_,_,h,fun s=>⟨s,rfl⟩⟩
 ·rename_i j want e;rw[e];simp only;split at h<;>try(cases h;done)
  rename_i oj e1;rw[e1];simp only;split at h<;>try(cases h;done)
  rename_i d e2;rw[e2];simp only;split at h<;>try(cases h;done)
  ·rename_i b e3;rw[e3];obtain⟨g,α',h1,h2⟩:=ky h;exact⟨_,_,h1,fun s=>⟨(h2 s).1,by simp only[(h2 s).2]⟩⟩
  ·rename_i e3;rw[e3];exact⟨_,_,h,fun s=>⟨s,rfl⟩⟩
theorem SQ{Z:Type}{t:T Z}{β':Type}{d:Nat}: ∀ {i:Nat} {x:Z} {k:T Z->Option β'},t.get i=some x->T.set d t i (some x) k=k t:=by
 induction t with
 |nil=>intro i x k h;rw[T.get_nil]at h;cases h
 |node l v rr ihl ihr=>
  intro i x k h;rw[T.dq]at h;show Bool.rec (motive:=fun _=>Option β') (Bool.rec (motive:=fun _=>Option β') (T.set d rr (Nat.pred (Nat.div i 2)) (some x) fun r'=>k (.node l v r')) (T.set d l (Nat.div i 2) (some x) fun l'=>k (.node l' v rr)) (Nat.beq (Nat.mod i 2) 1))
   (k (.node l (some x) rr)) (Nat.beq i 0)=k (.node l v rr)
  by_cases h0:i=0
  ·subst h0;rw[if_pos rfl]at h;subst h
   rfl
  ·have e:Nat.beq i 0=false:=by cases i<;>simp_all[Nat.beq]
   rw[e];rw[if_neg h0]at h;by_cases h2:i % 2=1
   ·have e2:Nat.beq (Nat.mod i 2) 1=true:=by show Nat.beq (i % 2) 1=true;rw[h2];rfl
    rw[e2];rw[if_pos h2]at h;exact ihl (k:=fun l'=>k (.node l' v rr)) h
   ·have e2:Nat.beq (Nat.mod i 2) 1=false:=by
     show Nat.beq (i % 2) 1=false;have:i % 2=0:=by omega
     rw[this];rfl
    rw[e2];rw[if_neg h2]at h;exact ihr (k:=fun r'=>k (.node l v r')) h
theorem JV{n:Nat}{d:Tmp}{b:Bool}{s:S}{k:S->Option β}{r:β}(h:MI n d b s k=some r): ∃s2,k s2=some r/\((∀b',eval n s.sl (.tmp d)=some (.one (.c (.bool b')))->b'=b)->s2=s):=by
 obtain⟨sl,hp,nx,lg⟩:=s;unfold MI at h;simp only at h;split at h
 ·rename_i b' e;by_cases hb:b'=b
  ·subst hb;have hg:sl.get d=some (.one (.c (.bool b'))):=by
    simp only[eval]at e;split at e
    ·split at e
     ·rename_i v hv;rw[hv];exact e
     ·cases e
    ·cases e
   rw[SQ hg]at h;exact⟨_,h,fun _=>rfl⟩
  ·obtain⟨t',h1,_⟩:=T.bR _ _ _ _ _ _ h;exact⟨_,h1,fun hh=>absurd (hh b' e) hb⟩
 ·exact⟨_,h,fun _=>rfl⟩
theorem ZH{n:Nat}{ops:List Oper}{o:Oper}{g:Bool}{s:S}{Y:A}{k:S->Option β}{r:β}(h:SX n ops o g s Y k=some r): ∃s2,k s2=some r/\(guardOf n ops s.sl o=some g->s2=s):=by
 unfold SX at h;split at h
 ·exact⟨s,h,fun _=>rfl⟩
 ·split at h
  ·exact⟨s,h,fun _=>rfl⟩
  ·rename_i j want e;split at h
   ·rename_i oj e1;split at h
    ·rename_i d e2;obtain⟨s2,h1,h2⟩:=JV h;refine⟨s2,h1,fun hg=>h2 fun b' he=> ?_⟩
     unfold guardOf at hg;rw[e]at hg;simp only[e1,e2,he,ae]at hg;subst hg;cases b'<;>cases want<;>rfl
    ·exact⟨s,h,fun _=>rfl⟩
   ·exact⟨s,h,fun _=>rfl⟩
theorem Y2{n:Nat}{c:Operand}{t u:Bool}{s:S}{Y:A}{k:S->Option β}{r:β}(he:eval n s.sl c=some (.one (.c (.bool u))))(h:Ul n c t s Y k=some r): ∃s2,k s2=some r/\(u=t->s2=s):=by
 unfold Ul at h;split at h
 ·exact⟨s,h,fun _=>rfl⟩
 ·split at h
  ·rename_i d;obtain⟨s2,h1,h2⟩:=JV h;refine⟨s2,h1,fun hu=>h2 fun b' hb=> ?_⟩
   rw[he]at hb;cases hb;exact hu
  ·exact⟨s,h,fun _=>rfl⟩
section
variable{callA:lj β}{call: ∀Z:Type,fJ Z}(hc:Jx callA call)
include hc
theorem Ij{n:Nat}{f:Operand}{args:Array Operand}{d:Option Tmp}{s:S}{Y:A}{k:fG->S->A->Option β}{r:β}(h:xo callA n f args d s Y k=some r):
  ∃nd s' α',k nd s' α'=some r/\(α'.Sat->Y.Sat/\∀(Z:Type) (k':fG->S->Option Z),q9 (call Z) n f args d s k'=k' nd s'):=by
 unfold xo at h;unfold q9;split at h<;>try(cases h;done)
 rename_i f' fs dH e1;rw[e1];simp only;split at h<;>try(cases h;done)
 rename_i l e2;rw[e2];simp only;obtain⟨v,s1,α',h1,h2⟩:=hc _ _ _ _ _ _ h;rw[tf]at h1;obtain⟨s2,h3,h4⟩:=sP h1;exact⟨_,_,_,h3,fun st=>⟨(h2 st).1,fun Z k'=>by rw[(h2 st).2,h4]⟩⟩
theorem RF{n:Nat}{ops:List Oper}{o:Oper}{s:S}{Y:A}{k:fG->S->A->Option β}{r:β}(h:V5 P callA n ops o s Y k=some r):
  ∃nd s' α',k nd s' α'=some r/\(α'.Sat->Y.Sat/\∀(Z:Type) (k':fG->S->Option Z),mG P false (call Z) n ops o s k'=k' nd s'):=by
 unfold V5 at h;obtain⟨g,α1,h1,h2⟩:=PM h;obtain⟨s0,h1,hs⟩:=ZH h1;cases g with
 |false=>
  simp only[tf]at h1;obtain⟨s1,h3,h4⟩:=sP h1;refine⟨_,_,_,h3,fun st=>⟨(h2 st).1,fun Z k'=> ?_⟩⟩
  obtain rfl:=hs (h2 st).2;simp only[mG,(h2 st).2,h4]
 |true=>
  simp only at h1;split at h1
  ·rename_i f args e;obtain⟨nd,s1,α2,h3,h4⟩:=Ij hc h1;refine⟨_,_,_,h3,fun st=>⟨(h2 (h4 st).1).1,fun Z k'=> ?_⟩⟩
   obtain rfl:=hs (h2 (h4 st).1).2;simp only[mG,(h2 (h4 st).1).2,e,(h4 st).2]
  ·rename_i e;obtain⟨nd,s1,α2,h3,h4⟩:=O0 h1;refine⟨_,_,_,h3,fun st=>⟨(h2 (h4 st).1).1,fun Z k'=> ?_⟩⟩
   obtain rfl:=hs (h2 (h4 st).1).2;simp only[mG,(h2 (h4 st).1).2,e,(h4 st).2]
theorem JO{n:Nat}{ops:List Oper}{r:β}: ∀ {rest:List Oper} {s:S} {Y:A} {k:S->A->Option β},LJ P callA n ops rest s Y k=some r->
  ∃s' α',k s' α'=some r/\(α'.Sat->Y.Sat/\∀(Z:Type) (k':S->Option Z),qZ P false (call Z) n ops rest s k'=k' s')
 | [],s,Y,k,h=>⟨_,_,h,fun st=>⟨st,fun _ _=>rfl⟩⟩
 |o::rest,s,Y,k,h=>by
  simp only[LJ]at h;obtain⟨nd,s1,α1,h1,h2⟩:=RF hc h;obtain⟨s2,α2,h3,h4⟩:=JO h1;exact⟨_,_,h3,fun st=>⟨(h2 (h4 st).1).1,fun Z k'=>by simp only[qZ,(h2 (h4 st).1).2,(h4 st).2]⟩⟩
theorem zY{n:Nat}{ops:List Oper}{r:β}: ∀ {rest:List Oper} {fps:List FP} {s:S} {Y:A} {k:List FP->S->A->Option β},vI P callA n ops rest fps s Y k=some r->
  ∃fps' s' α',k fps' s' α'=some r/\(α'.Sat->Y.Sat/\∀(Z:Type) (k':List FP->S->Option Z),pK P false (call Z) n ops rest fps s k'=k' fps' s')
 | [],fps,s,Y,k,h=>⟨_,_,_,h,fun st=>⟨st,fun _ _=>rfl⟩⟩
 |o::rest,fps,⟨sl,hp,nx,lg⟩,Y,k,h=>by
  simp only[vI]at h;obtain⟨nd,s1,α1,h1,h2⟩:=RF hc h;obtain⟨sl',hp',nx',lg'⟩:=s1;simp only at h1;obtain⟨fps2,s2,α2,h3,h4⟩:=zY h1;exact⟨_,_,_,h3,fun st=>⟨(h2 (h4 st).1).1,fun Z k'=>by simp only[pK,(h2 (h4 st).1).2,(h4 st).2]⟩⟩
theorem Mz{n:Nat}{ops:List Oper}{draw:Bool}{s:S}{Y:A}{k:S->A->Option β}{r:β}(h:BL P callA n ops draw s Y k=some r):
  ∃s' α',k s' α'=some r/\(α'.Sat->Y.Sat/\∀(Z:Type) (k':S->Option Z),ik P false (call Z) n ops draw s k'=k' s'):=by
 unfold BL at h;cases draw with
 |false=>exact JO hc h
 |true=>
  simp only at h;unfold WV at h;simp only[ik,wq];split at h<;>try(cases h;done)
  rename_i e;rw[e];obtain⟨fps,s1,α1,h1,h2⟩:=zY hc h;split at h1<;>try(cases h1;done)
  rename_i e1;obtain⟨sl,hp,nx,lg⟩:=s;obtain⟨sl',hp',nx',lg'⟩:=s1;simp only at h1;exact⟨_,_,h1,fun st=>⟨(h2 st).1,fun Z k'=>by simp only[(h2 st).2,e1]⟩⟩
end
section
variable{exA:np β}{ex: ∀Z:Type,fU Z}(he:Aw exA ex)
def bj(sm:bg):Sum:=fun args hp nx=>
 match sm args hp nx with
 |some (v,hp',nx',lg,ps)=>open Classical in if aw ps then some (v,hp',nx',lg)else none
 |none=>none
theorem bH: ∀(a b:List Prop),aw (a++b)↔aw a/\aw b
 | [],b=>by simp[aw]
 |p::a,b=>by simp[aw,bH a b,and_assoc]
theorem cS{p:Prop}(h:p): ∀n,aw (List.replicate n p)
 | 0=>trivial
 |n+1=>⟨h,cS h n⟩
include he in
theorem ya{fn:Func}{c:Code}{args:List RV}{s:S}{Y:A}{k:RV->S->A->Option β}{r:β}(h:zC P exA fn c args s Y k=some r):
  ∃v s' α',k v s' α'=some r/\(α'.Sat->Y.Sat/\∀(Z:Type) (k':RV->S->Option Z),jW P (ex Z) fn c args s k'=k' v s'):=by
 unfold zC at h;obtain⟨bf,hp,nx,lg⟩:=s;simp only at h;obtain⟨sl,h1,h2⟩:=xa h;obtain⟨x,s1,α1,h3,h4⟩:=he _ _ _ _ _ _ h1;unfold V6 at h3;split at h3<;>try(cases h3;done)
 rename_i hx;split at h3<;>try(cases h3;done)
 rename_i l e1;obtain⟨sl',hp',nx',lg'⟩:=s1;simp only[PY]at h3;refine⟨_,_,_,h3,fun st=>⟨(h4 st).1,fun Z k'=> ?_⟩⟩
 unfold jW;rw[h2,(h4 st).2];cases x with
 |exit id=>exact absurd rfl (hx id)
 |normal=>simp only[oC,e1]
 |ret=>simp only[oC,e1]
include he in
theorem Ln(Sg:FuncId->Option bg):Jx (Bk P Sg exA) (fun Z=>pr P (fun f=>(Sg f).map bj) (ex Z)):=by
 intro g args s Y k r h;unfold Bk at h;unfold pr;split at h<;>try(cases h;done)
 rename_i fn e1;split at h<;>try(cases h;done)
 rename_i e0;split at h<;>try(cases h;done)
 rename_i c e2;simp only[e1,e0,e2];split at h
 ·rename_i sm e3;simp only[e3,Option.map_some];split at h
  ·rename_i v hp nx lg ps e4;obtain⟨sl,hp0,nx0,lg0⟩:=s;obtain⟨an,ao,ab⟩:=Y;simp only at h e4;refine⟨_,_,_,h,fun st=> ?_⟩
   have st':=(bH _ _).1 st;refine⟨st'.2,fun Z k'=> ?_⟩
   have:bj sm args hp0 nx0=some (v,hp,nx,lg):=by
    unfold bj;rw[e4];simp only;rw[if_pos st'.1]
   simp only[this]
  ·rename_i e4;have:bj sm args s.hp s.nx=none:=by unfold bj;rw[e4]
   simp only[this];exact ya he h
 ·rename_i e3;simp only[e3,Option.map_none];exact ya he h
include he in
theorem TI(Sg:FuncId->Option bg):Aw (sZ P Sg exA) (fun Z=>du P (fun f=>(Sg f).map bj) false (ex Z)):=by
 intro n c s Y k r h;cases c with
 |skip=>exact⟨_,_,_,h,fun st=>⟨st,fun _ _=>rfl⟩⟩
 |ret=>exact⟨_,_,_,h,fun st=>⟨st,fun _ _=>rfl⟩⟩
 |exit id=>exact⟨_,_,_,h,fun st=>⟨st,fun _ _=>rfl⟩⟩
 |seq a b=>
  simp only[sZ]at h;obtain⟨x,s1,α1,h1,h2⟩:=he _ _ _ _ _ _ h;cases x with
  |normal=>
   simp only[K5]at h1;obtain⟨y,s2,α2,h3,h4⟩:=he _ _ _ _ _ _ h1;exact⟨_,_,_,h3,fun st=>⟨(h2 (h4 st).1).1,fun Z k'=>by simp only[du];rw[(h2 (h4 st).1).2];simp only[AF];rw[(h4 st).2]⟩⟩
  |exit id=>exact⟨_,_,_,h1,fun st=>⟨(h2 st).1,fun Z k'=>by simp only[du];rw[(h2 st).2];rfl⟩⟩
  |ret=>exact⟨_,_,_,h1,fun st=>⟨(h2 st).1,fun Z k'=>by simp only[du];rw[(h2 st).2];rfl⟩⟩
 |cond c a b=>
  simp only[sZ]at h;unfold WK at h;split at h<;>try(cases h;done)
  rename_i t e1;obtain⟨g,α1,h1,h2⟩:=ky h;obtain⟨s0,h1,hs⟩:=Y2 e1 h1;cases g with
  |false=>
   obtain⟨y,s2,α2,h3,h4⟩:=he _ _ _ _ _ _ h1;refine⟨_,_,_,h3,fun st=>⟨(h2 (h4 st).1).1,fun Z k'=> ?_⟩⟩
   obtain rfl:=hs (h2 (h4 st).1).2;simp only[du,vL,e1,(h2 (h4 st).1).2,cond_false];rw[(h4 st).2]
  |true=>
   obtain⟨y,s2,α2,h3,h4⟩:=he _ _ _ _ _ _ h1;refine⟨_,_,_,h3,fun st=>⟨(h2 (h4 st).1).1,fun Z k'=> ?_⟩⟩
   obtain rfl:=hs (h2 (h4 st).1).2;simp only[du,vL,e1,(h2 (h4 st).1).2,cond_true];rw[(h4 st).2]
 |block id c=>
  simp only[sZ]at h;obtain⟨x,s1,α1,h1,h2⟩:=he _ _ _ _ _ _ h;cases x with
  |normal=>exact⟨_,_,_,h1,fun st=>⟨(h2 st).1,fun Z k'=>by simp only[du];rw[(h2 st).2];rfl⟩⟩
  |ret=>exact⟨_,_,_,h1,fun st=>⟨(h2 st).1,fun Z k'=>by simp only[du];rw[(h2 st).2];rfl⟩⟩
  |exit j=>
   simp only[Pk]at h1;split at h1
   ·rename_i e;exact⟨_,_,_,h1,fun st=>⟨(h2 st).1,fun Z k'=>by simp only[du];rw[(h2 st).2];simp only[yY,if_pos e]⟩⟩
   ·rename_i e;exact⟨_,_,_,h1,fun st=>⟨(h2 st).1,fun Z k'=>by simp only[du];rw[(h2 st).2];simp only[yY,if_neg e]⟩⟩
 |loop c=>
  simp only[sZ]at h;obtain⟨x,s1,α1,h1,h2⟩:=he _ _ _ _ _ _ h;cases x with
  |normal=>
   simp only[K5]at h1;obtain⟨y,s2,α2,h3,h4⟩:=he _ _ _ _ _ _ h1;exact⟨_,_,_,h3,fun st=>⟨(h2 (h4 st).1).1,fun Z k'=>by simp only[du];rw[(h2 (h4 st).1).2];simp only[AF];rw[(h4 st).2]⟩⟩
  |exit id=>exact⟨_,_,_,h1,fun st=>⟨(h2 st).1,fun Z k'=>by simp only[du];rw[(h2 st).2];rfl⟩⟩
  |ret=>exact⟨_,_,_,h1,fun st=>⟨(h2 st).1,fun Z k'=>by simp only[du];rw[(h2 st).2];rfl⟩⟩
 |region id ops draw=>
  simp only[sZ]at h;obtain⟨s1,α1,h1,h2⟩:=Mz (Ln he Sg) h;exact⟨_,_,_,h1,fun st=>⟨(h2 st).1,fun Z k'=>by simp only[du];rw[(h2 st).2]⟩⟩
 |rangeFunc=>cases h
 |scope=>cases h
 |label=>cases h
 |goto=>cases h
 |refuse=>cases h
end
theorem jA(Sg:FuncId->Option bg): ∀f,Aw (az (β:=β) P Sg f) (fun Z=>exec P (fun f=>(Sg f).map bj) false f)
 | 0=>fun n c s Y k r h=>by cases h
 |f+1=>by
  have:=TI (P:=P) (jA Sg f) Sg;exact this
theorem wo{Sg:FuncId->Option bg}{fuel:Nat}{g:FuncId}{args:List RV}{s:S}{Y:A}{k:RV->S->A->Option β}{r:β}(h:cO P Sg fuel g args s Y k=some r):
  ∃v s' α',k v s' α'=some r/\(α'.Sat->Y.Sat/\∀(Z:Type) (k':RV->S->Option Z),s7 P (fun f=>(Sg f).map bj) false fuel g args s k'=k' v s'):=by
 unfold cO at h;unfold s7;split at h<;>try(cases h;done)
 rename_i fn e1;rw[e1];simp only;split at h<;>try(cases h;done)
 rename_i c e2;rw[e2];exact ya (jA Sg fuel) h
end
open Go.RowKit
variable{P:Program}
def zw(sl:T RV)(aH:List Nat):Nat->T RV->(T RV->Option (T RV))->Option (T RV)
 | 0,t,k=>k t
 |n+1,t,k=>T.set depth t n (some (if aH.contains n then(sl.get n).getD fc else .any)) fun t=>zw sl aH n t k
def aE(aH:List Nat)(n:Nat)(s:S):S:=match s with|⟨sl,hp,nx,_⟩=>match zw sl aH n .nil some with|some t=>⟨t,hp,nx,[]⟩|none=>⟨sl,hp,nx,[]⟩
structure o9(s s':S)(L:List Nat):Prop where
 le:s.nx<=s'.nx
 aH: ∀nm,nm<s.nx->nm∉L->s'.hp.get nm=s.hp.get nm
 top:cJ s'
 lt: ∀nm,nm∈L->nm<s'.nx
theorem gU.n {s s':S}{L:List Nat}(h:gU s s' L):o9 s s' L:=⟨h.le,h.aH,h.top,h.lt⟩
theorem o9.trans {s1 s2 s3:S}{L1 L2:List Nat}(a:o9 s1 s2 L1)(b:o9 s2 s3 L2):o9 s1 s3 (L2++L1) where
 le:=Nat.le_trans a.le b.le
 aH:=fun nm h hn=>by
  rw[List.mem_append,not_or]at hn;rw[b.aH nm (Nat.lt_of_lt_of_le h a.le) hn.1,a.aH nm h hn.2]
 top:=b.top
 lt:=fun nm h=>by
  rcases List.mem_append.1 h with h|h
  ·exact b.lt nm h
  ·exact Nat.lt_of_lt_of_le (a.lt nm h) b.le
theorem Hr{sl:T RV}{aH:List Nat}: ∀ {n:Nat} {t:T RV} {r:T RV},zw sl aH n t some=some r->∀j,r.get j=if j<n then some (if aH.contains j then(sl.get j).getD fc else .any)else t.get j
 | 0,t,r,h,j=>by simp only[zw,ae]at h;subst h;simp
 |n+1,t,r,h,j=>by
  unfold zw at h;obtain⟨t',h1,h2⟩:=T.bR _ _ _ _ _ _ h;rw[Hr h1,h2];by_cases e:j<n
  ·simp only[if_pos e,if_pos (show j<n+1 by omega)]
  ·by_cases e2:j=n
   ·subst e2;simp only[if_neg e,if_pos (show j<j+1 by omega)];rfl
   ·simp only[if_neg e,if_neg e2,if_neg (show¬j<n+1 by omega)]
theorem Rel.aE {n:Nat}{ρ:aM}{s:S}{a:Act}{w:World}(R:Rel n ρ s a w)(aH:List Nat):Rel n ρ (aE aH n s) a w:=by
 obtain⟨sl,hp,nx,lg⟩:=s;unfold Sx.aE;simp only;split
 ·rename_i t ht;refine⟨R.sz,R.df,fun j=> ?_,R.hp,R.fresh⟩
  have:=Hr ht j;unfold slot;simp only;by_cases hj:j<n
  ·rw[if_pos hj,this,if_pos hj];simp only[Option.getD_some];split
   ·have:=R.sl j;unfold slot at this;rw[if_pos hj]at this;exact this
   ·trivial
  ·have:=R.sl j;unfold slot at this;rw[if_neg hj]at this ⊢;exact this
 ·exact⟨R.sz,R.df,R.sl,R.hp,R.fresh⟩
theorem tE(aH:List Nat)(n:Nat)(s:S):(aE aH n s).hp=s.hp/\(aE aH n s).nx=s.nx:=by
 obtain⟨sl,hp,nx,lg⟩:=s;unfold aE;simp only;split<;>exact⟨rfl,rfl⟩
def eW(P:Program)(c:Code)(Q:Exit->Act->World->Prop)(a:Act)(w:World):Prop:=
 ∀b k cs,∃e a' w',Q e a' w'/\Arrives P (lone (b.at a (.code c:: .inLoop c::k)) cs w) b k cs e a' w'
theorem eW.wp {c:Code}{Q:Exit->Act->World->Prop}{a:Act}{w:World}(h:eW P c Q a w):(Code.loop c).wp P Q a w:=fun b k cs=>by
 obtain⟨e,a',w',hq,harr⟩:=h b k cs;exact⟨e,a',w',hq,.of_steps (.one step_loop) harr⟩
theorem eW.open {c:Code}{Q:Exit->Act->World->Prop}{a:Act}{w:World}(h:c.wp P (Exit.then (eW P c Q) Q) a w):eW P c Q a w:=fun b k cs=>by
 obtain⟨e,a₁,w₁,hq,harr⟩:=h b (.inLoop c::k) cs;cases e with
 |normal=>
  obtain⟨e₂,a₂,w₂,hq₂,harr₂⟩:=hq b k cs;exact⟨e₂,a₂,w₂,hq₂,.of_steps (Steps.trans harr (.one step_inLoop)) harr₂⟩
 |exit id=>exact⟨_,a₁,w₁,hq,.pass (x:= .inLoop c) rfl (fun _ _=> .inl (by simp)) harr⟩
 |goto l=>exact⟨_,a₁,w₁,hq,.pass (x:= .inLoop c) rfl (fun _ _=> .inl (by simp)) harr⟩
 |ret=>exact⟨_,a₁,w₁,hq,.pass (x:= .inLoop c) rfl (fun _ _=> .inl (by simp)) harr⟩
 |panic ch=>exact⟨_,a₁,w₁,hq,.pass (x:= .inLoop c) rfl (fun _ _=> .inl (by simp)) harr⟩
 |outgrown=>exact⟨_,a₁,w₁,hq,.pass (x:= .inLoop c) rfl (fun _ _=> .inl (by simp)) harr⟩
theorem eW.rounds {c:Code}{Q:Exit->Act->World->Prop}: ∀ {m:Nat} {a:Act} {w:World},Code.rounds P c Q m a w->eW P c Q a w
 | 0,_,_,h=>h.elim
 |m+1,a,w,h=> .open (wp_mono h fun e a' w' hq=>by cases e<;>first|exact eW.rounds hq|exact hq)
theorem eW.mono {c:Code}{Q Q':Exit->Act->World->Prop}{a:Act}{w:World}(h:eW P c Q a w)(hq: ∀e a w,Q e a w->Q' e a w):eW P c Q' a w:=fun b k cs=>by
 obtain⟨e,a',w',h1,h2⟩:=h b k cs;exact⟨e,a',w',hq _ _ _ h1,h2⟩
def vt(P:Program)(c:Code)(Q:Exit->Act->World->Prop)(a:Act)(w:World):Prop:=
 match c with
 | .loop c=>eW P c Q a w
 |c=>c.wp P Q a w
theorem vt.wp {c:Code}{Q:Exit->Act->World->Prop}{a:Act}{w:World}(h:vt P c Q a w):c.wp P Q a w:=by
 unfold vt at h;split at h
 ·exact h.wp
 ·exact h
theorem V7.y {m:Nat}{c:Code}{Q:Exit->Act->World->Prop}{a:Act}{w:World}(h:V7 P m c Q a w):vt P c Q a w:=by
 unfold V7 at h;unfold vt;split at h
 ·exact .rounds h
 ·rename_i hn;split
  ·exact absurd rfl (hn _)
  ·exact h
theorem vt.mono {c:Code}{Q Q':Exit->Act->World->Prop}{a:Act}{w:World}(h:vt P c Q a w)(hq: ∀e a w,Q e a w->Q' e a w):vt P c Q' a w:=by
 unfold vt at h ⊢;cases c with
 |loop c=>exact h.mono hq
 |_=>exact wp_mono h hq
def Tr(P:Program)(n:Nat)(c:Code)(s:S)(Q:ag):Prop:=cJ s->∀(ρ:aM) (a:Act) (w:World),Rel n ρ s a w->
 vt P c (fun e a' w'=> ∃x s' L,Q x s'/\o9 s s' L/\wB n ρ s w x s' L e a' w') a w
theorem Tr.mono {n:Nat}{c:Code}{s:S}{Q Q':ag}(h:Tr P n c s Q)(hq: ∀x s',Q x s'->Q' x s'):Tr P n c s Q':=fun ht ρ a w R=>by
 exact(h ht ρ a w R).mono fun e a w ⟨x,s',L,h1,h2⟩=>⟨x,s',L,hq _ _ h1,h2⟩
theorem Tr.aE {n:Nat}{c:Code}{s:S}{Q:ag}(aH:List Nat)(h:Tr P n c s fun x s'=>Q x (aE aH n s')):Tr P n c s Q:=fun ht ρ a w R=>by
 refine(h ht ρ a w R).mono fun e a w ⟨x,s',L,h1,h2,h3,ρ',h4,h5⟩=> ?_
 obtain⟨e1,e2⟩:=tE aH n s';refine⟨x,_,L,h1,⟨by rw[e2];exact h2.le,by rw[e1];exact h2.aH,?_,by rw[e2];exact h2.lt⟩,h3,ρ',h4.aE aH,?_⟩
 ·unfold cJ;rw[e1,e2];exact h2.top
 ·unfold nG;rw[e1,e2];exact h5
theorem Tr.pre {n:Nat}{c:Code}{s:S}{Q:ag}(aH:List Nat)(h:Tr P n c (Sx.aE aH n s) Q):Tr P n c s Q:=fun ht ρ a w R=>by
 obtain⟨e1,e2⟩:=tE aH n s;refine(h (by unfold cJ;rw[e1,e2];exact ht) ρ a w (R.aE aH)).mono fun e a w ⟨x,s',L,h1,h2,h3,ρ',h4,h5⟩=>⟨x,s',L,h1,⟨by rw[<-e2];exact h2.le,by rw[<-e1, <-e2];exact h2.aH,h2.top,h2.lt⟩,h3,ρ',h4,?_⟩
 unfold nG at h5 ⊢;rw[<-e1, <-e2];exact h5
theorem Tr.path {Sg:FuncId->Option bg}(F:Fit P (fun f=>(Sg f).map bj)){fuel n:Nat}{c:Code}{s:S}{o:List (Nat×Bool)}{aH:List Nat}{x:X}{s':S}{ps:List Prop}
  (h:az P Sg fuel n c s ⟨0,o,[]⟩ (fun x s Z=>some (x,Sx.aE aH n s,Z.ob))=some (x,s',ps)) (hp:aw ps) {Q:ag} (hq:Q x s'):Tr P n c s Q:=by
 refine Tr.aE aH fun ht ρ a w R=> ?_
 obtain⟨x1,s1,α',h1,h2⟩:=jA Sg fuel _ _ _ _ _ _ h;simp only[ae,af]at h1;obtain⟨rfl,rfl,rfl⟩:=h1;have h3:=(h2 hp).2 (X×S) (fun x s=>some (x,s))
 obtain⟨x2,s2,L,m,h4,ab,hw⟩:=jC F.ng F.mixed F.sums fuel _ _ _ _ _ ht h3;simp only[ae,af]at h4;obtain⟨rfl,rfl⟩:=h4;exact(hw ρ a w R).y.mono fun e a w hh=>⟨_,_,L,hq,ab.n,hh⟩
def nI(P:Program)(n:Nat)(s:S)(Q:ag)(c:Code):X->S->Prop:=fun x s1=>match x with
 | .normal=>Tr P n c s1 Q
 |x=>Q x s1
theorem Tr.seq {n:Nat}{c d:Code}{s:S}{Q:ag}(h:Tr P n c s (nI P n s Q d)):Tr P n (.seq c d) s Q:=fun ht ρ a w R=>by
 refine wp_seq (wp_mono (h ht ρ a w R).wp fun e a' w' ⟨x,s',L,h1,ab,h3,ρ',h4,h5⟩=> ?_)
 cases x with
 |normal=>
  cases e<;>simp only[XR]at h3
  exact wp_mono (h1 ab.top ρ' a' w' h4).wp fun e a w ⟨x,s2,L2,g1,g2,g3⟩=>⟨x,s2,L2++L,g1,ab.trans g2,g3.trans h5⟩
 |exit id=>cases e<;>simp only[XR]at h3;subst h3;exact⟨_,s',L,h1,ab,rfl,ρ',h4,h5⟩
 |ret=>cases e<;>simp only[XR]at h3;exact⟨.ret,s',L,h1,ab,trivial,ρ',h4,h5⟩
theorem Tr.block {n id:Nat}{c:Code}{s:S}{Q:ag}(h:Tr P n c s fun x s'=>match x with| .exit j=>if j=id then Q .normal s' else Q (.exit j) s'|x=>Q x s'):Tr P n (.block id c) s Q:=fun ht ρ a w R=>by
 refine wp_block (wp_mono (h ht ρ a w R).wp fun e a' w' ⟨x,s',L,h1,ab,h3,h4⟩=> ?_)
 cases x with
 |normal=>cases e<;>simp only[XR]at h3;exact⟨.normal,s',L,h1,ab,trivial,h4⟩
 |ret=>cases e<;>simp only[XR]at h3;exact⟨.ret,s',L,h1,ab,trivial,h4⟩
 |exit j=>
  cases e<;>simp only[XR]at h3
  subst h3;simp only at h1;by_cases hj:j=id
  ·rw[if_pos hj]at h1;simp only[Exit.inBlock,hj,if_true];exact⟨.normal,s',L,h1,ab,trivial,h4⟩
  ·rw[if_neg hj]at h1;simp only[Exit.inBlock,hj,if_false];exact⟨.exit j,s',L,h1,ab,rfl,h4⟩
theorem Tr.adz {n:Nat}{o:Operand}{c d:Code}{s:S}{t:Bool}{Q:ag}(he:eval n s.sl o=some (.one (.c (.bool t))))(ht:t=true)(h:Tr P n c s Q):Tr P n (.cond o c d) s Q:=fun htop ρ a w R=>by
 have:=ml (ρ:=ρ) (n:=n) (sl:=s.sl) (a:=a) (x:=o) (fun t _=>R.sl t) _ he
 have e:a.eval o= .bool t:=this;subst ht;exact wp_cond_true e (h htop ρ a w R).wp
theorem Tr.loop {n:Nat}{c:Code}{s:S}{Q:ag}(h:Tr P n c s (nI P n s Q (.loop c))):Tr P n (.loop c) s Q:=fun ht ρ a w R=>by
 refine eW.open (wp_mono (h ht ρ a w R).wp fun e a' w' ⟨x,s',L,h1,ab,h3,ρ',h4,h5⟩=> ?_)
 cases x with
 |normal=>
  cases e<;>simp only[XR]at h3
  exact eW.mono (h1 ab.top ρ' a' w' h4) fun e a w ⟨x,s2,L2,g1,g2,g3⟩=>⟨x,s2,L2++L,g1,ab.trans g2,g3.trans h5⟩
 |exit id=>cases e<;>simp only[XR]at h3;subst h3;exact⟨_,s',L,h1,ab,rfl,ρ',h4,h5⟩
 |ret=>cases e<;>simp only[XR]at h3;exact⟨.ret,s',L,h1,ab,trivial,ρ',h4,h5⟩
theorem Tr.calls {g:FuncId}{fn:Func}{c:Code}(hf:P.funcs[g]? =some fn)(hb:fn.body=some c){args:List RV}{s:S}{sl:T RV}{Q:RV->S->Prop}
  (hset:setArgs fn.ntmps args 0 .nil some=some sl) (ht:cJ s)
  (h:Tr P fn.ntmps c {s with sl:=sl} fun x s1=>(x= .normal\/x= .ret)/\∃l,ba P fn.ntmps s1 fn.results.toList=some l/\Q (c6 l) s1)
  (ρ:aM) (w:World) (vs:List Value) (hr:bu ρ s.hp.get w) (hfr:bW ρ s.nx) (ha:bo ρ args vs):
  Calls P g vs.toArray w fun e w'=> ∃v s' L V ρ',Q v s'/\o9 s s' L/\e= .returned V/\bE ρ' v V/\bu ρ' s'.hp.get w'/\bW ρ' s'.nx/\dN ρ s.hp.get s.nx w ρ' s'.hp.get s'.nx w' L:=by
 obtain⟨sl',h1,h2,h3⟩:=lC hset;cases h1;obtain⟨len,hget⟩:=ha.get;have R0:Rel fn.ntmps ρ {s with sl:=sl} {tmps:=vs.toArray++Array.replicate (fn.ntmps - vs.toArray.size) undef,defers:= []} w:=by
  have hle:vs.length<=fn.ntmps:=by
   rcases h3 with rfl|h3
   ·simp at len;rw[len];simp
   ·omega
  refine⟨by simp;omega,rfl,fun t=> ?_,hr,hfr⟩
  unfold slot;simp only;rw[h2];simp only[Nat.zero_le,true_and,Nat.zero_add,Nat.sub_zero,T.get_nil];by_cases aA:t<args.length
  ·have hlt':t<vs.length:=by omega
   rw[if_pos (show t<fn.ntmps by omega),if_pos aA]
   obtain⟨V,e1,e2⟩:=hget t args[t] (List.getElem?_eq_getElem aA);rw[List.getElem?_eq_getElem aA];have:(vs.toArray++Array.replicate (fn.ntmps - vs.toArray.size) undef).getD t undef=V:=by
    rw[Array.getD_eq_getD_getElem?,Array.getElem?_append_left (by simpa using hlt')]
    simp[e1]
   rw[this];exact e2
  ·rw[if_neg aA];have:(vs.toArray++Array.replicate (fn.ntmps - vs.toArray.size) undef).getD t undef=undef:=by
    rw[Array.getD_eq_getD_getElem?,Array.getElem?_append_right (by simp;omega)]
    rw[Array.getElem?_replicate];split<;>rfl
   rw[this];simp only[ite_self,Option.getD_none];exact pv
 refine calls_of_wp hf hb ?_;refine wp_mono (h ht ρ _ w R0).wp fun e a' w' hq=> ?_
 obtain⟨x,s1,L,⟨hx,l,hl,hQ⟩,ab,hxr,ρ',R',st⟩:=hq;obtain⟨V,v1,v2⟩:=zZ R' hl;have fin:a'.defers= []/\∃v,(results fn a'.tmps).run P w'= .ok v w'/\∃v' s' L V ρ',Q v' s'/\o9 s s' L/\Ending.returned v= .returned V/\bE ρ' v' V/\bu ρ' s'.hp.get w'/\bW ρ' s'.nx/\dN ρ s.hp.get s.nx w ρ' s'.hp.get s'.nx w' L:=
  ⟨R'.df,V,v2,_,_,L,V,ρ',hQ,⟨ab.le,ab.aH,ab.top,ab.lt⟩,rfl,v1,R'.hp,R'.fresh,st⟩
 rcases hx with rfl|rfl
 ·cases e<;>simp only[XR]at hxr
  exact fin
 ·cases e<;>simp only[XR]at hxr
  exact fin
def aN{Z:Type}:List (Nat×Z)->T Z
 | []=> .nil
 |(i,x)::l=>match T.set (β:=T Z) depth (aN l) i (some x) some with|some t=>t|none=> .nil
def aI(P:Program)(f:FuncId)(sm:bg):Prop:= ∀args s v hp nx lg ps,cJ s->sm args s.hp s.nx=some (v,hp,nx,lg,ps)->aw ps->
 aU P f args s v {s with hp:=hp,nx:=nx,lg:=lg++s.lg} lg
theorem aI.sum {Sg:FuncId->Option bg}(h: ∀f sm,Sg f=some sm->aI P f sm):su P (fun f=>(Sg f).map bj):=by
 intro f sm hsm args s v hp nx lg ht hs;simp only[Option.map_eq_some_iff]at hsm;obtain⟨sm',h1,rfl⟩:=hsm;unfold bj at hs;split at hs<;>try(cases hs;done)
 rename_i v' hp' nx' lg' ps h2;split at hs<;>try(cases hs;done)
 rename_i h3;simp only[ae,af]at hs;obtain⟨rfl,rfl,rfl,rfl⟩:=hs;exact h f sm' h1 args s _ _ _ _ ps ht h2 h3
def aL(F:List RV->Option (RV×List Prop)):bg:=fun args hp nx=>match F args with
 |some (v,ps)=>some (v,hp,nx,[],ps)
 |none=>none
def cg(P:Program)(f:FuncId)(F:List RV->Option (RV×List Prop)):Prop:= ∀args v ps,F args=some (v,ps)->aw ps->∀(ρ:aM) (w:World) (vs:List Value),bo ρ args vs->
 Calls P f vs.toArray w fun e w'=> ∃V,e= .returned V/\bE ρ v V/\Below w.heap.size w w'
theorem cg.sum {f:FuncId}{F:List RV->Option (RV×List Prop)}(hfn: ∃fn,P.funcs[f]? =some fn/\fn.body.isNone=false)(h:cg P f F):aI P f (aL F):=by
 intro args s v hp nx lg ps ht hs hp';unfold aL at hs;split at hs<;>try(cases hs;done)
 rename_i v' ps' h1;simp only[ae,af]at hs;obtain⟨rfl,rfl,rfl,rfl,rfl⟩:=hs;exact aU.quiet ht hfn fun ρ w vs _ ha=>h args _ _ h1 hp' ρ w vs ha
end Go.Sx
namespace Go.Sx
open Go.RowKit
variable{P:Program}
def DS:Cell->Bool
 | .int _ _=>true
 | .bool _=>true
 | .str _=>true
 | .ptr0=>true
 | .bf=>true
 | .map0=>true
 | .fn0=>true
 |_=>false
def wv:AV->Bool
 | .c x=>DS x
 | .agg l=>l.all DS
 | .ints _ _ _=>true
def ej:RV->Bool
 | .one v=>wv v
 | .aF l=>l.all wv
 | .any=>true
theorem CR.indep {ρ ρ':aM}{c:Cell}{v:Value}(hf:DS c=true)(h:CR ρ c v):CR ρ' c v:=by
 cases c<;>first|(cases hf;done)|exact h
theorem bt.indep {ρ ρ':aM}: ∀ {l:List Cell} {vs:List Value},l.all DS=true->bt ρ l vs->bt ρ' l vs
 | [],_,_,h=>h
 |c::l,_,hf,⟨v,vs',h1,h2,h3⟩=>by
  simp only[List.all_cons,Bool.and_eq_true]at hf;exact⟨v,vs',h1.indep hf.1,bt.indep hf.2 h2,h3⟩
theorem bY.indep {ρ ρ':aM}{x:AV}{v:Value}(hf:wv x=true)(h:bY ρ x v):bY ρ' x v:=by
 cases x with
 |c x=>exact CR.indep hf h
 |agg l=>obtain⟨vs,h1,h2⟩:=h;exact⟨vs,bt.indep hf h1,h2⟩
 |ints=>exact h
theorem eA.indep {ρ ρ':aM}: ∀ {l:List AV} {vs:List Value},l.all wv=true->eA ρ l vs->eA ρ' l vs
 | [],_,_,h=>h
 |c::l,_,hf,⟨v,vs',h1,h2,h3⟩=>by
  simp only[List.all_cons,Bool.and_eq_true]at hf;exact⟨v,vs',h1.indep hf.1,eA.indep hf.2 h2,h3⟩
theorem bE.indep {ρ ρ':aM}{x:RV}{v:Value}(hf:ej x=true)(h:bE ρ x v):bE ρ' x v:=by
 cases x with
 |one x=>exact bY.indep hf h
 |aF l=>obtain⟨vs,h1,h2⟩:=h;exact⟨vs,eA.indep hf h1,h2⟩
 |any=>trivial
theorem bo.indep {ρ ρ':aM}: ∀ {l:List RV} {vs:List Value},l.all ej=true->bo ρ l vs->bo ρ' l vs
 | [],_,_,h=>h
 |c::l,_,hf,⟨v,vs',h1,h2,h3⟩=>by
  simp only[List.all_cons,Bool.and_eq_true]at hf;exact⟨v,vs',h1.indep hf.1,bo.indep hf.2 h2,h3⟩
theorem Tr.pure {g:FuncId}{fn:Func}{c:Code}(hf:P.funcs[g]? =some fn)(hb:fn.body=some c){args:List RV}{sl:T RV}{v:RV}(hfa:args.all ej=true)(hfv:ej v=true)
  (hset:setArgs fn.ntmps args 0 .nil some=some sl)
  (h:Tr P fn.ntmps c ⟨sl,.nil,0,[]⟩ fun x s1=>(x= .normal\/x= .ret)/\∃l,ba P fn.ntmps s1 fn.results.toList=some l/\c6 l=v)
  (ρ:aM) (w:World) (vs:List Value) (ha:bo ρ args vs):Calls P g vs.toArray w fun e w'=> ∃V,e= .returned V/\bE ρ v V/\Below w.heap.size w w':=by
 refine(Tr.calls (s:=s0) (Q:=fun v' _=>v'=v) hf hb hset (fun nm _=>T.get_nil nm) h mz w vs (bu.nil _) (fun _ _=>rfl) (ha.indep hfa)).mono fun e w' hh=> ?_
 obtain⟨v',s',L,V,ρ',rfl,ab,e1,e2,e3,e4,st⟩:=hh;exact⟨V,e1,e2.indep hfv,⟨st.os,st.tape,st.al,st.size,fun k hk=>st.frame k hk (fun nm c _ aA=>absurd aA (Nat.not_lt_zero _))⟩⟩
theorem cm{Sg:FuncId->Option bg}(F:Fit P (fun f=>(Sg f).map bj)){fuel:Nat}{g:FuncId}{args:List RV}{o:List (Nat×Bool)}{v:RV}{ps:List Prop}(hfa:args.all ej=true)(hfv:ej v=true)
  (h:cO P Sg fuel g args s0 ⟨0,o,[]⟩ (fun v _ Z=>some (v,Z.ob))=some (v,ps)) (hp:aw ps) (ρ:aM) (w:World) (vs:List Value) (ha:bo ρ args vs):
  Calls P g vs.toArray w fun e w'=> ∃V,e= .returned V/\bE ρ v V/\Below w.heap.size w w':=by
 obtain⟨v1,s1,α',h1,h2⟩:=wo h;simp only[ae,af]at h1;obtain⟨rfl,rfl⟩:=h1;have h3:=(h2 hp).2 (RV×S) (fun v s=>some (v,s))
 obtain⟨v2,s2,L,h4,ci⟩:=jo F (fun nm _=>T.get_nil nm) h3
 simp only[ae,af]at h4;obtain⟨rfl,rfl⟩:=h4;refine(ci.run mz w vs (bu.nil _) (fun _ _=>rfl) (ha.indep hfa)).mono fun e w' ⟨V,ρ',e1,e2,e3,e4,st⟩=>⟨V,e1,e2.indep hfv,?_⟩
 exact⟨st.os,st.tape,st.al,st.size,fun k hk=>st.frame k hk (fun nm c _ aA=>absurd aA (Nat.not_lt_zero _))⟩
end Go.Sx
