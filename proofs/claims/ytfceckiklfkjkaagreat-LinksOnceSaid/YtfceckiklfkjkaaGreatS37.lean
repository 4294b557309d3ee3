import Derived.Test.YtfceckiklfkjkaaGreatS36
import Derived.Test.YtfceckiklfkjkaaGreatS19
import Derived.Test.YtfceckiklfkjkaaGreatS32
import Derived.Laws.RangeAny
import Derived.Test.YtfceckiklfkjkaaGreatS28
noncomputable section
open Go.Proofs Go.RowKit
set_option maxRecDepth 100000
open Go.IntKind(i64 u8 u64 u32 u16)
open Go.Proofs.Tryz
namespace Go.Sx
section
variable{a b c:Int}{n:Nat}{sc:Int}{L:aj}{al:Int}{lm:ak}{au ar kd:Int}{aq:ak}
theorem HD{x:Vb}(hl:x.1.1.length=64*n):(pH a b c n sc au ar kd x).1.1.length=64*n/\(pH a b c n sc au ar kd x).2.2.1.length<=x.2.2.1.length+27/\(pH a b c n sc au ar kd x).2.2.2.db=x.2.2.2.db:=by
 unfold pH;split
 ·exact⟨hl,by omega,rfl⟩
 ·have:=Ec (a:=a) (b:=b) (c:=c) (sc:=sc) (au:=au) (ar:=ar) (kd:=kd) (s:=x.2.2.2.sg) (first:=4) (aq:=x.2.1) (bl:=x.2.2.1) hl
  refine⟨this.1,this.2,?_⟩;show(if _ then _ else _:Fi.bD).db=_
  split<;>rfl
theorem aaT{p:aj}(m:Nat): ∀(i:Nat) (x:Md),i+m=27->x.1.1.length=64*n->x.2.2.2.length=54->(kL a b c n sc au ar kd p m i x).2.2.1.length<=x.2.2.1.length+27*m:=by
 induction m with
 |zero=>exact fun i x _ _ _=>Nat.le_add_right _ _
 |succ m ih=>
  intro i x hi h g;obtain⟨k1,k2,k3⟩:=yy (a:=a) (b:=b) (c:=c) (sc:=sc) (au:=au) (ar:=ar) (kd:=kd) (p:=p) (i:=i) (by omega) h g
  have h2:=ih (i+1) (nu a b c n sc au ar kd p i x) (by omega) k1 k2
  have h3:(kL a b c n sc au ar kd p (m+1) i x).2.2.1.length=(kL a b c n sc au ar kd p m (i+1) (nu a b c n sc au ar kd p i x)).2.2.1.length:=rfl;omega
theorem VG{st:St}{s:Int}{bl:aj}(hl:st.1.length=64*n):(bQ a b c n sc st au ar kd s aq bl).2.1.1.length=64*n/\(bQ a b c n sc st au ar kd s aq bl).2.2.2.length<=bl.length+729:=by
 unfold bQ;split
 ·exact⟨hl,by simp⟩
 ·split
  ·obtain⟨k1,k2⟩:=sj (a:=a) (b:=b) (c:=c) (sc:=sc) (au:=au) (ar:=ar) (kd:=kd) (p:=aR st.1 n s 5) 27 0 (st,bC aq s au,bl,aR st.1 n s 5) rfl hl (eH hl);exact⟨fR k1 k2,aaT (p:=aR st.1 n s 5) 27 0 (st,bC aq s au,bl,aR st.1 n s 5) rfl hl (eH hl)⟩
  ·exact⟨hl,by simp⟩
theorem Ea{x:Vb}(hl:x.1.1.length=64*n):(p9 a b c n sc au ar kd x).1.1.length=64*n/\(p9 a b c n sc au ar kd x).2.2.1.length<=x.2.2.1.length+729:=by
 unfold p9;split
 ·exact⟨hl,by omega⟩
 ·exact VG hl
abbrev uo(hs':T ax):X->S->Prop:=fun x s1=>(x= .normal\/x= .ret)/\∃l,ba prog 82 s1 f165.results.toList=some l/\(c6 l= .aF []/\s1.hp=hs'/\s1.nx=6)
theorem Ju(hl:L.length=64*n){s0:S}(bP:s0.nx=6){hs':T ax}(hn:ar=tn a b c n (L,lm,al) au)(hk:kd=nO a b c n (L,lm,al) au)
  (he:hs'=cY a b c n sc (dg a b c n sc (L,lm,al) au aq).1.1 (dg a b c n sc (L,lm,al) au aq).1.2.2 (dg a b c n sc (L,lm,al) au aq).1.2.1 au ar kd (dg a b c n sc (L,lm,al) au aq).2.1 (.dI (dg a b c n sc (L,lm,al) au aq).2.2) []):
  TO prog 82 [] [] s0 (aG 3 jl) (kV a b c n sc L al lm au ar kd aq (aW a b c L n au)) (uo hs'):=by
 have hu:=Fq (a:=a) (b:=b) (c:=c) (L:=L) (n:=n) au;have e1:zb a b c n (L,lm,al) au aq=((L,lm,al),ru a b c n L au ar kd (xe a b c n (L,lm,al) au) 4 0 (aq,[],aW a b c L n au)):=by rw[hn,hk];rfl
 have hb:=Nx (a:=a) (b:=b) (c:=c) (n:=n) (L:=L) (au:=au) (ar:=ar) (kd:=kd) (A:=xe a b c n (L,lm,al) au) 4 0 (aq,[],aW a b c L n au);have hy:=Xp (a:=a) (b:=b) (c:=c) (n:=n) (L:=L) (au:=au) (ar:=ar) (kd:=kd) (A:=xe a b c n (L,lm,al) au) 4 0 (aq,[],aW a b c L n au);have fin:TO prog 82 [] [] s0 (aG 4 jl) (Ga a b c n sc au ar kd (zb a b c n (L,lm,al) au aq)) (uo hs'):=by
  have l1:(zb a b c n (L,lm,al) au aq).1.1.length=64*n:=hl;have b1:(zb a b c n (L,lm,al) au aq).2.2.1.length<=4:=by rw[e1];simpa using hb
  obtain⟨l2,b2,d2⟩:=HD (a:=a) (b:=b) (c:=c) (sc:=sc) (au:=au) (ar:=ar) (kd:=kd) l1;obtain⟨l3,b3⟩:=Ea (a:=a) (b:=b) (c:=c) (sc:=sc) (au:=au) (ar:=ar) (kd:=kd) l2;refine TO.seq (c:=p4) (d:=aG 5 jl) (acT bP _ l1 (by rw[e1];show Fi.bh (ru a b c n L au ar kd _ 4 0 _).2.2.sg;rw[hy.1];exact hu.2.2.2.2.2.1) (by omega) ?_)
  refine TO.seq (c:=p5) (d:=p6) (adN bP _ l2 (by rw[d2,e1];show Fi.bh (ru a b c n L au ar kd _ 4 0 _).2.2.db;rw[hy.2];exact hu.2.2.2.2.2.2) (by omega) ?_)
  refine adD bP _ l3 ?_;have e2:p9 a b c n sc au ar kd (pH a b c n sc au ar kd (zb a b c n (L,lm,al) au aq))=pM a b c n sc (L,lm,al) au aq:=by unfold pM;rw[hn,hk]
  rw[e2];obtain⟨z1,z2,z3⟩:=aaj a b c n sc (dg a b c n sc (L,lm,al) au aq).1.1 (dg a b c n sc (L,lm,al) au aq).1.2.2 (dg a b c n sc (L,lm,al) au aq).1.2.1 au ar kd (dg a b c n sc (L,lm,al) au aq).2.1 (dg a b c n sc (L,lm,al) au aq).2.2;exact⟨.inl rfl,_,z1,rfl,by rw[he];exact z2,z3⟩
 refine TO.seq (c:=gL (aG 3 jl)) (d:=aG 4 jl) (TO.seq (c:=gL (gL (aG 3 jl))) (d:= .block 0 (.loop Dz)) (TO.aP qR (k0:=6) bP (.of_eq (Rx ..) ⟨trivial,?_⟩)));refine TO.block (SN (A:=xe a b c n (L,lm,al) au) (Q:=fun x s'=>match x with| .exit j=>if j=0 then fS prog 82 [] [] s0 (uo hs') (aG 4 jl) .normal s' else fS prog 82 [] [] s0 (uo hs') (aG 4 jl) (.exit j) s'|x=>fS prog 82 [] [] s0 (uo hs') (aG 4 jl) x s') hl (fun j=>adI) bP 4 0 (aq,[],aW a b c L n au) rfl (by simp) ?_)
 simp only[if_true];rw[e1]at fin;generalize ru a b c n L au ar kd (xe a b c n (L,lm,al) au) 4 0 (aq,[],aW a b c L n au)=x at fin ⊢;obtain⟨o',b',y'⟩:=x;cases b' with
 |nil=>exact TO.we bP (agu ..) fin
 |cons z b'=>exact TO.we bP (afT ..) fin
theorem UX(hl:L.length=64*n):cd prog 165 wQ 6 (cY a b c n sc L al lm au 0 0 aq .bf []) 6
  (cY a b c n sc (dg a b c n sc (L,lm,al) au aq).1.1 (dg a b c n sc (L,lm,al) au aq).1.2.2 (dg a b c n sc (L,lm,al) au aq).1.2.1 au (tn a b c n (L,lm,al) au) (nO a b c n (L,lm,al) au) (dg a b c n sc (L,lm,al) au aq).2.1 (.dI (dg a b c n sc (L,lm,al) au aq).2.2) []) (.aF []):=by
 have hu:=Fq (a:=a) (b:=b) (c:=c) (L:=L) (n:=n) au;obtain⟨⟨u0,u1⟩,_⟩:=hu;have hw:i64.wrap (aW a b c L n au).s=(aW a b c L n au).s:=IntWalk.i64_in _ (by omega)
 refine TO.c8 (fn:=f165) (c:=jl) func165 Lb [] (iZ (fM (by omega) (fun p hp=>absurd hp List.not_mem_nil))) Uj ?_
 refine TO.eZ qR (m:=3) (k0:=6) rfl (aH:= [0,2]) (ord:= [6]) f165.results.toList (.of_eq (Oe a b c n sc L al lm au aq _ _) ?_);unfold Pa;rw[hw];refine .fork (fun h=>⟨⟨u0,by omega,hl,rfl,trivial⟩,?_⟩) (fun h=>⟨⟨u0,by omega,hl,rfl,trivial⟩,?_⟩)
 ·have hk:(6:Int)=nO a b c n (L,lm,al) au:=by unfold nO;rw[if_pos (by simpa using h)]
  exact Ju hl rfl rfl hk (by rw[<-hk];rfl)
 ·have hk:(0:Int)=nO a b c n (L,lm,al) au:=by unfold nO;rw[if_neg (by simpa using h)]
  exact Ju hl rfl rfl hk (by rw[<-hk];rfl)
end
def TM:List RV->T ax->Nat->Option GS:=fun args hp _=>match args with
 | [.one (.c (.ptr nc 0))]=>match BR hp nc with
  |some ((a,b,c,L,_,n,sc,al,lm),(ni,nl,nw,nf,no),au,aq)=>some ⟨6,[nc,ni,nl,nf,no,nw],wQ,cY a b c n sc L al lm au 0 0 aq .bf [],6,
    cY a b c n sc (dg a b c n sc (L,lm,al) au aq).1.1 (dg a b c n sc (L,lm,al) au aq).1.2.2 (dg a b c n sc (L,lm,al) au aq).1.2.1 au (tn a b c n (L,lm,al) au) (nO a b c n (L,lm,al) au) (dg a b c n sc (L,lm,al) au aq).2.1 (.dI (dg a b c n sc (L,lm,al) au aq).2.2) [],.aF [],[L.length=64*n]⟩
  |none=>none
 |_=>none
theorem acz:aI prog 165 (cC TM):=dT ⟨_,func165,rfl⟩ fun args hp nx g h bB=>by
 unfold TM at h;split at h<;>try(cases h;done)
 split at h<;>try(cases h;done)
 cases h;exact⟨UX bB.1,fun i x hx=>fv (k:=6) (fM (by omega) (fun p hp=>absurd hp List.not_mem_nil)) hx⟩
theorem E4{a b c:Int}{n:Nat}{sc:Int}{st:St}{au:Int}{aq:ak}(hl:st.1.length=64*n):(dg a b c n sc st au aq).1.1.length=64*n/\(dg a b c n sc st au aq).2.2.length<=760:=by
 have l1:(zb a b c n st au aq).1.1.length=64*n:=hl;have hb:=Nx (a:=a) (b:=b) (c:=c) (n:=n) (L:=st.1) (au:=au) (ar:=tn a b c n st au) (kd:=nO a b c n st au) (A:=xe a b c n st au) 4 0 (aq,[],aW a b c st.1 n au);have b1:(zb a b c n st au aq).2.2.1.length<=4:=by have hb':=hb;simp only[List.length_nil,Nat.zero_add]at hb';exact hb'
 obtain⟨l2,b2,_⟩:=HD (a:=a) (b:=b) (c:=c) (sc:=sc) (au:=au) (ar:=tn a b c n st au) (kd:=nO a b c n st au) l1;obtain⟨l3,b3⟩:=Ea (a:=a) (b:=b) (c:=c) (sc:=sc) (au:=au) (ar:=tn a b c n st au) (kd:=nO a b c n st au) l2;refine⟨?_,?_⟩
 ·show(c4 a b c n sc (pM a b c n sc st au aq).1 au (pM a b c n sc st au aq).2.2.2).2.1.length=64*n;unfold c4;split
  ·exact fR l3 (jF l3)
  ·exact l3
 ·show(pM a b c n sc st au aq).2.2.1.length<=760;unfold pM;omega
def o8:Code:=gB 304
def AY(s:ByteArray):List RV:= [.one (.c (.str s))]
def Ny(s:ByteArray):T RV:=match setArgs 36 (AY s) 0 .nil some with|some t=>t|none=> .nil
theorem Td(s:ByteArray):setArgs 36 (AY s) 0 .nil some=some (Ny s):=by kernel_rfl
def Nc:Code:=match gL (aG 2 o8)with| .seq _ (.block _ (.loop c))=>c|_=> .skip
section
variable(s:ByteArray)(pos:Nat)(e:Int)
def jL:S:=aE [2,22] 36 ⟨aN [(2,.one (.c (.int .i64 e))),(22,.one (.c (.ptr 0 0)))],aN [(0,.iter s pos)],1,[]⟩
def i304(M:S->Prop)(R:ah):ai:=dk prog mf 300 36 2 o8 ⟨Ny s,.nil,0,[]⟩ aO (fun x s Z=>some (aw Z.ob/\match x with| .normal=>M (Sx.aE [0,2] 36 s)|x=>R x (ba prog 36 s f304.results.toList)))
def Xh:S:=aE [0,2] 36 ⟨aN [(0,.one (.c (.str s))),(2,.one (.c (.int .i64 0)))],aN [],0,[]⟩
def afB(Q:ag):ai:=az prog mf 300 36 (gL (gL (aG 2 o8))) (Xh s) aO (fun x s Z=>some (aw Z.ob/\Q x (Sx.aE [2,22] 36 s)))
def agK(Q:ag):ai:=az prog mf 300 36 Nc (jL s pos 0) aO (fun x s Z=>some (aw Z.ob/\Q x (Sx.aE [2,22] 36 s)))
def af1(Q:ah):ai:=az prog mf 300 36 (gR (aG 2 o8)) (jL s pos e) aO (fun x s Z=>some (aw Z.ob/\Q x (ba prog 36 s f304.results.toList)))
def SS:ByteArray:=⟨#[46]⟩
def UG:ByteArray:=⟨#[46,46]⟩
def Sj(M:S->Prop)(R:ah):ai:=bif (s.size:Int)==0 then some (aw []/\R .ret (some [.c (.int .i64 45)]))else bif decide ((s.size:Int)>10)then some (aw []/\R .ret (some [.c (.int .i64 45)]))else bif s.toList==SS.toList then some (aw []/\R .ret (some [.c (.int .i64 45)]))else bif s.toList==UG.toList then some (aw []/\R .ret (some [.c (.int .i64 45)]))else some (aw []/\M (Xh s))
theorem Ro(M:S->Prop)(R:ah):i304 s M R=Sj s M R:=by kernel_rfl
theorem OV(Q:ag):afB s Q=some (aw []/\Q .normal (jL s 0 0)):=by kernel_rfl
theorem CM(Q:ag):agK s pos Q=
 (bif pos.blt s.size then
  (bif decide (((Utf8.decode s pos).1:Int)<33)then some (aw []/\Q .ret (jL s (pos+(Utf8.decode s pos).2) 45))
  else bif decide (((Utf8.decode s pos).1:Int)>126)then some (aw []/\Q .ret (jL s (pos+(Utf8.decode s pos).2) 45))
  else bif ((Utf8.decode s pos).1:Int)==47 then some (aw []/\Q .ret (jL s (pos+(Utf8.decode s pos).2) 45))
  else some (aw []/\Q .normal (jL s (pos+(Utf8.decode s pos).2) 0)))
 else some (aw []/\Q (.exit 0) (jL s pos 0))):=by kernel_rfl
theorem Rh(Q:ah):af1 s pos e Q=some (aw []/\Q .ret (some [.c (.int .i64 0)])):=by kernel_rfl
theorem Ox:ba prog 36 (jL s pos e) f304.results.toList=some [.c (.int .i64 e)]:=by kernel_rfl
end
def w5(x:UInt8):Bool:=decide (33<=x.toNat) &&(decide (x.toNat<=126) && decide (x.toNat≠47))
def vb(s:ByteArray)(pos:Nat):Bool:=(s.data.toList.drop pos).all w5
theorem Pu{s:ByteArray}{pos:Nat}(h:pos<s.size):vb s pos=(w5 (s[pos]'h) && vb s (pos+1)):=by
 unfold vb;have h':pos<s.data.toList.length:=by simpa using h
 rw[List.drop_eq_getElem_cons h',List.all_cons]
 rfl
theorem VC{s:ByteArray}{pos:Nat}(h:s.size<=pos):vb s pos=true:=by
 unfold vb;have h':s.data.toList.length<=pos:=by simpa using h
 rw[List.drop_of_length_le h']
 rfl
theorem FZ{s:ByteArray}{Q:ag}: ∀(m pos:Nat),pos+m=s.size->(vb s pos=true->Q (.exit 0) (jL s s.size 0))->(vb s pos=false->∀p,Q .ret (jL s p 45))->Tr prog 36 (.loop Nc) (jL s pos 0) Q
 | 0,pos,hm,h1,_=>by
  obtain rfl:pos=s.size:=by omega
  refine Tr.loop (Tr.tree eM (.of_eq (CM s s.size _) (.no (by rw[<-Bool.not_eq_true];intro h;exact absurd (ew h) (by omega)) ⟨trivial,h1 (VC (by omega))⟩)))
 |m+1,pos,hm,h1,h2=>by
  have hp:pos<s.size:=by omega
  have hs:=Pu hp;have bad:w5 (s[pos]'hp)=false->∀p,Q .ret (jL s p 45):=fun h=>h2 (by rw[hs,h];rfl)
  refine Tr.loop (Tr.tree eM (.of_eq (CM s pos _) (.yes (by rw[Nat.blt_eq];exact hp) ?_)))
  by_cases ha:(s[pos]'hp).toNat<128
  ·rw[decode_ascii s pos hp ha];refine .fork (fun h=>⟨trivial,bad ?_ _⟩) fun h3=> .fork (fun h=>⟨trivial,bad ?_ _⟩) fun h4=> .fork (fun h=>⟨trivial,bad ?_ _⟩) fun h5=>⟨trivial,?_⟩
   ·have h':((s[pos]'hp).toNat:Int)<33:=by simpa using h
    unfold w5;simp;omega
   ·have h':(126:Int)<(s[pos]'hp).toNat:=by simpa using h
    unfold w5;simp;omega
   ·have h':((s[pos]'hp).toNat:Int)=47:=by simpa using h
    unfold w5;simp;omega
   ·have g3: ¬((s[pos]'hp).toNat:Int)<33:=by simpa using h3
    have g4: ¬(126:Int)<(s[pos]'hp).toNat:=by simpa using h4
    have g5: ¬((s[pos]'hp).toNat:Int)=47:=by simpa using h5
    have ok:w5 (s[pos]'hp)=true:=by unfold w5;simp;omega
    rw[ok,Bool.true_and]at hs;rw[hs]at h1 h2;exact FZ m (pos+1) (by omega) h1 h2
  ·obtain⟨d1,d2⟩:=decode_high s pos hp (by omega)
   have nok:w5 (s[pos]'hp)=false:=by unfold w5;simp;omega
   exact .no (by simp;omega) (.yes (by simp;omega) ⟨trivial,bad nok _⟩)
def AD(s:ByteArray):Bool:= !((s.size:Int)==0) &&(!decide ((s.size:Int)>10) &&(!(s.toList==SS.toList) &&(!(s.toList==UG.toList) && vb s 0)))
def oQ(s:ByteArray):Int:=if AD s then 0 else 45
theorem Mh:f304.body=some o8:=by kernel_rfl
theorem XX(s:ByteArray):Tr prog 36 o8 ⟨Ny s,.nil,0,[]⟩ (pt prog 36 f304.results.toList (.one (.c (.int .i64 (oQ s))))):=by
 refine Tr.pieces eM (m:=2) (aH:= [0,2]) (.of_eq (Ro s (fun g=>Tr prog 36 (aG 2 o8) g (pt prog 36 f304.results.toList (.one (.c (.int .i64 (oQ s)))))) (NK (.one (.c (.int .i64 (oQ s)))))) ?_)
 unfold Sj;unfold oQ AD;cases h1:((s.size:Int)==0)with
 |true=>exact⟨trivial,rfl,_,rfl,rfl⟩
 |false=>
 refine .no rfl ?_;cases h2:decide ((s.size:Int)>10)with
 |true=>exact⟨trivial,rfl,_,rfl,rfl⟩
 |false=>
 refine .no rfl ?_;cases h3:s.toList==SS.toList with
 |true=>exact⟨trivial,rfl,_,rfl,rfl⟩
 |false=>
 refine .no rfl ?_;cases h4:s.toList==UG.toList with
 |true=>exact⟨trivial,rfl,_,rfl,rfl⟩
 |false=>
 refine .no rfl ⟨trivial,?_⟩;refine Tr.seq (c:=gL (aG 2 o8)) (d:=gR (aG 2 o8)) (Tr.seq (c:=gL (gL (aG 2 o8))) (d:= .block 0 (.loop Nc)) (Tr.tree eM (.of_eq (OV s _) ⟨trivial,?_⟩)));refine Tr.block (FZ s.size 0 (by omega) (fun h=> ?_) (fun h p=> ?_))
 ·simp only[if_true];rw[h];exact Tr.VY eM (.of_eq (Rh s _ 0 (LW _)) ⟨trivial,.inr rfl,_,rfl,rfl⟩)
 ·rw[h];exact⟨.inr rfl,_,Ox s p 45,rfl⟩
def vF(args:List RV):Option (RV×List Prop):=match args with
 | [.one (.c (.str s))]=>some (.one (.c (.int .i64 (oQ s))),[])
 |_=>none
theorem wS:cg prog 304 vF:=by
 intro args v ps h hp ρ w vs ha;unfold vF at h;split at h<;>try(cases h;done)
 rename_i s;simp only[ae,af]at h;obtain⟨rfl,rfl⟩:=h;exact Tr.pure (c:=o8) (fn:=f304) func304 Mh (args:=AY s) (by rfl) (by rfl) (Td s) (XX s) ρ w vs ha
def U9:FuncId->Option bg:=fun f=>match f with| 304=>some (aL vF)|_=>none
theorem aee:Fit prog (fun f=>(U9 f).map bj):=⟨bM,aV,aI.sum fun f sm h=>by
 unfold U9 at h;split at h
 ·cases h;exact wS.sum ⟨_,func304,rfl⟩
 ·cases h⟩
def qb:List Int:= [0,0,0,0,0,0,0,0,0,0,0,0,0]
def xl(s:ByteArray):List Int:=s.data.toList.map fun x=>(x.toNat:Int)
def BF(i n:Int):List Int:= [u8.wrap (u16.wrap i),u8.wrap ((u16.wrap i).fdiv 256),u8.wrap n,0,0,0,0,0,0,0,0,0,0]
def rR(i:Int)(s:ByteArray):List Int:=(BF i s.size).take 3++(xl s++List.replicate (10 - s.size) 0)
def qx(i:Int)(s:ByteArray):List Int×Int:=
 if i<1\/i>65535 then(qb,2)else if AD s=true then(rR i s,0)else(qb,45)
def aft(i:Int)(s:ByteArray)(Q:RV->Prop):ai:=cO prog U9 300 283 [.one (.agg [.int .i64 i,.str s])] s0 aO fun v _ Z=>some (aw Z.ob/\Q v)
theorem Oj(i:Int)(s:ByteArray)(Q:RV->Prop):aft i s Q=
 (bif decide (i<1)then some (aw []/\Q (.aF [.ints .u8 qb 13,.c (.int .i64 2)]))
 else bif decide (i>65535)then some (aw []/\Q (.aF [.ints .u8 qb 13,.c (.int .i64 2)]))
 else bif oQ s !=0 then some (aw []/\Q (.aF [.ints .u8 qb 13,.c (.int .i64 (oQ s))]))
 else bif (eQ (some 10) s.size).beq 0 then some (aw []/\Q (.aF [.ints .u8 (BF i s.size) 13,.c (.int .i64 0)]))
 else bif decide (3+eQ (some 10) s.size<=13)then some (aw []/\Q (.aF [.ints .u8 (List.take 13 (List.drop 0 (aB qb 0 (List.take 13 (List.drop 0 (aB (BF i s.size) 3 (List.take (eQ (some 10) s.size) (xl s)))))))) 13,.c (.int .i64 0)]))else none):=by kernel_rfl
theorem yi(s:ByteArray):(xl s).length=s.size:=by unfold xl;simp
theorem Co{s:ByteArray}(h:AD s=true):1<=s.size/\s.size<=10:=by
 unfold AD at h;simp only[Bool.and_eq_true,Bool.not_eq_true',beq_eq_false_iff_ne,ne_eq,decide_eq_false_iff_not]at h;omega
theorem Fu{i:Int}{s:ByteArray}(h:s.size<=10):(rR i s).length=13:=by
 unfold rR BF;simp[yi];omega
theorem Gl{x:aj}(h:x.length=13):aB qb 0 x=x:=by
 unfold aB;simp[qb,h]
theorem aci{i:Int}{s:ByteArray}(h:s.size<=10):aB (BF i s.size) 3 (List.take s.size (xl s))=rR i s:=by
 have e:List.take s.size (xl s)=xl s:=by rw[<-yi s];exact List.take_length
 rw[e];unfold aB rR;rw[yi];have:(BF i s.size).drop (3+s.size)=List.replicate (10 - s.size) 0:=by
  rw[<-List.drop_drop];show(List.replicate 10 (0:Int)).drop s.size=_;rw[List.drop_replicate]
 rw[this,List.append_assoc]
def deP(args:List RV):Option (RV×List Prop):=match args with
 | [.one (.agg [.int .i64 i,.str s])]=>some (.aF [.ints .u8 (qx i s).1 13,.c (.int .i64 (qx i s).2)],[])
 |_=>none
theorem abH:cg prog 283 deP:=by
 intro args v ps h hp ρ w vs ha;unfold deP at h;split at h<;>try(cases h;done)
 rename_i i s;simp only[ae,af]at h;obtain⟨rfl,rfl⟩:=h;refine cU aee (by rfl) (by rfl) (.of_eq (Oj i s _) ?_) ρ w vs ha
 unfold qx;refine .fork (fun h=>⟨trivial,?_⟩) fun h1=> .fork (fun h=>⟨trivial,?_⟩) fun h2=> ?_
 ·rw[if_pos (.inl (by simpa using h))]
 ·rw[if_pos (.inr (by simpa using h))]
 ·rw[if_neg (by rintro(h|h)<;>simp_all<;>omega)]
  cases hc:AD s with
  |false=>
   have:oQ s=45:=by unfold oQ;rw[hc];rfl
   rw[this];exact .yes rfl ⟨trivial,rfl⟩
  |true=>
   have:oQ s=0:=by unfold oQ;rw[hc];rfl
   obtain⟨g1,g2⟩:=Co hc;have hl:eQ (some 10) s.size=s.size:=by unfold eQ;simp only;omega
   rw[this,hl];refine .no rfl (.no (by rw[<-Bool.not_eq_true];intro h;have:=Nat.eq_of_beq_eq_true h;omega) (.aZ (by simp;omega) ⟨trivial,?_⟩))
   rw[aci g2,if_pos rfl];have hL:=Fu (i:=i) g2;rw[show List.take 13 (List.drop 0 (rR i s))=rR i s by rw[List.drop_zero];exact List.take_of_length_le (by omega),Gl hL,show List.take 13 (List.drop 0 (rR i s))=rR i s by rw[List.drop_zero];exact List.take_of_length_le (by omega)]
def UY:FuncId->Option bg:=fun f=>match f with| 283=>some (aL deP)|_=>none
theorem adw:Fit prog (fun f=>(UY f).map bj):=⟨bM,aV,aI.sum fun f sm h=>by
 unfold UY at h;split at h
 ·cases h;exact abH.sum ⟨_,func283,rfl⟩
 ·cases h⟩
def BS(b:aj):ByteArray:=strOf ((b.drop 3).take (min (b.getD 2 0).toNat 10))
def HE(b:aj):Int:=gH (b.getD 0 0) (b.getD 1 0)
def FL:ByteArray:=⟨⟨[]⟩⟩
def Of(b:aj):Int×ByteArray×Int:=
 if b=qb then(0,FL,0)else if(qx (HE b) (BS b)).2=0/\(qx (HE b) (BS b)).1=b then(HE b,BS b,1)else(0,FL,2)
def uz(b:aj):Int:=if 13<i64.wrap (3+i64.wrap (b.getD 2 0))then 13 else i64.wrap (3+i64.wrap (b.getD 2 0))
def Gs(b:aj):List Int:=List.take (((uz b).toNat - 3)*1) (List.drop 3 b)
def i260(b:aj):Int:=i64.wrap (gH (b.getD 0 0) (b.getD 1 0))
def ago(b:aj)(Q:RV->Prop):ai:=cO prog UY 300 260 [.one (.ints .u8 b 13)] s0 aO fun v _ Z=>some (aw Z.ob/\Q v)
theorem O6(b:aj)(Q:RV->Prop):ago b Q=
 (bif List.take 13 (List.drop 0 b)==qb then some (aw []/\Q (.aF [.agg [.int .i64 0,.str FL],.c (.int .i64 0)]))
 else bif decide (0<=uz b/\uz b<=13)then(bif decide ((0:Int)<=3/\(3:Int)<=((uz b).toNat:Int))then(bif decide (3+((uz b).toNat - 3)*1<=13)then
  (bif (qx (i260 b) (strOf (Gs b))).2 !=0 then some (aw []/\Q (.aF [.agg [.int .i64 0,.str FL],.c (.int .i64 2)]))
  else bif !(List.take 13 (List.drop 0 (aB qb 0 (qx (i260 b) (strOf (Gs b))).1))==List.take 13 (List.drop 0 b))then some (aw []/\Q (.aF [.agg [.int .i64 0,.str FL],.c (.int .i64 2)]))
  else some (aw []/\Q (.aF [.agg [.int .i64 (i260 b),.str (strOf (Gs b))],.c (.int .i64 1)])))
 else none)else none)else none):=by kernel_rfl
theorem EJ{i:Int}{s:ByteArray}:(qx i s).1.length=13:=by
 unfold qx;split
 ·rfl
 ·split
  ·rename_i h;exact Fu (Co h).2
  ·rfl
def deR(args:List RV):Option (RV×List Prop):=match args with
 | [.one (.ints .u8 b 13)]=>some (.aF [.agg [.int .i64 (Of b).1,.str (Of b).2.1],.c (.int .i64 (Of b).2.2)],[U8 (b.getD 2 0)])
 |_=>none
theorem abt:cg prog 260 deR:=by
 intro args v ps h hp ρ w vs ha;unfold deR at h;split at h<;>try(cases h;done)
 rename_i b;simp only[ae,af]at h;obtain⟨rfl,rfl⟩:=h;obtain⟨⟨h0,h1⟩,_⟩:=hp;have hb:b.length=13:=by obtain⟨_,_,h,_⟩:=ha;exact h.1
 have hu:=eY (b.getD 0 0) (b.getD 1 0);have ei:i260 b=HE b:=IntWalk.i64_in _ (by have:=hu.1;have:=hu.2;omega)
 have ex:uz b=if(b.getD 2 0)<10 then 3+b.getD 2 0 else 13:=by
  unfold uz;rw[IntWalk.i64_in (b.getD 2 0) (by omega),IntWalk.i64_in (3+b.getD 2 0) (by omega)]
  split<;>split<;>omega
 have en:((uz b).toNat - 3)*1=min (b.getD 2 0).toNat 10:=by rw[ex];split<;>omega
 have ey:strOf (Gs b)=BS b:=by unfold Gs BS;rw[en]
 have tb:List.take 13 (List.drop 0 b)=b:=aJ hb;refine cU adw (by rfl) (by rfl) (.of_eq (O6 b _) ?_) ρ w vs ha
 unfold Of;rw[tb,ei,ey,Gl EJ,show List.take 13 (List.drop 0 (qx (HE b) (BS b)).1)=_ from aJ EJ]
 refine .fork (fun h=>⟨trivial,?_⟩) fun h1=> .aZ (decide_eq_true ?_) (.aZ (decide_eq_true ?_) (.aZ (decide_eq_true ?_) (.fork (fun h=>⟨trivial,?_⟩) fun h2=> .fork (fun h=>⟨trivial,?_⟩) fun h3=>⟨trivial,?_⟩)))
 ·rw[if_pos (by simpa using h)]
 ·rw[ex];split<;>omega
 ·rw[ex];split<;>omega
 ·rw[en];omega
 ·rw[if_neg (by simpa using h1),if_neg (fun h'=>by simp[h'.1]at h)]
 ·rw[if_neg (by simpa using h1),if_neg (fun h'=>by simp[h'.2]at h)]
 ·rw[if_neg (by simpa using h1),if_pos ⟨by simpa using h2,by simpa using h3⟩]
def MP:FuncId->Option bg:=fun f=>match f with| 260=>some (aL deR)|_=>none
theorem WQ:Fit prog (fun f=>(MP f).map bj):=⟨bM,aV,aI.sum fun f sm h=>by
 unfold MP at h;split at h
 ·cases h;exact abt.sum ⟨_,func260,rfl⟩
 ·cases h⟩
def iU(p:aj)(i:Int):List Int:=(p.drop (13*i.toNat)).take 13
def bX(p:aj)(i:Int):Int×ByteArray×Int:=Of (iU p i)
def uI(p:aj)(i:Int):List Int:=aB p (13*i.toNat) qb
theorem wH{p:aj}{i:Int}(hp:p.length=54)(h:i<4):(uI p i).length=54:=by
 unfold uI;rw[pJ (by simp[qb];omega)];exact hp
def Gd(p:aj)(i:Int)(Q:RV->Prop):ai:=cO prog MP 300 227 [.one (.ints .u8 p 54),.one (.c (.int .i64 i))] s0 aO fun v _ Z=>some (aw Z.ob/\Q v)
def ER(p:aj)(i:Int)(Q:RV->Prop):ai:=cO prog MP 300 167 [.one (.ints .u8 p 54),.one (.c (.int .i64 i))] s0 aO fun v _ Z=>some (aw Z.ob/\Q v)
def uk(p:aj)(i:Int)(Q:RV->Prop):ai:=some (aw [U8 ((iU p i).getD 2 0)]/\Q (.aF [.agg [.int .i64 (bX p i).1,.str (bX p i).2.1],.c (.int .i64 (bX p i).2.2),.c (.int .i64 0)]))
def ve(p:aj)(i:Int)(Q:RV->Prop):ai:=some (aw []/\Q (.aF [.ints .u8 (t54 (aB bA 0 (t54 (uI p i)))) 54,.c (.int .i64 0)]))
theorem aaa(p:aj)(Q:RV->Prop):Gd p 0 Q=uk p 0 Q:=by kernel_rfl
theorem aaS(p:aj)(Q:RV->Prop):Gd p 1 Q=uk p 1 Q:=by kernel_rfl
theorem abj(p:aj)(Q:RV->Prop):Gd p 2 Q=uk p 2 Q:=by kernel_rfl
theorem ZY(p:aj)(Q:RV->Prop):Gd p 3 Q=uk p 3 Q:=by kernel_rfl
theorem abp(p:aj)(Q:RV->Prop):ER p 0 Q=ve p 0 Q:=by kernel_rfl
theorem abY(p:aj)(Q:RV->Prop):ER p 1 Q=ve p 1 Q:=by kernel_rfl
theorem aba(p:aj)(Q:RV->Prop):ER p 2 Q=ve p 2 Q:=by kernel_rfl
theorem ZI(p:aj)(Q:RV->Prop):ER p 3 Q=ve p 3 Q:=by kernel_rfl
theorem four{i:Int}(h0:0<=i)(h1:i<4):i=0\/i=1\/i=2\/i=3:=by omega
def deA(args:List RV):Option (RV×List Prop):=match args with
 | [.one (.ints .u8 p 54),.one (.c (.int .i64 i))]=>some (.aF [.agg [.int .i64 (bX p i).1,.str (bX p i).2.1],.c (.int .i64 (bX p i).2.2),.c (.int .i64 0)],[0<=i/\i<4,U8 ((iU p i).getD 2 0)])
 |_=>none
theorem ack:cg prog 227 deA:=by
 intro args v ps h hp ρ w vs ha;unfold deA at h;split at h<;>try(cases h;done)
 rename_i p i;simp only[ae,af]at h;obtain⟨rfl,rfl⟩:=h;obtain⟨⟨h0,h1⟩,h2,_⟩:=hp;have e: ∀Q,Gd p i Q=uk p i Q:=fun Q=>by
  rcases four h0 h1 with rfl|rfl|rfl|rfl
  ·exact aaa p Q
  ·exact aaS p Q
  ·exact abj p Q
  ·exact ZY p Q
 exact cU WQ (by rfl) (by rfl) (.of_eq (e _) ⟨⟨h2,trivial⟩,rfl⟩) ρ w vs ha
def deW(args:List RV):Option (RV×List Prop):=match args with
 | [.one (.ints .u8 p 54),.one (.c (.int .i64 i))]=>some (.aF [.ints .u8 (uI p i) 54,.c (.int .i64 0)],[0<=i/\i<4])
 |_=>none
theorem aaC:cg prog 167 deW:=by
 intro args v ps h hp ρ w vs ha;unfold deW at h;split at h<;>try(cases h;done)
 rename_i p i;simp only[ae,af]at h;obtain⟨rfl,rfl⟩:=h;obtain⟨⟨h0,h1⟩,_⟩:=hp;have hpl:p.length=54:=by obtain⟨_,_,h,_⟩:=ha;exact h.1
 have e: ∀Q,ER p i Q=ve p i Q:=fun Q=>by
  rcases four h0 h1 with rfl|rfl|rfl|rfl
  ·exact abp p Q
  ·exact abY p Q
  ·exact aba p Q
  ·exact ZI p Q
 refine cU WQ (by rfl) (by rfl) (.of_eq (e _) ⟨trivial,?_⟩) ρ w vs ha
 have hw:=wH hpl h1;rw[show t54 (uI p i)=_ from aJ hw,ck hw,show t54 (uI p i)=_ from aJ hw]
def Mv:FuncId->Option bg:=fun f=>match f with| 21=>some (mC w8)| 165=>some (cC TM)|_=>none
theorem Xj:Fit prog (fun f=>(Mv f).map bj):=⟨bM,aV,aI.sum fun f sm h=>by
 unfold Mv at h;split at h
 ·cases h;exact sO
 ·cases h;exact acz
 ·cases h⟩
def Jo:Code:=gB 98
def rA(au:Int):List RV:= [.one (.c (.ptr 0 0)),.one (.c (.int .i64 au))]
def FJ(au:Int):T RV:=match setArgs 46 (rA au) 0 .nil some with|some t=>t|none=> .nil
theorem Jd(au:Int):setArgs 46 (rA au) 0 .nil some=some (FJ au):=by kernel_rfl
abbrev Wk:Type:=St×List (Int×Int)×List (Int×Int)×List (Int×List Int)×List Int
section
variable(a b c:Int)(n:Nat)(sc:Int)(st:St)(aq av:ak)(ay:List (Int×List Int))(ds:aj)(au:Int)
def tt(dc:Cell)(xs:List (Nat×ax)):T ax:=aN ([(0,.row 141 false none (.cells [.ptr 1 0,.ptr 3 0,.map 6])),(1,WR a b c n sc st.2.2),(2,.row 95 false (some 64) (.ints .u8 st.1 (64*n))),(3,.row 137 false none (.cells [.map 7,.map 4,dc])),(4,.aQ (some .i64) aq),(5,.aQ none st.2.1),(6,.eE ay),(7,.aQ (some .i64) av)]++xs)
def AL(hp:T ax):List Nat:=match hp.get 3 with|some (.row _ _ _ (.cells [_,_,.aC nm _ _ _]))=> [nm]|_=> []
def eK(m:Nat)(xs:List (Nat×ax)):T ax:=tt a b c n sc st aq av ay (.aC m 1 0 ds.length) (xs++ [(m,cj ds)])
def wV:S:=aE [] 46 ⟨.nil,tt a b c n sc st aq av ay .bf [],9,[]⟩
def Kj(m1 m2:Nat):S:=aE [] 46 ⟨.nil,tt a b c n sc st aq av ay (.aC 9 1 0 m1) [(9,.row 3 false (some 1) (.ints .i64 ds m2))],10,[]⟩
def acs:S:=zB 8 3 (cj ds) (.row 137 false none (.cells ([.map 7,.map 4,.aC 8 1 0 ds.length].set 2 (.aC 9 1 0 ds.length)))) ⟨FJ au,eK a b c n sc st aq av ay ds 8 [],9,[]⟩
def aeZ(Q:ag):ai:=az prog Mv 300 46 Jo ⟨FJ au,tt a b c n sc st aq av ay .bf [],9,[]⟩ aO (bN 9 [] 46 (fun s=>AL s.hp) Q)
def afr(Q:ag):ai:=az prog Mv 300 46 Jo (acs a b c n sc st aq av ay ds au) aO (bN 9 [] 46 (fun s=>AL s.hp) Q)
def QO(a b c:Int)(n:Nat)(sc:Int)(st:St)(aq av:ak)(ay:List (Int×List Int))(au:Int)(Q:ag):ai:=(bif (aW a b c (dg a b c n sc st au aq).1.1 n au).k==2 then(some ((aw [(dg a b c n sc st au aq).1.1.length=64*n,64*n=64*n,st.2.1=st.2.1,aq=aq,st.1=st.1,64*n=64*n,a=a,b=b,c=c,n=n,sc=sc,st.2.2=st.2.2,au=au,(0:Int)=0,(0:Int)=0,st.1.length=64*n]/\Q (X.normal) (Kj a b c n sc (dg a b c n sc st au aq).1 (dg a b c n sc st au aq).2.1 av (iF ay au (dg a b c n sc st au aq).2.2) [au] 1 1))))else(some ((aw [(dg a b c n sc st au aq).1.1.length=64*n,64*n=64*n,st.2.1=st.2.1,aq=aq,st.1=st.1,64*n=64*n,a=a,b=b,c=c,n=n,sc=sc,st.2.2=st.2.2,au=au,(0:Int)=0,(0:Int)=0,st.1.length=64*n]/\Q (X.normal) (wV a b c n sc (dg a b c n sc st au aq).1 (dg a b c n sc st au aq).2.1 av (iF ay au (dg a b c n sc st au aq).2.2))))))
theorem Rn(a b c:Int)(n:Nat)(sc:Int)(st:St)(aq av:ak)(ay:List (Int×List Int))(au:Int)(Q:ag):aeZ a b c n sc st aq av ay au Q=QO a b c n sc st aq av ay au Q:=by kernel_rfl
def Sc(a b c:Int)(n:Nat)(sc:Int)(st:St)(aq av:ak)(ay:List (Int×List Int))(ds:aj)(au:Int)(Q:ag):ai:=(bif (aW a b c (dg a b c n sc st au aq).1.1 n au).k==2 then((bif decide (fits prog.types[3]! (ds.length+1)=true)then((bif decide (0+ds.length*1<=ds.length)then(some ((aw [(dg a b c n sc st au aq).1.1.length=64*n,64*n=64*n,st.2.1=st.2.1,aq=aq,st.1=st.1,64*n=64*n,a=a,b=b,c=c,n=n,sc=sc,st.2.2=st.2.2,au=au,(0:Int)=0,(0:Int)=0,st.1.length=64*n]/\Q (X.normal) (Kj a b c n sc (dg a b c n sc st au aq).1 (dg a b c n sc st au aq).2.1 av (iF ay au (dg a b c n sc st au aq).2.2) (List.take (ds.length*1) (List.drop 0 ds)++List.take 1 (List.drop 0 ((cx [0] 1).set 0 au))) (ds.length+1) (ds.length*1+1)))))else none))else none))else(some ((aw [(dg a b c n sc st au aq).1.1.length=64*n,64*n=64*n,st.2.1=st.2.1,aq=aq,st.1=st.1,64*n=64*n,a=a,b=b,c=c,n=n,sc=sc,st.2.2=st.2.2,au=au,(0:Int)=0,(0:Int)=0,st.1.length=64*n]/\Q (X.normal) (Kj a b c n sc (dg a b c n sc st au aq).1 (dg a b c n sc st au aq).2.1 av (iF ay au (dg a b c n sc st au aq).2.2) ds ds.length ds.length)))))
theorem QD(a b c:Int)(n:Nat)(sc:Int)(st:St)(aq av:ak)(ay:List (Int×List Int))(ds:aj)(au:Int)(Q:ag):afr a b c n sc st aq av ay ds au Q=Sc a b c n sc st aq av ay ds au Q:=by kernel_rfl
theorem Yl:ba prog 46 (wV a b c n sc st aq av ay) f98.results.toList=some []/\(wV a b c n sc st aq av ay).hp=tt a b c n sc st aq av ay .bf []/\(wV a b c n sc st aq av ay).nx=9:=⟨by kernel_rfl,by kernel_rfl,by kernel_rfl⟩
theorem Az:ba prog 46 (Kj a b c n sc st aq av ay ds ds.length ds.length) f98.results.toList=some []/\(Kj a b c n sc st aq av ay ds ds.length ds.length).hp=eK a b c n sc st aq av ay ds 9 []/\(Kj a b c n sc st aq av ay ds ds.length ds.length).nx=10:=⟨by kernel_rfl,by kernel_rfl,by kernel_rfl⟩
theorem ads:(⟨FJ au,eK a b c n sc st aq av ay ds 8 [],9,[]⟩:S).hp.get 8=some (cj ds)/\(⟨FJ au,eK a b c n sc st aq av ay ds 8 [],9,[]⟩:S).hp.get 3=some (.row 137 false none (.cells [.map 7,.map 4,.aC 8 1 0 ds.length])):=⟨by kernel_rfl,by kernel_rfl⟩
def dO(w:Wk):Wk:=
  ((dg a b c n sc w.1 au w.2.1).1,(dg a b c n sc w.1 au w.2.1).2.1,w.2.2.1,iF w.2.2.2.1 au (dg a b c n sc w.1 au w.2.1).2.2,
    if(aW a b c (dg a b c n sc w.1 au w.2.1).1.1 n au).k=2 then w.2.2.2.2++ [au]else w.2.2.2.2)
def Ha(m:Nat)(w:Wk):T ax:=match w.2.2.2.2 with| []=>tt a b c n sc w.1 w.2.1 w.2.2.1 w.2.2.2.1 .bf []|z::l=>eK a b c n sc w.1 w.2.1 w.2.2.1 w.2.2.2.1 (z::l) m []
end
section
variable{a b c:Int}{n:Nat}{sc:Int}{st:St}{aq av:ak}{ay:List (Int×List Int)}{ds:aj}{au:Int}{w:Wk}
theorem Ac{m:Nat}(h:w.2.2.2.2≠ []):Ha a b c n sc m w=eK a b c n sc w.1 w.2.1 w.2.2.1 w.2.2.2.1 w.2.2.2.2 m []:=by
 unfold Ha;split
 ·rename_i e;exact absurd e h
 ·rename_i e;rw[e]
theorem MD{m:Nat}(h:w.2.2.2.2= []):Ha a b c n sc m w=tt a b c n sc w.1 w.2.1 w.2.2.1 w.2.2.2.1 .bf []:=by
 unfold Ha;rw[h]
theorem zS{dc:Cell}{k:Nat}{xs:List (Nat×ax)}(hk:8<=k)(hx: ∀p∈xs,p.1<k){i:Nat}{x:ax}(h:(tt a b c n sc st aq av ay dc xs).get i=some x):i<k:=fv (Kg hk hx) h
theorem oo{m k:Nat}{xs:List (Nat×ax)}(hk:8<=k)(hm:m<k)(hx: ∀p∈xs,p.1<k){i:Nat}{x:ax}(h:(eK a b c n sc st aq av ay ds m xs).get i=some x):i<k:=zS hk (fun p hp=>by
 rcases List.mem_append.1 hp with hp|hp
 ·exact hx p hp
 ·rw[List.mem_singleton.1 hp];exact hm) h
theorem fq{hs:T ax}{k:Nat}(h: ∀i x,hs.get i=some x->i<k):cJ ⟨.nil,hs,k,[]⟩:=fun nm hn=>by
 cases hh:hs.get nm with
 |none=>rfl
 |some x=>exact absurd (h _ _ hh) (Nat.not_lt.2 hn)
theorem CI:f98.body=some Jo:=by kernel_rfl
theorem zu(ds:aj)(au:Int):List.take (ds.length*1) (List.drop 0 ds)++List.take 1 (List.drop 0 ((cx [0] 1).set 0 au))=ds++ [au]:=by
 rw[Nat.mul_one,List.drop_zero,List.take_length];rfl
theorem Ef(h:w.2.2.2.2≠ []):(dO a b c n sc au w).2.2.2.2≠ []:=by
 unfold dO;show(if _ then _ else _)≠ []
 split
 ·simp
 ·exact h
theorem Ar(hl:w.1.1.length=64*n)(hd:w.2.2.2.2.length<=1000):cd prog 98 (rA au) 9 (Ha a b c n sc 8 w) (nS 9 (dO a b c n sc au w).2.2.2.2) (Ha a b c n sc 9 (dO a b c n sc au w)) (.aF []):=by
 obtain⟨st,aq,av,ay,ds⟩:=w;simp only at hl hd;have hl2:=(E4 (a:=a) (b:=b) (c:=c) (sc:=sc) (au:=au) (aq:=aq) hl).1;have ob:aw [(dg a b c n sc st au aq).1.1.length=64*n,64*n=64*n,st.2.1=st.2.1,aq=aq,st.1=st.1,64*n=64*n,a=a,b=b,c=c,n=n,sc=sc,st.2.2=st.2.2,au=au,(0:Int)=0,(0:Int)=0,st.1.length=64*n]:=⟨hl2,rfl,rfl,rfl,rfl,rfl,rfl,rfl,rfl,rfl,rfl,rfl,rfl,rfl,rfl,hl,trivial⟩;cases ds with
 |nil=>
  rw[show Ha a b c n sc 8 (st,aq,av,ay,[])=tt a b c n sc st aq av ay .bf []from rfl]
  refine TO.c8 (fn:=f98) (c:=Jo) func98 CI [] (fq fun i x h=>zS (k:=9) (by omega) (fun p hp=>absurd hp List.not_mem_nil) h) (Jd au) ?_
  refine TO.aP Xj (k0:=9) rfl (.of_eq (Rn a b c n sc st aq av ay au _) ?_);unfold QO;unfold dO;refine .fork (fun h=>⟨ob,.inl rfl,?_⟩) (fun h=>⟨ob,.inl rfl,?_⟩)
  ·obtain⟨e1,e2,e3⟩:=Az a b c n sc (dg a b c n sc st au aq).1 (dg a b c n sc st au aq).2.1 av (iF ay au (dg a b c n sc st au aq).2.2) [au];rw[if_pos (by simpa using h)]
   exact⟨_,e1,rfl,e2,e3⟩
  ·obtain⟨e1,e2,e3⟩:=Yl a b c n sc (dg a b c n sc st au aq).1 (dg a b c n sc st au aq).2.1 av (iF ay au (dg a b c n sc st au aq).2.2);rw[if_neg (by simpa using h)]
   exact⟨_,e1,rfl,e2,e3⟩
 |cons z l=>
  rw[Ac (by simp)]
  refine TO.c8 (fn:=f98) (c:=Jo) func98 CI [] (fq fun i x h=>oo (k:=9) (by omega) (by omega) (fun p hp=>absurd hp List.not_mem_nil) h) (Jd au) ?_
  have g:=ads a b c n sc st aq av ay (z::l) au;refine TO.nT (dJ.mv 8 3 (by omega) g.1 rfl g.2 (j:=2) rfl) ?_
  show TO prog 46 [] [] _ Jo (acs a b c n sc st aq av ay (z::l) au) _;refine TO.aP Xj (k0:=9) rfl (.of_eq (QD a b c n sc st aq av ay (z::l) au _) ?_);unfold Sc;rw[zu];have bT:=Ef (a:=a) (b:=b) (c:=c) (n:=n) (sc:=sc) (au:=au) (w:=(st,aq,av,ay,z::l)) (by simp)
  rw[Ac bT,iG bT];unfold dO;refine .fork (fun h=> .aZ (decide_eq_true (pL (by omega))) (.aZ (by simp) ⟨ob,.inl rfl,?_⟩)) (fun h=>⟨ob,.inl rfl,?_⟩)
  ·obtain⟨e1,e2,e3⟩:=Az a b c n sc (dg a b c n sc st au aq).1 (dg a b c n sc st au aq).2.1 av (iF ay au (dg a b c n sc st au aq).2.2) (z::l++ [au]);simp only;rw[if_pos (by simpa using h)]
   have e:(z::l++ [au]).length=(z::l).length+1:=by simp
   rw[e]at e1 e2 e3;rw[Nat.mul_one];exact⟨_,e1,rfl,e2.trans (by unfold eK;rw[e]),e3⟩
  ·obtain⟨e1,e2,e3⟩:=Az a b c n sc (dg a b c n sc st au aq).1 (dg a b c n sc st au aq).2.1 av (iF ay au (dg a b c n sc st au aq).2.2) (z::l);simp only;rw[if_neg (by simpa using h)]
   exact⟨_,e1,rfl,e2,e3⟩
end
end Go.Sx
