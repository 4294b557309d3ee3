import Derived.Test.YtfceckiklfkjkaaGreatS11
import Derived.Below
noncomputable section
namespace Go.Sx
variable{P:Program}
section
variable{n:Nat}{ops:Array Oper}{St:Nat->S}{nd:Nat->fG}(H:DR P n ops St nd)
include H
theorem DR.step {ds:List Deferred}(ro:Option Nat){ρ0 ρ:aM}{w0 w:World}{D D':Nat->Bool}{Hh:Hp}{a:Act}(I:Inv ds ops n St ρ0 w0 D ρ Hh a w){i:Nat}{o:Oper}(N:Next ops D i o)(hD: ∀j,D' j=if j=i then true else D j)
  {next:Act->World->Prop} {Q:Exit->Act->World->Prop} (hn: ∀V w' ρ' Hh',Inv ds ops n St ρ0 w0 D' ρ' Hh' (a.put o.dst V) w'->next (a.put o.dst V) w'):
  if Region.wanted o (yielded ops a.tmps)then o.wpIn (FR ro) 0 P a w next Q else next (a.put o.dst undef) w:=by
 have hi:i<ops.size:=bS N.at_;have loc:=H.loc i o N.at_;have nxle:(St i).nx<=(St (i+1)).nx:=loc.abs.le;have nx0:(St 0).nx<=(St i).nx:=H.le (by omega) (by omega)
 let A:Nat->Prop:=fun nm=>nm<(St i).nx/\(match nd i with|some l=>nm∈l|none=>True)
 let h:Hp:=fun nm=>if nm<(St i).nx then(match nd i with|some l=>if nm∈l then Hh nm else none|none=>Hh nm)else none
 have hA: ∀nm x,h nm=some x->A nm/\Hh nm=some x:=by
  intro nm x hx;simp only[h]at hx;split at hx
  ·rename_i aA;cases hnd:nd i with
   |none=>rw[hnd]at hx;exact⟨⟨aA,by rw[hnd];trivial⟩,hx⟩
   |some l=>
    rw[hnd]at hx;simp only at hx;split at hx
    ·rename_i hm;exact⟨⟨aA,by rw[hnd];exact hm⟩,hx⟩
    ·cases hx
  ·cases hx
 have hAt: ∀nm,A nm->h nm=Hh nm:=by
  intro nm ⟨h1,h2⟩;simp only[h,if_pos h1];cases hnd:nd i with
  |none=>rfl
  |some l=>rw[hnd]at h2;simp only[if_pos h2]
 have hrel:bu (qj ρ (St i).nx) h w:=by
  constructor
  ·intro nm x hx;obtain⟨hA1,hx1⟩:=hA nm x hx;obtain⟨b,c,o',g1,g2,g3⟩:=(H.BG I N hA1.1 hA1.2).2 x hx1;exact⟨b,c,o',by rw[o4,if_pos hA1.1];exact g1,g2,g3⟩
  ·intro nm nm' x y b c c' hx hy hw h1 h2;exact I.inj nm nm' x y b c c' (hA _ _ hx).2 (hA _ _ hy).2 hw (jO _ _ h1) (jO _ _ h2)
  ·exact fun b l hb=>⟨(I.fz b l hb).1,fun nm x c hx hw he=>(I.fz b l hb).2 nm x c (hA _ _ hx).2 hw (jO _ _ he)⟩
 have hfr:bW (qj ρ (St i).nx) (St i).nx:=by
  intro nm hnm;rw[o4,if_neg (by omega)]
 have hneed:Dy (nd i) {St i with lg:= []} h:=by
  unfold Dy;cases hnd:nd i with
  |none=>
   intro nm x hx;have aA:nm<(St i).nx:=by
    rcases Nat.lt_or_ge nm (St i).nx with h'|h'
    ·exact h'
    ·have:=H.Gu (show i<=ops.size by omega) nm h'
     have hx:(St i).hp.get nm=some x:=hx;rw[this]at hx;cases hx
   have hAn:A nm:=⟨aA,by rw[hnd];trivial⟩
   rw[hAt nm hAn,(H.BG I N hAn.1 hAn.2).1];exact hx
  |some l=>
   intro nm hm;show h nm=(St i).hp.get nm;by_cases aA:nm<(St i).nx
   ·have hAn:A nm:=⟨aA,by rw[hnd];exact hm⟩
    rw[hAt nm hAn,(H.BG I N hAn.1 hAn.2).1]
   ·rw[H.Gu (show i<=ops.size by omega) nm (by omega)]
    simp only[h,if_neg aA]
 refine loc.run ro (qj ρ (St i).nx) w a h I.sz (fun t ht=> ?_) hrel hfr hneed next Q fun V w' ρ' h' hv hr' hf' st hh=> ?_
 ·refine H.Y5 I N ?_;simp only[looks,List.mem_append]at ht ⊢;rcases ht with ht|ht
  ·exact .inl (.inr ht)
  ·exact .inr ht
 let ρ'':aM:=⟨fun nm=>if(St i).nx<=nm/\nm<(St (i+1)).nx then ρ' nm else ρ nm,ρ'.fz⟩
 have hold: ∀nm b,(St i).nx<=nm->nm<(St (i+1)).nx->ρ nm≠some b:=by
  intro nm b h1 h2 hb;rcases I.dom nm b hb with h3|⟨j,d1,d2,d3⟩
  ·omega
  ·have hj:=I.inside j d1;rcases Nat.lt_trichotomy j i with h4|h4|h4
   ·have:=H.le (show j+1<=i by omega) (by omega);omega
   ·subst h4;rw[N.not]at d1;cases d1
   ·have:=H.le (show i+1<=j by omega) (by omega);omega
 have hsub:Sub ρ ρ'':=by
  refine⟨?_,fun b l h=>st.je b l h⟩
  intro nm b hb;show(if _ then _ else _)=_
  rw[if_neg fun hc=>hold nm b hc.1 hc.2 hb]
  exact hb
 have hρ'1: ∀nm,nm<(St i).nx->ρ' nm=ρ nm:=fun nm aA=>by
  rw[st.rho nm aA];rw[o4,if_pos aA]
 have hρ':Sub ρ' (qj ρ'' (St (i+1)).nx):=by
  refine⟨?_,fun _ _ h=>h⟩
  intro nm b hb;have aA:nm<(St (i+1)).nx:=by
   rcases Nat.lt_or_ge nm (St (i+1)).nx with h1|h1
   ·exact h1
   ·rw[hf' nm h1]at hb;cases hb
  rw[o4,if_pos aA];show(if _ then _ else _)=_
  by_cases hc:(St i).nx<=nm
  ·rw[if_pos ⟨hc,aA⟩];exact hb
  ·rw[if_neg fun h=>hc h.1, <-hρ'1 nm (by omega)];exact hb
 let T:Nat->Prop:=nX St i
 have hT: ∀nm,T nm->h' nm=(St (i+1)).hp.get nm:=fun nm ht=>by
  rcases ht with ht|ht
  ·exact hh nm (.inl ht)
  ·exact hh nm (.inr ht.1)
 have hTlt: ∀nm,T nm->nm<(St (i+1)).nx:=fun nm ht=>by
  rcases ht with ht|ht
  ·exact loc.abs.lt nm ht
  ·exact ht.2
 have hTval: ∀nm,T nm->ρ'' nm=ρ' nm:=by
  intro nm ht;show(if _ then _ else _)=_
  by_cases hc:(St i).nx<=nm
  ·rw[if_pos ⟨hc,hTlt nm ht⟩]
  ·rw[if_neg fun h=>hc h.1,hρ'1 nm (by omega)]
 have hown: ∀nm,nm∈(St (i+1)).lg->nm<(St i).nx->∃x,Hh nm=some x/\x.wr=true:=by
  intro nm h1 h2;obtain⟨x,g1,g2⟩:=st.aq nm h1 h2;exact⟨x,(hA nm x g1).2,g2⟩
 have noW: ∀nm b c x,¬T nm->Hh nm=some x->ρ nm=some (b,c)->∀bs c0,bs∈(St (i+1)).lg->bs<(St i).nx->qj ρ (St i).nx bs≠some (b,c0):=by
  intro nm b c x h1 h2 h3 bs c0 h4 h5 h6;obtain⟨x0,g1,g2⟩:=hown bs h4 h5;have:=I.inj bs nm x0 x b c0 c g1 h2 g2 (jO _ _ h6) h3;subst this;exact h1 (.inl h4)
 have keepB: ∀nm b c x,¬T nm->Hh nm=some x->ρ nm=some (b,c)->b<w.heap.size->w'.heap[b]? =w.heap[b]? :=by
  intro nm b c x h1 h2 h3 h4;exact st.frame b h4 fun bs c0 m1 m2=>noW nm b c x h1 h2 h3 bs c0 m1 m2
 have cX: ∀nm x,Hh nm=some x->∃b c o,ρ nm=some (b,c)/\w.heap[b]? =some o:=by
  intro nm x hx;obtain⟨m,_,_,_,_,m5⟩:=I.heap nm;obtain⟨b,c,o',g1,g2,_⟩:=m5 x hx;exact⟨b,c,o',g1,g2⟩
 have mixed: ∀p q x y b c c',T p->¬T q->h' p=some x->Hh q=some y->ρ'' p=some (b,c)->ρ'' q=some (b,c')->False:=by
  intro p q x y b c c' hp hq hx hy h1 h2;obtain⟨b',c'',o',g1,g2⟩:=cX q y hy;have e:=hsub _ _ g1;rw[e]at h2;simp only[ae,af]at h2;obtain⟨rfl,rfl⟩:=h2;rw[hTval p hp]at h1;by_cases aA:p<(St i).nx
  ·have hpL:p∈(St (i+1)).lg:=by
    rcases hp with hp|hp
    ·exact hp
    ·omega
   rw[st.rho p aA]at h1;exact noW q b' c'' y hq hy g1 p c hpL aA h1
  ·rcases st.new p b' c (by show(St i).nx<=p;omega) h1 with h3|⟨bs,c0,m1,m2,m3⟩
   ·have:=bS g2;omega
   ·exact noW q b' c'' y hq hy g1 bs c0 m1 m2 m3
 classical
 let Hh':Hp:=fun nm=>if T nm then h' nm else Hh nm
 refine hn V w' ρ'' Hh' ⟨?_,?_,by rw[F0];exact I.sz,by rw[put_defers];exact I.df,?_,?_,?_,?_,?_,Nat.le_trans I.size st.size,?_,?_,?_,by rw[st.os,I.os],by rw[st.tape,I.tape],by rw[st.al,I.al],?_,fun b l h=>st.je b l (I.je b l h),?_⟩
 ·
  intro j oj hj ho e he hb;rw[hD]at hj ⊢;by_cases e1:j=i
  ·subst e1;rw[N.at_]at ho;simp only[ae]at ho;subst ho;split
   ·rfl
   ·exact N.ready e he hb
  ·rw[if_neg e1]at hj;split
   ·rfl
   ·exact I.closed j oj hj ho e he hb
 ·intro j hj;rw[hD]at hj;split at hj
  ·rename_i e;subst e;exact hi
  ·exact I.inside j hj
 ·
  intro t;by_cases hd:o.dst=some t
  ·refine⟨i+1,by omega,?_,?_,.inr ⟨i,rfl,by rw[hD,if_pos rfl],o,N.at_,hd⟩⟩
   ·rw[xS,if_pos ⟨hd,by rw[I.sz];exact loc.dst t hd⟩]
    exact(hv t hd).mono hρ'
   ·intro j hj ⟨oj,d2,d3⟩;rw[hD]at hj;by_cases e1:j=i
    ·omega
    ·rw[if_neg e1]at hj;rcases Nat.lt_or_ge j (i+1)with h4|h4
     ·exact h4
     ·exfalso;have p:=H.later I N hj d2 (by omega)
      refine p.a1 t hd ?_;simp[looks,d3]
  ·obtain⟨m,m1,m2,m3,m4⟩:=I.slots t;refine⟨m,m1,?_,?_,?_⟩
   ·rw[xS,if_neg fun h=>hd h.1]
    exact m2.mono (rN hsub (Nat.le_refl _))
   ·intro j hj hw;rw[hD]at hj;by_cases e1:j=i
    ·subst e1;obtain⟨oj,d2,d3⟩:=hw;rw[N.at_]at d2;simp only[ae]at d2;subst d2;exact absurd d3 hd
    ·rw[if_neg e1]at hj;exact m3 j hj hw
   ·rcases m4 with h1|⟨m',h1,h2,h3⟩
    ·exact .inl h1
    ·exact .inr ⟨m',h1,by rw[hD];split<;>first|rfl|exact h2,h3⟩
 ·
  intro nm;by_cases hc:T nm
  ·refine⟨i+1,by omega,?_,?_,.inr ⟨i,rfl,by rw[hD,if_pos rfl],hc⟩,?_⟩
   ·show(if T nm then h' nm else Hh nm)=_
    rw[if_pos hc,hT nm hc]
   ·intro j hj ht;rw[hD]at hj;by_cases e1:j=i
    ·omega
    ·rw[if_neg e1]at hj;rcases Nat.lt_or_ge j (i+1)with h4|h4
     ·exact h4
     ·exfalso;have hjs:=I.inside j hj;have p:=H.later I N hj (Array.getElem?_eq_getElem hjs) (by omega)
      have hle:=H.le (show i+1<=j by omega) (by omega)
      have aA:=hTlt nm hc;rcases ht with ht|ht
      ·rcases hc with hc|hc
       ·exact p.w1 nm hc ht
       ·exact p.w2 nm ht hc
      ·omega
   ·intro x hx;have hx:h' nm=some x:=by
     have:(if T nm then h' nm else Hh nm)=some x:=hx
     rwa [if_pos hc]at this
    obtain⟨b,c,o',g1,g2,g3⟩:=hr'.ok nm x hx;exact⟨b,c,o',by rw[hTval nm hc];exact g1,g2,g3.mono hρ'⟩
  ·obtain⟨m,m1,m2,m3,m4,m5⟩:=I.heap nm;refine⟨m,m1,?_,?_,?_,?_⟩
   ·show(if T nm then h' nm else Hh nm)=_
    rw[if_neg hc,m2]
   ·intro j hj ht;rw[hD]at hj;by_cases e1:j=i
    ·subst e1;exact absurd ht hc
    ·rw[if_neg e1]at hj;exact m3 j hj ht
   ·rcases m4 with h1|⟨m',h1,h2,h3⟩
    ·exact .inl h1
    ·exact .inr ⟨m',h1,by rw[hD];split<;>first|rfl|exact h2,h3⟩
   ·intro x hx;have hx:Hh nm=some x:=by
     have:(if T nm then h' nm else Hh nm)=some x:=hx
     rwa [if_neg hc]at this
    obtain⟨b,c,o',g1,g2,g3⟩:=m5 x hx;exact⟨b,c,o',hsub _ _ g1,by rw[keepB nm b c x hc hx g1 (bS g2)];exact g2,g3.mono (rN hsub (Nat.le_refl _))⟩
 ·
  intro p q x y b c c' hx hy hw h1 h2;have hx:(if T p then h' p else Hh p)=some x:=hx
  have hy:(if T q then h' q else Hh q)=some y:=hy
  by_cases hp:T p<;>by_cases hq:T q
  ·rw[if_pos hp]at hx;rw[if_pos hq]at hy;rw[hTval p hp]at h1;rw[hTval q hq]at h2;exact hr'.inj p q x y b c c' hx hy hw h1 h2
  ·rw[if_pos hp]at hx;rw[if_neg hq]at hy;exact(mixed p q x y b c c' hp hq hx hy h1 h2).elim
  ·rw[if_neg hp]at hx;rw[if_pos hq]at hy;exact(mixed q p y x b c' c hq hp hy hx h2 h1).elim
  ·rw[if_neg hp]at hx;rw[if_neg hq]at hy;obtain⟨b1,c1,o1,g1,_⟩:=cX p x hx;obtain⟨b2,c2,o2,g2,_⟩:=cX q y hy;rw[hsub _ _ g1]at h1;rw[hsub _ _ g2]at h2;rw[h1]at g1;rw[h2]at g2;exact I.inj p q x y b c c' hx hy hw g1 g2
 ·
  intro nm b hb;have hb:(if(St i).nx<=nm/\nm<(St (i+1)).nx then ρ' nm else ρ nm)=some b:=hb
  split at hb
  ·rename_i hc;exact .inr ⟨i,by rw[hD,if_pos rfl],hc⟩
  ·rcases I.dom nm b hb with h1|⟨j,d1,d2⟩
   ·exact .inl h1
   ·exact .inr ⟨j,by rw[hD];split<;>first|rfl|exact d1,d2⟩
 ·
  intro nm aA;show(if _ then _ else _)=_
  rw[if_neg (by omega)]
  exact I.eU nm aA
 ·
  intro b hb hL;have e1:=I.frame b hb fun j nm c hj=>hL j nm c (by rw[hD];split<;>first|rfl|exact hj)
  rw[<-e1];refine st.frame b (Nat.lt_of_lt_of_le hb I.size) fun nm c h1 h2 h3=> ?_
  have h3:=jO _ _ h3;by_cases aA:nm<(St 0).nx
  ·rw[I.eU nm aA]at h3;exact hL i nm c (by rw[hD,if_pos rfl]) h1 aA h3
  ·rcases I.new nm b c (by omega) h3 with h4|⟨j,bs,c0,d1,d2,d3,d4⟩
   ·omega
   ·exact hL j bs c0 (by rw[hD];split<;>first|rfl|exact d1) d2 d3 d4
 ·
  intro nm b c hle hb;have lift:(w0.heap.size<=b\/∃j bs c0,D j=true/\bs∈(St (j+1)).lg/\bs<(St 0).nx/\ρ0 bs=some (b,c0))->(w0.heap.size<=b\/∃j bs c0,D' j=true/\bs∈(St (j+1)).lg/\bs<(St 0).nx/\ρ0 bs=some (b,c0)):=by
   rintro(h1|⟨j,bs,c0,d1,d2⟩)
   ·exact .inl h1
   ·exact .inr ⟨j,bs,c0,by rw[hD];split<;>first|rfl|exact d1,d2⟩
  have hb:(if(St i).nx<=nm/\nm<(St (i+1)).nx then ρ' nm else ρ nm)=some (b,c):=hb
  split at hb
  ·rename_i hc;rcases st.new nm b c hc.1 hb with h1|⟨bs,c0,m1,m2,m3⟩
   ·exact .inl (Nat.le_trans I.size h1)
   ·have m3:=jO _ _ m3;by_cases aA:bs<(St 0).nx
    ·rw[I.eU bs aA]at m3;exact .inr ⟨i,bs,c0,by rw[hD,if_pos rfl],m1,aA,m3⟩
    ·exact lift (I.new bs b c0 (by omega) m3)
  ·exact lift (I.new nm b c hle hb)
 ·
  intro j nm hj hm aA;rw[hD]at hj;by_cases e1:j=i
  ·subst e1;obtain⟨x,g1,g2⟩:=hown nm hm (by omega)
   obtain⟨m,m1,m2,m3,m4,m5⟩:=I.heap nm;rcases m4 with rfl|⟨m',rfl,d1,d2⟩
   ·rw[m2]at g1;exact⟨x,g1,g2⟩
   ·rcases d2 with d2|d2
    ·exact I.aq m' nm d1 d2 aA
    ·have hm':=I.inside m' d1;have:=H.le (show 0<=m' by omega) (by omega)
     omega
  ·rw[if_neg e1]at hj;exact I.aq j nm hj hm aA
 ·
  intro b l hb;refine⟨(hr'.fz b l hb).1,fun nm x c hx hw he=> ?_⟩
  have hx:(if T nm then h' nm else Hh nm)=some x:=hx
  by_cases hc:T nm
  ·rw[if_pos hc]at hx;rw[hTval nm hc]at he;exact(hr'.fz b l hb).2 nm x c hx hw he
  ·rw[if_neg hc]at hx;obtain⟨b',c',o',g1,g2⟩:=cX nm x hx;rw[hsub _ _ g1]at he;simp only[ae,af]at he;obtain⟨rfl,rfl⟩:=he;rcases st.fzn b' l hb with h1|h1|⟨bs,c0,m1,m2,m3⟩
   ·exact(I.fz b' l h1).2 nm x c' hx hw g1
   ·have:=bS g2;omega
   ·exact noW nm b' c' x hc hx g1 bs c0 m1 m2 m3
 ·
  intro b l h;have lift:(w0.heap.size<=b\/∃j bs c0,D j=true/\bs∈(St (j+1)).lg/\bs<(St 0).nx/\ρ0 bs=some (b,c0))->(w0.heap.size<=b\/∃j bs c0,D' j=true/\bs∈(St (j+1)).lg/\bs<(St 0).nx/\ρ0 bs=some (b,c0)):=by
   rintro(h1|⟨j,bs,c0,d1,d2⟩)
   ·exact .inl h1
   ·exact .inr ⟨j,bs,c0,by rw[hD];split<;>first|rfl|exact d1,d2⟩
  rcases st.fzn b l h with h1|h1|⟨bs,c0,m1,m2,m3⟩
  ·exact(I.fzn b l h1).elim .inl fun h=> .inr (lift h)
  ·exact .inr (.inl (Nat.le_trans I.size h1))
  ·have m3:=jO _ _ m3;by_cases aA:bs<(St 0).nx
   ·rw[I.eU bs aA]at m3;exact .inr (.inr ⟨i,bs,c0,by rw[hD,if_pos rfl],m1,aA,m3⟩)
   ·exact .inr (lift (I.new bs b c0 (by omega) m3))
end
end Go.Sx
namespace Go.Sx
variable{P:Program}
theorem za: ∀(fps:List FP) (acc:List Nat),∃L,mw fps acc=L++acc/\∀x,x∈L↔∃f∈fps,x∈f.wr
 | [],acc=>⟨[],rfl,by simp⟩
 |f::r,acc=>by
  obtain⟨L,h1,h2⟩:=za r (f.wr++acc);refine⟨L++f.wr,by rw[mw,h1,List.append_assoc],fun x=> ?_⟩
  rw[List.mem_append,h2];simp only[List.mem_cons,exists_eq_or_imp];exact Or.comm
section
variable{n:Nat}{ops:Array Oper}{St:Nat->S}{nd:Nat->fG}(H:DR P n ops St nd)
include H
omit H in
theorem VH(listed:Array Bool)(i j:Nat)(h:i<listed.size):(listed.setIfInBounds i true).getD j false=if j=i then true else listed.getD j false:=by
 rw[Array.getD_eq_getD_getElem?,Array.getD_eq_getD_getElem?,Array.getElem?_setIfInBounds];by_cases e:i=j
 ·subst e;simp[h]
 ·rw[if_neg e,if_neg (fun h=>e h.symm)]
theorem DR.all {ds:List Deferred}(ro:Option Nat){ρ0:aM}{w0:World}{Q:Exit->Act->World->Prop}(hQ: ∀D ρ Hh a w,(∀j,j<ops.size->D j=true)->Inv ds ops n St ρ0 w0 D ρ Hh a w->Q .normal a w):
  ∀(fuel:Nat) (listed:Array Bool) (ρ:aM) (Hh:Hp) (a:Act) (w:World),listed.size=ops.size->Inv ds ops n St ρ0 w0 (fun j=>listed.getD j false) ρ Hh a w->ops.size<=fuel+nN (fun j=>listed.getD j false) ops.size->
   wpAnyIn (FR ro) 0 P .any ops Q fuel listed a w:=by
 intro fuel
 induction fuel with
 |zero=>
  intro listed ρ Hh a w hs I hc;have hall: ∀j,j<ops.size->listed.getD j false=true:=J9 (fun j=>listed.getD j false) _ (by rw[Nat.zero_add]at hc;exact hc)
  refine⟨?_,hQ _ ρ Hh a w hall I⟩;apply List.eq_nil_iff_forall_not_mem.2;intro j hj;rw[mem_ready]at hj;obtain⟨h0,o,ho,_⟩:=hj;have aA:=bS ho;have:=hall j aA;rw[Array.getD_eq_getD_getElem?,Array.getElem?_eq_getElem (by omega)]at h0 this
  simp at h0 this;rw[h0]at this;cases this
 |succ fuel ih=>
  intro listed ρ Hh a w hs I hc;refine⟨fun hr=> ?_,fun i hi=> ?_⟩
  ·
   refine hQ _ ρ Hh a w ?_ I;have key: ∀j,j<ops.size->(∀k,k<j->listed.getD k false=true)->listed.getD j false=true:=by
    intro j hj hk;cases hl:listed.getD j false with
    |true=>rfl
    |false=>
     exfalso;have hmem:j∈Region.ready .any ops listed:=by
      rw[mem_ready];refine⟨?_,ops[j],Array.getElem?_eq_getElem hj,fun e he hb=>hk _ (H.back j _ (Array.getElem?_eq_getElem hj) e he hb)⟩
      rw[Array.getD_eq_getD_getElem?,Array.getElem?_eq_getElem (by omega)]at hl ⊢
      simpa using hl
     rw[hr]at hmem;cases hmem
   intro j hj
   induction j using Nat.strongRecOn with
   |_ j ihj=>exact key j hj fun k hk=>ihj k hk (by omega)
  ·rw[mem_ready]at hi;obtain⟨h0,o,ho,hre⟩:=hi;have aA:=bS ho;have hnot:listed.getD i false=false:=by
    rw[Array.getD_eq_getD_getElem?,Array.getElem?_eq_getElem (by omega)]at h0 ⊢
    simpa using h0
   have hset:=fun j=>VH listed i j (by omega)
   have:=H.step ro (D':=fun j=>(listed.setIfInBounds i true).getD j false) (Q:=Q) (next:=wpAnyIn (FR ro) 0 P .any ops Q fuel (listed.setIfInBounds i true)) I ⟨ho,hnot,hre⟩ hset fun V w' ρ' Hh' I'=>
    ih (listed.setIfInBounds i true) ρ' Hh' _ w' (by simpa using hs) I' (by
     have:=IV (f:=fun j=>listed.getD j false) (g:=fun j=>(listed.setIfInBounds i true).getD j false) (j:=i) hset aA hnot
     omega)
   unfold wpOpIn;rw[ho];simp only;split
   ·rename_i hw;rw[if_pos hw]at this;exact this
   ·rename_i hw;rw[if_neg hw]at this;exact⟨fun _ _=>trivial,this⟩
end
theorem Jl{β:Type}(hm:P.follows .mixedOrders=true){n id:Nat}{ops:Array Oper}{s:S}{k:S->Option β}{r:β}{St:Nat->S}{nd:Nat->fG}(ht:cJ s)(hring:qA ops.toList ops.toList 0=true)(e0:St 0=s)
  (hloc: ∀i o,ops.toList[i]? =some o->la P n ops o {St i with lg:= []} (nd i) (St (i+1)) (St (i+1)).lg)
  (hpairs:kH ops.toList ops.toList (kf ops.toList []) ((List.range ops.toList.length).map fun i=>(⟨nd i,(St (i+1)).lg,(St i).nx,(St (i+1)).nx⟩:FP)) [] []=true)
  (hk:k {St ops.toList.length with lg:=mw ((List.range ops.toList.length).map fun i=>(⟨nd i,(St (i+1)).lg,(St i).nx,(St (i+1)).nx⟩:FP)) s.lg}=some r):
  N4 n s k r (fun ro Q=>(Code.region id ops true).wpIn (FR ro) 0 P Q):=by
 have hlen:ops.toList.length=ops.size:=by simp
 rw[hlen]at hk hpairs;have toL: ∀ {i:Nat} {o:Oper},ops[i]? =some o->ops.toList[i]? =some o:=fun h=>by simpa using h
 have H:DR P n ops St nd:=by
  refine⟨by rw[e0];exact ht,fun i o ho=>hloc i o (toL ho),fun i o ho e he hb=> ?_,fun i j oi oj aA hoi hoj=> ?_⟩
  ·have:=Ch hring i o (toL ho) e he hb;simpa using this
  ·have hjs:=bS hoj;have his:=bS hoi;have hbl:(kf ops.toList []).length=ops.size:=by rw[HS];simp
   have hmj:(kf ops.toList [])[j]? =some ((kf ops.toList []).getD j 0):=by
    rw[List.getD_eq_getElem?_getD,List.getElem?_eq_getElem (by omega)];rfl
   have hfj: ∀j,j<ops.size->((List.range ops.size).map fun i=>(⟨nd i,(St (i+1)).lg,(St i).nx,(St (i+1)).nx⟩:FP))[j]? =some ⟨nd j,(St (j+1)).lg,(St j).nx,(St (j+1)).nx⟩:=fun j hj=>by
    rw[List.getElem?_map,List.getElem?_range hj];rfl
   rcases xh hpairs rfl j oj _ _ (toL hoj) hmj (hfj j hjs) i oi _ (by simpa using aA) (by simpa using toL hoi) (by rw[List.nil_append];exact hfj i his)with h1|h1
   ·refine .inl fun D hcl hre=> ?_
    obtain⟨_,g2⟩:=JE (D:=D) ops.toList [] (by intro j i _ h;simp at h) (fun j o ho hD e he hb=>hcl j o (by simpa using hD) (by simpa using ho) e he hb)
    exact g2 j oj (toL hoj) hre i (by simpa using h1)
   ·exact .inr h1
 obtain⟨L,hL1,hL2⟩:=za ((List.range ops.size).map fun i=>(⟨nd i,(St (i+1)).lg,(St i).nx,(St (i+1)).nx⟩:FP)) s.lg
 have hmemL: ∀x,x∈L↔∃j,j<ops.size/\x∈(St (j+1)).lg:=by
  intro x;rw[hL2];constructor
  ·rintro⟨f,hf,hx⟩;rw[List.mem_map]at hf;obtain⟨j,hj,rfl⟩:=hf;exact⟨j,List.mem_range.1 hj,hx⟩
  ·rintro⟨j,hj,hx⟩;exact⟨_,List.mem_map.2 ⟨j,List.mem_range.2 hj,rfl⟩,hx⟩
 have hkeep: ∀nm,nm<s.nx->nm∉L->(St ops.size).hp.get nm=s.hp.get nm:=by
  intro nm h1 h2;rw[H.wu (nm:=nm) (m:=0) (i:=ops.size) (by omega) (Nat.le_refl _) (by rw[e0];exact h1),e0]
  intro j _ hj ht;rcases ht with ht|ht
  ·exact h2 ((hmemL nm).2 ⟨j,hj,ht⟩)
  ·have:=H.le (show 0<=j by omega) (by omega)
   rw[e0]at this;omega
 have hle:s.nx<=(St ops.size).nx:=by
  have:=H.le (show 0<=ops.size by omega) (Nat.le_refl _)
  rwa [e0]at this
 refine⟨_,L,hk,⟨hL1,hle,hkeep,H.Gu (Nat.le_refl _),fun nm hm=> ?_⟩,fun ro ρ a w R Q hQ=> ?_⟩
 ·obtain⟨j,hj,hx⟩:=(hmemL nm).1 hm;exact Nat.lt_of_lt_of_le ((H.abs hj).lt nm hx) (H.le (show j+1<=ops.size by omega) (Nat.le_refl _))
 ·refine wpIn_region_any hm ?_
  let w1:World:= {w with drawn:=w.drawn+1}
  have rst_eq: ∀m,s.nx<=m->Sub ρ (qj ρ m):=by
   intro m hm;refine⟨?_,fun _ _ h=>h⟩
   intro nm b hb;rw[o4,if_pos]
   ·exact hb
   ·rcases Nat.lt_or_ge nm s.nx with h1|h1
    ·omega
    ·rw[R.fresh nm h1]at hb;cases hb
  have I0:Inv a.defers ops n St ρ w1 (fun j=>(Array.replicate ops.size false).getD j false) ρ s.hp.get a w1:=by
   have hD: ∀j,(Array.replicate ops.size false).getD j false=false:=fun j=>by
    rw[Array.getD_eq_getD_getElem?,Array.getElem?_replicate];split<;>rfl
   have no: ∀ {j:Nat} {p:Prop},(Array.replicate ops.size false).getD j false=true->p:=fun h=>by rw[hD]at h;cases h
   refine⟨fun j o h=>no h,fun j h=>no h,R.sz,rfl,fun t=>⟨0,by omega,?_,fun j h=>no h,.inl rfl⟩,fun nm=>⟨0,by omega,by rw[e0],fun j h=>no h,.inl rfl,fun x hx=> ?_⟩,R.hp.inj,fun nm b hb=> ?_,fun _ _=>rfl,Nat.le_refl _,fun _ _ _=>rfl,fun nm b c h1 h2=> ?_,fun j nm h=>no h,rfl,rfl,rfl,R.hp.fz,fun _ _ h=>h,fun _ _ h=> .inl h⟩
   ·rw[e0];exact(R.sl t).mono (rst_eq _ (Nat.le_refl _))
   ·obtain⟨b,c,o,g1,g2,g3⟩:=R.hp.ok nm x hx;exact⟨b,c,o,g1,g2,g3.mono (rst_eq _ (by rw[e0];exact Nat.le_refl _))⟩
   ·left;rw[e0];rcases Nat.lt_or_ge nm s.nx with h1|h1
    ·exact h1
    ·rw[R.fresh nm h1]at hb;cases hb
   ·rw[e0]at h1;rw[R.fresh nm h1]at h2;cases h2
  refine H.all ro (ρ0:=ρ) (w0:=w1) (fun D ρ' Hh a' w' hall I=> ?_) ops.size _ ρ s.hp.get a w1 (by simp) I0 (by omega)
  have hlast: ∀t m,m<=ops.size->(∀j,D j=true->yO ops j t->j<m)->(St ops.size).sl.get t=(St m).sl.get t:=fun t m hm hw=>H.mN hm (Nat.le_refl _) fun j h1 h2 h3=>by
   have:=hw j (hall j h2) h3;omega
  have hheap:Hh=(St ops.size).hp.get:=by
   funext nm
   obtain⟨m,m1,m2,m3,m4,_⟩:=I.heap nm;rw[m2];by_cases aA:nm<(St m).nx
   ·exact(H.wu m1 (Nat.le_refl _) aA fun j h1 h2 h3=>by
     have:=m3 j (hall j h2) h3;omega).symm
   ·rw[H.Gu m1 nm (by omega)]
    by_cases hlt2:nm<(St ops.size).nx
    ·exfalso;have key: ∀k,m+k<=ops.size->nm<(St (m+k)).nx->∃j,m<=j/\j<ops.size/\nX St j nm:=by
      intro k
      induction k with
      |zero=>intro _ h;exact absurd h aA
      |succ k ih=>
       intro h1 h2;by_cases h3:nm<(St (m+k)).nx
       ·exact ih (by omega) h3
       ·exact⟨m+k,by omega,by omega,.inr ⟨by omega,h2⟩⟩
     obtain⟨j,j1,j2,j3⟩:=key (ops.size - m) (by omega) (by rw[show m+(ops.size - m)=ops.size by omega];exact hlt2)
     have:=m3 j (hall j j2) j3;omega
    ·rw[H.Gu (Nat.le_refl _) nm (by omega)]
  have hfresh:bW ρ' (St ops.size).nx:=by
   intro nm hnm;cases hb:ρ' nm with
   |none=>rfl
   |some b=>
    rcases I.dom nm b hb with h1|⟨j,d1,_,d2⟩
    ·rw[e0]at h1;omega
    ·have hj:=I.inside j d1;have:=H.le (show j+1<=ops.size by omega) (Nat.le_refl _)
     omega
  have stF:dN ρ s.hp.get s.nx w ρ' (St ops.size).hp.get (St ops.size).nx w' L:=by
   refine⟨hle,fun nm h1=>I.eU nm (by rw[e0];exact h1),hkeep,I.size,fun b h1 h2=> ?_,fun nm b c h1 h2=> ?_,fun nm h1 h2=> ?_,I.os,I.tape,I.al,I.je,fun b l h=>(I.fzn b l h).elim .inl fun h=> .inr (h.elim .inl fun⟨j,bs,c0,d1,d2,d3,d4⟩=> .inr ⟨bs,c0,(hmemL bs).2 ⟨j,I.inside j d1,d2⟩,by rw[e0]at d3;exact d3,d4⟩)⟩
   ·refine I.frame b h1 fun j nm c hj hm aA=>h2 nm c ((hmemL nm).2 ⟨j,I.inside j hj,hm⟩) (by rw[e0]at aA;exact aA)
   ·rcases I.new nm b c (by rw[e0];exact h1) h2 with h3|⟨j,bs,c0,d1,d2,d3,d4⟩
    ·exact .inl h3
    ·exact .inr ⟨bs,c0,(hmemL bs).2 ⟨j,I.inside j d1,d2⟩,by rw[e0]at d3;exact d3,d4⟩
   ·obtain⟨j,hj,hx⟩:=(hmemL nm).1 h1;have:=I.aq j nm (hall j hj) hx (by rw[e0];exact h2)
    rwa [e0]at this
  refine hQ a' w' ρ' ⟨I.sz,by rw[I.df];exact R.df.ff R.hp stF,fun t=> ?_,⟨fun nm x hx=> ?_,?_,by rw[<-hheap];exact I.fz⟩,hfresh⟩ stF I.df
  ·obtain⟨m,m1,m2,m3,_⟩:=I.slots t;have e:slot n (St ops.size).sl t=slot n (St m).sl t:=by unfold slot;rw[hlast t m m1 m3]
   show bE ρ' (slot n (St ops.size).sl t) _;rw[e];exact m2.mono jO
  ·have hx:Hh nm=some x:=by rw[hheap];exact hx
   obtain⟨m,_,_,_,_,m5⟩:=I.heap nm;obtain⟨b,c,o,g1,g2,g3⟩:=m5 x hx;exact⟨b,c,o,g1,g2,g3.mono jO⟩
  ·intro nm nm' x y b c c' hx hy;exact I.inj nm nm' x y b c c' (by rw[hheap];exact hx) (by rw[hheap];exact hy)
theorem JY{z:Bool}(hng: ∀(g:Nat) (fn:Func),P.funcs[g]? =some fn->(fn.name== "runtime.NumGoroutine")=false)(hm:P.follows .mixedOrders=true):Ma P z:=by
 intro β call hcall n id ops s k r ht h;unfold wq at h;split at h<;>try(cases h;done)
 rename_i hring;obtain⟨St,nd,e0,hloc,hk⟩:=CF hcall hng (ops:=ops) (rest:=ops.toList) ht h;simp only[List.nil_append]at hk;split at hk
 ·rename_i hpairs;exact Jl hm ht hring e0 hloc hpairs hk
 ·obtain⟨St,nd,e0,hloc,hk⟩:=zF hcall hng (ops:=ops) (rest:=ops.toList) ht hk;simp only[List.nil_append]at hk;split at hk<;>try(cases hk;done)
  rename_i hpairs;exact Jl hm ht hring e0 hloc hpairs hk
theorem wX{β:Type}{z:Bool}{Sg:FuncId->Option Sum}(hng: ∀(g:Nat) (fn:Func),P.funcs[g]? =some fn->(fn.name== "runtime.NumGoroutine")=false)(hm:P.follows .mixedOrders=true)(hS:su P Sg)(f:Nat):
  kB P z (exec (β:=β) P Sg z f):=D8 hng hS (JY hng hm) f
theorem jC{β:Type}{Sg:FuncId->Option Sum}(hng: ∀(g:Nat) (fn:Func),P.funcs[g]? =some fn->(fn.name== "runtime.NumGoroutine")=false)(hm:P.follows .mixedOrders=true)(hS:su P Sg)(f:Nat):
  Sh P (exec (β:=β) P Sg false f):=(wX hng hm hS f).ok
end Go.Sx
namespace Go.Sx
open Go.RowKit
variable{P:Program}
def s7(P:Program)(Sg:FuncId->Option Sum)(z:Bool){β:Type}(fuel:Nat)(g:FuncId)(args:List RV)(s:S)(k:RV->S->Option β):Option β:=
 match P.funcs[g]? with
 |none=>none
 |some fn=>match fn.body with
  |none=>none
  |some c=>jW P (exec P Sg z fuel) fn c args s k
def s0:S:=⟨.nil,.nil,0,[]⟩
structure Fit(P:Program)(Sg:FuncId->Option Sum):Prop where
 ng: ∀(g:Nat) (fn:Func),P.funcs[g]? =some fn->(fn.name== "runtime.NumGoroutine")=false
 mixed:P.follows .mixedOrders=true
 sums:su P Sg
theorem jo{Sg:FuncId->Option Sum}{z:Bool}(F:Fit P Sg){β:Type}{fuel:Nat}{g:FuncId}{args:List RV}{s:S}{k:RV->S->Option β}{r:β}(ht:cJ s)
  (h:s7 P Sg z fuel g args s k=some r): ∃v s' L,k v s'=some r/\aU P g args s v s' L:=by
 unfold s7 at h;split at h<;>try(cases h;done)
 rename_i fn hf;split at h<;>try(cases h;done)
 rename_i c hb;exact rT (wX F.ng F.mixed F.sums fuel) hf hb ht h
theorem Below.ff {ρ:aM}{hp:Hp}{nx:Nat}{w w':World}(hf:bW ρ nx)(b:Below w.heap.size w w'):dN ρ hp nx w ρ hp nx w' [] where
 le:=Nat.le_refl _
 rho:=fun _ _=>rfl
 aH:=fun _ _ _=>rfl
 size:=b.size
 frame:=fun k hk _=>b.block k hk
 new:=fun nm bb c h1 h2=>by rw[hf nm h1]at h2;cases h2
 aq:=fun _ h=>by cases h
 os:=b.os
 tape:=b.tape
 al:=b.output
 je:=fun _ _ h=>h
 fzn:=fun _ _ h=> .inl h
theorem bu.below {ρ:aM}{hp:Hp}{w w':World}(h:bu ρ hp w)(b:Below w.heap.size w w'):bu ρ hp w' where
 ok:=fun nm x hx=>by
  obtain⟨bb,c,o,h1,h2,h3⟩:=h.ok nm x hx;exact⟨bb,c,o,h1,(b.block bb (Array.getElem?_eq_some_iff.1 h2).1).trans h2,h3⟩
 inj:=h.inj
 fz:=h.fz.of (fun _ _ h=>h) (fun bb l hb=>b.block bb (h.fz bb l hb).1.lt) fun nm x bb c hx hw he=> .inl ⟨nm,x,c,hx,hw,he⟩
theorem aU.quiet {f:FuncId}{args:List RV}{s:S}{v:RV}(ht:cJ s)(hfn: ∃fn,P.funcs[f]? =some fn/\fn.body.isNone=false)
  (h: ∀(ρ:aM) (w:World) (vs:List Value),bu ρ s.hp.get w->bo ρ args vs->Calls P f vs.toArray w fun e w'=> ∃V,e= .returned V/\bE ρ v V/\Below w.heap.size w w'):
  aU P f args s v s [] where
 fn:=hfn
 sl:=rfl
 abs:=gU.refl ht
 run:=fun ρ w vs hr hf ha=>(h ρ w vs hr ha).mono fun e w' ⟨V,h1,h2,h3⟩=>⟨V,ρ,h1,h2,hr.below h3,hf,Below.ff hf h3⟩
theorem bu.nil (w:World):bu mz (T.nil:T ax).get w where
 ok:=fun nm x hx=>by rw[T.get_nil]at hx;cases hx
 inj:=fun nm nm' x y b c c' hx=>by rw[T.get_nil]at hx;cases hx
 fz:=fun b l h=>by cases h
theorem Nq{Sg:FuncId->Option Sum}{z:Bool}(F:Fit P Sg){fuel:Nat}{g:FuncId}{args:List RV}{v:RV}
  (h:s7 P Sg z fuel g args s0 (fun v _=>some v)=some v) {vs:List Value} (ha:bo mz args vs) (w:World):
  Calls P g vs.toArray w fun e w'=> ∃V ρ,e= .returned V/\bE ρ v V/\Below w.heap.size w w':=by
 obtain⟨v',s',L,h1,ci⟩:=jo F (fun nm _=>T.get_nil nm) h
 cases h1;refine(ci.run mz w vs (bu.nil _) (fun _ _=>rfl) ha).mono fun e w' ⟨V,ρ',e1,e2,e3,e4,st⟩=>⟨V,ρ',e1,e2,?_⟩
 exact⟨st.os,st.tape,st.al,st.size,fun k hk=>st.frame k hk (fun nm c _ aA=>absurd aA (Nat.not_lt_zero _))⟩
theorem ME{Sg:FuncId->Option Sum}{z:Bool}(F:Fit P Sg){fuel:Nat}{g:FuncId}{v:Cell}
  (hv: ∀ρ ρ' V,CR ρ v V->CR ρ' v V)
  (h:s7 P Sg z fuel g [] s0 (fun v _=>some v)=some (.one (.c v))) {s:S} (ht:cJ s):aU P g [] s (.one (.c v)) s []:=by
 refine aU.quiet ht ?_ fun ρ w vs hr ha=> ?_
 ·obtain⟨v',s',L,h1,ci⟩:=jo F (fun nm _=>T.get_nil nm) h
  exact ci.fn
 ·cases ha;exact(Nq F h (vs:= []) rfl w).mono fun e w' ⟨V,ρ',e1,e2,e3⟩=>⟨V,e1,hv ρ' ρ V e2,e3⟩
end Go.Sx
