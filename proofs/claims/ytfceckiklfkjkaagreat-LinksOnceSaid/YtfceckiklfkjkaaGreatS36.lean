import Derived.Test.YtfceckiklfkjkaaGreatS35
noncomputable section
open Go.Proofs Go.RowKit
set_option maxRecDepth 100000
open Go.IntKind(i64 u8 u64 u32 u16)
open Go.Proofs.Tryz
namespace Go.Sx
abbrev Rb:Type:=List (Int×Int)×List Int×Fi.bD
section
variable(a b c:Int)(n:Nat)(L:aj)(au ar kd:Int)(A:aj)
def ku(j:Nat)(x:Rb):Rb:=
 if A.getD j 0=0 then x
 else if(j:Int)<ar/\dE a b c n L x.1 (A.getD j 0) kd=true then(bC x.1 (A.getD j 0) au,x.2.1++ [A.getD j 0],x.2.2)
 else(x.1,x.2.1,zd j x.2.2)
def ru:Nat->Nat->Rb->Rb
 | 0,_,x=>x
 |m+1,j,x=>ru m (j+1) (ku a b c n L au ar kd A j x)
end
section
variable{a b c:Int}{n:Nat}{sc:Int}{L:aj}{al:Int}{lm:ak}{au ar kd:Int}{A:aj}
theorem Wy{j:Nat}{x:Rb}:(ku a b c n L au ar kd A j x).2.1.length<=x.2.1.length+1:=by
 unfold ku;split
 ·omega
 ·split
  ·simp
  ·show x.2.1.length<=_;omega
theorem Nx: ∀(m j:Nat) (x:Rb),(ru a b c n L au ar kd A m j x).2.1.length<=x.2.1.length+m
 | 0,_,_=>Nat.le_refl _
 |m+1,j,x=>by
  have h1:=Nx m (j+1) (ku a b c n L au ar kd A j x);have h2:=Wy (a:=a) (b:=b) (c:=c) (n:=n) (L:=L) (au:=au) (ar:=ar) (kd:=kd) (A:=A) (j:=j) (x:=x);show(ru a b c n L au ar kd A m (j+1) (ku a b c n L au ar kd A j x)).2.1.length<=_;omega
def stR(a b c:Int)(n:Nat)(sc:Int)(L:aj)(al:Int)(lm:ak)(au ar kd:Int)(A:aj)(j:Nat)(x:Rb):S:=match x with
 |(aq,[],y)=>Cq a b c n sc L al lm au ar kd aq A y j
 |(aq,z::bl,y)=>zK a b c n sc L al lm au ar kd aq (z::bl) A y j
theorem adl{aq:ak}{bl:aj}{y:Fi.bD}{j:Nat}(h:bl≠ []):stR a b c n sc L al lm au ar kd A j (aq,bl,y)=zK a b c n sc L al lm au ar kd aq bl A y j:=by
 cases bl with
 |nil=>exact absurd rfl h
 |cons z l=>rfl
theorem SN(hl:L.length=64*n)(hA: ∀j,Fi.bh (A.getD j 0)){s0:S}(bP:s0.nx=6){Q:ag}: ∀(m j:Nat) (x:Rb),j+m=4->x.2.1.length+m<=1000->
  Q (.exit 0) (stR a b c n sc L al lm au ar kd A 4 (ru a b c n L au ar kd A m j x))->TO prog 82 [] [] s0 (.loop Dz) (stR a b c n sc L al lm au ar kd A j x) Q:=by
 intro m
 induction m with
 |zero=>
  intro j x hi hb hQ;obtain rfl:j=4:=by omega
  obtain⟨aq,bl,y⟩:=x;cases bl with
  |nil=>exact TO.loop (TO.aP qR (k0:=6) bP (.of_eq (ZE ..) ⟨trivial,hQ⟩))
  |cons z bl=>exact TO.loop (TO.aP qR (k0:=6) bP (.of_eq (XQ ..) ⟨trivial,hQ⟩))
 |succ m ih=>
  intro j x hi hb hQ;have hj:j<4:=by omega
  have hU:=hA j;have hwp:i64.wrap (A.getD j 0)=A.getD j 0:=Fi.wrap_u16 hU;have next:=ih (j+1) (ku a b c n L au ar kd A j x) (by omega) (by have:=Wy (a:=a) (b:=b) (c:=c) (n:=n) (L:=L) (au:=au) (ar:=ar) (kd:=kd) (A:=A) (j:=j) (x:=x);omega) hQ
  obtain⟨aq,bl,y⟩:=x;simp only at hb;have kept:(j:Int)>=ar->A.getD j 0≠0->ku a b c n L au ar kd A j (aq,bl,y)=(aq,bl,zd j y):=fun h h0=>by
   unfold ku;rw[if_neg h0,if_neg (fun h'=>by have:=h'.1;omega)]
  have not:dE a b c n L aq (A.getD j 0) kd=false->A.getD j 0≠0->ku a b c n L au ar kd A j (aq,bl,y)=(aq,bl,zd j y):=fun h h0=>by
   unfold ku;rw[if_neg h0,if_neg (fun h'=>by rw[h]at h';exact absurd h'.2 (by simp))]
  have tko:dE a b c n L aq (A.getD j 0) kd=false->cw a b c n L au aq (A.getD j 0) kd=aq:=fun h=>by unfold cw;rw[h];rfl
  have tk1:dE a b c n L aq (A.getD j 0) kd=true->cw a b c n L au aq (A.getD j 0) kd=bC aq (A.getD j 0) au:=fun h=>by unfold cw;rw[h];rfl
  have took: ¬(j:Int)>=ar->dE a b c n L aq (A.getD j 0) kd=true->A.getD j 0≠0->ku a b c n L au ar kd A j (aq,bl,y)=(bC aq (A.getD j 0) au,bl++ [A.getD j 0],y):=fun h h' h0=>by
   unfold ku;rw[if_neg h0,if_pos ⟨by omega,h'⟩]
  have none':A.getD j 0=0->ku a b c n L au ar kd A j (aq,bl,y)=(aq,bl,y):=fun h0=>by unfold ku;rw[if_pos h0]
  cases bl with
  |nil=>
   refine TO.loop (TO.aP qR (k0:=6) bP (.of_eq (Lz hj) ?_));unfold ot;rw[hwp];refine .fork (fun h0=> ?_) (fun h0=> ?_)
   ·have h0':A.getD j 0≠0:=by simpa using h0
    refine .fork (fun h1=>⟨trivial,?_⟩) (fun h1=> .fork (fun h2=> ?_) (fun h2=> ?_))
    ·rw[kept (by simpa using h1) h0']at next;exact next
    ·have h2':dE a b c n L aq (A.getD j 0) kd=false:=by simpa using h2
     rw[not h2' h0']at next
     rw[tko h2'];exact⟨⟨rfl,rfl,rfl,rfl,rfl,rfl,rfl,rfl,rfl,rfl,rfl,rfl,rfl,hl,hU,trivial⟩,next⟩
    ·have h2':dE a b c n L aq (A.getD j 0) kd=true:=by simpa using h2
     rw[took (by simpa using h1) h2' h0']at next
     rw[tk1 h2'];exact⟨⟨rfl,rfl,rfl,rfl,rfl,rfl,rfl,rfl,rfl,rfl,rfl,rfl,rfl,hl,hU,trivial⟩,next⟩
   ·rw[none' (by simpa using h0)]at next
    exact⟨trivial,next⟩
  |cons z bl=>
   refine TO.loop (TO.aP qR (k0:=6) bP (.of_eq (Lk hj) ?_));unfold oA;rw[hwp,VJ];refine .fork (fun h0=> ?_) (fun h0=> ?_)
   ·have h0':A.getD j 0≠0:=by simpa using h0
    refine .fork (fun h1=>⟨trivial,?_⟩) (fun h1=> .fork (fun h2=> ?_) (fun h2=> ?_))
    ·rw[kept (by simpa using h1) h0']at next;exact next
    ·have h2':dE a b c n L aq (A.getD j 0) kd=false:=by simpa using h2
     rw[not h2' h0']at next
     rw[tko h2'];exact⟨⟨rfl,rfl,rfl,rfl,rfl,rfl,rfl,rfl,rfl,rfl,rfl,rfl,rfl,hl,hU,trivial⟩,next⟩
    ·have h2':dE a b c n L aq (A.getD j 0) kd=true:=by simpa using h2
     rw[took (by simpa using h1) h2' h0',adl (by simp)]at next
     rw[tk1 h2'];refine .aZ (decide_eq_true (pL (by omega))) (.aZ (by simp) ⟨⟨rfl,rfl,rfl,rfl,rfl,rfl,rfl,rfl,rfl,rfl,rfl,rfl,rfl,hl,hU,trivial⟩,?_⟩)
     have e:((z::bl)++ [A.getD j 0]).length=(z::bl).length+1:=by simp
     unfold zK at next
     rw[e]at next
     rw[Nat.mul_one];exact next
   ·rw[none' (by simpa using h0)]at next
    exact⟨trivial,next⟩
end
def Ta(v:Bool):List RV->T ax->Nat->Option GS:=fun args hp _=>match args with
 | [.one (.c (.ptr nc 0)),.one (.c (.int .u16 s))]=>match BR hp nc,bn hp.get nc with
  |some ((a,b,c,L,_,n,sc,al,lm),(ni,nl,nw,nf,no),au,aq),some (_,_,_,.cells [_,_,_,.int .i64 ar,.int .i64 kd,bc])=>match bc with
   | .bf=>match v with
    |false=>some ⟨7,[nc,ni,nl,nf,no,nw,1000000000],jM s,(cY a b c n sc L al lm au ar kd aq .bf []),7,(cY a b c n sc (bQ a b c n sc (L,lm,al) au ar kd s aq []).2.1.1 (bQ a b c n sc (L,lm,al) au ar kd s aq []).2.1.2.2 (bQ a b c n sc (L,lm,al) au ar kd s aq []).2.1.2.1 au ar kd (bQ a b c n sc (L,lm,al) au ar kd s aq []).2.2.1 .bf []),.one (.c (.bool (bQ a b c n sc (L,lm,al) au ar kd s aq []).1)),[L.length=64*n,Fi.bh s,(bQ a b c n sc (L,lm,al) au ar kd s aq []).2.2.2= []]⟩
    |true=>some ⟨7,[nc,ni,nl,nf,no,nw,1000000000],jM s,(cY a b c n sc L al lm au ar kd aq .bf []),8,(cY a b c n sc (bQ a b c n sc (L,lm,al) au ar kd s aq []).2.1.1 (bQ a b c n sc (L,lm,al) au ar kd s aq []).2.1.2.2 (bQ a b c n sc (L,lm,al) au ar kd s aq []).2.1.2.1 au ar kd (bQ a b c n sc (L,lm,al) au ar kd s aq []).2.2.1 (.aC 7 1 0 (bQ a b c n sc (L,lm,al) au ar kd s aq []).2.2.2.length) [(7,cj (bQ a b c n sc (L,lm,al) au ar kd s aq []).2.2.2)]),.one (.c (.bool (bQ a b c n sc (L,lm,al) au ar kd s aq []).1)),[L.length=64*n,Fi.bh s,(bQ a b c n sc (L,lm,al) au ar kd s aq []).2.2.2≠ []]⟩
   | .aC nb 1 0 _=>match bn hp.get nb with
    |some (_,_,_,.ints .i64 bl _)=>some ⟨7,[nc,ni,nl,nf,no,nw,nb],jM s,(cY a b c n sc L al lm au ar kd aq (.aC 6 1 0 bl.length) [(6,cj bl)]),8,(cY a b c n sc (bQ a b c n sc (L,lm,al) au ar kd s aq bl).2.1.1 (bQ a b c n sc (L,lm,al) au ar kd s aq bl).2.1.2.2 (bQ a b c n sc (L,lm,al) au ar kd s aq bl).2.1.2.1 au ar kd (bQ a b c n sc (L,lm,al) au ar kd s aq bl).2.2.1 (.aC 7 1 0 (bQ a b c n sc (L,lm,al) au ar kd s aq bl).2.2.2.length) [(7,cj (bQ a b c n sc (L,lm,al) au ar kd s aq bl).2.2.2)]),.one (.c (.bool (bQ a b c n sc (L,lm,al) au ar kd s aq bl).1)),[L.length=64*n,Fi.bh s,bl≠ [],bl.length<=1100]⟩
    |_=>none
   |_=>none
  |_,_=>none
 |_=>none
section
variable{a b c:Int}{n:Nat}{sc:Int}{L:aj}{al:Int}{lm:ak}{au ar kd:Int}{aq:ak}{s:Int}{bl:aj}
theorem Hv{st:St}(h:bl≠ []):(bQ a b c n sc st au ar kd s aq bl).2.2.2≠ []:=by
 unfold bQ;split
 ·exact h
 ·split
  ·exact Am h
  ·exact h
theorem Se(h1:L.length=64*n)(h2:Fi.bh s)(h5:(bQ a b c n sc (L,lm,al) au ar kd s aq []).2.2.2= []):cd prog 226 (jM s) 7 (cY a b c n sc L al lm au ar kd aq .bf []) 7 (cY a b c n sc (bQ a b c n sc (L,lm,al) au ar kd s aq []).2.1.1 (bQ a b c n sc (L,lm,al) au ar kd s aq []).2.1.2.2 (bQ a b c n sc (L,lm,al) au ar kd s aq []).2.1.2.1 au ar kd (bQ a b c n sc (L,lm,al) au ar kd s aq []).2.2.1 .bf []) (.one (.c (.bool (bQ a b c n sc (L,lm,al) au ar kd s aq []).1))):=by
 have:=yc (sc:=sc) (al:=al) (lm:=lm) (au:=au) (ar:=ar) (kd:=kd) (aq:=aq) (a:=a) (b:=b) (c:=c) (bl:= []) h1 h2 (by simp) (ok:=(bQ a b c n sc (L,lm,al) au ar kd s aq []).1) (st':=(bQ a b c n sc (L,lm,al) au ar kd s aq []).2.1) (own':=(bQ a b c n sc (L,lm,al) au ar kd s aq []).2.2.1) (bl':=(bQ a b c n sc (L,lm,al) au ar kd s aq []).2.2.2) rfl
 rw[h5]at this;exact this
theorem Rv(h1:L.length=64*n)(h2:Fi.bh s)(h5:(bQ a b c n sc (L,lm,al) au ar kd s aq []).2.2.2≠ []):cd prog 226 (jM s) 7 (cY a b c n sc L al lm au ar kd aq .bf []) 8 (cY a b c n sc (bQ a b c n sc (L,lm,al) au ar kd s aq []).2.1.1 (bQ a b c n sc (L,lm,al) au ar kd s aq []).2.1.2.2 (bQ a b c n sc (L,lm,al) au ar kd s aq []).2.1.2.1 au ar kd (bQ a b c n sc (L,lm,al) au ar kd s aq []).2.2.1 (.aC 7 1 0 (bQ a b c n sc (L,lm,al) au ar kd s aq []).2.2.2.length) [(7,cj (bQ a b c n sc (L,lm,al) au ar kd s aq []).2.2.2)]) (.one (.c (.bool (bQ a b c n sc (L,lm,al) au ar kd s aq []).1))):=by
 have:=yc (sc:=sc) (al:=al) (lm:=lm) (au:=au) (ar:=ar) (kd:=kd) (aq:=aq) (a:=a) (b:=b) (c:=c) (bl:= []) h1 h2 (by simp) (ok:=(bQ a b c n sc (L,lm,al) au ar kd s aq []).1) (st':=(bQ a b c n sc (L,lm,al) au ar kd s aq []).2.1) (own':=(bQ a b c n sc (L,lm,al) au ar kd s aq []).2.2.1) (bl':=(bQ a b c n sc (L,lm,al) au ar kd s aq []).2.2.2) rfl
 rw[fZ (m:=7) h5,iG h5]at this;exact this
theorem Si(h1:L.length=64*n)(h2:Fi.bh s)(h5:bl≠ [])(h6:bl.length<=1100):cd prog 226 (jM s) 7 (cY a b c n sc L al lm au ar kd aq (.aC 6 1 0 bl.length) [(6,cj bl)]) 8 (cY a b c n sc (bQ a b c n sc (L,lm,al) au ar kd s aq bl).2.1.1 (bQ a b c n sc (L,lm,al) au ar kd s aq bl).2.1.2.2 (bQ a b c n sc (L,lm,al) au ar kd s aq bl).2.1.2.1 au ar kd (bQ a b c n sc (L,lm,al) au ar kd s aq bl).2.2.1 (.aC 7 1 0 (bQ a b c n sc (L,lm,al) au ar kd s aq bl).2.2.2.length) [(7,cj (bQ a b c n sc (L,lm,al) au ar kd s aq bl).2.2.2)]) (.one (.c (.bool (bQ a b c n sc (L,lm,al) au ar kd s aq bl).1))):=by
 have:=yc (sc:=sc) (al:=al) (lm:=lm) (au:=au) (ar:=ar) (kd:=kd) (aq:=aq) (a:=a) (b:=b) (c:=c) h1 h2 h6 (ok:=(bQ a b c n sc (L,lm,al) au ar kd s aq bl).1) (st':=(bQ a b c n sc (L,lm,al) au ar kd s aq bl).2.1) (own':=(bQ a b c n sc (L,lm,al) au ar kd s aq bl).2.2.1) (bl':=(bQ a b c n sc (L,lm,al) au ar kd s aq bl).2.2.2) rfl;rw[fZ (m:=6) h5,fZ (m:=7) (Hv h5),iG (Hv h5)]at this;exact this
end
theorem ach(v:Bool):aI prog 226 (cC (Ta v)):=dT ⟨_,func226,rfl⟩ fun args hp nx g h bB=>by
 unfold Ta at h;split at h<;>try(cases h;done)
 split at h<;>try(cases h;done)
 split at h<;>try(cases h;done)
 ·cases v with
  |false=>
   cases h;obtain⟨h1,h2,h5,_⟩:=bB;exact⟨Se h1 h2 h5,fun i x hx=>fv (k:=7) (fM (by omega) (fun p hp=>absurd hp List.not_mem_nil)) hx⟩
  |true=>
   cases h;obtain⟨h1,h2,h5,_⟩:=bB;exact⟨Rv h1 h2 h5,fun i x hx=>fv (k:=7) (fM (by omega) (fun p hp=>absurd hp List.not_mem_nil)) hx⟩
 ·split at h<;>try(cases h;done)
  cases h;obtain⟨h1,h2,h5,h6,_⟩:=bB;refine⟨Si h1 h2 h5 h6,fun i x hx=> ?_⟩
  have hx':=qW hx;rcases List.mem_append.1 hx' with h|h
  ·exact fM (k:=7) (xs:= []) (by omega) (fun p hp=>absurd hp List.not_mem_nil) _ (List.mem_append_left _ h)
  ·rw[(af .. ▸List.mem_singleton.1 h:i=6/\_).1];exact Nat.lt_succ_self 6
def mD(v:Bool):FuncId->Option bg:=fun f=>match f with| 225=>some (cC (ND v))| 226=>some (cC (Ta v))| 23=>some (lG HA)|_=>none
theorem mJ(v:Bool):Fit prog (fun f=>(mD v f).map bj):=⟨bM,aV,aI.sum fun f sm h=>by
 unfold mD at h;split at h
 ·cases h;exact RJ v
 ·cases h;exact ach v
 ·cases h;exact DN
 ·cases h⟩
section
variable(a b c:Int)(n:Nat)(sc:Int)(L:aj)(al:Int)(lm:ak)(au ar kd:Int)(aq:ak)(bl:aj)(y:Fi.bD)
def kV:S:=aE [0,2] 82 ⟨aN [(0,.one (.c (.ptr 0 0))),(2,.one (.c (.ptr 6 0)))],cY a b c n sc L al lm au ar kd aq .bf [(6,yB y)],7,[]⟩
def lR:S:=aE [0,2] 82 ⟨aN [(0,.one (.c (.ptr 0 0))),(2,.one (.c (.ptr 6 0)))],cY a b c n sc L al lm au ar kd aq (.aC 7 1 0 bl.length) [(6,yB y),(7,cj bl)],8,[]⟩
def p4:Code:=gL (aG 4 jl)
def p5:Code:=gL (aG 5 jl)
def p6:Code:=aG 6 jl
def q4f(Q:ag):ai:=az prog (mD false) 300 82 p4 (kV a b c n sc L al lm au ar kd aq y) aO (bN 6 [0,2] 82 sN Q)
def q4t(Q:ag):ai:=az prog (mD true) 300 82 p4 (kV a b c n sc L al lm au ar kd aq y) aO (bN 6 [0,2] 82 sN Q)
def q4r(Q:ag):ai:=az prog (mD true) 300 82 p4 (lR a b c n sc L al lm au ar kd aq bl y) aO (bN 6 [0,2] 82 sN Q)
def q5f(Q:ag):ai:=az prog (mD false) 300 82 p5 (kV a b c n sc L al lm au ar kd aq y) aO (bN 6 [0,2] 82 sN Q)
def q5t(Q:ag):ai:=az prog (mD true) 300 82 p5 (kV a b c n sc L al lm au ar kd aq y) aO (bN 6 [0,2] 82 sN Q)
def q5r(Q:ag):ai:=az prog (mD true) 300 82 p5 (lR a b c n sc L al lm au ar kd aq bl y) aO (bN 6 [0,2] 82 sN Q)
end
section
variable(a b c:Int)(n:Nat)(sc:Int)(L:aj)(al:Int)(lm:ak)(au ar kd:Int)(aq:ak)(bl:aj)(y:Fi.bD)
def aeU(Q:ag):ai:=bif y.sg !=0 then bif !(bm a b c n sc (L,lm,al) au ar kd 4 y.sg aq []).1 then some (aw [(4:Int)=4,y.sg=y.sg,lm=lm,aq=aq,L=L,64*n=64*n,a=a,b=b,c=c,n=n,sc=sc,al=al,au=au,ar=ar,kd=kd,L.length=64*n,Fi.bh y.sg,0<=(4:Int)/\(4:Int)<=1000,(bm a b c n sc (L,lm,al) au ar kd 4 y.sg aq []).2.2.2= []]/\Q .normal (kV a b c n sc (bm a b c n sc (L,lm,al) au ar kd 4 y.sg aq []).2.1.1 (bm a b c n sc (L,lm,al) au ar kd 4 y.sg aq []).2.1.2.2 (bm a b c n sc (L,lm,al) au ar kd 4 y.sg aq []).2.1.2.1 au ar kd (bm a b c n sc (L,lm,al) au ar kd 4 y.sg aq []).2.2.1 {y with sg:=0}))else some (aw [(4:Int)=4,y.sg=y.sg,lm=lm,aq=aq,L=L,64*n=64*n,a=a,b=b,c=c,n=n,sc=sc,al=al,au=au,ar=ar,kd=kd,L.length=64*n,Fi.bh y.sg,0<=(4:Int)/\(4:Int)<=1000,(bm a b c n sc (L,lm,al) au ar kd 4 y.sg aq []).2.2.2= []]/\Q .normal (kV a b c n sc (bm a b c n sc (L,lm,al) au ar kd 4 y.sg aq []).2.1.1 (bm a b c n sc (L,lm,al) au ar kd 4 y.sg aq []).2.1.2.2 (bm a b c n sc (L,lm,al) au ar kd 4 y.sg aq []).2.1.2.1 au ar kd (bm a b c n sc (L,lm,al) au ar kd 4 y.sg aq []).2.2.1 y))else some (aw []/\Q .normal (kV a b c n sc L al lm au ar kd aq y))
theorem Su(Q:ag):q4f a b c n sc L al lm au ar kd aq y Q=aeU a b c n sc L al lm au ar kd aq y Q:=by kernel_rfl
def aev(Q:ag):ai:=bif y.sg !=0 then bif !(bm a b c n sc (L,lm,al) au ar kd 4 y.sg aq []).1 then some (aw [(4:Int)=4,y.sg=y.sg,lm=lm,aq=aq,L=L,64*n=64*n,a=a,b=b,c=c,n=n,sc=sc,al=al,au=au,ar=ar,kd=kd,L.length=64*n,Fi.bh y.sg,0<=(4:Int)/\(4:Int)<=1000,(bm a b c n sc (L,lm,al) au ar kd 4 y.sg aq []).2.2.2≠ []]/\Q .normal (lR a b c n sc (bm a b c n sc (L,lm,al) au ar kd 4 y.sg aq []).2.1.1 (bm a b c n sc (L,lm,al) au ar kd 4 y.sg aq []).2.1.2.2 (bm a b c n sc (L,lm,al) au ar kd 4 y.sg aq []).2.1.2.1 au ar kd (bm a b c n sc (L,lm,al) au ar kd 4 y.sg aq []).2.2.1 (bm a b c n sc (L,lm,al) au ar kd 4 y.sg aq []).2.2.2 {y with sg:=0}))else some (aw [(4:Int)=4,y.sg=y.sg,lm=lm,aq=aq,L=L,64*n=64*n,a=a,b=b,c=c,n=n,sc=sc,al=al,au=au,ar=ar,kd=kd,L.length=64*n,Fi.bh y.sg,0<=(4:Int)/\(4:Int)<=1000,(bm a b c n sc (L,lm,al) au ar kd 4 y.sg aq []).2.2.2≠ []]/\Q .normal (lR a b c n sc (bm a b c n sc (L,lm,al) au ar kd 4 y.sg aq []).2.1.1 (bm a b c n sc (L,lm,al) au ar kd 4 y.sg aq []).2.1.2.2 (bm a b c n sc (L,lm,al) au ar kd 4 y.sg aq []).2.1.2.1 au ar kd (bm a b c n sc (L,lm,al) au ar kd 4 y.sg aq []).2.2.1 (bm a b c n sc (L,lm,al) au ar kd 4 y.sg aq []).2.2.2 y))else some (aw []/\Q .normal (kV a b c n sc L al lm au ar kd aq y))
theorem Ue(Q:ag):q4t a b c n sc L al lm au ar kd aq y Q=aev a b c n sc L al lm au ar kd aq y Q:=by kernel_rfl
def aeK(Q:ag):ai:=bif y.sg !=0 then bif !(bm a b c n sc (L,lm,al) au ar kd 4 y.sg aq bl).1 then some (aw [(4:Int)=4,y.sg=y.sg,bl=bl,bl.length=bl.length,lm=lm,aq=aq,L=L,64*n=64*n,a=a,b=b,c=c,n=n,sc=sc,al=al,au=au,ar=ar,kd=kd,bl.length=bl.length,L.length=64*n,Fi.bh y.sg,0<=(4:Int)/\(4:Int)<=1000,bl≠ [],bl.length<=1900]/\Q .normal (lR a b c n sc (bm a b c n sc (L,lm,al) au ar kd 4 y.sg aq bl).2.1.1 (bm a b c n sc (L,lm,al) au ar kd 4 y.sg aq bl).2.1.2.2 (bm a b c n sc (L,lm,al) au ar kd 4 y.sg aq bl).2.1.2.1 au ar kd (bm a b c n sc (L,lm,al) au ar kd 4 y.sg aq bl).2.2.1 (bm a b c n sc (L,lm,al) au ar kd 4 y.sg aq bl).2.2.2 {y with sg:=0}))else some (aw [(4:Int)=4,y.sg=y.sg,bl=bl,bl.length=bl.length,lm=lm,aq=aq,L=L,64*n=64*n,a=a,b=b,c=c,n=n,sc=sc,al=al,au=au,ar=ar,kd=kd,bl.length=bl.length,L.length=64*n,Fi.bh y.sg,0<=(4:Int)/\(4:Int)<=1000,bl≠ [],bl.length<=1900]/\Q .normal (lR a b c n sc (bm a b c n sc (L,lm,al) au ar kd 4 y.sg aq bl).2.1.1 (bm a b c n sc (L,lm,al) au ar kd 4 y.sg aq bl).2.1.2.2 (bm a b c n sc (L,lm,al) au ar kd 4 y.sg aq bl).2.1.2.1 au ar kd (bm a b c n sc (L,lm,al) au ar kd 4 y.sg aq bl).2.2.1 (bm a b c n sc (L,lm,al) au ar kd 4 y.sg aq bl).2.2.2 y))else some (aw []/\Q .normal (lR a b c n sc L al lm au ar kd aq bl y))
theorem VA(Q:ag):q4r a b c n sc L al lm au ar kd aq bl y Q=aeK a b c n sc L al lm au ar kd aq bl y Q:=by kernel_rfl
def ad5(Q:ag):ai:=bif y.db !=0 then bif !(bQ a b c n sc (L,lm,al) au ar kd y.db aq []).1 then some (aw [y.db=y.db,lm=lm,aq=aq,L=L,64*n=64*n,a=a,b=b,c=c,n=n,sc=sc,al=al,au=au,ar=ar,kd=kd,L.length=64*n,Fi.bh y.db,(bQ a b c n sc (L,lm,al) au ar kd y.db aq []).2.2.2= []]/\Q .normal (kV a b c n sc (bQ a b c n sc (L,lm,al) au ar kd y.db aq []).2.1.1 (bQ a b c n sc (L,lm,al) au ar kd y.db aq []).2.1.2.2 (bQ a b c n sc (L,lm,al) au ar kd y.db aq []).2.1.2.1 au ar kd (bQ a b c n sc (L,lm,al) au ar kd y.db aq []).2.2.1 {y with db:=0}))else some (aw [y.db=y.db,lm=lm,aq=aq,L=L,64*n=64*n,a=a,b=b,c=c,n=n,sc=sc,al=al,au=au,ar=ar,kd=kd,L.length=64*n,Fi.bh y.db,(bQ a b c n sc (L,lm,al) au ar kd y.db aq []).2.2.2= []]/\Q .normal (kV a b c n sc (bQ a b c n sc (L,lm,al) au ar kd y.db aq []).2.1.1 (bQ a b c n sc (L,lm,al) au ar kd y.db aq []).2.1.2.2 (bQ a b c n sc (L,lm,al) au ar kd y.db aq []).2.1.2.1 au ar kd (bQ a b c n sc (L,lm,al) au ar kd y.db aq []).2.2.1 y))else some (aw []/\Q .normal (kV a b c n sc L al lm au ar kd aq y))
theorem SJ(Q:ag):q5f a b c n sc L al lm au ar kd aq y Q=ad5 a b c n sc L al lm au ar kd aq y Q:=by kernel_rfl
def adT(Q:ag):ai:=bif y.db !=0 then bif !(bQ a b c n sc (L,lm,al) au ar kd y.db aq []).1 then some (aw [y.db=y.db,lm=lm,aq=aq,L=L,64*n=64*n,a=a,b=b,c=c,n=n,sc=sc,al=al,au=au,ar=ar,kd=kd,L.length=64*n,Fi.bh y.db,(bQ a b c n sc (L,lm,al) au ar kd y.db aq []).2.2.2≠ []]/\Q .normal (lR a b c n sc (bQ a b c n sc (L,lm,al) au ar kd y.db aq []).2.1.1 (bQ a b c n sc (L,lm,al) au ar kd y.db aq []).2.1.2.2 (bQ a b c n sc (L,lm,al) au ar kd y.db aq []).2.1.2.1 au ar kd (bQ a b c n sc (L,lm,al) au ar kd y.db aq []).2.2.1 (bQ a b c n sc (L,lm,al) au ar kd y.db aq []).2.2.2 {y with db:=0}))else some (aw [y.db=y.db,lm=lm,aq=aq,L=L,64*n=64*n,a=a,b=b,c=c,n=n,sc=sc,al=al,au=au,ar=ar,kd=kd,L.length=64*n,Fi.bh y.db,(bQ a b c n sc (L,lm,al) au ar kd y.db aq []).2.2.2≠ []]/\Q .normal (lR a b c n sc (bQ a b c n sc (L,lm,al) au ar kd y.db aq []).2.1.1 (bQ a b c n sc (L,lm,al) au ar kd y.db aq []).2.1.2.2 (bQ a b c n sc (L,lm,al) au ar kd y.db aq []).2.1.2.1 au ar kd (bQ a b c n sc (L,lm,al) au ar kd y.db aq []).2.2.1 (bQ a b c n sc (L,lm,al) au ar kd y.db aq []).2.2.2 y))else some (aw []/\Q .normal (kV a b c n sc L al lm au ar kd aq y))
theorem Tv(Q:ag):q5t a b c n sc L al lm au ar kd aq y Q=adT a b c n sc L al lm au ar kd aq y Q:=by kernel_rfl
def ac6(Q:ag):ai:=bif y.db !=0 then bif !(bQ a b c n sc (L,lm,al) au ar kd y.db aq bl).1 then some (aw [y.db=y.db,bl=bl,bl.length=bl.length,lm=lm,aq=aq,L=L,64*n=64*n,a=a,b=b,c=c,n=n,sc=sc,al=al,au=au,ar=ar,kd=kd,bl.length=bl.length,L.length=64*n,Fi.bh y.db,bl≠ [],bl.length<=1100]/\Q .normal (lR a b c n sc (bQ a b c n sc (L,lm,al) au ar kd y.db aq bl).2.1.1 (bQ a b c n sc (L,lm,al) au ar kd y.db aq bl).2.1.2.2 (bQ a b c n sc (L,lm,al) au ar kd y.db aq bl).2.1.2.1 au ar kd (bQ a b c n sc (L,lm,al) au ar kd y.db aq bl).2.2.1 (bQ a b c n sc (L,lm,al) au ar kd y.db aq bl).2.2.2 {y with db:=0}))else some (aw [y.db=y.db,bl=bl,bl.length=bl.length,lm=lm,aq=aq,L=L,64*n=64*n,a=a,b=b,c=c,n=n,sc=sc,al=al,au=au,ar=ar,kd=kd,bl.length=bl.length,L.length=64*n,Fi.bh y.db,bl≠ [],bl.length<=1100]/\Q .normal (lR a b c n sc (bQ a b c n sc (L,lm,al) au ar kd y.db aq bl).2.1.1 (bQ a b c n sc (L,lm,al) au ar kd y.db aq bl).2.1.2.2 (bQ a b c n sc (L,lm,al) au ar kd y.db aq bl).2.1.2.1 au ar kd (bQ a b c n sc (L,lm,al) au ar kd y.db aq bl).2.2.1 (bQ a b c n sc (L,lm,al) au ar kd y.db aq bl).2.2.2 y))else some (aw []/\Q .normal (lR a b c n sc L al lm au ar kd aq bl y))
theorem TJ(Q:ag):q5r a b c n sc L al lm au ar kd aq bl y Q=ac6 a b c n sc L al lm au ar kd aq bl y Q:=by kernel_rfl
end
abbrev Vb:Type:=St×List (Int×Int)×List Int×Fi.bD
def Ga(a b c:Int)(n:Nat)(sc au ar kd:Int)(x:Vb):S:=match x with
 |(st,aq,[],y)=>kV a b c n sc st.1 st.2.2 st.2.1 au ar kd aq y
 |(st,aq,z::bl,y)=>lR a b c n sc st.1 st.2.2 st.2.1 au ar kd aq (z::bl) y
theorem qe{a b c:Int}{n:Nat}{sc au ar kd:Int}{st:St}{aq:ak}{bl:aj}{y:Fi.bD}(h:bl≠ []):Ga a b c n sc au ar kd (st,aq,bl,y)=lR a b c n sc st.1 st.2.2 st.2.1 au ar kd aq bl y:=by
 cases bl with
 |nil=>exact absurd rfl h
 |cons z l=>rfl
def pH(a b c:Int)(n:Nat)(sc au ar kd:Int)(x:Vb):Vb:=if x.2.2.2.sg=0 then x else((bm a b c n sc x.1 au ar kd 4 x.2.2.2.sg x.2.1 x.2.2.1).2.1,(bm a b c n sc x.1 au ar kd 4 x.2.2.2.sg x.2.1 x.2.2.1).2.2.1,(bm a b c n sc x.1 au ar kd 4 x.2.2.2.sg x.2.1 x.2.2.1).2.2.2,if(bm a b c n sc x.1 au ar kd 4 x.2.2.2.sg x.2.1 x.2.2.1).1=true then x.2.2.2 else {x.2.2.2 with sg:=0})
theorem acT{a b c:Int}{n:Nat}{sc au ar kd:Int}{s0:S}(bP:s0.nx=6){Q:ag}(x:Vb)(hl:x.1.1.length=64*n)(hU:Fi.bh x.2.2.2.sg)(hb:x.2.2.1.length<=1900)(hQ:Q .normal (Ga a b c n sc au ar kd (pH a b c n sc au ar kd x))):TO prog 82 [] [] s0 p4 (Ga a b c n sc au ar kd x) Q:=by
 obtain⟨⟨L,lm,al⟩,aq,bl,y⟩:=x;simp only at hl hU hb;have none':y.sg=0->pH a b c n sc au ar kd ((L,lm,al),aq,bl,y)=((L,lm,al),aq,bl,y):=fun h=>by unfold pH;rw[if_pos h]
 have did:y.sg≠0->∀t:Bool,(bm a b c n sc (L,lm,al) au ar kd 4 y.sg aq bl).1=t->pH a b c n sc au ar kd ((L,lm,al),aq,bl,y)=((bm a b c n sc (L,lm,al) au ar kd 4 y.sg aq bl).2.1,(bm a b c n sc (L,lm,al) au ar kd 4 y.sg aq bl).2.2.1,(bm a b c n sc (L,lm,al) au ar kd 4 y.sg aq bl).2.2.2,if t=true then y else {y with sg:=0}):=fun h t ht=>by unfold pH;rw[if_neg h, <-ht]
 cases bl with
 |nil=>
  by_cases hn:(bm a b c n sc (L,lm,al) au ar kd 4 y.sg aq []).2.2.2= []
  ·refine TO.aP (mJ false) (k0:=6) bP (.of_eq (Su ..) (.fork (fun h0=> ?_) (fun h0=> ?_)))
   ·have h0':y.sg≠0:=by simpa using h0
    refine .fork (fun h1=>⟨⟨rfl,rfl,rfl,rfl,rfl,rfl,rfl,rfl,rfl,rfl,rfl,rfl,rfl,rfl,rfl,hl,hU,⟨by decide,by decide⟩,hn,trivial⟩,?_⟩) (fun h1=>⟨⟨rfl,rfl,rfl,rfl,rfl,rfl,rfl,rfl,rfl,rfl,rfl,rfl,rfl,rfl,rfl,hl,hU,⟨by decide,by decide⟩,hn,trivial⟩,?_⟩)
    ·rw[did h0' false (by simpa using h1),hn]at hQ;exact hQ
    ·rw[did h0' true (by simpa using h1),hn]at hQ;exact hQ
   ·rw[none' (by simpa using h0)]at hQ;exact⟨trivial,hQ⟩
  ·refine TO.aP (mJ true) (k0:=6) bP (.of_eq (Ue ..) (.fork (fun h0=> ?_) (fun h0=> ?_)))
   ·have h0':y.sg≠0:=by simpa using h0
    refine .fork (fun h1=>⟨⟨rfl,rfl,rfl,rfl,rfl,rfl,rfl,rfl,rfl,rfl,rfl,rfl,rfl,rfl,rfl,hl,hU,⟨by decide,by decide⟩,hn,trivial⟩,?_⟩) (fun h1=>⟨⟨rfl,rfl,rfl,rfl,rfl,rfl,rfl,rfl,rfl,rfl,rfl,rfl,rfl,rfl,rfl,hl,hU,⟨by decide,by decide⟩,hn,trivial⟩,?_⟩)
    ·rw[did h0' false (by simpa using h1),qe hn]at hQ;exact hQ
    ·rw[did h0' true (by simpa using h1),qe hn]at hQ;exact hQ
   ·rw[none' (by simpa using h0)]at hQ;exact⟨trivial,hQ⟩
 |cons z bl=>
  have bT:z::bl≠ []:=by simp
  have hn:(bm a b c n sc (L,lm,al) au ar kd 4 y.sg aq (z::bl)).2.2.2≠ []:=ui bT;refine TO.aP (mJ true) (k0:=6) bP (.of_eq (VA ..) (.fork (fun h0=> ?_) (fun h0=> ?_)))
  ·have h0':y.sg≠0:=by simpa using h0
   refine .fork (fun h1=>⟨⟨rfl,rfl,rfl,rfl,rfl,rfl,rfl,rfl,rfl,rfl,rfl,rfl,rfl,rfl,rfl,rfl,rfl,rfl,hl,hU,⟨by decide,by decide⟩,bT,hb,trivial⟩,?_⟩) (fun h1=>⟨⟨rfl,rfl,rfl,rfl,rfl,rfl,rfl,rfl,rfl,rfl,rfl,rfl,rfl,rfl,rfl,rfl,rfl,rfl,hl,hU,⟨by decide,by decide⟩,bT,hb,trivial⟩,?_⟩)
   ·rw[did h0' false (by simpa using h1),qe hn]at hQ;exact hQ
   ·rw[did h0' true (by simpa using h1),qe hn]at hQ;exact hQ
  ·rw[none' (by simpa using h0)]at hQ;exact⟨trivial,hQ⟩
def p9(a b c:Int)(n:Nat)(sc au ar kd:Int)(x:Vb):Vb:=if x.2.2.2.db=0 then x else((bQ a b c n sc x.1 au ar kd x.2.2.2.db x.2.1 x.2.2.1).2.1,(bQ a b c n sc x.1 au ar kd x.2.2.2.db x.2.1 x.2.2.1).2.2.1,(bQ a b c n sc x.1 au ar kd x.2.2.2.db x.2.1 x.2.2.1).2.2.2,if(bQ a b c n sc x.1 au ar kd x.2.2.2.db x.2.1 x.2.2.1).1=true then x.2.2.2 else {x.2.2.2 with db:=0})
theorem adN{a b c:Int}{n:Nat}{sc au ar kd:Int}{s0:S}(bP:s0.nx=6){Q:ag}(x:Vb)(hl:x.1.1.length=64*n)(hU:Fi.bh x.2.2.2.db)(hb:x.2.2.1.length<=1100)(hQ:Q .normal (Ga a b c n sc au ar kd (p9 a b c n sc au ar kd x))):TO prog 82 [] [] s0 p5 (Ga a b c n sc au ar kd x) Q:=by
 obtain⟨⟨L,lm,al⟩,aq,bl,y⟩:=x;simp only at hl hU hb;have none':y.db=0->p9 a b c n sc au ar kd ((L,lm,al),aq,bl,y)=((L,lm,al),aq,bl,y):=fun h=>by unfold p9;rw[if_pos h]
 have did:y.db≠0->∀t:Bool,(bQ a b c n sc (L,lm,al) au ar kd y.db aq bl).1=t->p9 a b c n sc au ar kd ((L,lm,al),aq,bl,y)=((bQ a b c n sc (L,lm,al) au ar kd y.db aq bl).2.1,(bQ a b c n sc (L,lm,al) au ar kd y.db aq bl).2.2.1,(bQ a b c n sc (L,lm,al) au ar kd y.db aq bl).2.2.2,if t=true then y else {y with db:=0}):=fun h t ht=>by unfold p9;rw[if_neg h, <-ht]
 cases bl with
 |nil=>
  by_cases hn:(bQ a b c n sc (L,lm,al) au ar kd y.db aq []).2.2.2= []
  ·refine TO.aP (mJ false) (k0:=6) bP (.of_eq (SJ ..) (.fork (fun h0=> ?_) (fun h0=> ?_)))
   ·have h0':y.db≠0:=by simpa using h0
    refine .fork (fun h1=>⟨⟨rfl,rfl,rfl,rfl,rfl,rfl,rfl,rfl,rfl,rfl,rfl,rfl,rfl,rfl,hl,hU,hn,trivial⟩,?_⟩) (fun h1=>⟨⟨rfl,rfl,rfl,rfl,rfl,rfl,rfl,rfl,rfl,rfl,rfl,rfl,rfl,rfl,hl,hU,hn,trivial⟩,?_⟩)
    ·rw[did h0' false (by simpa using h1),hn]at hQ;exact hQ
    ·rw[did h0' true (by simpa using h1),hn]at hQ;exact hQ
   ·rw[none' (by simpa using h0)]at hQ;exact⟨trivial,hQ⟩
  ·refine TO.aP (mJ true) (k0:=6) bP (.of_eq (Tv ..) (.fork (fun h0=> ?_) (fun h0=> ?_)))
   ·have h0':y.db≠0:=by simpa using h0
    refine .fork (fun h1=>⟨⟨rfl,rfl,rfl,rfl,rfl,rfl,rfl,rfl,rfl,rfl,rfl,rfl,rfl,rfl,hl,hU,hn,trivial⟩,?_⟩) (fun h1=>⟨⟨rfl,rfl,rfl,rfl,rfl,rfl,rfl,rfl,rfl,rfl,rfl,rfl,rfl,rfl,hl,hU,hn,trivial⟩,?_⟩)
    ·rw[did h0' false (by simpa using h1),qe hn]at hQ;exact hQ
    ·rw[did h0' true (by simpa using h1),qe hn]at hQ;exact hQ
   ·rw[none' (by simpa using h0)]at hQ;exact⟨trivial,hQ⟩
 |cons z bl=>
  have bT:z::bl≠ []:=by simp
  have hn:(bQ a b c n sc (L,lm,al) au ar kd y.db aq (z::bl)).2.2.2≠ []:=Hv bT;refine TO.aP (mJ true) (k0:=6) bP (.of_eq (TJ ..) (.fork (fun h0=> ?_) (fun h0=> ?_)))
  ·have h0':y.db≠0:=by simpa using h0
   refine .fork (fun h1=>⟨⟨rfl,rfl,rfl,rfl,rfl,rfl,rfl,rfl,rfl,rfl,rfl,rfl,rfl,rfl,rfl,rfl,rfl,hl,hU,bT,hb,trivial⟩,?_⟩) (fun h1=>⟨⟨rfl,rfl,rfl,rfl,rfl,rfl,rfl,rfl,rfl,rfl,rfl,rfl,rfl,rfl,rfl,rfl,rfl,hl,hU,bT,hb,trivial⟩,?_⟩)
   ·rw[did h0' false (by simpa using h1),qe hn]at hQ;exact hQ
   ·rw[did h0' true (by simpa using h1),qe hn]at hQ;exact hQ
  ·rw[none' (by simpa using h0)]at hQ;exact⟨trivial,hQ⟩
section
variable(a b c:Int)(n:Nat)(sc:Int)(L:aj)(al:Int)(lm:ak)(au ar kd:Int)(aq:ak)(bl:aj)(y:Fi.bD)
def zVn:S:=rm 0 (Af au ar kd (.dI [])) (kV a b c n sc L al lm au ar kd aq y)
def zVr:S:=NF 7 0 (.row 229 false none (.cells ([.ptr 1 0,.ptr 3 0,.int .i64 au,.int .i64 ar,.int .i64 kd,.aC 7 1 0 bl.length].set 5 (.dI bl)))) (lR a b c n sc L al lm au ar kd aq bl y)
def z6n(Q:ag):ai:=az prog (mD true) 300 82 p6 (zVn a b c n sc L al lm au ar kd aq y) aO (bN 6 [] 82 (fun _=> []) Q)
def z6r(Q:ag):ai:=az prog (mD true) 300 82 p6 (zVr a b c n sc L al lm au ar kd aq bl y) aO (bN 6 [] 82 (fun _=> []) Q)
def zE:S:=aE [] 82 ⟨.nil,cY a b c n sc L al lm au ar kd aq (.dI bl) [],6,[]⟩
theorem T7(Q:ag):z6n a b c n sc L al lm au ar kd aq y Q=some (aw [L.length=64*n,64*n=64*n]/\Q .normal (zE a b c n sc (c4 a b c n sc (L,lm,al) au y).2.1 (c4 a b c n sc (L,lm,al) au y).2.2.2 (c4 a b c n sc (L,lm,al) au y).2.2.1 au ar kd aq [])):=by kernel_rfl
theorem TC(Q:ag):z6r a b c n sc L al lm au ar kd aq bl y Q=some (aw [L.length=64*n,64*n=64*n]/\Q .normal (zE a b c n sc (c4 a b c n sc (L,lm,al) au y).2.1 (c4 a b c n sc (L,lm,al) au y).2.2.2 (c4 a b c n sc (L,lm,al) au y).2.2.1 au ar kd aq bl)):=by kernel_rfl
theorem aaj:ba prog 82 (zE a b c n sc L al lm au ar kd aq bl) f165.results.toList=some []/\(zE a b c n sc L al lm au ar kd aq bl).hp=cY a b c n sc L al lm au ar kd aq (.dI bl) []/\(zE a b c n sc L al lm au ar kd aq bl).nx=6:=⟨by kernel_rfl,by kernel_rfl,by kernel_rfl⟩
theorem zgn:(kV a b c n sc L al lm au ar kd aq y).hp.get 0=some (Af au ar kd .bf):=by kernel_rfl
theorem zgr:(lR a b c n sc L al lm au ar kd aq bl y).hp.get 7=some (cj bl)/\(lR a b c n sc L al lm au ar kd aq bl y).hp.get 0=some (Af au ar kd (.aC 7 1 0 bl.length)):=⟨by kernel_rfl,by kernel_rfl⟩
end
section
variable{a b c:Int}{n:Nat}{sc:Int}{au ar kd:Int}
theorem YX{x1 x2 x3:Int}{ρ:aM}{k:Nat}{o:Obj}(h:cD ρ k (Af x1 x2 x3 .bf) o):cD ρ k (Af x1 x2 x3 (.dI [])) o:=by
 obtain⟨vs,tail,fr,h1,h2,h3,h4⟩:=h;have h2':bt ρ [.ptr 1 0,.ptr 3 0,.int .i64 x1,.int .i64 x2,.int .i64 x3,.bf] vs:=h2;have:=h2'.set (j:=5) (c:= .bf) (c':= .dI []) rfl (fun v hv=> .inl ⟨rfl,hv⟩)
 exact⟨vs,tail,fr,h1,this,h3,h4⟩
theorem adD{s0:S}(bP:s0.nx=6){Q:ag}(x:Vb)(hl:x.1.1.length=64*n)
  (hQ:Q .normal (zE a b c n sc (c4 a b c n sc x.1 au x.2.2.2).2.1 (c4 a b c n sc x.1 au x.2.2.2).2.2.2 (c4 a b c n sc x.1 au x.2.2.2).2.2.1 au ar kd x.2.1 x.2.2.1)):TO prog 82 [] [] s0 p6 (Ga a b c n sc au ar kd x) Q:=by
 obtain⟨⟨L,lm,al⟩,aq,bl,y⟩:=x;simp only at hl;cases bl with
 |nil=>
  refine TO.nT (dJ.aa 0 (Af au ar kd (.dI [])) (zgn ..) rfl rfl fun _ _ _ h=>YX h) ?_
  exact TO.aP (mJ true) (k0:=6) bP (.of_eq (T7 ..) ⟨⟨hl,rfl,trivial⟩,hQ⟩)
 |cons z bl=>
  obtain⟨g1,g2⟩:=zgr a b c n sc L al lm au ar kd aq (z::bl) y;refine TO.nT (dJ.frz 7 0 (by omega) g1 g2 (j:=5) rfl (by simp)) ?_
  exact TO.aP (mJ true) (k0:=6) bP (.of_eq (TC ..) ⟨⟨hl,rfl,trivial⟩,hQ⟩)
end
section
variable(a b c:Int)(n:Nat)(sc:Int)(L:aj)(al:Int)(lm:ak)(au ar kd:Int)(aq:ak)(bl A:aj)(y:Fi.bD)
def i165(M:S->Prop)(R:ah):ai:=dk prog vT 300 82 3 jl ⟨Wz,cY a b c n sc L al lm au 0 0 aq .bf [],6,[]⟩ aO (iR 6 [0,2] 82 [6] f165.results.toList prog M R)
def Pa(M:S->Prop)(R:ah):ai:=bif (aW a b c L n au).k==2 then some (aw [0<=i64.wrap (aW a b c L n au).s,i64.wrap (aW a b c L n au).s<4294967296,L.length=64*n,64*n=64*n]/\M (kV a b c n sc L al lm au (cX (i64.wrap (aW a b c L n au).s)) 6 aq (aW a b c L n au)))else some (aw [0<=i64.wrap (aW a b c L n au).s,i64.wrap (aW a b c L n au).s<4294967296,L.length=64*n,64*n=64*n]/\M (kV a b c n sc L al lm au (cX (i64.wrap (aW a b c L n au).s)) 0 aq (aW a b c L n au)))
theorem Oe(M:S->Prop)(R:ah):i165 a b c n sc L al lm au aq M R=Pa a b c n sc L al lm au aq M R:=by kernel_rfl
def agf(Q:ag):ai:=az prog vT 300 82 (gL (gL (aG 3 jl))) (kV a b c n sc L al lm au ar kd aq y) aO (bN 6 [0,2,32,33] 82 sN Q)
theorem Rx(Q:ag):agf a b c n sc L al lm au ar kd aq y Q=some (aw []/\Q .normal (Cq a b c n sc L al lm au ar kd aq [y.d0,y.d1,y.d2,y.d3] y 0)):=by kernel_rfl
theorem agu:nr 6 [] [] [0,2] 82 [6] (Cq a b c n sc L al lm au ar kd aq A y 4)=some (kV a b c n sc L al lm au ar kd aq y):=by kernel_rfl
theorem afT:nr 6 [] [] [0,2] 82 [6,7] (zK a b c n sc L al lm au ar kd aq bl A y 4)=some (lR a b c n sc L al lm au ar kd aq bl y):=by kernel_rfl
end
def tn(a b c:Int)(n:Nat)(st:St)(au:Int):Int:=cX (aW a b c st.1 n au).s
def nO(a b c:Int)(n:Nat)(st:St)(au:Int):Int:=if(aW a b c st.1 n au).k=2 then 6 else 0
def xe(a b c:Int)(n:Nat)(st:St)(au:Int):List Int:= [(aW a b c st.1 n au).d0,(aW a b c st.1 n au).d1,(aW a b c st.1 n au).d2,(aW a b c st.1 n au).d3]
def zb(a b c:Int)(n:Nat)(st:St)(au:Int)(aq:ak):Vb:=(st,ru a b c n st.1 au (tn a b c n st au) (nO a b c n st au) (xe a b c n st au) 4 0 (aq,[],aW a b c st.1 n au))
def pM(a b c:Int)(n:Nat)(sc:Int)(st:St)(au:Int)(aq:ak):Vb:=p9 a b c n sc au (tn a b c n st au) (nO a b c n st au) (pH a b c n sc au (tn a b c n st au) (nO a b c n st au) (zb a b c n st au aq))
def dg(a b c:Int)(n:Nat)(sc:Int)(st:St)(au:Int)(aq:ak):St×List (Int×Int)×List Int:=
 ((c4 a b c n sc (pM a b c n sc st au aq).1 au (pM a b c n sc st au aq).2.2.2).2,(pM a b c n sc st au aq).2.1,(pM a b c n sc st au aq).2.2.1)
section
variable{a b c:Int}{n:Nat}{sc:Int}{L:aj}{al:Int}{lm:ak}{au ar kd:Int}{aq:ak}{A:aj}
theorem Xp: ∀(m j:Nat) (x:Rb),(ru a b c n L au ar kd A m j x).2.2.sg=x.2.2.sg/\(ru a b c n L au ar kd A m j x).2.2.db=x.2.2.db
 | 0,_,_=>⟨rfl,rfl⟩
 |m+1,j,x=>by
  have h:=Xp m (j+1) (ku a b c n L au ar kd A j x);have h1:(ku a b c n L au ar kd A j x).2.2.sg=x.2.2.sg/\(ku a b c n L au ar kd A j x).2.2.db=x.2.2.db:=by
   unfold ku;split
   ·exact⟨rfl,rfl⟩
   ·split
    ·exact⟨rfl,rfl⟩
    ·unfold zd;split<;>exact⟨rfl,rfl⟩
  exact⟨h.1.trans h1.1,h.2.trans h1.2⟩
theorem Fq(i:Int):cF (aW a b c L n i).s/\Fi.bh (aW a b c L n i).d0/\Fi.bh (aW a b c L n i).d1/\Fi.bh (aW a b c L n i).d2/\Fi.bh (aW a b c L n i).d3/\Fi.bh (aW a b c L n i).sg/\Fi.bh (aW a b c L n i).db:=by
 unfold aW;split
 ·exact⟨gb _,eY _ _,eY _ _,eY _ _,eY _ _,eY _ _,eY _ _⟩
 ·exact⟨⟨by decide,by decide⟩,Fi.u0,Fi.u0,Fi.u0,Fi.u0,Fi.u0,Fi.u0⟩
theorem adI{st:St}{j:Nat}:Fi.bh ((xe a b c n st au).getD j 0):=by
 obtain⟨_,h0,h1,h2,h3,_,_⟩:=Fq (a:=a) (b:=b) (c:=c) (L:=st.1) (n:=n) au;unfold xe
 match j with
 | 0=>exact h0
 | 1=>exact h1
 | 2=>exact h2
 | 3=>exact h3
 |j+4=>exact Fi.u0
theorem Lb:f165.body=some jl:=by kernel_rfl
end
end Go.Sx
