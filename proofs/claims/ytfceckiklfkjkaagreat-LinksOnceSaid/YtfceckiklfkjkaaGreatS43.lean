import Derived.Test.YtfceckiklfkjkaaGreatS42
import Derived.Test.YtfceckiklfkjkaaGreatS25
import Derived.Shelf.Sort.Plain
import Derived.Shelf.Slices.In.SortNone
import Derived.Test.YtfceckiklfkjkaaGreatProg
import Derived.Test.YtfceckiklfkjkaaGreatS29
import Derived.Sort.OwnSortedInts
noncomputable section
set_option maxHeartbeats 4000000
set_option maxRecDepth 100000
open Go.IntKind(i64 u8 u64 u32 u16)
open Go.Proofs.Tryz
namespace Go.Sx
open Go.Proofs Go.RowKit
def fp(l:ak):List Int:=l.map (·.1)
theorem ug(l:ak)(g v:Int):fp (bC l g v)=if g∈fp l then fp l else fp l++ [g]:=by
 induction l with
 |nil=>simp[bC,fp]
 |cons p r ih=>
  obtain⟨x,y⟩:=p;unfold bC;by_cases h:x=g
  ·rw[if_pos h,if_pos (by simp[fp,h])]
   simp[fp,h]
  ·rw[if_neg h];have e:fp ((x,y)::bC r g v)=x::fp (bC r g v):=rfl;have e2:fp ((x,y)::r)=x::fp r:=rfl;rw[e,e2,ih];have hx: ¬g=x:=fun e=>h e.symm
   simp only[List.mem_cons,hx,false_or];split<;>simp
structure fh(n:Nat)(st:St)(sr:dA):Prop where
 img:st.1=sr.1
 al:st.2.2=sr.2.2
 wro:sr.2.1.length=n
 nod:(fp st.2.1).Nodup
 key: ∀x,x∈fp st.2.1↔0<=x/\x<n/\sr.2.1.getD x.toNat false=true
section
variable{a b c sc:Int}{n:Nat}{st:St}{sr:dA}
theorem fh.wr (h:fh n st sr)(g k:Int)(p:aj):(bF a b c n sc st.2.2 st.1 st.2.1 g k p).1=(eC a b c n sc sr g k p).1/\fh n (fP a b c n sc st g k p) (eC a b c n sc sr g k p).2:=by
 show _/\fh n (bF a b c n sc st.2.2 st.1 st.2.1 g k p).2 _;unfold bF eC;rw[h.img];cases hs:dP n g with
 |false=>exact⟨rfl,⟨rfl,h.al,h.wro,h.nod,h.key⟩⟩
 |true=>
  rw[if_pos rfl,Bool.true_and];have hh:=dU.1 hs;cases hk:cr k with
  |false=>
   have h1:cI sr.1 n g k=false:=by unfold cI dh;rw[hk];simp
   rw[h1,Bool.false_and,if_neg (by simp)]
   have h2:(cP k !=0)=true:=by unfold cP;rw[hk];rfl
   rw[h2,if_pos rfl];exact⟨rfl,⟨h.img.symm▸rfl,h.al,h.wro,h.nod,h.key⟩⟩
  |true=>
   have h2:(cP k !=0)=false:=r8.2 hk;rw[if_pos rfl,h2];cases h3:(cI sr.1 n g k &&(aR sr.1 n g k==p))with
   |true=>exact⟨rfl,⟨rfl,h.al,h.wro,h.nod,h.key⟩⟩
   |false=>
    simp only[Bool.false_eq_true,if_false];cases h4:(decide (g>=2) && !cN a sc (pl a b c g).2.1)with
    |true=>exact⟨rfl,⟨rfl,by show i64.wrap (st.2.2+1)=i64.wrap (sr.2.2+1);rw[h.al],h.wro,h.nod,h.key⟩⟩
    |false=>
     simp only[Bool.false_eq_true,if_false];refine⟨trivial,rfl,h.al,by simp[h.wro],?_,fun x=> ?_⟩
     ·show(fp (bC st.2.1 g 1)).Nodup;rw[ug];split
      ·exact h.nod
      ·rename_i hn;rw[List.nodup_append];exact⟨h.nod,by simp,fun x hx y hy e=>hn (by simp at hy;subst hy;subst e;exact hx)⟩
     ·show x∈fp (bC st.2.1 g 1)↔0<=x/\x<n/\(sr.2.1.set g.toNat true).getD x.toNat false=true;have hm:x∈fp (bC st.2.1 g 1)↔x=g\/x∈fp st.2.1:=by
       rw[ug];split
       ·rename_i hg;exact⟨.inr,fun h=>h.elim (fun e=>e▸hg) id⟩
       ·simp[or_comm]
      rw[hm,h.key x];have hw:=h.wro;constructor
      ·rintro(rfl|⟨x0,x1,x2⟩)
       ·refine⟨hh.1,hh.2,?_⟩;simp[List.getD,List.getElem?_set_self (show x.toNat<sr.2.1.length by omega)]
       ·refine⟨x0,x1,?_⟩;by_cases e:g.toNat=x.toNat
        ·rw[<-e];simp[List.getD,List.getElem?_set_self (show g.toNat<sr.2.1.length by omega)]
        ·rw[List.getD,List.getElem?_set_ne e];exact x2
      ·rintro⟨x0,x1,x2⟩;by_cases e:g.toNat=x.toNat
       ·exact .inl (by omega)
       ·rw[List.getD,List.getElem?_set_ne e]at x2;exact .inr ⟨x0,x1,x2⟩
theorem fh.sec (h:fh n st sr){i:Int}(hk:(pl a b c i).1≠0)(hk2:(pl a b c i).1≠2)(hin:cN a sc (pl a b c i).2.1=true):fh n (sy a b c n sc st i) (iD a b c n sc sr i):=by
 have e:iD a b c n sc sr i=if cI sr.1 n i (pl a b c i).1 then sr else(eC a b c n sc sr i (pl a b c i).1 bA).2:=by
  unfold iD;rw[if_pos hin,if_neg (show¬((pl a b c i).1==0)=true by simpa using hk),if_neg (show¬((pl a b c i).1==2)=true by simpa using hk2)]
 rw[e];unfold sy;rw[h.img];split
 ·exact h
 ·exact(h.wr i _ _).2
theorem S9{i:Int}(hk:(pl a b c i).1=0):iD a b c n sc sr i=sr:=by unfold iD;rw[hk];simp
theorem Tl{i:Int}(hin:cN a sc (pl a b c i).2.1=false):iD a b c n sc sr i=sr:=by unfold iD;rw[hin];simp
theorem qg: ∀(m1 m2:Nat) (sr:dA) (i:Int),gd a b c n sc (m1+m2) sr i=gd a b c n sc m2 (gd a b c n sc m1 sr i) (i+m1)
 | 0,m2,sr,i=>by simp[gd]
 |m1+1,m2,sr,i=>by
  rw[show m1+1+m2=(m1+m2)+1 by omega,gd,qg m1 m2,gd]
  congr 1
  push_cast;omega
theorem s8: ∀(m:Nat) (sr:dA) (i:Int),(∀j,i<=j->j<i+m->∀q,iD a b c n sc q j=q)->gd a b c n sc m sr i=sr
 | 0,_,_,_=>rfl
 |m+1,sr,i,h=>by
  rw[gd,h i (by omega) (by push_cast;omega)]
  exact s8 m sr (i+1) fun j h1 h2 q=>h j (by omega) (by push_cast;omega) q
theorem fh.j8 (hg:aY a b c=true){g:Int}(h0:0<=g)(h1:g<a)(hin:cN a sc g=true): ∀(m:Nat) (j:Int) (st:St) (sr:dA),1<=j->j+m<=2+b->fh n st sr->fh n (Sx.j8 a b c n sc m st (2+g*(2+b+c)+j)) (gd a b c n sc m sr (2+g*(2+b+c)+j))
 | 0,j,st,sr,_,_,h=>h
 |m+1,j,st,sr,hj,hm,h=>by
  obtain⟨g1,g2,g3,g4,g5,g6⟩:=b8.1 hg
  push_cast at hm
  have hp:=z8 hg h0 h1 (j:=j) (by omega) (by omega)
  rw[if_neg (by omega)]at hp
  rw[Sx.j8,gd];have:=fh.j8 hg h0 h1 hin m (j+1) _ _ (by omega) (by omega) (h.sec (a:=a) (b:=b) (c:=c) (sc:=sc) (i:=2+g*(2+b+c)+j)
   (by
    rw[hp];split
    ·simp
    ·rw[if_pos (by omega)];simp)
   (by
    rw[hp];split
    ·simp
    ·rw[if_pos (by omega)];simp)
   (by
    rw[hp];split
    ·exact hin
    ·rw[if_pos (by omega)];exact hin))
  rw[show 2+g*(2+b+c)+(j+1)=2+g*(2+b+c)+j+1 by omega]at this
  exact this
theorem fh.lv (hg:aY a b c=true){g:Int}(h0:0<=g)(h1:g<a)(h:fh n st sr):fh n (yw a b c n sc st g) (gd a b c n sc (2+b+c).toNat sr (2+g*(2+b+c))):=by
 obtain⟨g1,g2,g3,g4,g5,g6⟩:=b8.1 hg;have hgp: ∀s,2+g*(2+b+c)<=s->s<2+g*(2+b+c)+(2+b+c)->(pl a b c s).2.1=g:=fun s s0 s1=>by
  have:=z8 hg h0 h1 (j:=s - (2+g*(2+b+c))) (by omega) (by omega)
  rw[show 2+g*(2+b+c)+(s - (2+g*(2+b+c)))=s by omega]at this
  rw[this];split
  ·rfl
  ·split
   ·rfl
   ·split<;>rfl
 unfold yw;cases hin:cN a sc g with
 |false=>
  rw[if_neg (by simp),s8 _ _ _ fun j j0 j1 q=>Tl (by rw[hgp j j0 (by omega)];exact hin)]
  exact h
 |true=>
  rw[if_pos rfl];have hfst:jd a b c g=2+g*(2+b+c):=by
   unfold jd;rw[if_pos (by unfold jB;rw[hg];simp;omega)]
  unfold Sx.lv;rw[hfst,show(2+b+c).toNat=1+((b+1).toNat+c.toNat)by omega,qg,qg]
  have p0:=z8 hg h0 h1 (j:=0) (by omega) (by omega)
  rw[if_pos rfl,Int.add_zero]at p0;have e1:gd a b c n sc 1 sr (2+g*(2+b+c))=(eC a b c n sc sr (2+g*(2+b+c)) 2 (eO g)).2:=by
   show iD a b c n sc sr _=_;unfold iD;rw[p0];simp only;rw[if_pos hin,if_neg (by decide),if_pos (by decide)]
  rw[e1];have hs:=fh.j8 (n:=n) (sc:=sc) hg h0 h1 hin (b+1).toNat 1 _ _ (by omega) (by omega) (h.wr (a:=a) (b:=b) (c:=c) (sc:=sc) (2+g*(2+b+c)) 2 (eO g)).2
  rw[show 2+g*(2+b+c)+((1:Nat):Int)=2+g*(2+b+c)+1 from rfl]
  rw[s8 c.toNat _ _ fun j j0 j1 q=>S9 ?_]
  ·exact hs
  ·have hp:=z8 hg h0 h1 (j:=j - (2+g*(2+b+c))) (by omega) (by omega)
   rw[show 2+g*(2+b+c)+(j - (2+g*(2+b+c)))=j by omega,if_neg (by omega),if_neg (by omega),if_neg (by omega)]at hp
   rw[hp]
theorem fh.ka (hg:aY a b c=true): ∀(m:Nat) (g:Int) (st:St) (sr:dA),0<=g->g+m=a->fh n st sr->fh n (Sx.ka a b c n sc m st g) (gd a b c n sc (m*(2+b+c).toNat) sr (2+g*(2+b+c)))
 | 0,g,st,sr,_,_,h=>by rw[Nat.zero_mul];exact h
 |m+1,g,st,sr,h0,hm,h=>by
  obtain⟨g1,g2,g3,g4,g5,g6⟩:=b8.1 hg
  push_cast at hm
  rw[Sx.ka,show(m+1)*(2+b+c).toNat=(2+b+c).toNat+m*(2+b+c).toNat by rw[Nat.add_mul];omega,qg]
  have:=fh.ka hg m (g+1) _ _ (by omega) (by omega) (h.lv (sc:=sc) hg h0 (by omega))
  rw[show 2+(g+1)*(2+b+c)=2+g*(2+b+c)+((2+b+c).toNat:Int)by rw[Int.add_mul];omega]at this
  exact this
theorem fh.run (hg:aY a b c=true)(hm:(n:Int)=2+a*(2+b+c))(h:fh n st sr):fh n (ju a b c n sc st) (lO a b c n sc sr):=by
 obtain⟨g1,g2,g3,g4,g5,g6⟩:=b8.1 hg;unfold ju lO;have h2:=((h.wr (a:=a) (b:=b) (c:=c) (sc:=sc) 0 1 (sup a b c)).2.wr (a:=a) (b:=b) (c:=c) (sc:=sc) 1 1 (sup a b c)).2;have:=fh.ka (sc:=sc) hg a.toNat 0 _ _ (by omega) (by omega) h2
 rw[Int.zero_mul,Int.add_zero,show a.toNat*(2+b+c).toNat=n - 2 from ?_]at this
 ·exact this
 ·have:((a.toNat*(2+b+c).toNat:Nat):Int)=a*(2+b+c):=by
   rw[Int.natCast_mul,Int.toNat_of_nonneg (by omega),Int.toNat_of_nonneg (by omega)]
  omega
end
end Go.Sx
namespace Go.Sx
open Go.Proofs Go.RowKit
section
variable(A B:aj)(n:Nat)(i:Int)
end
end Go.Sx
namespace Go.Sx
open Go.Proofs Go.RowKit
end Go.Sx
namespace Go.Proofs
open Go.Shelf
def Tryz.HY:Go.Shelf.Ren:=⟨fun| 189=>187| 125=>237| 257=>236| 128=>270| 129=>271| 294=>261| 295=>262| 296=>263| 297=>264| 298=>265| 299=>266| 216=>267| 300=>268| 301=>269| 328=>284| 329=>285| 330=>286| 331=>287| 332=>288| 215=>289| 343=>305|n=>n,fun| 28=>52| 3=>3| 46=>176| 0=>0| 51=>23| 53=>282| 4=>4| 183=>320| 182=>319| 131=>244| 5=>5| 9=>9| 218=>342| 222=>346| 228=>353| 229=>76|n=>n,fun|n=>n⟩
theorem Tryz.YO:Go.Proofs.Lays.n189 Tryz.prog Tryz.HY:= {
 mixed:=by kernel_rfl
 f125:=Tryz.func237.trans (congrArg some (by kernel_rfl))
 f128:=Tryz.func270.trans (congrArg some (by kernel_rfl))
 f129:=Tryz.func271.trans (congrArg some (by kernel_rfl))
 f189:=Tryz.func187.trans (congrArg some (by kernel_rfl))
 f215:=Tryz.func289.trans (congrArg some (by kernel_rfl))
 f216:=Tryz.func267.trans (congrArg some (by kernel_rfl))
 f257:=Tryz.func236.trans (congrArg some (by kernel_rfl))
 f294:=Tryz.func261.trans (congrArg some (by kernel_rfl))
 f295:=Tryz.func262.trans (congrArg some (by kernel_rfl))
 f296:=Tryz.func263.trans (congrArg some (by kernel_rfl))
 f297:=Tryz.func264.trans (congrArg some (by kernel_rfl))
 f298:=Tryz.func265.trans (congrArg some (by kernel_rfl))
 f299:=Tryz.func266.trans (congrArg some (by kernel_rfl))
 f300:=Tryz.func268.trans (congrArg some (by kernel_rfl))
 f301:=Tryz.func269.trans (congrArg some (by kernel_rfl))
 f328:=Tryz.func284.trans (congrArg some (by kernel_rfl))
 f329:=Tryz.func285.trans (congrArg some (by kernel_rfl))
 f330:=Tryz.func286.trans (congrArg some (by kernel_rfl))
 f331:=Tryz.func287.trans (congrArg some (by kernel_rfl))
 f332:=Tryz.func288.trans (congrArg some (by kernel_rfl))
 f343:=Tryz.func305.trans (congrArg some (by kernel_rfl))
 t0:=Tryz.underlying0
 a0:=Tryz.isAgg0
 z0:=Tryz.sizeOf0
 v0:=Tryz.zeroValue0
 t3:=Tryz.underlying3
 a3:=Tryz.isAgg3
 z3:=Tryz.sizeOf3
 v3:=Tryz.zeroValue3
 t4:=Tryz.underlying4
 a4:=Tryz.isAgg4
 z4:=Tryz.sizeOf4
 v4:=Tryz.zeroValue4
 t5:=Tryz.underlying5
 a5:=Tryz.isAgg5
 z5:=Tryz.sizeOf5
 v5:=Tryz.zeroValue5
 t9:=Tryz.underlying9
 a9:=Tryz.isAgg9
 z9:=Tryz.sizeOf9
 v9:=Tryz.zeroValue9
 t28:=Tryz.underlying52
 a28:=Tryz.isAgg52
 z28:=Tryz.sizeOf52
 v28:=Tryz.zeroValue52
 t46:=Tryz.underlying176
 a46:=Tryz.isAgg176
 z46:=Tryz.sizeOf176
 v46:=Tryz.zeroValue176
 t51:=Tryz.underlying23
 a51:=Tryz.isAgg23
 z51:=Tryz.sizeOf23
 v51:=Tryz.zeroValue23
 t53:=Tryz.underlying282
 a53:=Tryz.isAgg282
 z53:=Tryz.sizeOf282
 v53:=Tryz.zeroValue282
 t131:=Tryz.underlying244
 a131:=Tryz.isAgg244
 z131:=Tryz.sizeOf244
 v131:=Tryz.zeroValue244
 t182:=Tryz.underlying319
 a182:=Tryz.isAgg319
 z182:=Tryz.sizeOf319
 v182:=Tryz.zeroValue319
 t183:=Tryz.underlying320
 a183:=Tryz.isAgg320
 z183:=Tryz.sizeOf320
 v183:=Tryz.zeroValue320
 t218:=Tryz.underlying342
 a218:=Tryz.isAgg342
 z218:=Tryz.sizeOf342
 v218:=Tryz.zeroValue342
 t222:=Tryz.underlying346
 a222:=Tryz.isAgg346
 z222:=Tryz.sizeOf346
 v222:=Tryz.zeroValue346
 t228:=Tryz.underlying353
 a228:=Tryz.isAgg353
 z228:=Tryz.sizeOf353
 v228:=Tryz.zeroValue353
 t229:=Tryz.underlying76
 a229:=Tryz.isAgg76
 z229:=Tryz.sizeOf76
 v229:=Tryz.zeroValue76}
open Go.Sort Go.RowKit in
theorem Tryz.slices_Sort_int (cX off cap:Nat)(zs:List Int)(w:World)(hH:Holds (Value.int .i64) w cX off zs.toArray)(bI:cX<w.heap.size)(hsz:zs.length<4611686018427387904):
  Calls Tryz.prog 187 #[.slice (some ⟨cX,off,none⟩) zs.length cap] w fun e w'=>
   e= .returned (.tuple #[])/\∃n os,w'=grow (putRow (Value.int .i64) (Sort.ahead w n) cX off (zs.mergeSort fun x y=>decide (x<=y)).toArray) os:=Any.slices_Sort_int Tryz.YO cX off cap zs w hH bI hsz
end Go.Proofs
namespace Go.Sx
open Go.Proofs Go.RowKit Go.Maps Go.Shelf
def xM:bg:=fun args hp nx=>
 match args with
 | [.one (.c (.fn 188 [] [(bx,0)]))]=>match bn hp.get bx with
  |some (_,_,_,.cells [.map nm])=>match hp.get nm with
   |some (.map [])=>some (.one (.c .bf),hp,nx,[],[])
   |some (.aQ none l)=>some (.one (.c .bf),hp,nx,[],[l= []])
   |_=>none
  |_=>none
 |_=>none
theorem HU:aI prog 186 xM:=by
 intro args s v hp nx lg ps ht h bB;unfold xM at h;split at h<;>try(cases h;done)
 rename_i bx;split at h<;>try(cases h;done)
 rename_i t ro o nm bU;have bT: ∃x,s.hp.get nm=some x/\(∀(ρ:aM) c ob,cD ρ c x ob->∃(aD:Array MapEntry) (cl:Nat),ob= .map aD cl/\aD.toList= [])/\v= .one (.c .bf)/\hp=s.hp/\nx=s.nx/\lg= []:=by
  split at h<;>try(cases h;done)
  ·rename_i hmap;simp only[ae,af]at h;obtain⟨rfl,rfl,rfl,rfl,rfl⟩:=h;exact⟨_,hmap,fun ρ c ob hb=>by obtain⟨aD,clock,rfl,hes,_⟩:=hb;exact⟨aD,clock,rfl,hes⟩,rfl,rfl,rfl,rfl⟩
  ·rename_i l hmap;simp only[ae,af]at h;obtain⟨rfl,rfl,rfl,rfl,rfl⟩:=h;obtain⟨rfl,_⟩:=bB;exact⟨_,hmap,fun ρ c ob hb=>by obtain⟨aD,clock,rfl,hes,_⟩:=hb;exact⟨aD,clock,rfl,hes⟩,rfl,rfl,rfl,rfl⟩
 obtain⟨x,hmap,hx,rfl,rfl,rfl,rfl⟩:=bT;refine aU.quiet ht ⟨_,func186,rfl⟩ fun ρ w vs hr ha=> ?_
 obtain⟨V,vs1,hV,h3,rfl⟩:=ha;cases h3;obtain⟨us,cs,h0,⟨b,c,vs2,hb,h4,rfl⟩,rfl⟩:=hV;cases h4;cases h0;unfold bn at bU;split at bU<;>try(cases bU;done)
 rename_i h5;cases bU;obtain⟨b',c',ob,e1,e2,e3⟩:=hr.ok _ _ h5;rw[hb]at e1;cases e1;obtain⟨vs,tail,fr,rfl,⟨mv,_,⟨mb,mc,m1,rfl⟩,rfl,rfl⟩,_,_⟩:=e3;obtain⟨mb',mc',om,g1,g2,g3⟩:=hr.ok _ _ hmap;rw[m1]at g1;cases g1;obtain⟨aD,clock,rfl,hes⟩:=hx _ _ _ g3;have hcell:w.cell? ⟨b,0,none⟩=some (.map (some mb)):=by simp[World.cell?,e2]
 exact(xj hcell g2 hes).mono fun e w' ⟨q1,q2⟩=>⟨_,q1,rfl,q2⟩
def As:bg:=fun args hp nx=>match zX args hp nx with|some (v,hp,nx,lg)=>some (v,hp,nx,lg,[])|none=>none
theorem LK:aI prog 271 As:=by
 intro args s v hp nx lg ps ht h bB;unfold As at h;split at h<;>try(cases h;done)
 rename_i h1;simp only[ae,af]at h;obtain⟨rfl,rfl,rfl,rfl,rfl⟩:=h;exact CQ _ _ _ _ _ _ ht h1
end Go.Sx
namespace Go.Sx
open Go.Proofs Go.RowKit Go.Maps Go.Sort Go.Shelf
def nP(l:aj):List Int:=l.mergeSort fun x y=>decide (x<=y)
theorem Ko(l:aj):(nP l).length=l.length:=by simp[nP]
theorem Ts{l m:aj}(h:l.Perm m):nP l=nP m:=mergeSort_of_perm_i h
abbrev tD:Value->Option (DataW Unit×List MemPlace):=fun _=>some (.nil,[])
theorem ct.keys {ρ:aM}: ∀ {l:ak} {es:List MapEntry},ct ρ (gq none l) es->es.map (·.key)=l.map fun p=>Value.int .i64 p.1
 | [],es,h=>by cases h;rfl
 |(k,v)::l,es,⟨e,es',h1,h2,h3,h4⟩=>by
  subst h4;rw[List.map_cons,List.map_cons,ct.keys h3,show e.key=Value.int .i64 (k,v).1 from h1]
theorem Oz{w:World}{mb:Nat}{l:ak}{aD:Array MapEntry}{clock:Nat}{ρ:aM}(h:w.heap[mb]? =some (.map aD clock))(hes:ct ρ (gq none l) aD.toList)(hst:MapKept.Stamped aD clock)
  (hwf: ∀p∈l,(Lit.int .i64 p.1).wf=true) (hlen:l.length<=1000000): ∃D0:DataW Unit,w.ownsMap prog 3 tD mb l.length D0/\(intKeys D0).Perm (l.map (·.1))/\Maps.size D0=l.length:=by
 have hk:=hes.keys;have hsz:aD.toList.length=l.length:=by
  have:=congrArg List.length hk;simpa using this
 have hrd: ∀x∈aD.toList,∃n:Int,x.key= .int .i64 n/\WideElems.rd prog 3 tD x=some (.int .i64 n,.nil):=fun x hx=>by
  have h1:x.key∈aD.toList.map (·.key):=List.mem_map_of_mem hx;rw[hk]at h1;obtain⟨p,hp,he⟩:=List.mem_map.1 h1;refine⟨p.1,he.symm,?_⟩;have hkey:keyOf prog 3 x.key=some (.int .i64 p.1):=by
   rw[<-he];exact keyOf_int_mk underlying3 (hwf p hp)
  unfold WideElems.rd;rw[hkey];rfl
 have hmx:l.length<=maxLen:=Nat.le_trans hlen (by decide)
 refine⟨_,⟨aD,clock,h,⟨by rw[<-Array.length_toList,hsz];exact hmx,hst,fun x hx=>by obtain⟨n,_,h2⟩:=hrd x hx;exact⟨_,h2⟩⟩,by rw[<-Array.length_toList,hsz];exact Nat.le_refl _,rfl⟩,?_,?_⟩
 ·show((aD.toList.map (WideElems.rg prog 3 tD)).foldr DataW.insert []).map (fun p=>intOf p.1)|>.Perm _
  refine((WideShapes.sorted_perm _).map _).trans ?_;rw[List.map_map];have e:aD.toList.map ((fun p:Lit×DataW Unit=>intOf p.1) ∘WideElems.rg prog 3 tD)=l.map (·.1):=by
   have h2:aD.toList.map ((fun p:Lit×DataW Unit=>intOf p.1) ∘WideElems.rg prog 3 tD)=(aD.toList.map (·.key)).map fun v=>match v with| .int _ n=>n|_=>0:=by
    rw[List.map_map];refine List.map_congr_left fun x hx=> ?_
    obtain⟨n,h1,h2⟩:=hrd x hx;simp only[Function.comp,WideElems.rg_of h2,h1]
    rfl
   rw[h2,hk,List.map_map]
   rfl
  rw[e]
 ·show((aD.toList.map (WideElems.rg prog 3 tD)).foldr DataW.insert []).length=l.length;rw[(WideShapes.sorted_perm _).length_eq,List.length_map,hsz]
theorem EH{w:World}{bx mb N:Nat}{ks:aj}{D0:DataW Unit}(hc:w.cell? ⟨bx,0,none⟩=some (.map (some mb)))(hown:w.ownsMap prog 3 tD mb N D0)(hp:(intKeys D0).Perm ks)(hsz:Maps.size D0=ks.length)(hlen:ks.length<=1000000)(bT:ks≠ []):
  Calls prog 186 #[.func (.func 188) #[] #[.pointer (some ⟨bx,0,none⟩)]] w fun e w'=> ∃(g cap:Nat) (cur:Array Value) (ss:aj),e= .returned (.slice (some ⟨g,0,none⟩) ss.length cap)/\ss.Perm ks/\w.heap.size<=g/\w'.heap[g]? =some (.cells cur 3 (0,0))/\ss.length<=cap/\cap<=maxLen/\cur.size=cap*1/\cur.toList.take ss.length=ss.map (Value.int .i64)/\Below w.heap.size w w':=by
 refine(callsIn_wide (n:=6)).1 ?_;have hbx:bx<w.heap.size:=by
  unfold World.cell? at hc;split at hc<;>try(cases hc;done)
  rename_i h;exact(Array.getElem?_eq_some_iff.1 h).1
 have hseq:=Ky.Ab Fence.wide 4 trivial rfl (by omega) bx mb N _ w hbx hc hown
 refine(Ky.yM Fence.wide 6 trivial trivial rfl (by omega) 188 #[.pointer (some ⟨bx,0,none⟩)] trivial (enters_of func188 (by kernel_rfl) rfl) _ _ (by rw[hsz];exact Nat.le_trans hlen (by decide)) (by rw[hsz];omega) w hseq).mono ?_
 rintro e w' ⟨v,ss,rfl,hS,bU,hn,hb⟩;have hpm:ss.Perm ks:=List.Perm.trans hS hp;have hss:ss≠ []:=fun e=>bT (List.perm_nil.1 (e▸hpm).symm)
 rcases bU.2 with⟨h0,_⟩|⟨g,cap,cur,rfl,hg,hcur,h1,h2,h3,h4⟩
 ·exact absurd (hn.1 h0) hss
 ·exact⟨g,cap,cur,ss,rfl,hpm,hg,hcur,h1,h2,h3,by rw[Nat.mul_one]at h4;exact h4,hb⟩
theorem IQ{w:World}{bx mb N:Nat}{ks:aj}{D0:DataW Unit}(hc:w.cell? ⟨bx,0,none⟩=some (.map (some mb)))(hown:w.ownsMap prog 3 tD mb N D0)(hp:(intKeys D0).Perm ks)(hsz:Maps.size D0=ks.length)(hlen:ks.length<=1000000)(bT:ks≠ []):
  Calls prog 121 #[.func (.func 188) #[] #[.pointer (some ⟨bx,0,none⟩)]] w fun e w'=> ∃(g cap:Nat) (cur:Array Value),e= .returned (.slice (some ⟨g,0,none⟩) ks.length cap)/\w.heap.size<=g/\w'.heap[g]? =some (.cells cur 3 (0,0))/\ks.length<=cap/\cap<=maxLen/\cur.size=cap*1/\cur.toList.take ks.length=(nP ks).map (Value.int .i64)/\Below w.heap.size w w':=by
 have hcol:=EH hc hown hp hsz hlen bT
 go_enter func121,ntmps121
 go_wp2_with (first
  |(go_at_call 186;refine hcol.mono ?_;rintro e w1 ⟨g,cap,cur,ss,rfl,hpm,hg,hcur,h1,h2,h3,h4,hb⟩)
  |(go_at_call 187;refine(slices_Sort_int g 0 cap ss _ (holds_of_blockI hcur h4) (Array.getElem?_eq_some_iff.1 hcur).1 (by rw[hpm.length_eq];omega)).mono ?_;rintro e w2 ⟨rfl,nn,os,rfl⟩))
 go_ret
 have hl':=hpm.length_eq;have hl2:(nP ss).length=ss.length:=Ko ss;have hsz2:cur.size=cap:=by omega
 have hgb:=grownBy_sortedI (w:=w1) (g:=g) (n:=nn) (os:=os) (nP ss).toArray;refine⟨g,cap,putCells (Value.int .i64) 0 (nP ss).toArray cur,by rw[<-hl'];rfl,hg,heap_sortedI _ hcur,by omega,h2,by simpa[putCells]using h3,?_,⟨hgb.os.trans hb.os,hgb.tape.trans hb.tape,hgb.output.trans hb.output,Nat.le_trans hb.size hgb.size,fun k hk=> ?_⟩⟩
 ·rw[<-Ts hpm, <-hl', <-hl2];exact take_putCellsI cur (nP ss) (by omega)
 ·have hk1:k<w1.heap.size:=Nat.lt_of_lt_of_le hk hb.size;exact(hgb.block k hk1 (fun e=>by cases e;omega)).trans (hb.block k hk)
def tZ:bg:=fun args hp nx=>
 match args with
 | [.one (.c (.fn 188 [] [(bx,0)]))]=>match bn hp.get bx with
  |some (_,_,_,.cells [.map nm])=>match hp.get nm with
   |some (.aQ none l)=>T.set depth hp nx (some (.row 3 false (some 1) (.ints .i64 (nP (l.map (·.1))) l.length))) fun hp=>some (.one (.c (.aC nx 1 0 l.length)),hp,nx+1,[],[l≠ [],l.length<=1000000,∀p∈l,(Lit.int .i64 p.1).wf=true])
   |_=>none
  |_=>none
 |_=>none
theorem Fj:aI prog 121 tZ:=by
 intro args s v hp nx lg ps ht h bB;unfold tZ at h;split at h<;>try(cases h;done)
 rename_i bx;split at h<;>try(cases h;done)
 rename_i t ro o nm bU;split at h<;>try(cases h;done)
 rename_i l hmap;obtain⟨t',h,q⟩:=T.bR _ _ _ _ _ _ h;simp only[ae,af]at h;obtain⟨rfl,rfl,rfl,rfl,rfl⟩:=h;obtain⟨bT,hlen,hwf,_⟩:=bB;refine aU.mS (u:= .new (.row 3 false (some 1) (.ints .i64 (nP (l.map (·.1))) l.length))) ht ⟨_,func121,rfl⟩ (fun m hm=>by cases hm) (fun i=>by rw[q];rfl) rfl rfl fun ρ w vs hr hf ha=> ?_
 obtain⟨V,vs1,hV,h3,rfl⟩:=ha;cases h3;obtain⟨us,cs,h0,⟨b,c,vs2,hb,h4,rfl⟩,rfl⟩:=hV;cases h4;cases h0;have h5:=cT bU;obtain⟨b',c',ob,e1,e2,e3⟩:=hr.ok _ _ h5;rw[hb]at e1;cases e1;obtain⟨vs,tail,fr,rfl,⟨mv,_,⟨mb,mc,m1,rfl⟩,rfl,rfl⟩,_,_⟩:=e3;obtain⟨mb',mc',om,g1,g2,g3⟩:=hr.ok _ _ hmap;rw[m1]at g1;cases g1;obtain⟨aD,clock,rfl,hes,hst⟩:=g3;have hcell:w.cell? ⟨b,0,none⟩=some (.map (some mb)):=by simp[World.cell?,e2]
 obtain⟨D0,hown,hpm,hsz⟩:=Oz g2 hes hst hwf hlen;have hll:(l.map (·.1)).length=l.length:=by simp
 refine(IQ hcell hown hpm (by rw[hsz,hll]) (by rw[hll];exact hlen) (by simpa using bT)).mono fun e w' ⟨g,cap,cur,q1,q2,q3,q4,q5,q6,q7,q8⟩=> ?_
 rw[hll]at q1 q4 q7;have hsl:(nP (l.map (·.1))).length=l.length:=by rw[Ko,hll]
 refine⟨_,_,q1,bu.aeR (c:=cap) hr hf q2 ⟨(nP (l.map (·.1))).map (Value.int .i64),cur.toList.drop l.length,(0,0),?_,⟨hsl,rfl⟩,fun _=>rfl,?_⟩ q3 (Below.chW q8 none) ⟨g,cap,0,by simp[ext],by omega,.inl (by simp),by simp⟩⟩
 ·rw[<-q7,List.take_append_drop]
 ·refine⟨?_,Nat.le_trans q5 (by decide)⟩
  rw[<-q7,List.take_append_drop];simpa using q6
end Go.Sx
namespace Go.Sx
open Go.Proofs Go.RowKit
section
variable(a b c:Int)(n:Nat)(sc:Int)(L:aj)(l:ak)(W:List Bool)(al i:Int)(C wl:aj)(k:Nat)
variable(m N:Nat)
end
end Go.Sx
namespace Go.Sx
open Go.Proofs Go.RowKit
section
variable{a b c:Int}{n:Nat}{sc:Int}{L:aj}{l:ak}{W:List Bool}{al:Int}{s0:S}
end
end Go.Sx
namespace Go.Sx
open Go.Proofs Go.RowKit
section
variable{a b c:Int}{n:Nat}{sc:Int}{L:aj}{l:ak}{W:List Bool}{al:Int}{s0:S}
end
section
variable(a b c:Int)(n:Nat)(sc:Int)(L:aj)(l:ak)(W:List Bool)(al:Int)(C wl:aj)(k:Nat)
end
end Go.Sx
namespace Go.Sx
open Go.Proofs Go.RowKit
section
variable{a b c:Int}{n:Nat}{sc:Int}{L:aj}{l:ak}{W:List Bool}{al:Int}
end
end Go.Sx
namespace Go.Sx
open Go.Proofs Go.RowKit
section
variable{a b c:Int}{n:Nat}{sc:Int}{L:aj}{l:ak}{W:List Bool}{al:Int}
end
end Go.Sx
namespace Go.Sx
open Go.Proofs Go.RowKit
def WH:bg:=lA fun xs a b c n sc st=>match xs with
 | []=>some (.aF [],lO a b c n sc st,[a<9223372036854775808,cF sc,2<=n,n<9223372036854775807,Bytes st.1])
 |_=>none
theorem SV:aI prog 20 WH:=by
 refine mV ⟨_,func20,rfl⟩ (fun xs a b c n sc st v st' ps h hp hl hW=> ?_) (fun xs a b c n sc st v st' ps h=> ?_)
 ·split at h<;>try(cases h;done)
  simp only[ae,af]at h;obtain⟨rfl,rfl,rfl⟩:=h;exact Zv hp.1 hp.2.1 hp.2.2.1 hp.2.2.2.1 ⟨hl,hW,hp.2.2.2.2.1⟩
 ·split at h<;>try(cases h;done)
  simp only[ae,af]at h;obtain⟨rfl,rfl,rfl⟩:=h;exact⟨rfl,rfl⟩
end Go.Sx
namespace Go.Sx
open Go.Proofs Go.RowKit
theorem pure_run{P:Program}{Sg:FuncId->Option Sum}(F:Fit P Sg){fuel:Nat}{g:FuncId}{args:List RV}{v:RV}(hfa:args.all ej=true)(hfv:ej v=true)
  (h:s7 P Sg false fuel g args s0 (fun v _=>some v)=some v) (ρ:aM) (w:World) (vs:List Value) (ha:bo ρ args vs):
  Calls P g vs.toArray w fun e w'=> ∃V,e= .returned V/\bE ρ v V/\Below w.heap.size w w':=by
 obtain⟨v2,s2,L,h4,ci⟩:=jo F (fun nm _=>T.get_nil nm) h
 simp only[ae]at h4;subst h4;refine(ci.run mz w vs (bu.nil _) (fun _ _=>rfl) (ha.indep hfa)).mono fun e w' ⟨V,ρ',e1,e2,e3,e4,st⟩=>⟨V,e1,e2.indep hfv,?_⟩
 exact⟨st.os,st.tape,st.al,st.size,fun k hk=>st.frame k hk (fun nm c _ aA=>absurd aA (Nat.not_lt_zero _))⟩
def um(x y:Int):Int:=u16.wrap (u64.wrap (u64.wrap (256*u64.wrap (0+u64.wrap y))+u64.wrap x))
def acP(x y z t:Int):Int:=u32.wrap (u64.wrap (u64.wrap (256*u64.wrap (u64.wrap (256*u64.wrap (u64.wrap (256*u64.wrap (0+u64.wrap t))+u64.wrap z))+u64.wrap y))+u64.wrap x))
def EO(p:aj)(o:Nat):Fi.bD:=⟨p.getD o 0,p.getD (o+1) 0,acP (p.getD (o+2) 0) (p.getD (o+3) 0) (p.getD (o+4) 0) (p.getD (o+5) 0),um (p.getD (o+6) 0) (p.getD (o+7) 0),um (p.getD (o+8) 0) (p.getD (o+9) 0),um (p.getD (o+10) 0) (p.getD (o+11) 0),um (p.getD (o+12) 0) (p.getD (o+13) 0),um (p.getD (o+14) 0) (p.getD (o+15) 0),um (p.getD (o+16) 0) (p.getD (o+17) 0)⟩
abbrev ZW(p:aj)(n:Int)(Q:RV->Prop):ai:=cO prog mf 300 88 [.one (.ints .u8 p 54),.one (.c (.int .i64 n))] s0 aO fun v _ Z=>some (aw Z.ob/\Q v)
theorem af9(p:aj)(Q:RV->Prop):ZW p 0 Q=some (aw []/\Q (.aF [.agg (EO p 0).L,.c (.int .i64 0)])):=by kernel_rfl
theorem agG(p:aj)(Q:RV->Prop):ZW p 1 Q=some (aw []/\Q (.aF [.agg (EO p 18).L,.c (.int .i64 0)])):=by kernel_rfl
theorem afL(p:aj)(Q:RV->Prop):ZW p 2 Q=some (aw []/\Q (.aF [.agg (EO p 36).L,.c (.int .i64 0)])):=by kernel_rfl
theorem rh{x y:Int}(hx:U8 x)(hy:U8 y):um x y=gH x y:=by
 rw[xU hx hy];unfold um;simp only[wrap_u64,wrap_u16];omega
theorem aaq{x y z t:Int}(hx:U8 x)(hy:U8 y)(hz:U8 z)(ht:U8 t):acP x y z t=lY x y z t:=by
 rw[s5 hx hy hz ht];exact Nn hx hy hz ht
theorem dz(p:aj)(o i:Nat)(h:i<18):(eu p o).getD i 0=p.getD (o+i) 0:=by
 show((p.drop o).take 18).getD i 0=_;rw[List.getD_eq_getElem?_getD,List.getElem?_take_of_lt h,List.getElem?_drop, <-List.getD_eq_getElem?_getD]
theorem XS{p:aj}(hy:Bytes p)(o:Nat):EO p o=gf (eu p o):=by
 unfold EO gf;rw[dz p o 0 (by decide),dz p o 1 (by decide),dz p o 2 (by decide),dz p o 3 (by decide),dz p o 4 (by decide),dz p o 5 (by decide),dz p o 6 (by decide),dz p o 7 (by decide),dz p o 8 (by decide),dz p o 9 (by decide),dz p o 10 (by decide),dz p o 11 (by decide),dz p o 12 (by decide),dz p o 13 (by decide),dz p o 14 (by decide),dz p o 15 (by decide),dz p o 16 (by decide),dz p o 17 (by decide)]
 rw[aaq (hy.getD _) (hy.getD _) (hy.getD _) (hy.getD _),rh (hy.getD _) (hy.getD _),rh (hy.getD _) (hy.getD _),rh (hy.getD _) (hy.getD _),rh (hy.getD _) (hy.getD _),rh (hy.getD _) (hy.getD _),rh (hy.getD _) (hy.getD _)]
 rfl
def TH(args:List RV):Option (RV×List Prop):=match args with
 | [.one (.ints .u8 p 54),.one (.c (.int .i64 n))]=>some (.aF [.agg (gf (eu p (18*n.toNat))).L,.c (.int .i64 0)],[0<=n/\n<=2,Bytes p])
 |_=>none
theorem YJ:cg prog 88 TH:=by
 intro args v ps h hp ρ w vs ha;unfold TH at h;split at h<;>try(cases h;done)
 rename_i p n;simp only[ae,af]at h;obtain⟨rfl,rfl⟩:=h;obtain⟨⟨h0,h1⟩,hy,_⟩:=hp;rw[<-XS hy];rcases (show n=0\/n=1\/n=2 by omega)with rfl|rfl|rfl
 ·exact cU eM (by rfl) (by rfl) (.of_eq (af9 p _) ⟨trivial,rfl⟩) ρ w vs ha
 ·exact cU eM (by rfl) (by rfl) (.of_eq (agG p _) ⟨trivial,rfl⟩) ρ w vs ha
 ·exact cU eM (by rfl) (by rfl) (.of_eq (afL p _) ⟨trivial,rfl⟩) ρ w vs ha
def BT(y:Fi.bD):List Int:= [y.k,y.l,u8.wrap (y.s.tmod 256),u8.wrap ((u32.wrap (y.s.tdiv 256)).tmod 256),u8.wrap ((u32.wrap (y.s.tdiv 65536)).tmod 256),u8.wrap (u32.wrap (y.s.tdiv 16777216)),u8.wrap (y.d0.tmod 256),u8.wrap (u16.wrap (y.d0.tdiv 256)),u8.wrap (y.d1.tmod 256),u8.wrap (u16.wrap (y.d1.tdiv 256)),u8.wrap (y.d2.tmod 256),u8.wrap (u16.wrap (y.d2.tdiv 256)),u8.wrap (y.d3.tmod 256),u8.wrap (u16.wrap (y.d3.tdiv 256)),u8.wrap (y.sg.tmod 256),u8.wrap (u16.wrap (y.sg.tdiv 256)),u8.wrap (y.db.tmod 256),u8.wrap (u16.wrap (y.db.tdiv 256))]
def vy:List Int->Nat->List Int->List Int
 |p,_,[]=>p
 |p,o,x::r=>vy (p.set o x) (o+1) r
abbrev rA9(p:aj)(n k l s d0 d1 d2 d3 sg db:Int):Option RV:=s7 prog (fun f=>(mf f).map bj) false 300 90 [.one (.ints .u8 p 54),.one (.c (.int .i64 n)),.one (.agg [.int .u8 k,.int .u8 l,.int .u32 s,.int .u16 d0,.int .u16 d1,.int .u16 d2,.int .u16 d3,.int .u16 sg,.int .u16 db])] s0 fun v _=>some v
theorem agM(p:aj)(k l s d0 d1 d2 d3 sg db:Int):rA9 p 0 k l s d0 d1 d2 d3 sg db=some (.aF [.ints .u8 (t54 (aB bA 0 (t54 (vy (aB bA 0 (t54 p)) 0 (BT ⟨k,l,s,d0,d1,d2,d3,sg,db⟩))))) 54,.c (.int .i64 0)]):=by kernel_rfl
theorem afn(p:aj)(k l s d0 d1 d2 d3 sg db:Int):rA9 p 1 k l s d0 d1 d2 d3 sg db=some (.aF [.ints .u8 (t54 (aB bA 0 (t54 (vy (aB bA 0 (t54 p)) 18 (BT ⟨k,l,s,d0,d1,d2,d3,sg,db⟩))))) 54,.c (.int .i64 0)]):=by kernel_rfl
theorem agl(p:aj)(k l s d0 d1 d2 d3 sg db:Int):rA9 p 2 k l s d0 d1 d2 d3 sg db=some (.aF [.ints .u8 (t54 (aB bA 0 (t54 (vy (aB bA 0 (t54 p)) 36 (BT ⟨k,l,s,d0,d1,d2,d3,sg,db⟩))))) 54,.c (.int .i64 0)]):=by kernel_rfl
theorem Cv: ∀(e p:aj) (o:Nat),o+e.length<=p.length->vy p o e=aB p o e
 | [],p,o,h=>by unfold vy aB;simp
 |x::e,p,o,h=>by
  simp only[List.length_cons]at h;unfold vy;rw[Cv e (p.set o x) (o+1) (by simp;omega)]
  unfold aB;apply List.ext_getElem?;intro i;have hL:o<p.length:=by omega
  simp only[List.length_cons];rcases Nat.lt_trichotomy i o with hi|rfl|hi
  ·rw[List.append_assoc,List.append_assoc,List.getElem?_append_left (by simp;omega),List.getElem?_append_left (by simp;omega),List.getElem?_take_of_lt (by omega),List.getElem?_take_of_lt hi,List.getElem?_set_ne (by omega)]
  ·rw[List.append_assoc,List.append_assoc,List.getElem?_append_left (by simp;omega),List.getElem?_append_right (by simp;omega),List.getElem?_take_of_lt (by omega),List.getElem?_set_self (by omega)]
   simp[Nat.min_eq_left (show i<=p.length by omega)]
  ·obtain⟨j,rfl⟩: ∃j,i=o+1+j:=⟨i - (o+1),by omega⟩
   have A:(List.take (o+1) (p.set o x)++(e++List.drop (o+1+e.length) (p.set o x)))[o+1+j]? =(e++List.drop (o+1+e.length) (p.set o x))[j]? :=by
    have hl:(List.take (o+1) (p.set o x)).length=o+1:=by rw[List.length_take,List.length_set];omega
    rw[List.getElem?_append_right (by rw[hl];omega),hl]
    congr 1;omega
   have B:(List.take o p++(x::e++List.drop (o+(e.length+1)) p))[o+1+j]? =(e++List.drop (o+(e.length+1)) p)[j]? :=by
    have hl:(List.take o p).length=o:=by rw[List.length_take];omega
    rw[List.getElem?_append_right (by rw[hl];omega),hl,show o+1+j - o=j+1 by omega]
    rfl
   rw[List.append_assoc,List.append_assoc,A,B];rcases Nat.lt_or_ge j e.length with hj|hj
   ·rw[List.getElem?_append_left hj,List.getElem?_append_left hj]
   ·rw[List.getElem?_append_right hj,List.getElem?_append_right hj,List.getElem?_drop,List.getElem?_drop,List.getElem?_set_ne (by omega)]
    congr 1;omega
theorem Kl{x:Int}(h:0<=x):u8.wrap (x.tmod 256)=lo x:=by
 show _=u8.wrap x;rw[kW h,wrap_u8,wrap_u8];omega
theorem Bn{x:Int}(h:Fi.bh x):u8.wrap (u16.wrap (x.tdiv 256))=hi x:=by
 show _=u8.wrap (x.fdiv 256);rw[kO h.1,pw (by decide),wrap_u16,wrap_u8,wrap_u8];have:=h.2;have:=h.1;omega
theorem Yv{y:Fi.bD}(h:gW y):BT y=eP y:=by
 have s0:u8.wrap (y.s.tmod 256)=u8.wrap (y.s.fdiv 1):=by
  rw[kW h.s.1,pw (by decide),wrap_u8,wrap_u8];omega
 have s1:u8.wrap ((u32.wrap (y.s.tdiv 256)).tmod 256)=hi y.s:=by
  have h1:=h.s.1;have h2:=h.s.2;show _=u8.wrap (y.s.fdiv 256);rw[kO h1,pw (by decide),wrap_u32,kW (by omega),wrap_u8,wrap_u8];omega
 have s2:u8.wrap ((u32.wrap (y.s.tdiv 65536)).tmod 256)=u8.wrap (y.s.fdiv 65536):=by
  have h1:=h.s.1;have h2:=h.s.2;rw[kO h1,pw (by decide),wrap_u32,kW (by omega),wrap_u8,wrap_u8];omega
 have s3:u8.wrap (u32.wrap (y.s.tdiv 16777216))=u8.wrap (y.s.fdiv 16777216):=by
  have h1:=h.s.1;have h2:=h.s.2;rw[kO h1,pw (by decide),wrap_u32,wrap_u8,wrap_u8];omega
 unfold BT eP;rw[s0,s1,s2,s3,Kl h.d0.1,Kl h.d1.1,Kl h.d2.1,Kl h.d3.1,Kl h.sg.1,Kl h.db.1,Bn h.d0,Bn h.d1,Bn h.d2,Bn h.d3,Bn h.sg,Bn h.db]
def VF(args:List RV):Option (RV×List Prop):=match args with
 | [.one (.ints .u8 p 54),.one (.c (.int .i64 n)),.one (.agg [.int .u8 k,.int .u8 l,.int .u32 s,.int .u16 d0,.int .u16 d1,.int .u16 d2,.int .u16 d3,.int .u16 sg,.int .u16 db])]=>some (.aF [.ints .u8 (aB p (18*n.toNat) (eP ⟨k,l,s,d0,d1,d2,d3,sg,db⟩)) 54,.c (.int .i64 0)],[0<=n/\n<=2,gW ⟨k,l,s,d0,d1,d2,d3,sg,db⟩])
 |_=>none
theorem Zn:cg prog 90 VF:=by
 intro args v ps h hp ρ w vs ha;unfold VF at h;split at h<;>try(cases h;done)
 rename_i p n k l s d0 d1 d2 d3 sg db;simp only[ae,af]at h;obtain⟨rfl,rfl⟩:=h;obtain⟨⟨h0,h1⟩,hI,_⟩:=hp;have hpl:p.length=54:=by obtain⟨_,_,h,_⟩:=ha;exact h.1
 have e: ∀o,o<=36->t54 (aB bA 0 (t54 (vy (aB bA 0 (t54 p)) o (BT ⟨k,l,s,d0,d1,d2,d3,sg,db⟩))))=aB p o (eP ⟨k,l,s,d0,d1,d2,d3,sg,db⟩):=fun o ho=>by
  have hl:=td hpl (oB ⟨k,l,s,d0,d1,d2,d3,sg,db⟩) ho;rw[show t54 p=p from aJ hpl,ck hpl,Yv hI,Cv _ _ _ (by rw[oB,hpl];omega)]
  rw[show t54 (aB p o (eP ⟨k,l,s,d0,d1,d2,d3,sg,db⟩))=_ from aJ hl,ck hl,show t54 (aB p o (eP ⟨k,l,s,d0,d1,d2,d3,sg,db⟩))=_ from aJ hl]
 rcases (show n=0\/n=1\/n=2 by omega)with rfl|rfl|rfl
 ·rw[show 18*Int.toNat 0=0 from rfl]
  have hr:=agM p k l s d0 d1 d2 d3 sg db;rw[e 0 (by omega)]at hr
  exact pure_run eM (by rfl) (by rfl) hr ρ w vs ha
 ·rw[show 18*Int.toNat 1=18 from rfl]
  have hr:=afn p k l s d0 d1 d2 d3 sg db;rw[e 18 (by omega)]at hr
  exact pure_run eM (by rfl) (by rfl) hr ρ w vs ha
 ·rw[show 18*Int.toNat 2=36 from rfl]
  have hr:=agl p k l s d0 d1 d2 d3 sg db;rw[e 36 (by omega)]at hr
  exact pure_run eM (by rfl) (by rfl) hr ρ w vs ha
def VB:FuncId->Option bg:=fun f=>match f with| 52=>some (aL nE)| 85=>some (lN GO)| 88=>some (aL TH)|_=>none
theorem aeM:Fit prog (fun f=>(VB f).map bj):=⟨bM,aV,aI.sum fun f sm h=>by
 unfold VB at h;split at h
 ·cases h;exact Ah.sum ⟨_,func52,rfl⟩
 ·cases h;exact Dp
 ·cases h;exact YJ.sum ⟨_,func88,rfl⟩
 ·cases h⟩
def r22(t0:TypeId)(op:Option Nat)(t1:TypeId)(a b c:Int)(L:aj)(N n:Nat)(sc al:Int)(m1 m2:Nat)(i:Int)(Q:RV->Prop):ai:=cO prog VB 300 22 [.one (.c (.ptr 0 0)),.one (.c (.int .i64 i))] ⟨.nil,A8 t0 op t1 a b c L N n sc al m1 m2,3,[]⟩ aO fun v _ Z=>some (aw Z.ob/\Q v)
def TA:FuncId->Option bg:=fun f=>match f with| 52=>some (aL nE)| 85=>some (lN GO)| 90=>some (aL VF)| 81=>some Gm|_=>none
theorem ac5:Fit prog (fun f=>(TA f).map bj):=⟨bM,aV,aI.sum fun f sm h=>by
 unfold TA at h;split at h
 ·cases h;exact Ah.sum ⟨_,func52,rfl⟩
 ·cases h;exact Dp
 ·cases h;exact Zn.sum ⟨_,func90,rfl⟩
 ·cases h;exact CK
 ·cases h⟩
end Go.Sx
