import Derived.Test.YtfceckiklfkjkaaGreatS04
noncomputable section
namespace Go.Sx
variable{P:Program}{ρ:aM}{w:World}{hp:Hp}{nx:Nat}
section ops
variable{ev:Ev}{va:Operand->Value}{r:br}(hr:bu ρ hp w)(hf:bW ρ nx)
include hr hf
theorem NC{t:TypeId}{x:Operand}{f:Nat}(h:AO P ev t x f=some r)(hx:dx ρ ev va x):bw P ρ hp nx w (Instr.field t (va x) f) r:=by
 unfold AO at h;split at h<;>try(cases h;done)
 rename_i v hv;split at h<;>try(cases h;done)
 rename_i fs hu;split at h<;>try(cases h;done)
 rename_i fd hfd;split at h<;>try(cases h;done)
 rename_i k hk;split at h<;>try(cases h;done)
 rename_i hag;obtain⟨u,hu',hq⟩:=qX h;have e:bY ρ v (va x):=hx _ hv;obtain⟨cs,e1,e2⟩:=e.agg hag;obtain⟨_,c2,_⟩:=e.cells;rw[e2]at c2;obtain⟨V,p1,p2⟩:=zg (P:=P) (w:=w) hk hu' (cs:=cs) c2;refine bw.quiet hr hf hq (V:=V) ?_ p1;simp[Instr.field,run_underlying hu,hfd,e1,asAgg,p2]
theorem Ng{t:TypeId}{x i:Operand}(h:oh P ev t x i=some r)(hx:dx ρ ev va x)(hi:dx ρ ev va i):bw P ρ hp nx w (Instr.index t (va x) (va i)) r:=by
 unfold oh at h;split at h<;>try(cases h;done)
 rename_i k z hz;have ez:=hi _ hz;simp only[bE,bY,CR]at ez;split at h<;>try(cases h;done)
 rename_i v hv;split at h<;>try(cases h;done)
 rotate_left
 ·rename_i hu;unfold DD at h;split at h<;>try(cases h;done)
  rename_i st;split at h<;>try(cases h;done)
  rename_i j hj;obtain⟨rfl,aA⟩:=ra hj;split at h<;>try(cases h;done)
  rename_i b hb;have e:va x= .string st:=hx _ hv;refine bw.quiet hr hf h (V:= .int .u8 b.toNat) ?_ rfl;simp[Instr.index,run_underlying hu,ez,asIntOf,e,hb]
 rename_i len e hu;split at h<;>try(cases h;done)
 rename_i ti hti;split at h<;>try(cases h;done)
 rename_i k' hk;split at h<;>try(cases h;done)
 rename_i j hj;split at h<;>try(cases h;done)
 rename_i hag;obtain⟨rfl,aA⟩:=ra hj;obtain⟨u,hu',hq⟩:=qX h;have e:bY ρ v (va x):=hx _ hv;obtain⟨cs,e1,e2⟩:=e.agg hag;have c2:=NB e;rw[e2]at c2;obtain⟨V,p1,p2⟩:=zg (P:=P) (w:=w) hk hu' (cs:=cs) c2;refine bw.quiet hr hf hq (V:=V) ?_ p1;simp[Instr.index,run_underlying hu,ez,asIntOf,e1,aA,cZ hti,p2]
omit hr hf in
theorem eA.get: ∀ {l:List AV} {vs:List Value},eA ρ l vs->∀ {i:Nat} {c:AV},l[i]? =some c->∃v,vs[i]? =some v/\bY ρ c v
 | [],_,_,_,_,hc=>by simp at hc
 |_::_,_,⟨v,vs',h1,h2,h3⟩,i,c,hc=>by
  subst h3;cases i with
  |zero=>simp at hc;subst hc;exact⟨v,rfl,h1⟩
  |succ i=>simp at hc;obtain⟨u,hu,hr⟩:=h2.get hc;exact⟨u,by simpa using hu,hr⟩
theorem GF{x:Operand}{i:Nat}(h:tQ ev x i=some r)(hx:dx ρ ev va x):bw P ρ hp nx w (Instr.extract (va x) i) r:=by
 unfold tQ at h;split at h<;>try(cases h;done)
 rename_i l hl;split at h<;>try(cases h;done)
 rename_i v hv;simp only[ae]at h;subst h;obtain⟨vs,e1,e2⟩:=hx _ hl;obtain⟨V,e3,e4⟩:=e1.get hv;refine bw.q hr hf (V:=V) ?_ e4;simp[Instr.extract,e2,e3]
omit hr hf in
theorem yH: ∀ {l:List (Nat×Operand)} {vs:List (Nat×RV)},Js ev l=some vs->(∀x∈l,dx ρ ev va x.2)->
  ∀(place:Nat->Option (Nat×Nat)) (pl:Nat->Option (Nat×Nat)) (b b':Body) (cs:Array Value),(∀i a,place i=some a->pl i=some a)->da ρ b cs.toList->pW place b vs=some b'->
   ∃cs',Instr.fill pl cs (l.map fun x=>(x.1,va x.2))=some cs'/\da ρ b' cs'.toList/\cs'.size=cs.size
 | [],vs,h,_,place,pl,b,b',cs,_,hb,hf=>by
  simp[Js]at h;subst h;simp only[pW,ae]at hf;subst hf;exact⟨cs,rfl,hb,rfl⟩
 |(i,x)::l,vs,h,hx,place,pl,b,b',cs,hp,hb,hf=>by
  simp only[Js]at h;split at h<;>try(cases h;done)
  rename_i v vs' h1 h2;simp only[ae]at h;subst h;cases v with
  |aF l'=>simp[pW]at hf
  |any=>simp[pW]at hf
  |one v=>
   simp only[pW]at hf;split at hf<;>try(cases hf;done)
   rename_i off size hpl;split at hf<;>try(cases hf;done)
   rename_i hsz;split at hf<;>try(cases hf;done)
   rename_i b2 hset;have e:bY ρ v (va x):=hx (i,x) (by simp) _ h1
   obtain⟨k1,k2⟩:=Body.bR hset hb e;obtain⟨_,_,c3⟩:=e.cells;have ef:((va x).cells.zipIdx.foldl (fun cs (c,j)=>cs.setIfInBounds (off+j) c) cs).toList=aB cs.toList off (va x).cells.toList:=by
    have gen: ∀(us:List Value) (j:Nat) (cs:Array Value),off+j+us.length<=cs.size->((us.zipIdx j).foldl (fun cs x=>cs.setIfInBounds (off+x.2) x.1) cs).toList=aB cs.toList (off+j) us:=by
     intro us
     induction us with
     |nil=>intro j cs _;simp[aB]
     |cons u us ih=>
      intro j cs hl;have hl':off+j+us.length+1<=cs.size:=by simpa[Nat.add_assoc]using hl
      simp only[List.zipIdx_cons,List.foldl_cons];rw[ih (j+1) (cs.setIfInBounds (off+j) u) (by simp;omega)]
      have e:=list_seg_step cs.toList (off+j) u us (by simp;omega)
      simp only[aB,Array.toList_setIfInBounds,List.length_cons];simpa[Nat.add_assoc,Nat.add_comm 1]using e
    have:=gen (va x).cells.toList 0 cs (by simpa using k1)
    rw[<-Array.foldl_toList,Array.toList_zipIdx];simpa using this
   have hb2:da ρ b2 ((va x).cells.zipIdx.foldl (fun cs (c,j)=>cs.setIfInBounds (off+j) c) cs).toList:=by rw[ef];exact k2
   obtain⟨cs',q1,q2,q3⟩:=yH h2 (fun y hy=>hx y (List.mem_cons_of_mem _ hy)) place pl b2 b' _ hp hb2 hf
   refine⟨cs',?_,q2,?_⟩
   ·simp only[List.map_cons,Instr.fill,hp _ _ hpl];rw[if_neg]
    ·exact q1
    ·simp only[Array.length_toList]at k1;simp only[ne_eq,Bool.or_eq_true,decide_eq_true_eq];omega
   ·rw[q3];have:=congrArg List.length ef;rw[ja _ _ _ k1]at this;simpa using this
omit hr hf in
theorem DX{Z β:Type}(f:Z->Sem β)(g:Z->β)(w:World): ∀(l:List Z),(∀x∈l,(f x).run P w= .ok (g x) w)->(l.mapM f).run P w= .ok (l.map g) w
 | [],_=>rfl
 |x::l,h=>by
  simp only[List.mapM_cons,Sem.run_bind,h x (by simp),Result.andThen_ok,DX f g w l fun y hy=>h y (List.mem_cons_of_mem _ hy)]
  rfl
theorem MX{t:TypeId}{ps:Array (Nat×Operand)}(h:AR P ev t ps=some r)(hx: ∀x∈ps.toList,dx ρ ev va x.2):
  bw P ρ hp nx w (Instr.build t (ps.map fun(i,x)=>(i,va x))) r:=by
 unfold AR at h;split at h<;>try(cases h;done)
 rename_i k hk;split at h<;>try(cases h;done)
 rename_i z hz;split at h<;>try(cases h;done)
 rename_i hfo;split at h<;>try(cases h;done)
 rename_i l hl;split at h<;>try(cases h;done)
 rename_i b hb;obtain⟨v,hv,hq⟩:=qX h;obtain⟨zv,z1,z2⟩:=gG (w:=w) (ρ:=ρ) hz;obtain⟨c1,_,_⟩:=z2.cells;have fin: ∀cs':Array Value,da ρ b cs'.toList->bY ρ v (.agg cs'):=by
  intro cs' hb';unfold Body.abS at hv;split at hv
  ·split at hv<;>try(cases hv;done)
   ·split at hv<;>try(cases hv;done)
    rename_i l' hl';split at hv<;>try(cases hv;done)
    rename_i hn;simp only[ae]at hv;subst hv;obtain⟨e1,e2⟩:=nj hl' hb';exact⟨hn,by rw[<-e1]⟩
   ·simp only[ae]at hv;subst hv;exact⟨_,hb',by simp⟩
  ·split at hv<;>try(cases hv;done)
   simp only[ae]at hv;subst hv;obtain⟨e1,e2⟩:=hb';exact⟨e1,by rw[<-e2]⟩
  ·cases hv
 have hargs:(ps.map fun(i,x)=>(i,va x)).toList=ps.toList.map fun x=>(x.1,va x.2):=by simp
 unfold Eh at hfo;split at hfo
 ·rename_i fs hu;have hall: ∀f∈fs.toList,∃i,P.info? f.type=some i:=by
   intro f hf';have:=List.all_eq_true.1 hfo f hf';exact Option.isSome_iff_exists.1 this
  have hm:(fs.mapM fun f=>do pure (f.offset, <-sizeOf f.type):Sem (Array (Nat×Nat))).run P w= .ok (fs.toList.map fun f=>(f.offset,P.cellsOf f.type)).toArray w:=by
   rw[Array.mapM_eq_mapM_toList];simp only[Sem.run_map];rw[DX (P:=P) _ (fun f:Field=>(f.offset,P.cellsOf f.type)) w fs.toList]
   ·rfl
   ·intro f hf';obtain⟨i,hi⟩:=hall f hf';simp[cZ hi,Program.cellsOf,hi]
  obtain⟨cs',q1,q2,q3⟩:=yH hl hx (place P t) (fun i=>(fs.toList.map fun f=>(f.offset,P.cellsOf f.type)).toArray[i]?) z.body b zv.cells (by
   intro i a ha;unfold place at ha;rw[hu]at ha;simp only at ha;split at ha<;>try(cases ha;done)
   rename_i f hf';split at ha<;>try(cases ha;done)
   rename_i ti hti;simp only[ae]at ha;subst ha;have hf2:fs.toList[i]? =some f:=by simpa using hf'
   simp[hf',Program.cellsOf,hti]) c1 hb
  refine bw.quiet hr hf hq (V:= .agg cs') ?_ (fin cs' q2);simp only[Instr.build,Sem.run_bind,z1,Result.andThen_ok,run_underlying hu,hm,hargs,q1]
  rfl
 ·rename_i len e hu;obtain⟨i,hi⟩:=Option.isSome_iff_exists.1 hfo;obtain⟨cs',q1,q2,q3⟩:=yH hl hx (place P t) (fun j=>some (j*i.size,i.size)) z.body b zv.cells (by
   intro j a ha;unfold place at ha;rw[hu]at ha;simp only[hi]at ha;exact ha) c1 hb
  refine bw.quiet hr hf hq (V:= .agg cs') ?_ (fin cs' q2);simp only[Instr.build,Sem.run_bind,z1,Result.andThen_ok,run_underlying hu,cZ hi,hargs,q1]
  rfl
 ·cases hfo
end ops
end Go.Sx
