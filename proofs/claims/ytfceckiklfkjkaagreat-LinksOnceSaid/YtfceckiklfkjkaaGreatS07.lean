import Derived.Test.YtfceckiklfkjkaaGreatS06
import Derived.Laws.AppendOwn
noncomputable section
namespace Go.Sx
variable{P:Program}{ρ:aM}{w:World}{hp:Hp}{nx:Nat}
theorem bu.sub {hp':Hp}(hr:bu ρ hp w)(h: ∀i x,hp' i=some x->hp i=some x):bu ρ hp' w:=
 ⟨fun nm x hx=>hr.ok nm x (h _ _ hx),fun nm nm' x y b c c' hx hy hw h1 h2=>hr.inj nm nm' x y b c c' (h _ _ hx) (h _ _ hy) hw h1 h2,fun b l hb=>⟨(hr.fz b l hb).1,fun nm x c hx=>(hr.fz b l hb).2 nm x c (h _ _ hx)⟩⟩
theorem EG{nm:Nat}: ∀i x,mS hp nm none i=some x->hp i=some x:=by
 intro i x h;by_cases e:i=nm
 ·subst e;rw[kF]at h;cases h
 ·rwa [cu _ _ e]at h
theorem bu.aeD {w':World}{nm c:Nat}{x y:ax}{o:Obj}{v:RV}{V:Value}(hr:bu ρ hp w)(hf:bW ρ nx)(hx:hp nm=some x)(hw:x.wr=true)
  (ho:cD (ext ρ nx w.heap.size c) c y o) (hW:Uf w o w') (hv:bE (ext ρ nx w.heap.size c) v V):Out ρ hp nx w (.mv nm y) v V (ext ρ nx w.heap.size c) w':=by
 have h:=(hr.sub (hp':=mS hp nm none) EG).pb hf ho hW hv;refine⟨h.val,h.rel,h.fresh,?_⟩;have s:=h.ff;constructor
 ·exact s.le
 ·exact s.rho
 ·intro i hi hL;have hL:i≠nm:=by simpa[cf.log]using hL
  rw[show(cf.mv nm y).hp hp nx=(cf.new y).hp (mS hp nm none) nx from rfl,s.aH i hi (by simp[cf.log]),cu _ _ hL]
 ·exact s.size
 ·exact fun b hb _=>s.frame b hb (by simp[cf.log])
 ·intro i b' c' hi he;rcases s.new i b' c' hi he with h'|⟨_,_,hm,_⟩
  ·exact .inl h'
  ·simp[cf.log]at hm
 ·intro i hi _;simp only[cf.log,List.mem_singleton]at hi;subst hi;exact⟨x,hx,hw⟩
 ·exact s.os
 ·exact s.tape
 ·exact s.al
 ·exact s.je
 ·exact fun _ _ h=> .inl h
theorem bu.agV {w':World}{nm b c:Nat}{x y:ax}{o:Obj}{v:RV}{V:Value}(hr:bu ρ hp w)(hf:bW ρ nx)
  (hx:hp nm=some x) (hw:x.wr=true) (hb:ρ nm=some (b,c)) (ho:cD (ext ρ nx b c) c y o) (hW:Jq w b o w') (hv:bE (ext ρ nx b c) v V):
  Out ρ hp nx w (.mv nm y) v V (ext ρ nx b c) w':=by
 have hnm:nm<nx:=by
  rcases Nat.lt_or_ge nm nx with h|h
  ·exact h
  ·rw[hf nm h]at hb;cases hb
 have old: ∀i b' c',i≠nx->ext ρ nx b c i=some (b',c')->ρ i=some (b',c'):=by
  intro i b' c' h e;simpa[ext,h]using e
 have get: ∀i z,i≠nx->(cf.mv nm y).hp hp nx i=some z->i≠nm/\hp i=some z:=by
  intro i z h e;simp only[cf.hp,cu _ _ h]at e;by_cases e':i=nm
  ·subst e';rw[kF]at e;cases e
  ·exact⟨e',by rwa [cu _ _ e']at e⟩
 constructor
 ·exact hv
 ·constructor
  ·intro i z hz;by_cases h:i=nx
   ·subst h;simp only[cf.hp,kF,ae]at hz;subst hz;exact⟨b,c,o,by simp[ext],hW.at_,ho⟩
   ·obtain⟨h1,h2⟩:=get i z h hz;obtain⟨b',c',o',g1,g2,g3⟩:=hr.ok i z h2;refine⟨b',c',o',by simp[ext,h,g1],?_,g3.mono (fW hf _ _)⟩
    rw[hW.other b' fun e=> ?_,g2]
    subst e;exact h1 (hr.inj nm i x z _ _ _ hx h2 hw hb g1).symm
  ·intro i j p q b1 c1 c2 hp1 hq1 hpw h1 h2;by_cases hi:i=nx<;>by_cases hj:j=nx
   ·rw[hi,hj]
   ·subst hi;obtain⟨k1,k2⟩:=get j q hj hq1;simp[ext]at h1;have:=old j _ _ hj h2;rw[<-h1.1]at this;exact absurd (hr.inj nm j x q _ _ _ hx k2 hw hb this).symm k1
   ·subst hj;obtain⟨k1,k2⟩:=get i p hi hp1;simp[ext]at h2;have:=old i _ _ hi h1;rw[<-h2.1]at this;exact absurd (hr.inj nm i x p _ _ _ hx k2 hw hb this).symm k1
   ·obtain⟨k1,k2⟩:=get i p hi hp1;obtain⟨k3,k4⟩:=get j q hj hq1;exact hr.inj _ _ _ _ _ _ _ k2 k4 hpw (old i _ _ hi h1) (old j _ _ hj h2)
  ·refine hr.fz.of (fun _ _ h=>h) (fun b' l h=>hW.other b' (hr.T0 hx hw hb h)) fun i z b' c' hz hzw he=> .inl ?_
   by_cases h:i=nx
   ·subst h;simp[ext]at he;exact⟨nm,x,c,hx,hw,by rw[hb,he.1]⟩
   ·obtain⟨_,k2⟩:=get i z h hz;exact⟨i,z,c',k2,hzw,old i _ _ h he⟩
 ·intro i hi;simp only[cf.nx]at hi;have:i≠nx:=by omega
  simp[ext,this,hf i (by omega)]
 ·constructor
  ·simp[cf.nx]
  ·intro i hi;have:i≠nx:=by omega
   simp[ext,this]
  ·intro i hi hL;have hL:i≠nm:=by simpa[cf.log]using hL
   have:i≠nx:=by omega
   simp[cf.hp,cu _ _ this,cu _ _ hL]
  ·rw[hW.size];exact Nat.le_refl _
  ·intro i hi hL;refine hW.other i fun e=> ?_
   subst e;exact hL nm c (by simp[cf.log]) hnm hb
  ·intro i b' c' hi he;by_cases h:i=nx
   ·subst h;simp[ext]at he;exact .inr ⟨nm,c,by simp[cf.log],hnm,by rw[hb,he.1]⟩
   ·have he:=old i _ _ h he;rw[hf i hi]at he;cases he
  ·intro i hi _;simp only[cf.log,List.mem_singleton]at hi;subst hi;exact⟨x,hx,hw⟩
  ·exact hW.os
  ·exact hW.tape
  ·exact hW.al
  ·exact fun _ _ h=>h
  ·exact fun _ _ h=> .inl h
theorem Body.DV {b b':Body}{off n:Nat}(h:b.cut off n=some b'){vs:List Value}(hb:da ρ b vs):off+n<=vs.length/\da ρ b' ((vs.drop off).take n):=by
 have hl:=hb.length;cases b with
 |cells l=>
  simp only[Body.cut]at h;split at h<;>try(cases h;done)
  simp only[ae]at h;subst h;exact⟨by simp[Body.size]at hl;omega,(bt.drop hb off).take n⟩
 |ints k l m=>
  simp only[Body.cut]at h;split at h<;>try(cases h;done)
  obtain⟨h1,rfl⟩:=hb;simp only[ae]at h;subst h;exact⟨by simp;omega,by simp;omega,by simp[List.map_take,List.map_drop]⟩
 |aT l m=>
  simp only[Body.cut]at h;split at h<;>try(cases h;done)
  obtain⟨h1,rfl⟩:=hb;simp only[ae]at h;subst h;exact⟨by simp;omega,by simp;omega,by simp[List.map_take,List.map_drop]⟩
theorem Body.E6 {b b' x:Body}{off:Nat}(h:b.put off x=some b'){vs us:List Value}(hb:da ρ b vs)(hx:da ρ x us):off+us.length<=vs.length/\da ρ b' (aB vs off us):=by
 have hl:=hb.length;cases b with
 |cells l=>
  cases x with
  |cells x=>
   simp only[Body.put]at h;split at h<;>try(cases h;done)
   simp only[ae]at h;subst h;have:=bt.length hx;exact⟨by simp[Body.size]at hl;omega,bt.aB hb hx off⟩
  |ints k x m=>
   simp only[Body.put]at h;split at h<;>try(cases h;done)
   obtain⟨h1,rfl⟩:=hx;simp only[ae]at h;subst h;exact⟨by simp[Body.size]at hl ⊢;omega,bt.aB hb (bt.ints k x) off⟩
  |aT x m=>
   simp only[Body.put]at h;split at h<;>try(cases h;done)
   obtain⟨h1,rfl⟩:=hx;simp only[ae]at h;subst h;exact⟨by simp[Body.size]at hl ⊢;omega,bt.aB hb (bt.aT x) off⟩
 |aT l n=>
  cases x with
  |ints=>simp[Body.put]at h
  |cells x=>
   simp only[Body.put]at h;split at h<;>try(cases h;done)
   rename_i y hy;split at h<;>try(cases h;done)
   obtain⟨h1,rfl⟩:=hb;obtain⟨h2,h3⟩:=si hy hx;subst h2;simp only[ae]at h;subst h;refine⟨by simp;omega,?_,?_⟩
   ·rw[ja _ _ _ (by omega)];exact h1
   ·simp[aB,List.map_append,List.map_take,List.map_drop]
  |aT x m=>
   simp only[Body.put]at h;split at h<;>try(cases h;done)
   obtain⟨h1,rfl⟩:=hb;obtain⟨h2,rfl⟩:=hx;simp only[ae]at h;subst h;refine⟨by simp;omega,?_,?_⟩
   ·rw[ja _ _ _ (by omega)];exact h1
   ·simp[aB,List.map_append,List.map_take,List.map_drop]
 |ints k l n=>
  cases x with
  |cells x=>simp[Body.put]at h
  |aT=>simp[Body.put]at h
  |ints k' x m=>
   simp only[Body.put]at h;split at h<;>try(cases h;done)
   rename_i hc;obtain⟨rfl,hc⟩:=hc;obtain⟨h1,rfl⟩:=hb;obtain⟨h2,rfl⟩:=hx;simp only[ae]at h;subst h;refine⟨by simp;omega,?_,?_⟩
   ·rw[ja _ _ _ (by omega)];exact h1
   ·simp[aB,List.map_append,List.map_take,List.map_drop]
theorem Body.PH {b b' x:Body}(h:b.cat x=some b'){vs us:List Value}(hb:da ρ b vs)(hx:da ρ x us):da ρ b' (vs++us):=by
 cases b with
 |cells l=>
  cases x with
  |cells x=>
   simp only[Body.cat,ae]at h;subst h;exact bt.append hb hx
  |ints k x m=>
   obtain⟨h1,rfl⟩:=hx;simp only[Body.cat,ae]at h;subst h;exact bt.append hb (bt.ints k x)
  |aT x m=>
   obtain⟨h1,rfl⟩:=hx;simp only[Body.cat,ae]at h;subst h;exact bt.append hb (bt.aT x)
 |aT l n=>
  cases x with
  |ints=>simp[Body.cat]at h
  |cells x=>
   simp only[Body.cat]at h;split at h<;>try(cases h;done)
   rename_i y hy;obtain⟨h1,rfl⟩:=hb;obtain⟨h2,h3⟩:=si hy hx;subst h2;simp only[ae]at h;subst h;exact⟨by simp[h1,h3],by simp⟩
  |aT x m=>
   obtain⟨h1,rfl⟩:=hb;obtain⟨h2,rfl⟩:=hx;simp only[Body.cat,ae]at h;subst h;exact⟨by simp[h1,h2],by simp⟩
 |ints k l n=>
  cases x with
  |cells x=>simp[Body.cat]at h
  |aT=>simp[Body.cat]at h
  |ints k' x m=>
   simp only[Body.cat]at h;split at h<;>try(cases h;done)
   rename_i hk;subst hk;obtain⟨h1,rfl⟩:=hb;obtain⟨h2,rfl⟩:=hx;simp only[ae]at h;subst h;exact⟨by simp[h1,h2],by simp⟩
theorem da.one {b:Body}{vs:List Value}(h:da ρ b vs): ∀v∈vs,v.oneCell'=true:=by
 cases b with
 |cells l=>exact bt.one h
 |ints k l n=>obtain⟨_,rfl⟩:=h;exact bt.one (bt.ints (ρ:=ρ) k l)
 |aT l n=>obtain⟨_,rfl⟩:=h;exact bt.one (bt.aT (ρ:=ρ) l)
theorem kA{x:Cell}{s nm off len:Nat}(h:dn x s=some (some (nm,off,len))){X:Value}(hx:CR ρ x X):
  ∃b c cap,ρ nm=some (b,c)/\X= .slice (some ⟨b,off,none⟩) len cap:=by
 unfold dn at h;split at h<;>try(cases h;done)
 ·simp only[ae,af]at h;obtain⟨rfl,rfl,rfl⟩:=h;obtain⟨b,c,e1,e2⟩:=hx;exact⟨b,c,_,e1,e2⟩
 ·split at h
  rotate_left
  ·split at h<;>cases h
  rename_i hs;obtain⟨hs,hl0⟩:=hs;subst hs;simp only[ae,af]at h;obtain⟨rfl,rfl,rfl⟩:=h;obtain⟨b,c,ao,e1,e0,e3,e2⟩:=hx;obtain rfl:=e3.resolve_right (by omega)
  exact⟨b,c,_,e1,e2⟩
theorem mg{x:Cell}{s:Nat}(h:dn x s=some none){X:Value}(hx:CR ρ x X):X= .slice none 0 0\/∃A cap,X= .slice (some A) 0 cap:=by
 unfold dn at h;split at h<;>try(cases h;done)
 ·exact .inl hx
 ·split at h
  ·cases h
  ·split at h<;>try(cases h;done)
   rename_i h0;obtain⟨b,c,ao,e1,e0,e3,e2⟩:=hx;subst h0;exact .inr ⟨_,_,e2⟩
theorem nY{x:Cell}{s:Nat}{n:Option Nat}{from_:Option Nat}{m:Nat}{bd:Option Body}(hr:bu ρ hp w)(h:fB hp s n x=some (from_,m,bd)){X:Value}(hx:CR ρ x X):
  ∃l us,(∀w':World,(Builtin.lenOf X).run P w'= .ok l w')/\m=eQ n l/\(∀w':World,w'.heap=w.heap->(Builtin.firstCells s m X).run P w'= .ok us.toArray w')/\us.length=m*s/\∀b,bd=some b->da ρ b us:=by
 unfold fB at h;split at h
 ·rename_i st;simp only[CR]at hx;subst hx;split at h<;>try(cases h;done)
  rename_i hs1;subst hs1;simp only[ae,af]at h;obtain⟨_,hm,hb⟩:=h;have hle:m<=st.size:=by rw[<-hm];cases n<;>simp[eQ];omega
  have hsz:st.data.size=st.size:=rfl;refine⟨st.size,((st.data.toList.map fun x=>(x.toNat:Int)).take m).map (Value.int .u8),fun _=>by simp[Builtin.lenOf],hm.symm,fun w' _=> ?_,?_,?_⟩
  ·simp only[Builtin.firstCells,Sem.run_pure];congr 1;apply Array.toList_inj.1;simp[List.map_take,ByteArray.data_extract]
   rfl
  ·simp;omega
  ·intro b hb';rw[<-hb]at hb';simp only[ae]at hb';subst hb';rw[hm];exact⟨by simp;omega,rfl⟩
 ·split at h<;>try(cases h;done)
  ·rename_i hs;simp only[ae,af]at h;obtain⟨_,rfl,rfl⟩:=h;rcases mg hs hx with rfl|⟨A,cap,rfl⟩
   ·exact⟨0,[],fun _=>by simp[Builtin.lenOf],by cases n<;>simp[eQ],fun _ _=>by simp[Builtin.firstCells],by simp,by simp⟩
   ·exact⟨0,[],fun _=>by simp[Builtin.lenOf],by cases n<;>simp[eQ],fun _ _=>by simp[Builtin.firstCells,loadCells,loadCellsFrom],by simp,by simp⟩
  ·rename_i nm off len hs;obtain⟨b,c,cap,e1,rfl⟩:=kA hs hx;split at h<;>try(cases h;done)
   rename_i b2 hrw;simp only[ae,af]at h;obtain⟨_,hm,rfl⟩:=h;unfold iJ at hrw;split at hrw<;>try(cases hrw;done)
   rotate_left
   ·rename_i o' k' l' hwin;split at hrw<;>try(cases hrw;done)
    rename_i hle;simp only[ae]at hrw;subst hrw;obtain⟨bl,cc,ob,g1,g2,cs,t,fr,rfl,g3,g4⟩:=hr.ok _ _ hwin;rw[e1]at g1;simp only[ae,af]at g1;obtain⟨rfl,rfl⟩:=g1;rw[hm]at hle;have hcs:(cs.toList.drop off).take (m*s)=((l'.drop (off - o')).take (m*s)).map (Value.int k'):=by
     have h1:(cs.toList.drop off).take (m*s)=(((cs.toList.drop o').take l'.length).drop (off - o')).take (m*s):=by
      rw[List.drop_take,List.drop_drop,show o'+(off - o')=off by omega,List.take_take,Nat.min_eq_left (by omega)]
     rw[h1,g4,List.map_take,List.map_drop]
    refine⟨len,(cs.toList.drop off).take (m*s),fun _=>by simp[Builtin.lenOf],hm.symm,fun w' hw'=> ?_,by simp;omega,?_⟩
    ·simp only[Builtin.firstCells];have:w'.heap[b]? =some (.cells cs.toList.toArray t fr):=by rw[hw'];simpa using g2
     rw[gN (w:=w') this (m*s) (by simp;omega)]
    ·intro b hb';simp only[ae]at hb';subst hb';rw[hm];exact⟨by simp;omega,hcs⟩
   rename_i t ro opn bd' hrow0;have bU:bn hp nm=some (t,ro,opn,bd'):=by unfold bn;rw[hrow0]
   have hcut:=hrw;obtain⟨bI,bl,cc,vs,tail,fr,g1,g2,g3,_,_⟩:=m6 hr bU;rw[e1]at g1;simp only[ae,af]at g1;obtain⟨rfl,rfl⟩:=g1;obtain⟨k1,k2⟩:=Body.DV hcut g3;rw[hm]at k1 k2;refine⟨len,(vs.drop off).take (m*s),fun _=>by simp[Builtin.lenOf],hm.symm,fun w' hw'=> ?_,by simp;omega,?_⟩
   ·simp only[Builtin.firstCells];rw[gN (w:=w') (by rw[hw'];exact g2) (m*s) (by simp;omega)]
    congr 2;simp only;rw[List.drop_append_of_le_length (by omega),List.take_append_of_le_length (by simp;omega)]
   ·intro b hb';simp only[ae]at hb';subst hb';exact k2
section ops
variable{r:br}(hr:bu ρ hp w)(hf:bW ρ nx)
include hr hf
theorem QE{ts:Array TypeId}{ty:TypeId}{x:RV}{X:Value}(h:qI P hp ts x=some r)(hx:bE ρ x X):bw P ρ hp nx w (Builtin.len_ ts ty #[X]) r:=by
 unfold qI at h;split at h<;>try(cases h;done)
 rename_i t ht;split at h
 ·rename_i hu;split at h<;>try(cases h;done)
  simp only[iI,ae]at h;subst h;simp only[bE,bY,CR]at hx;subst hx;exact bw.q hr hf (V:= .int .i64 _) (by simp[Builtin.len_,ht,run_underlying hu,goInt]) rfl
 ·rename_i e hu;unfold W7 at h;split at h<;>try(cases h;done)
  all_goals
   simp only[iI,ae]at h;subst h
  ·simp only[bE,bY,CR]at hx;subst hx;exact bw.q hr hf (V:= .int .i64 _) (by simp[Builtin.len_,ht,run_underlying hu,goInt]) rfl
  ·obtain⟨_,_,_,rfl⟩:=hx;exact bw.q hr hf (V:= .int .i64 _) (by simp[Builtin.len_,ht,run_underlying hu,goInt]) rfl
  ·obtain⟨_,_,_,_,_,_,rfl⟩:=hx;exact bw.q hr hf (V:= .int .i64 _) (by simp[Builtin.len_,ht,run_underlying hu,goInt]) rfl
  ·rcases hx with⟨rfl,rfl⟩|⟨_,_,_,_,rfl⟩
   ·exact bw.q hr hf (V:= .int .i64 _) (by simp[Builtin.len_,ht,run_underlying hu,goInt]) rfl
   ·exact bw.q hr hf (V:= .int .i64 _) (by simp[Builtin.len_,ht,run_underlying hu,goInt]) rfl
 ·rename_i k e hu;unfold HF at h;split at h<;>try(cases h;done)
  ·simp only[iI,ae]at h;subst h;simp only[bE,bY,CR]at hx;subst hx;exact bw.q hr hf (V:= .int .i64 _) (by simp[Builtin.len_,ht,run_underlying hu,goInt]) rfl
  ·split at h<;>try(cases h;done)
   all_goals
   rename_i es bI;simp only[iI,ae]at h;subst h;obtain⟨b,c,e1,rfl⟩:=hx;obtain⟨b',c',o,g1,g2,g3⟩:=hr.ok _ _ bI;rw[e1]at g1;simp only[ae,af]at g1;obtain⟨rfl,rfl⟩:=g1;obtain⟨aD,cl,rfl,g4,g5⟩:=g3;have hlen: ∀ {es:List (Cell×AV)} {l:List MapEntry},ct ρ es l->l.length=es.length:=by
    intro es
    induction es with
    |nil=>intro l h;simp only[ct]at h;subst h;rfl
    |cons x es ih=>intro l h;obtain⟨c,v⟩:=x;obtain⟨e,es',_,_,h3,h4⟩:=h;subst h4;simp[ih h3]
   have:=hlen g4;refine bw.q hr hf (V:= .int .i64 aD.size) (by simp[Builtin.len_,ht,run_underlying hu,goInt,dX g2]) ?_
   have e:aD.size=es.length:=by simpa using this
   rw[e];rfl
 ·rename_i n e hu;simp only[iI,ae]at h;subst h;exact bw.q hr hf (V:= .int .i64 _) (by simp[Builtin.len_,ht,run_underlying hu,goInt]) rfl
 ·cases h
omit hr in
theorem bw.same {s:Sem Value}{v:RV}{nd:List Nat}{fz:Bool}{V:Value}{w':World}(hr:bu ρ hp w)(h:s.run P w= .ok V w')(h0:w'.heap=w.heap)(h1:w'.os=w.os)(h2:w'.tape=w.tape)(h3:w'.output=w.output)(hv:bE ρ v V):bw P ρ hp nx w s ⟨v,.none,nd,fz⟩:=
 ⟨V,w',ρ,h,hv,⟨fun nm x hx=>by rw[h0];exact hr.ok nm x hx,hr.inj,hr.fz.of (fun _ _ h=>h) (fun _ _ _=>by rw[h0]) fun nm x b c hx hw he=> .inl ⟨nm,x,c,hx,hw,he⟩⟩,hf,dN.draw hf h0 h1 h2 h3⟩
theorem LL{ts:Array TypeId}{ty:TypeId}{d s:RV}{D S:Value}(h:jX P hp ts d s=some r)(hd:bE ρ d D)(hs:bE ρ s S):bw P ρ hp nx w (Builtin.copy_ ts ty #[D,S]) r:=by
 unfold jX at h;split at h<;>try(cases h;done)
 rename_i dt dc sc ht;have ed:CR ρ dc D:=hd;have es:CR ρ sc S:=hs;split at h<;>try(cases h;done)
 rename_i e hu;split at h<;>try(cases h;done)
 rename_i ti hti;split at h<;>try(cases h;done)
 ·rename_i hp0;split at h<;>try(cases h;done)
  rename_i fr0 m0 bd0 hsb;simp only[ae]at h;subst h;have hS: ∃l,(Builtin.lenOf S).run P w= .ok l w/\(Builtin.firstCells ti.size 0 S).run P w= .ok #[] w:=by
   obtain⟨l,us,q1,q2,q3,q4,_⟩:=nY (P:=P) hr hsb es;have h0:m0=0:=by rw[q2];simp[eQ]
   subst h0;have:us= []:=List.length_eq_zero_iff.1 (by rw[q4];simp)
   subst this;exact⟨l,q1 w,q3 w rfl⟩
  obtain⟨l,q1,q2⟩:=hS;refine bw.q hr hf (V:= .int .i64 0) ?_ rfl;rcases mg hp0 ed with rfl|⟨A,cap,rfl⟩
  ·simp[Builtin.copy_,ht,run_underlying hu,q1,cZ hti,q2,goInt]
  ·simp[Builtin.copy_,ht,run_underlying hu,q1,cZ hti,q2,goInt,storeCells]
 ·rename_i nm off len hp0;obtain⟨b,c,cap,e1,rfl⟩:=kA hp0 ed;unfold uB at h;split at h<;>try(cases h;done)
  rename_i from_ n x hsrc;obtain⟨l,us,q1,q2,q3,q4,q5⟩:=nY (P:=P) hr hsrc es;have hn:Nat.min l len=n:=by rw[q2];rfl
  replace q1:=q1 w
  replace q3:=q3 w rfl
  split at h
  ·simp only[ae]at h;subst h;have:us= []:=List.length_eq_zero_iff.1 (by rw[q4];simp)
   subst this;refine bw.q hr hf (V:= .int .i64 0) ?_ rfl;simp[Builtin.copy_,ht,run_underlying hu,q1,cZ hti,hn,q3,goInt,storeCells]
  ·rename_i m;split at h<;>try(cases h;done)
   rename_i xb;split at h<;>try(cases h;done)
   rename_i t o bd bU;split at h<;>try(cases h;done)
   rename_i bd' hput;simp only[ae]at h;subst h;obtain⟨bI,bl,cc,vs,tail,fr,g1,g2,g3,g4,g5⟩:=m6 hr bU;rw[e1]at g1;simp only[ae,af]at g1;obtain⟨rfl,rfl⟩:=g1;have hxb:=q5 _ rfl;obtain⟨k1,k2⟩:=Body.E6 hput g3 hxb;have:=g4 rfl;subst this;obtain⟨w',p1,p2⟩:=DM (P:=P) hr hf (v:= .one (.c (.int .i64 (m+1:Nat)))) (V:= .int .i64 (m+1:Nat)) bI e1 g2 g5 k1 hxb.one k2 rfl;refine⟨_,w',ρ,?_,p2⟩;simp[Builtin.copy_,ht,run_underlying hu,q1,hn,cZ hti,q3,p1,goInt]
end ops
end Go.Sx
namespace Go.Sx
variable{P:Program}{ρ:aM}{w:World}{hp:Hp}{nx:Nat}
theorem iO{ts:Array TypeId}{ty dt e:TypeId}{ti:TypeInfo}{base:Option Addr}{sLen sCap n:Nat}{S:Value}{us:List Value}(ht:ts[0]? =some dt)(hu:P.underlying dt=some (.slice e))(hti:P.info? e=some ti)
    (harg:appArg P ts=true) (hl:(Builtin.lenOf S).run P w= .ok n w) (hfit:sLen+n<=sCap) (hfc:(Builtin.firstCells ti.size n S).run P w= .ok us.toArray w):
    (Builtin.append_ ts ty #[.slice base sLen sCap,S]).run P w=
      (do if let some a:=base then storeCells (a.add (sLen*ti.size)) us
          pure (.slice base (sLen+n) sCap):Sem Value).run P w:=by
  unfold appArg at harg;split at harg<;>try(cases harg;done)
  rename_i xt hxt;have hz:(∃d,P.underlying xt=some (.slice d))\/P.underlying xt=some .string:=by
    split at harg
    · exact .inl ⟨_,by assumption⟩
    · exact .inr (by assumption)
    · cases harg
  rcases hz with⟨d,hd⟩|hd
  · simp[Builtin.append_,ht,hxt,run_underlying hu,run_underlying hd,cZ hti,hl,hfit,hfc]
    cases base<;>rfl
  · simp[Builtin.append_,ht,hxt,run_underlying hu,run_underlying hd,cZ hti,hl,hfit,hfc]
    cases base<;>rfl
theorem lX{ts:Array TypeId}{ty dt e:TypeId}{ti:TypeInfo}{base:Option Addr}{sLen sCap n:Nat}{S zv:Value}{us old:List Value}(ht:ts[0]? =some dt)(hu:P.underlying dt=some (.slice e))(hti:P.info? e=some ti)
  (harg:appArg P ts=true) (hl: ∀w:World,(Builtin.lenOf S).run P w= .ok n w) (hfit:sCap<sLen+n) (hf:fits ti (sLen+n)=true)
  (hfc: ∀w',w'.heap=w.heap->(Builtin.firstCells ti.size n S).run P w'= .ok us.toArray w') (hold: ∀w',w'.heap=w.heap->(Builtin.firstCells ti.size sLen (.slice base sLen sCap)).run P w'= .ok old.toArray w')
  (hz: ∀w:World,(zeroValue e).run P w= .ok zv w) (hzs:zv.cells.size=ti.size):
  ∃c tail w',(Builtin.append_ ts ty #[.slice base sLen sCap,S]).run P w= .ok (.slice (some ⟨w.heap.size,0,none⟩) (sLen+n) c) w'/\
   Uf w (.cells (old++us++tail).toArray e) w'/\sLen+n<=c/\tail.length=(c - (sLen+n))*ti.size/\c<=9223372036854775807:=by
 unfold appArg at harg;split at harg<;>try(cases harg;done)
 rename_i xt hxt;have hz':(∃d,P.underlying xt=some (.slice d))\/P.underlying xt=some .string:=by
  split at harg
  ·exact .inl ⟨_,by assumption⟩
  ·exact .inr (by assumption)
  ·cases harg
 simp only[fits,Bool.and_eq_true]at hf;obtain⟨hb1,hb2⟩:=hf;have hb1:1<=ti.bytes:=Nat.le_of_ble_eq_true hb1;have hb2:(sLen+n)*ti.bytes<=140737488355328:=Nat.le_of_ble_eq_true hb2;have hgrow:=growslice_fits hfit hb2;have hnot: ¬(sLen+n<=sCap):=by omega
 have hb0:ti.bytes≠0:=by omega
 have hgt: ¬(Builtin.nextslicecap (sLen+n) sCap*ti.bytes>2 ^ 48):=by omega
 let q:Question:= .appendCap (sLen+n) sCap e
 let c:=q.cut (w.tape w.drawn q)
 let w1:World:= {w with drawn:=w.drawn+1}
 have hcle:sLen+n<=c:=by show sLen+n<=(sLen+n)+_;omega
 refine⟨c,Array.toList (Builtin.zeroCells zv.cells (c - (sLen+n))),{w1 with heap:=w1.heap.push (.cells (old++us++(Builtin.zeroCells zv.cells (c - (sLen+n))).toList).toArray e)},?_,⟨rfl,rfl,rfl,rfl⟩,hcle,?_,?_⟩
 ·have hgt': ¬(281474976710656<Builtin.nextslicecap (sLen+n) sCap*ti.bytes):=by omega
  have hq:(Question.appendCap (sLen+n) sCap e).forced=false:=rfl;have fin:(if(Question.appendCap (sLen+n) sCap e).forced=true then
   (Sem.run P (Builtin.firstCells ti.size sLen (Value.slice base sLen sCap)) w).andThen fun a w'=>
    (Sem.run P (Builtin.firstCells ti.size n S) w').andThen fun a_1 w'=>
     (Sem.run P (zeroValue e) w').andThen fun a_2 w'=>
      (Sem.run P (newRow e (a++(a_1++Builtin.zeroCells a_2.cells 0))) w').andThen fun a w'=>
       Result.ok (Value.slice (some a) (sLen+n) 0) w'
  else
   (Sem.run P (Builtin.firstCells ti.size sLen (Value.slice base sLen sCap)) w.drew).andThen fun a w'=>
    (Sem.run P (Builtin.firstCells ti.size n S) w').andThen fun a_1 w'=>
     (Sem.run P (zeroValue e) w').andThen fun a_2 w'=>
      (Sem.run P (newRow e (a++(a_1++Builtin.zeroCells a_2.cells ((Question.appendCap (sLen+n) sCap e).cut (w.tape w.drawn (Question.appendCap (sLen+n) sCap e)) - (sLen+n))))) w').andThen fun a w'=>
       Result.ok (Value.slice (some a) (sLen+n) ((Question.appendCap (sLen+n) sCap e).cut (w.tape w.drawn (Question.appendCap (sLen+n) sCap e)))) w')=
   Result.ok (Value.slice (some {block:=w.heap.size,off:=0}) (sLen+n) c)
    (w1.alloc (Obj.cells (old++(us++(Builtin.zeroCells zv.cells (c - (sLen+n))).toList)).toArray e)):=by
   rw[hq];simp only[Bool.false_eq_true,if_false];rw[hold w.drew rfl];simp only[Result.andThen_ok];rw[hfc w.drew rfl];simp only[Result.andThen_ok,hz,newRow,Sem.run_bind,run_newObj,Sem.run_pure];show Result.ok _ _=Result.ok _ _;congr 1;show w1.alloc _=w1.alloc _;congr 2;apply Array.toList_inj.1;simp[c,q]
  rcases hz' with⟨d,hd⟩|hd
  ·simpa[Builtin.append_,ht,hxt,run_underlying hu,run_underlying hd,cZ hti,hl,hnot,m7 hti,hb0,hgt']using fin
  ·simpa[Builtin.append_,ht,hxt,run_underlying hu,run_underlying hd,cZ hti,hl,hnot,m7 hti,hb0,hgt']using fin
 ·simp[Builtin.zeroCells,hzs]
 ·exact grownCap_le_maxLen w (sLen+n) sCap e (by
   show sLen+n<=9223372036854775807;have:=Nat.mul_le_mul_left (sLen+n) hb1;omega)
end Go.Sx
namespace Go.Sx
variable{P:Program}{ρ:aM}{w:World}{hp:Hp}{nx:Nat}
theorem Yz{t:TypeId}{zv:Value}{w:World}(h:(zeroValue t).run P w= .ok zv w)(w':World):(zeroValue t).run P w'= .ok zv w':=by
 unfold zeroValue typeInfo at h ⊢;simp only[Sem.run_bind,run_program,Result.andThen_ok]at h ⊢;cases hi:P.info? t with
 |none=>rw[hi]at h;simp[Result.andThen]at h
 |some i=>
  rw[hi]at h;simp only[Sem.run_pure,Result.andThen_ok]at h ⊢;cases hz:i.zero with
  |none=>rw[hz]at h;simp at h
  |some v=>rw[hz]at h;simp at h ⊢;exact h
theorem O8{nm off n bl c:Nat}{b:Body}(hr:bu ρ hp w)(h:oK hp nm off n=some b)(e:ρ nm=some (bl,c)):
  ∃us,(∀w':World,w'.heap=w.heap->(loadCells ⟨bl,off,none⟩ n).run P w'= .ok us.toArray w')/\us.length=n/\da ρ b us:=by
 unfold oK at h;split at h<;>try(cases h;done)
 rename_i t ro opn bd bU;obtain⟨bI,bl',c',vs,tail,fr,g1,g2,g3,_,_⟩:=m6 hr bU;rw[e]at g1;simp only[ae,af]at g1;obtain⟨rfl,rfl⟩:=g1;obtain⟨k1,k2⟩:=Body.DV h g3;refine⟨(vs.drop off).take n,fun w' hw'=> ?_,by simp;omega,k2⟩
 rw[gN (w:=w') (by rw[hw'];exact g2) n (by simp;omega)]
 congr 2;simp only;rw[List.drop_append_of_le_length (by omega),List.take_append_of_le_length (by simp;omega)]
section ops
variable{r:br}(hr:bu ρ hp w)(hf:bW ρ nx)
include hr hf
theorem GY{ts:Array TypeId}{ty:TypeId}{d s:RV}{D S:Value}(h:im P hp nx ts d s=some r)(hd:bE ρ d D)(hs:bE ρ s S):bw P ρ hp nx w (Builtin.append_ ts ty #[D,S]) r:=by
 unfold im at h;split at h<;>try(cases h;done)
 rename_i dt dc sc ht;have ed:CR ρ dc D:=hd;have es:CR ρ sc S:=hs;split at h<;>try(cases h;done)
 rename_i e hu;split at h<;>try(cases h;done)
 rename_i ti hti;split at h<;>try(cases h;done)
 rename_i z hz;split at h<;>try(cases h;done)
 rename_i hcond;obtain⟨hzs,harg⟩:=hcond;obtain⟨zv,z1,z2⟩:=gG (w:=w) (ρ:=ρ) hz;obtain⟨_,_,c3⟩:=z2.cells;have hz1: ∀w',(zeroValue e).run P w'= .ok zv w':=Yz z1;unfold Ao at h;split at h<;>try(cases h;done)
 rename_i from_ n x hsrc;obtain⟨l,us,q1,q2,q3,q4,q5⟩:=nY (P:=P) hr hsrc es;simp only[eQ]at q2;subst q2;split at h
 ·
  simp only[CR]at ed;subst ed;unfold uf at h;split at h
  ·simp only[ae]at h;subst h;refine bw.q hr hf (V:= .slice none 0 0) ?_ rfl;rw[iO ht hu hti harg (q1 w) (Nat.le_refl _) (q3 w rfl)]
   rfl
  ·rename_i m;split at h<;>try(cases h;done)
   rename_i hfit;split at h<;>try(cases h;done)
   rename_i xb;simp only[ae]at h;subst h;obtain⟨c,tail,w',p1,p2,p3,p4,p5⟩:=lX (P:=P) (w:=w) (ty:=ty) (base:=none) (sLen:=0) (sCap:=0) (old:= []) ht hu hti harg q1 (by omega) (by simpa using hfit) q3 (fun w' _=>by simp[Builtin.firstCells]) hz1 (by omega)
   simp only[Nat.zero_add]at p1 p3 p4;refine⟨_,w',_,p1,hr.pb hf (c:=c) ⟨us,tail,(0,0),by simp,(q5 _ rfl).mono (fW hf _ _),fun _=>rfl,?_⟩ p2 ⟨w.heap.size,c,0,by simp[ext],by omega,.inl (by simp),by simp⟩⟩
   simp only[tR,List.length_append,p4,q4];refine⟨?_,p5⟩;rw[<-Nat.add_mul];congr 1;omega
 ·
  rename_i nm off len cap;obtain⟨bl,cc,e1,rfl⟩:=ed;unfold oa at h;split at h
  ·split at h<;>try(cases h;done)
   rename_i hle;simp only[ae]at h;subst h;refine bw.q hr hf (V:= .slice (some ⟨bl,off,none⟩) len cap) ?_ ⟨bl,cc,e1,rfl⟩;have:us= []:=List.length_eq_zero_iff.1 (by rw[q4];simp)
   subst this;rw[iO ht hu hti harg (q1 w) (by omega) (q3 w rfl)]
   simp[storeCells]
  ·rename_i m;split at h
   rotate_left
   ·split at h<;>try(cases h;done)
    rename_i hle;unfold DJ at h;split at h<;>try(cases h;done)
    rename_i xb t o bd bU;split at h<;>try(cases h;done)
    rename_i bd' hput;simp only[ae]at h;subst h;obtain⟨bI,bl',cc',vs,tail,fr,g1,g2,g3,g4,g5⟩:=m6 hr bU;rw[e1]at g1;simp only[ae,af]at g1;obtain⟨rfl,rfl⟩:=g1;have hxb:=q5 _ rfl;obtain⟨k1,k2⟩:=Body.E6 hput g3 hxb;have:=g4 rfl;subst this;obtain⟨w',p1,p2⟩:=DM (P:=P) hr hf (v:= .one (.c (.sl nm off (len+(m+1)) cap))) (V:= .slice (some ⟨bl,off,none⟩) (len+(m+1)) cap) bI e1 g2 g5 k1 hxb.one k2 ⟨bl,cc,e1,rfl⟩;refine⟨_,w',ρ,?_,p2⟩;rw[iO ht hu hti harg (q1 w) hle (q3 w rfl)];simp[iW,p1]
   rename_i hc;obtain⟨hcap,hfit⟩:=hc;unfold zh at h;split at h<;>try(cases h;done)
   rename_i b xb hb;split at h<;>try(cases h;done)
   rename_i y hy;simp only[ae]at h;subst h;obtain⟨old,o1,o2,o3⟩:=O8 (P:=P) hr hb e1;obtain⟨c,tail,w',p1,p2,p3,p4,p5⟩:=lX (P:=P) (w:=w) (ty:=ty) (base:=some ⟨bl,off,none⟩) (sLen:=len) (sCap:=cap) (old:=old) ht hu hti harg q1 hcap hfit q3 (fun w' hw'=>by simp only[Builtin.firstCells];exact o1 w' hw') hz1 (by omega)
   refine⟨_,w',_,p1,hr.pb hf (c:=c) ⟨old++us,tail,(0,0),by simp,(Body.PH hy o3 (q5 _ rfl)).mono (fW hf _ _),fun _=>rfl,?_⟩ p2 ⟨w.heap.size,c,0,by simp[ext],by omega,.inl (by simp),by simp⟩⟩
   simp only[tR,List.length_append,p4,q4,o2];refine⟨?_,p5⟩;rw[<-Nat.add_mul, <-Nat.add_mul];congr 1;omega
 ·
  rename_i nm sz a len;obtain⟨bl,cc,ao,e1,e2,e3,rfl⟩:=ed;unfold oE at h;split at h
  ·simp only[ae]at h;subst h;refine bw.q hr hf (V:= .slice (some ⟨bl,ao,none⟩) len (cc - a)) ?_ ⟨bl,cc,ao,e1,e2,e3,rfl⟩;have:us= []:=List.length_eq_zero_iff.1 (by rw[q4];simp)
   subst this;rw[iO ht hu hti harg (q1 w) (by omega) (q3 w rfl)]
   simp[storeCells]
  ·rename_i m;split at h<;>try(cases h;done)
   rename_i hc;obtain⟨rfl,rfl,hfit⟩:=hc;obtain rfl:=e3.resolve_right (by omega)
   split at h<;>try(cases h;done)
   rename_i t sz' bd bU;split at h<;>try(cases h;done)
   rename_i hc2;obtain⟨rfl,rfl⟩:=hc2;obtain⟨bI,bl',c',vs,tl,fr,g1,g2,g3,g4,g5⟩:=m6 hr bU;rw[e1]at g1;simp only[ae,af]at g1;obtain⟨rfl,rfl⟩:=g1;have:=g4 rfl;subst this;unfold DB at h;split at h<;>try(cases h;done)
   rename_i b xb hb;split at h<;>try(cases h;done)
   rename_i y hy;simp only[ae]at h;subst h;obtain⟨k1,k2⟩:=Body.DV hb g3;simp only[List.drop_zero]at k2;have hxb:=q5 _ rfl;have hy':=Body.PH hy k2 hxb;simp only[tR]at g5;obtain⟨g5,g6⟩:=g5;simp only[Nat.sub_zero,Nat.zero_mul];by_cases hroom:len+(m+1)<=cc
   ·
    have hsz:len*ti.size+us.length<=(vs++tl).length:=by
     rw[g5,q4, <-Nat.add_mul];exact Nat.mul_le_mul_right _ hroom
    obtain⟨w',s1,s2⟩:=uG (P:=P) (w:=w) (b:=bl) (off:=len*ti.size) (vs:=vs++tl) (tail:= []) (t:=t) (by simpa using g2) us hsz hxb.one
    refine⟨.slice (some ⟨bl,0,none⟩) (len+(m+1)) cc,w',ext ρ nx bl cc,?_,hr.agV hf bI rfl e1 (o:=_) ⟨vs.take (len*ti.size)++us,(vs++tl).drop (len*ti.size+us.length),(0,0),?_,hy'.mono (fW hf _ _),fun _=>rfl,?_⟩ s2 ⟨bl,cc,0,by simp[ext],by omega,.inl (by simp),by simp⟩⟩
    ·rw[iO ht hu hti harg (q1 w) hroom (q3 w rfl)];simp[iW,s1]
    ·simp only[List.append_nil,aB];rw[List.take_append_of_le_length (by omega)]
    ·simp only[tR,List.length_append,List.length_drop,List.length_take]at g5 hsz ⊢;refine⟨?_,g6⟩;omega
   ·
    obtain⟨c,tail,w',p1,p2,p3,p4,p5⟩:=lX (P:=P) (w:=w) (ty:=ty) (base:=some ⟨bl,0,none⟩) (sLen:=len) (sCap:=cc) (old:=vs.take (len*ti.size)) ht hu hti harg q1 (by omega) hfit q3 (fun w' hw'=>by
     simp only[Builtin.firstCells];rw[gN (w:=w') (by rw[hw'];exact g2) _ (by simp;omega)]
     simp only[List.drop_zero];rw[List.take_append_of_le_length (by omega)]) hz1 (by omega)
    refine⟨_,w',_,p1,hr.aeD hf bI rfl (c:=c) ⟨vs.take (len*ti.size)++us,tail,(0,0),by simp,hy'.mono (fW hf _ _),fun _=>rfl,?_⟩ p2 ⟨w.heap.size,c,0,by simp[ext],by omega,.inl (by simp),by simp⟩⟩
    have aA:(vs.take (len*ti.size)).length=len*ti.size:=by simp;omega
    simp only[tR,List.length_append,p4,q4,aA];refine⟨?_,p5⟩;rw[<-Nat.add_mul, <-Nat.add_mul];congr 1;omega
 ·cases h
theorem C2{f:Int->Int->Int}{l:List RV}{v:AV}{vs:List Value}{s:Array Value->Sem Value}(h:zz f l=some v)(hv: ∀(i:Nat) (x:RV),l[i]? =some x->∃V,vs[i]? =some V/\bE ρ x V)(hlen:vs.length=l.length)
  (hs: ∀k x y,(s #[.int k x,.int k y]).run P w= .ok (.int k (f x y)) w) (hq:quiet v=some r):bw P ρ hp nx w (s vs.toArray) r:=by
 unfold zz at h;split at h<;>try(cases h;done)
 rename_i k x k' y;split at h<;>try(cases h;done)
 rename_i hk;subst hk;simp only[ae]at h;subst h;obtain⟨V0,e0,h0⟩:=hv 0 _ rfl;obtain⟨V1,e1,h1⟩:=hv 1 _ rfl;simp only[bE,bY,CR]at h0 h1;subst h0 h1;have:vs= [.int k x,.int k y]:=by
  match vs,hlen with
  | [a,b],_=>simp at e0 e1;subst e0 e1;rfl
 subst this;exact bw.quiet hr hf hq (hs k x y) rfl
theorem FI{ts:Array TypeId}{ty:TypeId}{m k:RV}{M K:Value}(h:kN P hp ts m k=some r)(hm:bE ρ m M)(hk:bE ρ k K):bw P ρ hp nx w (Builtin.delete_ ts ty #[M,K]) r:=by
 unfold kN at h;split at h<;>try(cases h;done)
 rename_i t nm kc ht;have ek:CR ρ kc K:=hk;split at h<;>try(cases h;done)
 rename_i es bI;split at h<;>try(cases h;done)
 rename_i hko;obtain⟨b,c,e1,rfl⟩:=hm;obtain⟨d,hd⟩:=ix hko;rw[hd]at hko;obtain⟨kt,e,hu,hu2⟩:=rZ hd;obtain⟨b',c',o,g1,g2,g3⟩:=hr.ok _ _ bI;rw[e1]at g1;simp only[ae,af]at g1;obtain⟨rfl,rfl⟩:=g1;obtain⟨aD,cl,rfl,g4,g5⟩:=g3;unfold HB at h;split at h
 ·rename_i i v0 hfk;simp only[ae]at h;subst h;obtain⟨V,e',q1,q2,q3,q4,c',q5,q6,q7⟩:=eF hko ek hfk g4;obtain⟨w',s1,s2⟩:=fK (P:=P) (o':= .map (aD.eraseIdxIfInBounds i) cl) g2 (by intros;simp)
  refine⟨.tuple #[],w',ρ,?_,hr.jH hf bI rfl e1 ⟨_,_,rfl,?_,MapKept.stamped_erase g5 i⟩ s2 ⟨[],rfl,rfl⟩⟩
  ·simp[Builtin.delete_,ht,run_underlying hu,dX g2,run_checkKey hu2 hko ek,run_findKey hu2 q1,s1]
  ·have:=g4.erase i;have aA:i<aD.size:=by
    rcases Nat.lt_or_ge i aD.size with h'|h'
    ·exact h'
    ·simp at q4;rw[Array.getElem?_eq_none h']at q4;cases q4
   simpa[Array.eraseIdxIfInBounds,aA]using this
 ·rename_i hfk;simp only[ae]at h;subst h;have q1:=eF hko ek hfk g4;obtain⟨w',s1,s2⟩:=fK (P:=P) (o':= .map aD cl) g2 (by intros;simp)
  refine bw.same hf hr (V:= .tuple #[]) (w':=w') ?_ ?_ s2.os s2.tape s2.al ⟨[],rfl,rfl⟩
  ·simp[Builtin.delete_,ht,run_underlying hu,dX g2,run_checkKey hu2 hko ek,run_findKey hu2 q1,s1]
  ·apply Array.ext_getElem?;intro i;by_cases h:i=b
   ·subst h;rw[s2.at_,g2]
   ·rw[s2.other i h]
 ·cases h
theorem Ir{ts:Array TypeId}{ty:TypeId}{m:RV}{M:Value}(h:mq P hp ts m=some r)(hm:bE ρ m M):bw P ρ hp nx w (Builtin.clear_ ts ty #[M]) r:=by
 unfold mq at h;split at h<;>try(cases h;done)
 rotate_left
 ·rename_i t x _ ht;have hx:CR ρ x M:=hm;split at h<;>try(cases h;done)
  rename_i e hu;unfold Bo at h;split at h<;>try(cases h;done)
  rename_i ti z hti hz;split at h<;>try(cases h;done)
  rename_i hsz;obtain⟨zv,z1,z2⟩:=gG (w:=w) (ρ:=ρ) hz;obtain⟨_,_,c3⟩:=z2.cells;split at h<;>try(cases h;done)
  ·rename_i hp0;simp only[ae]at h;subst h;rcases mg hp0 hx with rfl|⟨A,cap,rfl⟩
   ·exact bw.q hr hf (V:= .tuple #[]) (by simp[Builtin.clear_,ht,run_underlying hu]) ⟨[],rfl,rfl⟩
   ·exact bw.q hr hf (V:= .tuple #[]) (by simp[Builtin.clear_,ht,run_underlying hu]) ⟨[],rfl,rfl⟩
  ·rename_i nm off len hp0;obtain⟨b,c,cap,e1,rfl⟩:=kA hp0 hx;split at h
   ·simp only[ae]at h;subst h;exact bw.q hr hf (V:= .tuple #[]) (by simp[Builtin.clear_,ht,run_underlying hu]) ⟨[],rfl,rfl⟩
   ·rename_i m;split at h<;>try(cases h;done)
    rename_i t' o bd bU;split at h<;>try(cases h;done)
    rename_i bd' hput;simp only[ae]at h;subst h;obtain⟨bI,bl,cc,vs,tail,fr,g1,g2,g3,g4,g5⟩:=m6 hr bU;rw[e1]at g1;simp only[ae,af]at g1;obtain⟨rfl,rfl⟩:=g1;have hxb:=vh (P:=P) (e:=e) z2 (m+1);obtain⟨k1,k2⟩:=Body.E6 hput g3 hxb;have:=g4 rfl;subst this;obtain⟨w',p1,p2⟩:=DM (P:=P) hr hf (v:=fc) (V:= .tuple #[]) bI e1 g2 g5 k1 hxb.one k2 ⟨[],rfl,rfl⟩;refine⟨_,w',ρ,?_,p2⟩;have hzc:(Builtin.zeroCells zv.cells (m+1)).toList=cx zv.cells.toList (m+1):=by
     have:=r7 zv.cells.toList ti.size (by simpa[hsz]using c3) (m+1)
     rw[<-this];simp[Builtin.zeroCells, <-hsz,c3]
    simp[Builtin.clear_,ht,run_underlying hu,z1,hzc,p1]
 rename_i t nm ht;split at h<;>try(cases h;done)
 rename_i kt e hu;split at h<;>try(cases h;done)
 rename_i es bI;simp only[ae]at h;subst h;obtain⟨b,c,e1,rfl⟩:=hm;obtain⟨b',c',o,g1,g2,g3⟩:=hr.ok _ _ bI;rw[e1]at g1;simp only[ae,af]at g1;obtain⟨rfl,rfl⟩:=g1;obtain⟨aD,cl,rfl,g4,g5⟩:=g3;obtain⟨w',s1,s2⟩:=fK (P:=P) (o':= .map #[] cl) g2 (by intros;simp)
 refine⟨.tuple #[],w',ρ,?_,hr.jH hf bI rfl e1 ⟨_,_,rfl,rfl,MapKept.stamped_empty cl⟩ s2 ⟨[],rfl,rfl⟩⟩;simp[Builtin.clear_,ht,run_underlying hu,dX g2,s1]
end ops
end Go.Sx
