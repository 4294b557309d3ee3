import Derived.Test.YtfceckiklfkjkaaGreatS12
noncomputable section
namespace Go.Sx
section
structure A where
 n:Nat
 orc:List (Nat×Bool)
 ob:List Prop
def aw:List Prop->Prop
 | []=>True
 |p::l=>p/\aw l
abbrev A.Sat (Z:A):Prop:=aw Z.ob
section defs
variable{β:Type}
def ask(Z:A)(t:Bool)(k:Bool->A->Option β):Option β:=
 match Z with
 |⟨n,orc,ob⟩=>match orc with
  | []=>Bool.rec (k false ⟨n,[],ob⟩) (k true ⟨n,[],ob⟩) t
  |(i,b)::r=>eX (n+1) fun n'=>Bool.rec
    (Bool.rec (k false ⟨n',(i,b)::r,ob⟩) (k true ⟨n',(i,b)::r,ob⟩) t)
    (k b ⟨n',r,(t=b)::ob⟩) (Nat.beq i n)
def fE(Z:A)(p:Prop) [Decidable p](k:A->Option β):Option β:=ask Z (decide p) fun t Z=>Bool.rec none (k Z) t
def fN{Y:Type}(x:Option Y)(Z:A)(k:Y->A->Option β):Option β:=match x with|some v=>k v Z|none=>none
def Body.ML (b:Body)(off:Nat)(t:TK)(Z:A)(k:AV->A->Option β):Option β:=
 match b,t with
 | .ints kd l n,.sc=>fE Z (off<n) fun Z=>k (.c (.int kd (l.getD off 0))) Z
 | .ints kd l n,.ints k' m=>if kd=k' then fE Z (off+m<=n) fun Z=>k (.ints kd ((l.drop off).take m) m) Z else none
 | .aT l n,.sc=>fE Z (off<n) fun Z=>k (.c (.bool (l.getD off false))) Z
 |b,t=>fN (b.get off t) Z k
def Body.Vc (b:Body)(off:Nat)(v:AV)(Z:A)(k:Body->A->Option β):Option β:=
 match b,v with
 | .ints kd l n,.c (.int k' x)=>if kd=k' then fE Z (off<n) fun Z=>k (.ints kd (l.set off x) n) Z else none
 | .ints kd l n,.ints k' x m=>if kd=k' then fE Z (off+m<=n) fun Z=>k (.ints kd (aB l off x) n) Z else none
 | .aT l n,.c (.bool x)=>fE Z (off<n) fun Z=>k (.aT (l.set off x) n) Z
 |b,v=>fN (b.set off v) Z k
def yf(i:Int)(len:Nat)(Z:A)(k:Nat->A->Option β):Option β:=fE Z (0<=i/\i<len) fun Z=>k i.toNat Z
def BW(P:Program)(ev:Ev)(hp:Hp)(t:TypeId)(a:Operand)(Z:A)(k:br->A->Option β):Option β:=
 match ev a with
 |some (.one (.c (.ptr nm off)))=>match tk P t with
  |some kd=>match bn hp nm with
   |some (_,_,_,b)=>b.ML off kd Z fun v Z=>k ⟨.one v,.none,[nm],true⟩ Z
   |none=>match hp nm,kd with
    |some (.recs o ks l),.agg m=>fE Z (LH o ks l off m) fun Z=>k ⟨.one (.agg (recC ks l (off - o))),.none,[nm],true⟩ Z
    |_,_=>none
  |none=>none
 |_=>none
def Px(kd:Option TK)(l:aj)(i:Nat)(Z:A)(k:br->A->Option β):Option β:=
 match kd with
 |some .sc=>fE Z (i<l.length) fun Z=>k ⟨.one (.c (.int .i64 (l.getD i 0))),.none,[],true⟩ Z
 |_=>none
def yn(P:Program)(ev:Ev)(hp:Hp)(t:TypeId)(a:Operand)(Z:A)(k:br->A->Option β):Option β:=
 match FX (ev a)with
 |some (l,i)=>Px (tk P t) l i Z k
 |none=>BW P ev hp t a Z k
def xw(P:Program)(ev:Ev)(hp:Hp)(t:TypeId)(a x:Operand)(Z:A)(k:br->A->Option β):Option β:=
 match ev a with
 |some (.one (.c (.ptr nm off)))=>match ev x with
  |some (.one v)=>match P.info? t with
   |some ti=>if v.size=ti.size then(match bn hp nm with
     |some (ty,false,o,b)=>b.Vc off v Z fun b Z=>k ⟨fc,.wr nm (.row ty false o b),[nm],true⟩ Z
     |_=>none)else none
   |none=>none
  |_=>none
 |_=>none
def kv(c:Cell)(s:Nat)(Z:A)(k:Option (Nat×Nat×Nat)->A->Option β):Option β:=
 match c with
 | .aC nm sz a len=>fE Z (len≠0) fun Z=>if sz=s then k (some (nm,a*sz,len)) Z else none
 |c=>fN (dn c s) Z k
def Ge(P:Program)(e:TypeId)(nm off len:Nat)(i:Int)(Z:A)(k:br->A->Option β):Option β:=
 match P.info? e with
 |some ti=>yf i len Z fun j Z=>k ⟨.one (.c (.ptr nm (off+j*ti.size))),.none,[],true⟩ Z
 |none=>none
def W8(x:Cell):Option (List Int):=match x with| .dI l=>some l|_=>none
def Ni(P:Program)(e:TypeId)(x:Cell)(i:Int)(Z:A)(k:br->A->Option β):Option β:=
  match P.info? e with
  |some ti=>match W8 x with
   |some l=>if ti.size=1 then yf i l.length Z fun j Z=>k ⟨.one (.c (.vptr l j)),.none,[],true⟩ Z else none
   |none=>kv x ti.size Z fun p Z=>match p with
    |some (nm,off,len)=>yf i len Z fun j Z=>k ⟨.one (.c (.ptr nm (off+j*ti.size))),.none,[],true⟩ Z
    |none=>none
  |none=>none
def oJ(P:Program)(ev:Ev)(t:TypeId)(x i:Operand)(Z:A)(k:br->A->Option β):Option β:=
 match ev i with
 |some (.one (.c (.int _ i)))=>match ev x with
  |some (.one (.c x))=>match P.underlying t with
   |some (.array len e)=>(match x with| .ptr nm off=>Ge P e nm off len i Z k|_=>none)
   |some (.slice e)=>Ni P e x i Z k
   |_=>none
  |_=>none
 |_=>none
def FE(s:ByteArray)(j:Nat):UInt8:=match s[j]? with|some b=>b|none=>0
def Hn(s:ByteArray)(i:Int)(Z:A)(k:br->A->Option β):Option β:=
 yf i s.size Z fun j Z=>k ⟨.one (.c (.int .u8 (FE s j).toNat)),.none,[],true⟩ Z
def BO(ev:Ev)(hp:Hp)(x:Operand)(str:Bool)(Z:A)(k:br->A->Option β):Option β:=
 match ev x,str with
 |some (.one (.c (.ptr nm 0))),true=>match hp nm with
  |some (.iter s pos)=>ask Z (Nat.blt pos s.size) fun t Z=>Bool.rec
    (k ⟨.aF [.c (.bool false)],.none,[nm],true⟩ Z)
    (k ⟨.aF [.c (.bool true),.c (.int .i64 pos),.c (.int .i32 (Utf8.decode s pos).1)],.wr nm (.iter s (pos+(Utf8.decode s pos).2)),[nm],true⟩ Z) t
  |_=>none
 |_,_=>none
def yk(P:Program)(ev:Ev)(t:TypeId)(x i:Operand)(Z:A)(k:br->A->Option β):Option β:=
 match ev i with
 |some (.one (.c (.int _ i)))=>match ev x with
  |some (.one v)=>match P.underlying t with
   |some (.array len e)=>match P.info? e with
    |some ti=>match tk P e with
     |some kd=>if tA v=true then yf i len Z fun j Z=>v.AQ.ML (j*ti.size) kd Z fun v Z=>k ⟨.one v,.none,[],true⟩ Z else none
     |none=>none
    |none=>none
   |some .string=>(match v with| .c (.str s)=>Hn s i Z k|_=>none)
   |_=>none
  |_=>none
 |_=>none
def BH(op:BinOp)(kd:IntKind)(a b:Int)(Z:A)(k:Cell->A->Option β):Option β:=
 match op with
 | .quo=>fE Z (¬b=0) fun Z=>k (.int kd (kd.wrap (a.tdiv b))) Z
 | .rem=>fE Z (¬b=0) fun Z=>k (.int kd (a.tmod b)) Z
 |op=>fN (pa op kd a b) Z k
def vA(op:BinOp)(kd:IntKind)(a b:Int)(Z:A)(k:AV->A->Option β):Option β:=
 match op with
 | .shl=>fE Z (¬b<0) fun Z=>k (.c (.int kd (kd.wrap (a*2 ^(min b.toNat kd.bits))))) Z
 | .shr=>fE Z (¬b<0) fun Z=>k (.c (.int kd (a.fdiv (2 ^(min b.toNat kd.bits))))) Z
 |_=>none
def Bp(op:BinOp)(kd:IntKind)(a:Int)(k':IntKind)(b:Int)(Z:A)(k:AV->A->Option β):Option β:=
 match qG op with
 |true=>vA op kd a b Z k
 |false=>if kd=k' then BH op kd a b Z fun c Z=>k (.c c) Z else none
def AW(P:Program)(op:BinOp)(t:TypeId)(x y:AV)(Z:A)(k:AV->A->Option β):Option β:=
 match x,y with
 | .c (.int kd a),.c (.int k' b)=>Bp op kd a k' b Z k
 |x,y=>fN (rq P op t x y) Z k
def DU(P:Program)(ev:Ev)(op:BinOp)(t:TypeId)(x y:Operand)(Z:A)(k:br->A->Option β):Option β:=
 match ev x with
 |some (.one x)=>match ev y with
  |some (.one y)=>AW P op t x y Z fun v Z=>k ⟨.one v,.none,[],true⟩ Z
  |_=>none
 |_=>none
def oP(kc:Cell):List (Cell×AV)->Nat->A->(Option (Nat×AV)->A->Option β)->Option β
 | [],_,Z,k=>k none Z
 |(c,v)::r,i,Z,k=>match jE kc c with
  |some t=>ask Z t fun t Z=>Bool.rec (oP kc r (i+1) Z k) (k (some (i,v)) Z) t
  |none=>none
def zI(vk:Option IntKind)(z:AV):Bool:=
 match vk,z with
 |some k,.c (.int k' n)=>decide (k=k') && decide (n=0)
 |none,.c (.bool b)=> !b
 |_,_=>false
def OJ(hp:Hp)(m:Cell):Option (Nat×Option IntKind×List (Int×Int)):=
 match m with
 | .map nm=>match hp nm with|some (.aQ vk l)=>some (nm,vk,l)|_=>none
 |_=>none
def tI(P:Program)(ev:Ev)(hp:Hp)(t:TypeId)(m kx:Operand)(ok:Bool)(Z:A)(k:br->A->Option β):Option β:=
  match P.underlying t with
  | some (.map kt e)=>match ev m with
    | some (.one (.c m))=>match ev kx with
      | some (.one (.c kc))=>match iT P e with
        |some z=>match nh hp m kc with
         |some (nm,v,t)=>if eI (P.underlying kt) kc=true/\zVS v z=true then k ⟨bif ok then .aF [.c v,.c (.bool t)]else .one (.c v),.none,[nm],true⟩ Z else none
         |none=>match OJ hp m with
          | some (nm,vk,l)=>(match kc with
            | .int .i64 kn=>if zI vk z=true/\eI (P.underlying kt) (.int .i64 kn)=true then k ⟨bif ok then .aF [.c (pG vk (bp l kn)),.c (.bool (sG l kn))]else .one (.c (pG vk (bp l kn))),.none,[nm],true⟩ Z else none
            |_=>none)
          | none=>match kC hp m with
            |some (es,nd)=>if eI (P.underlying kt) kc=true then oP kc es 0 Z fun r Z=>fN (kT ok z nd (some r)) Z k else none
            |none=>none
        |none=>none
      |_=>none
    |_=>none
  |_=>none
def ln(P:Program)(ev:Ev)(hp:Hp)(t:TypeId)(m kx x:Operand)(Z:A)(k:br->A->Option β):Option β:=
 match ev m with
 |some (.one (.c (.map nm)))=>match ev kx with
  |some (.one (.c kc))=>match ev x with
   |some (.one v)=>match hp nm with
    |some (.map es)=>if eI (kD P t) kc=true then oP kc es 0 Z fun r Z=>fN (zT es nm kc v (some r)) Z k else none
    |some (.aQ vk l)=>if eI (kD P t) kc=true then fN (vK vk l nm kc v) Z k else none
    |some (.eE l)=>if eI (kD P t) kc=true then fN (vW l nm kc v) Z k else none
    |some (.di l)=>if eI (kD P t) kc=true then fN (wa l nm kc v) Z k else none
    |_=>none
   |_=>none
  |_=>none
 |_=>none
def kZ(x:Option RV)(lo hi dflt:Nat)(Z:A)(k:Nat->A->Option β):Option β:=
 match x with
 |none=>k dflt Z
 |some (.one (.c (.int _ i)))=>fE Z ((lo:Int)<=i/\i<=hi) fun Z=>k i.toNat Z
 |some _=>none
def nW(s:Nat)(x:Cell)(lo hi:Option RV)(Z:A)(k:Cell->A->Option β):Option β:=
 match x with
 | .sl nm off len cap=>kZ hi 0 cap len Z fun h Z=>kZ lo 0 h 0 Z fun l Z=>k (.sl nm (if cap=l then off else off+l*s) (h - l) (cap - l)) Z
 | .aC nm sz a len=>kZ hi 0 len len Z fun h Z=>kZ lo 0 h 0 Z fun l Z=>if sz=s then k (.aC nm sz (a+l) (h - l)) Z else none
 |x=>fN (fO s x lo hi) Z k
def zq(P:Program)(n:Nat)(e:TypeId)(nm off:Nat)(lo hi:Option RV)(Z:A)(k:br->A->Option β):Option β:=
 match P.info? e with
 |some ti=>nW ti.size (.sl nm off n n) lo hi Z fun c Z=>k ⟨.one (.c c),.none,[],true⟩ Z
 |none=>none
def KK(P:Program)(e:TypeId)(x:Cell)(lo hi:Option RV)(Z:A)(k:br->A->Option β):Option β:=
 match P.info? e with
 |some ti=>nW ti.size x lo hi Z fun c Z=>k ⟨.one (.c c),.none,[],true⟩ Z
 |none=>none
def HG(s:ByteArray)(lo hi:Option RV)(Z:A)(k:br->A->Option β):Option β:=
 kZ hi 0 s.size s.size Z fun h Z=>kZ lo 0 h 0 Z fun l Z=>k ⟨.one (.c (.str (s.extract l h))),.none,[],true⟩ Z
def yv(P:Program)(ev:Ev)(t:TypeId)(x:Operand)(lo hi mx:Option Operand)(Z:A)(k:br->A->Option β):Option β:=
 match mx with
 |some mx=>fN (st3 P ev t x lo hi mx) Z k
 |none=>match vM ev lo with
  |none=>none
  |some lo=>match vM ev hi with
   |none=>none
   |some hi=>match ev x with
    |some (.one (.c x))=>match P.underlying t with
     |some (.array n e)=>(match x with| .ptr nm off=>zq P n e nm off lo hi Z k|_=>none)
     |some (.slice e)=>KK P e x lo hi Z k
     |some (.pointer arr)=>(match x with
      | .ptr nm off=>(match P.underlying arr with|some (.array n e)=>zq P n e nm off lo hi Z k|_=>none)
      |_=>none)
     |some .string=>(match x with| .str s=>HG s lo hi Z k|_=>none)
     |_=>none
    |_=>none
def pF(P:Program)(ev:Ev)(nx:Nat)(t:TypeId)(l c:Operand)(Z:A)(k:br->A->Option β):Option β:=
 match P.underlying t with
 |some (.slice e)=>match ev l with
  |some (.one (.c (.int _ n)))=>match ev c with
   |some (.one (.c (.int _ m)))=>match iT P e with
    |some z=>match P.info? e with
     |some ti=>fE Z (0<=n/\n=m/\ti.bytes*n.toNat<=1000000000/\n.toNat<1000000000) fun Z=>if z.size=ti.size then
       k ⟨.one (.c (.sl nx 0 n.toNat n.toNat)),.new (.row e false none (rowsOf P e z n.toNat)),[],true⟩ Z else none
     |none=>none
    |none=>none
   |_=>none
  |_=>none
 |_=>none
def Body.Fz (b:Body)(off n:Nat)(Z:A)(k:Body->A->Option β):Option β:=
 match b with
 | .ints kd l m=>fE Z (off+n<=m) fun Z=>k (.ints kd ((l.drop off).take n) n) Z
 | .aT l m=>fE Z (off+n<=m) fun Z=>k (.aT ((l.drop off).take n) n) Z
 |b=>fN (b.cut off n) Z k
def Body.S7 (b:Body)(off:Nat)(x:Body)(Z:A)(k:Body->A->Option β):Option β:=
 match b,x with
 | .ints kd l n,.ints k' x m=>if kd=k' then fE Z (off+m<=n) fun Z=>k (.ints kd (aB l off x) n) Z else none
 |b,x=>fN (b.put off x) Z k
def uP(hp:Nat->Option ax)(nm off n:Nat)(Z:A)(k:Body->A->Option β):Option β:=
 match hp nm with
 |some (.row _ _ _ b)=>b.Fz off n Z k
 |some (.dK o kd l)=>fE Z (o<=off/\off - o+n<=l.length) fun Z=>k (.ints kd ((l.drop (off - o)).take n) n) Z
 |_=>none
def oL(hp:Nat->Option ax)(s:Nat)(n:Option Nat)(x:Cell)(Z:A)(k:Option Nat×Nat×Option Body->A->Option β):Option β:=
 match x with
 | .str b=>fN (fB hp s n (.str b)) Z k
 |x=>kv x s Z fun p Z=>match p with
  |none=>k (none,0,none) Z
  |some (nm,off,len)=>uP hp nm off (eQ n len*s) Z fun b Z=>k (some nm,eQ n len,some b) Z
def AI(hp:Nat->Option ax)(nm off:Nat)(s:Option Nat×Nat×Option Body)(Z:A)(k:br->A->Option β):Option β:=
 ask Z (Nat.beq s.2.1 0) fun t Z=>Bool.rec
  (match s.2.2 with
   |some x=>match bn hp nm with
    |some (t,false,o,b)=>b.S7 off x Z fun b Z=>k ⟨.one (.c (.int .i64 s.2.1)),.wr nm (.row t false o b),nm::dY s.1,true⟩ Z
    |_=>none
   |none=>none)
  (k ⟨.one (.c (.int .i64 0)),.none,dY s.1,true⟩ Z) t
def yb(P:Program)(hp:Nat->Option ax)(argTypes:Array TypeId)(d s:RV)(Z:A)(k:br->A->Option β):Option β:=
 match argTypes[0]?,d,s with
 |some dt,.one (.c d),.one (.c s)=>match P.underlying dt with
  |some (.slice e)=>match P.info? e with
   |some ti=>kv d ti.size Z fun p Z=>match p with
    |none=>fN (jX P hp argTypes (.one (.c d)) (.one (.c s))) Z k
    |some (nm,off,len)=>oL hp ti.size (some len) s Z fun sb Z=>AI hp nm off sb Z k
   |none=>none
  |_=>none
 |_,_,_=>none
def AB(e:TypeId)(ti:TypeInfo)(hp:Nat->Option ax)(nx nm sz a len:Nat)(from_:Option Nat)(n:Nat)(x:Option Body)(Z:A)(k:br->A->Option β):Option β:=
 ask Z (Nat.beq n 0) fun t Z=>Bool.rec
  (fE Z (fits ti (len+n)=true) fun Z=>if a=0/\sz=ti.size then
   (match bn hp nm with
    |some (t,false,some sz',b)=>if sz'=ti.size/\t=e then b.Fz 0 (len*ti.size) Z fun b Z=>fN (DB e nx ti.size (len+n) nm (some b) x (nm::dY from_)) Z k else none
    |_=>none)else none)
  (k ⟨.one (.c (.aC nm sz a len)),.none,dY from_,true⟩ Z) t
def Fl(e:TypeId)(ti:TypeInfo)(hp:Nat->Option ax)(nx nm off len cap:Nat)(from_:Option Nat)(n:Nat)(x:Option Body)(Z:A)(k:br->A->Option β):Option β:=
 ask Z (Nat.beq n 0) fun t Z=>Bool.rec
  (fE Z (cap<len+n/\fits ti (len+n)=true) fun Z=>match bn hp nm with
   |some (_,_,_,b)=>b.Fz off (len*ti.size) Z fun b Z=>fN (zh e nx ti.size (len+n) (some b) x (nm::dY from_)) Z k
   |none=>none)
  (fE Z (len<=cap) fun Z=>k ⟨.one (.c (.sl nm off len cap)),.none,dY from_,true⟩ Z) t
def Bu(e:TypeId)(ti:TypeInfo)(nx:Nat)(from_:Option Nat)(n:Nat)(x:Option Body)(Z:A)(k:br->A->Option β):Option β:=
 ask Z (Nat.beq n 0) fun t Z=>Bool.rec
  (fE Z (fits ti n=true) fun Z=>match x with
   |some x=>k ⟨.one (.c (.aC nx ti.size 0 n)),.new (.row e false (some ti.size) x),dY from_,true⟩ Z
   |none=>none)
  (k ⟨.one (.c .bf),.none,dY from_,true⟩ Z) t
def Fc(e:TypeId)(ti:TypeInfo)(hp:Nat->Option ax)(nx:Nat)(d:Cell)(s:Option Nat×Nat×Option Body)(Z:A)(k:br->A->Option β):Option β:=
 match d with
 | .bf=>Bu e ti nx s.1 s.2.1 s.2.2 Z k
 | .aC nm sz a len=>AB e ti hp nx nm sz a len s.1 s.2.1 s.2.2 Z k
 | .sl nm off len cap=>Fl e ti hp nx nm off len cap s.1 s.2.1 s.2.2 Z k
 |d=>fN (Ao e ti hp nx d (some s)) Z k
def rO(P:Program)(hp:Nat->Option ax)(nx:Nat)(argTypes:Array TypeId)(d s:RV)(Z:A)(k:br->A->Option β):Option β:=
 match argTypes[0]?,d,s with
 |some dt,.one (.c d),.one (.c s)=>match P.underlying dt with
  |some (.slice e)=>match P.info? e with
   |some ti=>match iT P e with
    |some z=>if z.size=ti.size/\appArg P argTypes=true then oL hp ti.size none s Z fun sb Z=>Fc e ti hp nx d sb Z k else none
    |none=>none
   |none=>none
  |_=>none
 |_,_,_=>none
def Bh(P:Program)(ev:Ev)(hp:Hp)(nx:Nat)(c:Call)(Z:A)(k:br->A->Option β):Option β:=
 match c.callee with
 | .builtin b=>match lS ev c.args.toList with
  |some l=>(match b,l with
   | .copy,[d,s]=>yb P hp c.argTypes d s Z k
   | .append,[d,s]=>rO P hp nx c.argTypes d s Z k
   |b,l=>fN (ir P hp nx b c.argTypes l) Z k)
  |none=>none
 |_=>none
def Mq(hp:Hp)(x:Cell)(Z:A)(k:br->A->Option β):Option β:=
 oL hp 1 none x Z fun sb Z=>match sb with
  |(some nm,_,some (.ints .u8 l _))=>k ⟨.one (.c (.str (strOf l))),.none,[nm],true⟩ Z
  |_=>none
def BA(P:Program)(ev:Ev)(hp:Hp)(nx:Nat)(src dst:TypeId)(x:Operand)(Z:A)(k:br->A->Option β):Option β:=
 match ev x,P.underlying src,P.underlying dst with
 |some (.one (.c (.sl nm off len cap))),some (.slice e),some .string=>match P.underlying e with
  |some (.int .u8)=>Mq hp (.sl nm off len cap) Z k
  |_=>none
 |some (.one (.c (.aC nm sz a len))),some (.slice e),some .string=>match P.underlying e with
  |some (.int .u8)=>Mq hp (.aC nm sz a len) Z k
  |_=>none
 |some (.one (.c (.str s))),some .string,some (.slice e)=>match P.underlying e with
  |some (.int .u8)=>fE Z (s.size<=1000000000) fun Z=>k ⟨.one (.c (.aC nx 1 0 s.size)),.new (.row e true (some 1) (.ints .u8 (s.data.toList.map fun x=>(x.toNat:Int)) s.size)),[],true⟩ Z
  |_=>none
 |_,_,_=>fN (iV P ev hp nx (.convert src dst x)) Z k
def Aq(ev:Ev)(c a b:Operand)(Z:A)(k:br->A->Option β):Option β:=
 match ev c with
 |some (.one (.c (.bool t)))=>match ev a with
  |some x=>match ev b with
   |some y=>ask Z t fun t Z=>fN (LO t x y) Z k
   |none=>none
  |none=>none
 |_=>none
def AN(P:Program)(ev:Ev)(hp:Hp)(nx:Nat)(o:Op)(Z:A)(k:br->A->Option β):Option β:=
 match o with
 | .pick c a b=>Aq ev c a b Z k
 | .load t a=>yn P ev hp t a Z k
 | .store t a x=>xw P ev hp t a x Z k
 | .binOp op t x y _=>DU P ev op t x y Z k
 | .makeSlice t l c=>pF P ev nx t l c Z k
 | .slice t x lo hi mx=>yv P ev t x lo hi mx Z k
 | .indexAddr t x i=>oJ P ev t x i Z k
 | .index t x i=>yk P ev t x i Z k
 | .lookup t m kx ok=>tI P ev hp t m kx ok Z k
 | .mapUpdate t m kx x=>ln P ev hp t m kx x Z k
 | .insert t m kx x=>ln P ev hp t m kx x Z k
 | .next x b=>BO ev hp x b Z k
 | .call c=>Bh P ev hp nx c Z k
 | .convert src dst x=>BA P ev hp nx src dst x Z k
 |o=>fN (iV P ev hp nx o) Z k
abbrev bg:=List RV->T ax->Nat->Option (RV×T ax×Nat×List Nat×List Prop)
abbrev lj(β:Type):=FuncId->List RV->S->A->(RV->S->A->Option β)->Option β
abbrev np(β:Type):=Nat->Code->S->A->(X->S->A->Option β)->Option β
variable(P:Program)(Sg:FuncId->Option bg)
def zy(c:Cell)(k:Cell->Option β):Option β:=
 match c with
 | .ptr nm off=>eX nm fun nm=>k (.ptr nm off)
 | .sl nm off len cap=>eX nm fun nm=>k (.sl nm off len cap)
 | .aC nm sz off len=>eX nm fun nm=>k (.aC nm sz off len)
 | .map nm=>eX nm fun nm=>k (.map nm)
 |c=>k c
def uE:List Cell->(List Cell->Option β)->Option β
 | [],k=>k []
 |x::xs,k=>zy x fun x=>uE xs fun xs=>k (x::xs)
def Oo(v:AV)(k:AV->Option β):Option β:=
 match v with
 | .c x=>zy x fun x=>k (.c x)
 | .agg l=>uE l fun l=>k (.agg l)
 | .ints kd l n=>k (.ints kd l n)
def K4:List AV->(List AV->Option β)->Option β
 | [],k=>k []
 |x::xs,k=>Oo x fun x=>K4 xs fun xs=>k (x::xs)
def Wm(v:RV)(k:RV->Option β):Option β:=
 match v with
 | .one v=>Oo v fun v=>k (.one v)
 | .aF l=>K4 l fun l=>k (.aF l)
 | .any=>k .any
def Xs:List (Cell×AV)->(List (Cell×AV)->Option β)->Option β
 | [],k=>k []
 |(x,v)::xs,k=>zy x fun x=>Oo v fun v=>Xs xs fun xs=>k ((x,v)::xs)
def xA(b:ax)(k:ax->Option β):Option β:=
 match b with
 | .row t ro o (.cells l)=>uE l fun l=>k (.row t ro o (.cells l))
 | .row t ro o (.ints kd l n)=>k (.row t ro o (.ints kd l n))
 | .row t ro o (.aT l n)=>k (.row t ro o (.aT l n))
 | .map es=>Xs es fun es=>k (.map es)
 | .dK o kd l=>k (.dK o kd l)
 | .recs o kd l=>k (.recs o kd l)
 | .aQ vk l=>k (.aQ vk l)
 | .mapR es=>k (.mapR es)
 | .loop st sl ps aa bd=>k (.loop st sl ps aa bd)
 | .iter s p=>k (.iter s p)
 | .mapP es=>k (.mapP es)
 | .eE l=>k (.eE l)
 | .di l=>k (.di l)
def A9(u:cf)(s:S)(k:S->Option β):Option β:=
 match s with
 |⟨sl,hp,nx,lg⟩=>match u with
  | .none=>k ⟨sl,hp,nx,lg⟩
  | .new b=>xA b fun b=>T.set depth hp nx (some b) fun hp=>eX (nx+1) fun nx=>k ⟨sl,hp,nx,lg⟩
  | .wr nm b=>Bool.rec none (xA b fun b=>T.set depth hp nm (some b) fun hp=>k ⟨sl,hp,nx,nm::lg⟩) (Nat.blt nm nx)
  | .mv nm b=>Bool.rec none (xA b fun b=>T.set depth hp nm none fun hp=>T.set depth hp nx (some b) fun hp=>eX (nx+1) fun nx=>k ⟨sl,hp,nx,nm::lg⟩) (Nat.blt nm nx)
def vH(n:Nat)(d:Option Tmp)(v:RV)(s:S)(k:S->Option β):Option β:=
 match d with
 |none=>k s
 |some d=>match s with
  |⟨sl,hp,nx,lg⟩=>if d<n then T.set depth sl d (some v) fun sl=>k ⟨sl,hp,nx,lg⟩else none
def Hq(n:Nat)(o:Oper)(s:S)(Z:A)(k:fG->S->A->Option β):Option β:=
 match s with
 |⟨sl,hp,nx,lg⟩=>AN P (eval n sl) hp.get nx o.op Z fun r Z=>match r with
  |⟨v,u,ar,_⟩=>Wm v fun v=>A9 u ⟨sl,hp,nx,lg⟩ fun s=>vH n o.dst v s fun s=>k (some ar) s Z
def Gh(n:Nat)(ops:List Oper)(sl:T RV)(o:Oper)(Z:A)(k:Bool->A->Option β):Option β:=
 match o.guard with
 |none=>k true Z
 |some (j,want)=>match ops[j]? with
  |some oj=>match oj.dst with
   |some d=>match eval n sl (.tmp d)with
    |some (.one (.c (.bool b)))=>ask Z b fun b Z=>k (b==want) Z
    |some (.aF [])=>k false Z
    |_=>none
   |none=>none
  |none=>none
def xo(call:lj β)(n:Nat)(f:Operand)(args:Array Operand)(d:Option Tmp)(s:S)(Z:A)(k:fG->S->A->Option β):Option β:=
 match me n s.sl f with
 |some (f,fs,dH)=>match lS (eval n s.sl) args.toList with
  |some l=>call f (fs++(l++dH)) s Z fun v s' Z=>vH n d v s' fun s'=>k none s' Z
  |none=>none
 |none=>none
def Wj(Z:A):Bool:=match Z with|⟨_,orc,_⟩=>match orc with| []=>false|(i,_)::_=>Nat.beq i 2000000000
def MI(n:Nat)(d:Tmp)(b:Bool)(s:S)(k:S->Option β):Option β:=
 match s with
 |⟨sl,hp,nx,lg⟩=>match eval n sl (.tmp d)with
  |some (.one (.c (.bool _)))=>T.set depth sl d (some (.one (.c (.bool b)))) fun sl=>k ⟨sl,hp,nx,lg⟩
  |_=>k ⟨sl,hp,nx,lg⟩
def SX(n:Nat)(ops:List Oper)(o:Oper)(g:Bool)(s:S)(Z:A)(k:S->Option β):Option β:=
 match Wj Z with
 |false=>k s
 |true=>match o.guard with
  |none=>k s
  |some (j,want)=>match ops[j]? with
   |some oj=>match oj.dst with
    |some d=>MI n d (g==want) s k
    |none=>k s
   |none=>k s
def Ul(n:Nat)(c:Operand)(t:Bool)(s:S)(Z:A)(k:S->Option β):Option β:=
 match Wj Z with
 |false=>k s
 |true=>match c with
  | .tmp d=>MI n d t s k
  |_=>k s
def V5(call:lj β)(n:Nat)(ops:List Oper)(o:Oper)(s:S)(Z:A)(k:fG->S->A->Option β):Option β:=
 Gh n ops s.sl o Z fun g Z=>SX n ops o g s Z fun s=>
  match g with
  |true=>match rH o.op with
   |some (f,args)=>xo call n f args o.dst s Z k
   |none=>Hq P n o s Z k
  |false=>vH n o.dst fc s fun s=>k (some []) s Z
def LJ(call:lj β)(n:Nat)(ops:List Oper):List Oper->S->A->(S->A->Option β)->Option β
 | [],s,Z,k=>k s Z
 |o::rest,s,Z,k=>V5 P call n ops o s Z fun _ s Z=>LJ call n ops rest s Z k
def vI(call:lj β)(n:Nat)(ops:List Oper):List Oper->List FP->S->A->(List FP->S->A->Option β)->Option β
 | [],fps,s,Z,k=>k fps s Z
 |o::rest,fps,⟨sl,hp,nx,_⟩,Z,k=>V5 P call n ops o ⟨sl,hp,nx,[]⟩ Z fun ar s' Z=>match s' with
   |⟨sl',hp',nx',lg'⟩=>vI call n ops rest (fps++ [⟨ar,lg',nx,nx'⟩]) ⟨sl',hp',nx',lg'⟩ Z k
def WV(call:lj β)(n:Nat)(ops:List Oper)(s:S)(Z:A)(k:S->A->Option β):Option β:=
 match qA ops ops 0 with
 |false=>none
 |true=>vI P call n ops ops [] s Z fun fps s' Z=>
  match kH ops ops (kf ops []) fps [] []with
  |true=>(match s,s' with|⟨_,_,_,lg0⟩,⟨sl,hp,nx,_⟩=>k ⟨sl,hp,nx,mw fps lg0⟩ Z)
  |false=>none
def BL(call:lj β)(n:Nat)(ops:List Oper)(draw:Bool)(s:S)(Z:A)(k:S->A->Option β):Option β:=
 match draw with
 |false=>LJ P call n ops ops s Z k
 |true=>WV P call n ops s Z k
def V6(fn:Func)(s:S)(k:RV->S->A->Option β)(x:X)(s':S)(Z:A):Option β:=
 match x with
 | .exit _=>none
 |_=>match ba P fn.ntmps s' fn.results.toList with
  |some l=>Wm (c6 l) fun v=>match s,s' with
   |⟨sl,_,_,_⟩,⟨_,hp,nx,lg⟩=>k v ⟨sl,hp,nx,lg⟩ Z
  |none=>none
def zC(ex:np β)(fn:Func)(c:Code)(args:List RV)(s:S)(Z:A)(k:RV->S->A->Option β):Option β:=
 match s with
 |⟨bf,hp,nx,lg⟩=>setArgs fn.ntmps args 0 .nil fun sl=>ex fn.ntmps c ⟨sl,hp,nx,lg⟩ Z (V6 P fn ⟨bf,hp,nx,lg⟩ k)
def Bk(ex:np β):lj β:=fun g args s Z k=>
 match P.funcs[g]? with
 |none=>none
 |some fn=>match Nat.blt g YB with
  |false=>none
  |true=>match fn.body with
   |none=>none
   |some c=>match Sg g with
    |some sm=>match sm args s.hp s.nx with
     |some (v,hp,nx,lg,ps)=>(match s,Z with|⟨sl,_,_,lg0⟩,⟨n,orc,ob⟩=>k v ⟨sl,hp,nx,lg++lg0⟩ ⟨n,orc,ps++ob⟩)
     |none=>zC P ex fn c args s Z k
    |none=>zC P ex fn c args s Z k
def K5(ex:np β)(n:Nat)(b:Code)(k:X->S->A->Option β)(x:X)(s:S)(Z:A):Option β:=
 match x with
 | .normal=>ex n b s Z k
 |x=>k x s Z
def Pk(id:Nat)(k:X->S->A->Option β)(x:X)(s:S)(Z:A):Option β:=
 match x with
 | .exit j=>if j=id then k .normal s Z else k (.exit j) s Z
 |x=>k x s Z
def WK(ex:np β)(n:Nat)(c:Operand)(a b:Code)(s:S)(Z:A)(k:X->S->A->Option β):Option β:=
 match eval n s.sl c with
 |some (.one (.c (.bool t)))=>ask Z t fun t Z=>Ul n c t s Z fun s=>Bool.rec (ex n b s Z k) (ex n a s Z k) t
 |_=>none
def sZ(ex:np β)(n:Nat)(c:Code)(s:S)(Z:A)(k:X->S->A->Option β):Option β:=
 match c with
 | .skip=>k .normal s Z
 | .ret=>k .ret s Z
 | .exit id=>k (.exit id) s Z
 | .seq a b=>ex n a s Z (K5 ex n b k)
 | .cond c a b=>WK ex n c a b s Z k
 | .block id c=>ex n c s Z (Pk id k)
 | .loop c=>ex n c s Z (K5 ex n (.loop c) k)
 | .region _ ops draw=>BL P (Bk P Sg ex) n ops.toList draw s Z (k .normal)
 |_=>none
def az(f:Nat):np β:=Nat.rec (fun _ _ _ _ _=>none) (fun _ ih n c s Z k=>sZ P Sg ih n c s Z k) f
def cO(fuel:Nat)(g:FuncId)(args:List RV)(s:S)(Z:A)(k:RV->S->A->Option β):Option β:=
 match P.funcs[g]? with
 |none=>none
 |some fn=>match fn.body with
  |none=>none
  |some c=>zC P (az P Sg fuel) fn c args s Z k
end defs
end
end Go.Sx
