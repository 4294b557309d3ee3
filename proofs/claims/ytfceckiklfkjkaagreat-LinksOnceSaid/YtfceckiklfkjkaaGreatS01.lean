import Derived.WalkKit
noncomputable section
namespace Go.Sx
theorem ae.{u} {α:Type u}(a b:α):(some a=some b)=(a=b):=Option.some.injEq a b
theorem af.{u,v} {α:Type u} {β:Type v}(a:α)(b:β)(c:α)(d:β):((a,b)=(c,d))=(a=c/\b=d):=Prod.mk.injEq a b c d
abbrev aj:=List Int
abbrev ak:=List (Int×Int)
abbrev ai:=Option Prop
inductive T(Z:Type) where
 |nil
 |node (l:T Z) (v:Option Z) (r:T Z)
namespace T
def get{Z:Type}(t:T Z):Nat->Option Z:=
 T.rec (fun _=>none)
  (fun _ v _ gl gr i=>Bool.rec (Bool.rec (gr (Nat.pred (Nat.div i 2))) (gl (Nat.div i 2)) (Nat.beq (Nat.mod i 2) 1)) v (Nat.beq i 0)) t
def path{Z β:Type}(x:Option Z)(f:Nat):Nat->(T Z->Option β)->Option β:=
 Nat.rec (fun _ _=>none)
  (fun _ ih i k=>Bool.rec
   (Bool.rec (ih (Nat.pred (Nat.div i 2)) fun r=>k (.node .nil none r)) (ih (Nat.div i 2) fun l=>k (.node l none .nil)) (Nat.beq (Nat.mod i 2) 1))
   (k (.node .nil x .nil)) (Nat.beq i 0)) f
def set{Z β:Type}(d:Nat)(t:T Z)(i:Nat)(x:Option Z)(k:T Z->Option β):Option β:=
 T.rec (motive:=fun _=>Nat->(T Z->Option β)->Option β) (fun i k=>path x d i k)
  (fun l v r sl sr i k=>Bool.rec
   (Bool.rec (sr (Nat.pred (Nat.div i 2)) fun r'=>k (.node l v r')) (sl (Nat.div i 2) fun l'=>k (.node l' v r)) (Nat.beq (Nat.mod i 2) 1))
   (k (.node l x r)) (Nat.beq i 0)) t i k
end T
inductive Cell where
 |int (k:IntKind) (n:Int)
 |bool (b:Bool)
 |str (s:ByteArray)
 |ptr0
 |ptr (nm off:Nat)
 |bf
 |sl (nm off len cap:Nat)
 |aC (nm size at_ len:Nat)
 |map0
 |map (nm:Nat)
 |fn0
 |fn (f:FuncId) (fs dH:List (Nat×Nat))
 |any
 |yield (nm:Nat)
 |dI (l:aj)
 |vptr (l:aj) (i:Nat)
inductive AV where
 |c (x:Cell)
 |agg (l:List Cell)
 |ints (k:IntKind) (l:aj) (n:Nat)
inductive RV where
 |one (v:AV)
 |aF (l:List AV)
 |any
inductive Body where
 |cells (l:List Cell)
 |ints (k:IntKind) (l:aj) (n:Nat)
 |aT (l:List Bool) (n:Nat)
inductive LSt where
 |ready
 |busy
 |done (id:Option Nat)
inductive ax where
 |row (t:TypeId) (ro:Bool) (opn:Option Nat) (b:Body)
 |map (es:List (Cell×AV))
 |dK (off:Nat) (k:IntKind) (l:aj)
 |aQ (vk:Option IntKind) (l:ak)
 |mapR (es:List (Cell×AV))
 |loop (st:LSt) (sl:List RV) (ps:List Nat) (aa bd:Code)
 |iter (s:ByteArray) (pos:Nat)
 |mapP (es:List (Cell×AV))
 |recs (off:Nat) (ks:List IntKind) (l:aj)
 |eE (l:List (Int×List Int))
 |di (l:List ByteArray)
abbrev fc:RV:= .aF []
def eX{β:Type}(n:Nat)(k:Nat->β):β:=Nat.rec (k 0) (fun m _=>k (m+1)) n
def NG{β:Type}(n:Int)(k:Int->β):β:=
 match n with
 | .ofNat m=>eX m fun m=>k (.ofNat m)
 | .negSucc m=>eX m fun m=>k (.negSucc m)
def KV{β:Type}(b:Bool)(k:Bool->β):β:=match b with|true=>k true|false=>k false
def yD{β:Type}:List Int->(List Int->β)->β
 | [],k=>k []
 |x::xs,k=>NG x fun x=>yD xs fun xs=>k (x::xs)
def yQ{β:Type}:List Bool->(List Bool->β)->β
 | [],k=>k []
 |x::xs,k=>KV x fun x=>yQ xs fun xs=>k (x::xs)
def Dr{β:Type}:List Nat->(List Nat->β)->β
 | [],k=>k []
 |x::xs,k=>eX x fun x=>Dr xs fun xs=>k (x::xs)
def Oc(l:List Nat):ByteArray:=⟨⟨l.map UInt8.ofNat⟩⟩
def TR{β:Type}(s:ByteArray)(k:ByteArray->β):β:=Dr (s.data.toList.map UInt8.toNat) fun l=>k (Oc l)
def zL{β:Type}(c:Cell)(k:Cell->β):β:=
 match c with
 | .str s=>TR s fun s=>k (.str s)
 | .int kd n=>NG n fun n=>k (.int kd n)
 | .bool b=>KV b fun b=>k (.bool b)
 | .ptr nm off=>eX nm fun nm=>eX off fun off=>k (.ptr nm off)
 | .sl nm off len cap=>eX nm fun nm=>eX off fun off=>eX len fun len=>eX cap fun cap=>k (.sl nm off len cap)
 | .aC nm sz off len=>eX nm fun nm=>eX sz fun sz=>eX off fun off=>eX len fun len=>k (.aC nm sz off len)
 | .map nm=>eX nm fun nm=>k (.map nm)
 | .yield nm=>eX nm fun nm=>k (.yield nm)
 |c=>k c
def uS{β:Type}:List Cell->(List Cell->β)->β
 | [],k=>k []
 |x::xs,k=>zL x fun x=>uS xs fun xs=>k (x::xs)
def Pz{β:Type}(v:AV)(k:AV->β):β:=
 match v with
 | .c x=>zL x fun x=>k (.c x)
 | .agg l=>uS l fun l=>k (.agg l)
 | .ints kd l n=>yD l fun l=>eX n fun n=>k (.ints kd l n)
def KH{β:Type}:List AV->(List AV->β)->β
 | [],k=>k []
 |x::xs,k=>Pz x fun x=>KH xs fun xs=>k (x::xs)
def fRV{β:Type}(v:RV)(k:RV->β):β:=
 match v with
 | .one v=>Pz v fun v=>k (.one v)
 | .aF l=>KH l fun l=>k (.aF l)
 | .any=>k .any
def Ja{β:Type}:List (Cell×AV)->(List (Cell×AV)->β)->β
 | [],k=>k []
 |(x,v)::xs,k=>zL x fun x=>Pz v fun v=>Ja xs fun xs=>k ((x,v)::xs)
def yh{β:Type}(b:ax)(k:ax->β):β:=
 match b with
 | .row t ro o (.cells l)=>uS l fun l=>k (.row t ro o (.cells l))
 | .row t ro o (.ints kd l n)=>yD l fun l=>eX n fun n=>k (.row t ro o (.ints kd l n))
 | .row t ro o (.aT l n)=>yQ l fun l=>eX n fun n=>k (.row t ro o (.aT l n))
 | .map es=>Ja es fun es=>k (.map es)
 | .dK o kd l=>k (.dK o kd l)
 | .aQ vk l=>k (.aQ vk l)
 | .mapR es=>Ja es fun es=>k (.mapR es)
 | .loop st sl ps aa bd=>k (.loop st sl ps aa bd)
 | .iter s p=>eX p fun p=>k (.iter s p)
 | .mapP es=>Ja es fun es=>k (.mapP es)
 | .recs o ks l=>k (.recs o ks l)
 | .eE l=>k (.eE l)
 | .di l=>k (.di l)
def sRV{β:Type}(z:Bool)(v:RV)(k:RV->β):β:=match z with|true=>fRV v k|false=>k v
def GQ{β:Type}(z:Bool)(v:ax)(k:ax->β):β:=match z with|true=>yh v k|false=>k v
inductive TK where
 |sc
 |ints (k:IntKind) (n:Nat)
 |agg (n:Nat)
def v8(P:Program):Nat->TypeId->Option IntKind
 | 0,_=>none
 |d+1,t=>match P.underlying t with
  |some (.int k)=>some k
  |some (.array _ e)=>v8 P d e
  |_=>none
def tk(P:Program)(t:TypeId):Option TK:=
 match P.underlying t,P.info? t with
 |some (.struct _),some i=>some (.agg i.size)
 |some (.array _ e),some i=>match v8 P 5 e with
  |some k=>some (.ints k i.size)
  |none=>some (.agg i.size)
 |some _,some _=>some .sc
 |_,_=>none
def cellOf:Value->Option Cell
 | .int k n=>some (.int k n)
 | .bool b=>some (.bool b)
 | .string s=>some (.str s)
 | .pointer none=>some .ptr0
 | .slice none 0 0=>some .bf
 | .map none=>some .map0
 | .nilFunc=>some .fn0
 |_=>none
def cellsOf:List Value->Option (List Cell)
 | []=>some []
 |v::vs=>match cellOf v,cellsOf vs with
  |some c,some cs=>some (c::cs)
  |_,_=>none
def nq(k:IntKind):List Cell->Option (List Int)
 | []=>some []
 | .int k' n::cs=>if k=k' then(match nq k cs with|some l=>some (n::l)|none=>none)else none
 |_::_=>none
def oq:List Cell->Option (List Bool)
 | []=>some []
 | .bool b::cs=>(match oq cs with|some l=>some (b::l)|none=>none)
 |_::_=>none
def zeroOf(k:TK)(cs:List Value):Option AV:=
 match cellsOf cs with
 |none=>none
 |some l=>match k with
  | .sc=>none
  | .ints k n=>match nq k l with
   |some l=>if l.length=n then some (.ints k l n)else none
   |none=>none
  | .agg _=>some (.agg l)
def iT(P:Program)(t:TypeId):Option AV:=
 match tk P t with
 |some k=>match P.info? t with
  |some i=>match i.zero with
   |some (.agg cs)=>zeroOf k cs.toList
   |some v=>match cellOf v with
    |some c=>some (.c c)
    |none=>none
   |none=>none
  |none=>none
 |none=>none
def AV.body:AV->Body
 | .c (.int k n)=> .ints k [n] 1
 | .c x=> .cells [x]
 | .agg l=> .cells l
 | .ints k l n=> .ints k l n
def AV.pz:AV->List Cell
 | .c x=> [x]
 | .agg l=>l
 | .ints k l _=>l.map (.int k)
def AV.size:AV->Nat
 | .c _=>1
 | .agg l=>l.length
 | .ints _ _ n=>n
def wK(P:Program)(t:TypeId)(v:AV):Body:=
 match v8 P 5 t,v with
 |some _,v=>v.body
 |none,.c x=> .cells [x]
 |none,.agg l=> .cells l
 |none,.ints k l _=> .cells (l.map (.int k))
def Body.get (b:Body)(off:Nat)(t:TK):Option AV:=
 match b,t with
 | .ints k l n,.sc=>if off<n then some (.c (.int k (l.getD off 0)))else none
 | .ints k l n,.ints k' m=>if k=k'/\off+m<=n then some (.ints k ((l.drop off).take m) m)else none
 | .ints _ _ _,.agg _=>none
 | .aT l n,.sc=>if off<n then some (.c (.bool (l.getD off false)))else none
 | .aT _ _,_=>none
 | .cells l,.sc=>match l[off]? with|some c=>some (.c c)|none=>none
 | .cells l,.agg m=>if off+m<=l.length then some (.agg ((l.drop off).take m))else none
 | .cells l,.ints k m=>if off+m<=l.length then(match nq k ((l.drop off).take m)with|some l=>some (.ints k l m)|none=>none)else none
def aB{Z:Type}(l:List Z)(off:Nat)(x:List Z):List Z:=l.take off++x++l.drop (off+x.length)
def Body.set (b:Body)(off:Nat)(v:AV):Option Body:=
 match b,v with
 | .ints k l n,.c (.int k' x)=>if k=k'/\off<n then some (.ints k (l.set off x) n)else none
 | .ints k l n,.ints k' x m=>if k=k'/\off+m<=n then some (.ints k (aB l off x) n)else none
 | .ints _ _ _,_=>none
 | .aT l n,.c (.bool x)=>if off<n then some (.aT (l.set off x) n)else none
 | .aT _ _,_=>none
 | .cells l,v=>if off+v.size<=l.length then some (.cells (aB l off v.pz))else none
def Body.size:Body->Nat
 | .cells l=>l.length
 | .ints _ _ n=>n
 | .aT _ n=>n
inductive cf where
 |none
 |new (b:ax)
 |wr (nm:Nat) (b:ax)
 |mv (nm:Nat) (b:ax)
structure br where
 v:RV
 u:cf
 ar:List Nat
 fz:Bool:=true
def quiet(v:AV):Option br:=some ⟨.one v,.none,[],true⟩
def ZN(P:Program)(t:TypeId)(x y:Cell):Option Bool:=
 match P.underlying t,x,y with
 |some .bool,.bool a,.bool b=>some (a==b)
 |some (.pointer _),.ptr0,.ptr0=>some true
 |some (.pointer _),.ptr0,.ptr _ _=>some false
 |some (.pointer _),.ptr _ _,.ptr0=>some false
 |some (.slice _),.bf,.bf=>some true
 |some (.slice _),.sl ..,.bf=>some false
 |some (.slice _),.aC ..,.bf=>some false
 |some (.slice _),.bf,.sl .. =>some false
 |some (.slice _),.bf,.aC .. =>some false
 |some (.map _ _),.map0,.map0=>some true
 |some (.map _ _),.map _,.map0=>some false
 |some (.map _ _),.map0,.map _=>some false
 |some (.func _ _ _),.fn0,.fn0=>some true
 |some (.func _ _ _),.fn ..,.fn0=>some false
 |some (.func _ _ _),.fn0,.fn .. =>some false
 |_,_,_=>none
def Us(l:List Cell)(off n:Nat):List Cell:=(l.drop off).take n
def By(P:Program)(eq:TypeId->List Cell->List Cell->Option Bool)(xs ys:List Cell):List Field->Option Bool
 | []=>some true
 |f::fs=>match f.name== "_" with
  |true=>By P eq xs ys fs
  |false=>match P.info? f.type with
   |some i=>if f.offset+i.size<=xs.length/\f.offset+i.size<=ys.length then
     match eq f.type (Us xs f.offset i.size) (Us ys f.offset i.size),By P eq xs ys fs with
     |some a,some b=>some (a && b)
     |_,_=>none
    else none
   |none=>none
def qS:Option TypeDesc->List Cell->List Cell->Option Bool
 |some (.int _),[.int k a],[.int k' b]=>if k=k' then some (a==b)else none
 |some .bool,[.bool a],[.bool b]=>some (a==b)
 |some .string,[.str a],[.str b]=>some (a==b)
 |_,_,_=>none
def A2(P:Program)(e:TypeId):Bool:=
 match P.underlying e,P.info? e with
 |some (.int _),some i=>i.size==1
 |some .bool,some i=>i.size==1
 |some .string,some i=>i.size==1
 |_,_=>false
def od(d:Option TypeDesc):List Cell->List Cell->Option Bool
 | [],[]=>some true
 |x::xs,y::ys=>match qS d [x] [y],od d xs ys with
  |some a,some b=>some (a && b)
  |_,_=>none
 |_,_=>none
def Re(P:Program):Nat->TypeId->List Cell->List Cell->Option Bool
 | 0,_,_,_=>none
 |d+1,t,xs,ys=>match P.underlying t with
  |some (.struct fs)=>if P.stoodInHeld t then none else By P (Re P d) xs ys fs.toList
  |some (.array len e)=>if A2 P e=true/\xs.length=len/\ys.length=len then od (P.underlying e) xs ys else none
  |u=>qS u xs ys
def Rc(P:Program)(t:TypeId)(n:Nat):Bool:=
 match P.underlying t with
 |some (.array len e)=>match P.underlying e,P.info? e with
  |some (.int _),some i=>i.size==1 && len==n
  |_,_=>false
 |_=>false
def iw:TypeDesc->Bool
 | .struct _| .array _ _=>true
 |_=>false
def ZU(P:Program)(t:TypeId):Bool:=match P.underlying t with|some d=>iw d|none=>false
def Dw(P:Program)(t:TypeId)(x y:AV):Option Bool:=
 match x,y with
 | .c x,.c y=>ZN P t x y
 | .agg l,.agg m=>if P.eqGuardType P.depth t=false/\ZU P t=true then Re P 5 t l m else none
 | .ints k l n,.ints k' m n'=>if k=k'/\n=n'/\Rc P t n=true/\P.eqGuardType P.depth t=false then some (l==m)else none
 |_,_=>none
def DK(op:BinOp)(k:IntKind)(x y:Int):Option Int:=
 match op with
 | .and=>some (k.wrap ((BitVec.ofInt k.bits x &&& BitVec.ofInt k.bits y).toNat:Int))
 | .or=>some (k.wrap ((BitVec.ofInt k.bits x|||BitVec.ofInt k.bits y).toNat:Int))
 | .xor=>some (k.wrap ((BitVec.ofInt k.bits x ^^^ BitVec.ofInt k.bits y).toNat:Int))
 | .andNot=>some (k.wrap ((BitVec.ofInt k.bits x &&& ~~~(BitVec.ofInt k.bits y)).toNat:Int))
 |_=>none
def pa(op:BinOp)(k:IntKind)(a b:Int):Option Cell:=
 match op with
 | .add=>some (.int k (k.wrap (a+b)))
 | .sub=>some (.int k (k.wrap (a - b)))
 | .mul=>some (.int k (k.wrap (a*b)))
 | .quo=>if b=0 then none else some (.int k (k.wrap (a.tdiv b)))
 | .rem=>if b=0 then none else some (.int k (a.tmod b))
 | .eql=>some (.bool (a==b))
 | .neq=>some (.bool (a !=b))
 | .lss=>some (.bool (decide (a<b)))
 | .leq=>some (.bool (decide (a<=b)))
 | .gtr=>some (.bool (decide (a>b)))
 | .geq=>some (.bool (decide (a>=b)))
 |op=>match DK op k a b with|some n=>some (.int k n)|none=>none
def xO:Sem Value->Option Cell
 | .pure v=>cellOf v
 |_=>none
def oH(op:BinOp)(k:IntKind)(a b:Int):Option AV:=
 match op with
 | .shl=>if b<0 then none else some (.c (.int k (k.wrap (a*2 ^(min b.toNat k.bits)))))
 | .shr=>if b<0 then none else some (.c (.int k (a.fdiv (2 ^(min b.toNat k.bits)))))
 |_=>none
def qG:BinOp->Bool
 | .shl| .shr=>true
 |_=>false
def qD(op:BinOp)(k:IntKind)(a:Int)(k':IntKind)(b:Int):Option AV:=
 match qG op with
 |true=>oH op k a b
 |false=>if k=k' then(match pa op k a b with|some c=>some (.c c)|none=>none)else none
def VP(P:Program)(op:BinOp)(t:TypeId)(x y:AV):Option AV:=
 match op with
 | .eql=>match Dw P t x y with|some b=>some (.c (.bool b))|none=>none
 | .neq=>match Dw P t x y with|some b=>some (.c (.bool (!b)))|none=>none
 |_=>none
def rq(P:Program)(op:BinOp)(t:TypeId)(x y:AV):Option AV:=
 match x,y with
 | .c (.int k a),.c (.int k' b)=>qD op k a k' b
 | .c (.str a),.c (.str b)=>match xO (Op.stringOp op a b)with|some c=>some (.c c)|none=>none
 |x,y=>VP P op t x y
def LY(op:UnOp)(x:RV):Option AV:=
 match op,x with
 | .neg,.one (.c (.int k n))=>some (.c (.int k (k.wrap (0 - n))))
 | .xor,.one (.c (.int k n))=>match DK .xor k (if k.signed then -1 else k.max) n with|some m=>some (.c (.int k m))|none=>none
 | .not,.one (.c (.bool b))=>some (.c (.bool !b))
 |_,_=>none
def pW(place:Nat->Option (Nat×Nat))(b:Body):List (Nat×RV)->Option Body
 | []=>some b
 |(i,.one v)::rest=>match place i with
  |some (off,size)=>if v.size=size then(match b.set off v with|some b=>pW place b rest|none=>none)else none
  |none=>none
 |(_,.aF _)::_=>none
 |(_,.any)::_=>none
def Js(ev:Operand->Option RV):List (Nat×Operand)->Option (List (Nat×RV))
 | []=>some []
 |(i,x)::r=>match ev x,Js ev r with
  |some v,some l=>some ((i,v)::l)
  |_,_=>none
def lS(ev:Operand->Option RV):List Operand->Option (List RV)
 | []=>some []
 |x::r=>match ev x,lS ev r with
  |some v,some l=>some (v::l)
  |_,_=>none
def place(P:Program)(t:TypeId):Nat->Option (Nat×Nat):=fun i=>
 match P.underlying t with
 |some (.struct fs)=>match fs[i]? with
  |some f=>match P.info? f.type with|some ti=>some (f.offset,ti.size)|none=>none
  |none=>none
 |some (.array _ e)=>match P.info? e with|some ti=>some (i*ti.size,ti.size)|none=>none
 |_=>none
def Body.abS (t:TK):Body->Option AV
 | .cells l=>match t with
  | .sc=>none
  | .ints k n=>match nq k l with
   |some l=>if l.length=n then some (.ints k l n)else none
   |none=>none
  | .agg _=>some (.agg l)
 | .ints k l n=>match t with
  | .ints _ _=>some (.ints k l n)
  |_=>none
 | .aT _ _=>none
def Eh(P:Program)(t:TypeId):Bool:=
 match P.underlying t with
 |some (.struct fs)=>fs.toList.all fun f=>(P.info? f.type).isSome
 |some (.array _ e)=>(P.info? e).isSome
 |_=>false
def cx{Z:Type}(l:List Z):Nat->List Z
 | 0=> []
 |n+1=>l++cx l n
def GP(b:AV)(n:Nat):Body:=
 match b.body with
 | .cells l=> .cells (cx l n)
 | .ints k l m=> .ints k (cx l n) (m*n)
 | .aT l m=> .aT (cx l n) (m*n)
def ga(x:Option RV)(lo hi dflt:Nat):Option Nat:=
 match x with
 |none=>some dflt
 |some (.one (.c (.int _ i)))=>match i with
  | .ofNat m=>if lo<=m/\m<=hi then some m else none
  | .negSucc _=>none
 |some _=>none
def fO(s:Nat)(x:Cell)(lo hi:Option RV):Option Cell:=
 match x with
 | .sl nm off len cap=>
  match ga hi 0 cap len with
  |some h=>match ga lo 0 h 0 with
   |some l=>some (.sl nm (if cap=l then off else off+l*s) (h - l) (cap - l))
   |none=>none
  |none=>none
 | .aC nm sz a len=>
  match ga hi 0 len len with
  |some h=>match ga lo 0 h 0 with
   |some l=>if sz=s then some (.aC nm sz (a+l) (h - l))else none
   |none=>none
  |none=>none
 | .bf=>
  match ga hi 0 0 0 with
  |some _=>match ga lo 0 0 0 with
   |some _=>some .bf
   |none=>none
  |none=>none
 |_=>none
def vM(ev:Operand->Option RV):Option Operand->Option (Option RV)
 |none=>some none
 |some x=>match ev x with|some v=>some (some v)|none=>none
def jE:Cell->Cell->Option Bool
 | .int k a,.int k' b=>if k=k' then some (a==b)else none
 | .str a,.str b=>some (a==b)
 | .bool a,.bool b=>some (a==b)
 |_,_=>none
def eI:Option TypeDesc->Cell->Bool
 |some (.int _),.int _ _=>true
 |some .string,.str _=>true
 |some .bool,.bool _=>true
 |_,_=>false
def findKey(k:Cell):List (Cell×AV)->Nat->Option (Option (Nat×AV))
 | [],_=>some none
 |(c,v)::r,i=>match jE k c with
  |some true=>some (some (i,v))
  |some false=>findKey k r (i+1)
  |none=>none
def dn:Cell->Nat->Option (Option (Nat×Nat×Nat))
 | .bf,_=>some none
 | .sl nm off len _,_=>some (some (nm,off,len))
 | .aC nm sz a len,s=>if sz=s/\len≠0 then some (some (nm,a*sz,len))else if len=0 then some none else none
 |_,_=>none
def bn(hp:Nat->Option ax)(nm:Nat):Option (TypeId×Bool×Option Nat×Body):=
 match hp nm with
 |some (.row t ro o b)=>some (t,ro,o,b)
 |_=>none
def Body.cut (b:Body)(off n:Nat):Option Body:=
 match b with
 | .cells l=>if off+n<=l.length then some (.cells ((l.drop off).take n))else none
 | .ints k l m=>if off+n<=m then some (.ints k ((l.drop off).take n) n)else none
 | .aT l m=>if off+n<=m then some (.aT ((l.drop off).take n) n)else none
def Body.put (b:Body)(off:Nat)(x:Body):Option Body:=
 match b,x with
 | .cells l,.cells x=>if off+x.length<=l.length then some (.cells (aB l off x))else none
 | .ints k l n,.ints k' x m=>if k=k'/\off+m<=n then some (.ints k (aB l off x) n)else none
 | .cells l,.ints k x m=>if off+m<=l.length then some (.cells (aB l off (x.map (.int k))))else none
 | .aT l n,.aT x m=>if off+m<=n then some (.aT (aB l off x) n)else none
 | .aT l n,.cells x=>(match oq x with|some y=>if off+x.length<=n then some (.aT (aB l off y) n)else none|none=>none)
 | .cells l,.aT x m=>if off+m<=l.length then some (.cells (aB l off (x.map .bool)))else none
 | .aT ..,.ints .. =>none
 | .ints ..,_=>none
def Body.cat (x y:Body):Option Body:=
 match x,y with
 | .cells l,.cells m=>some (.cells (l++m))
 | .ints k l n,.ints k' m n'=>if k=k' then some (.ints k (l++m) (n+n'))else none
 | .cells l,.ints k m _=>some (.cells (l++m.map (.int k)))
 | .cells l,.aT m _=>some (.cells (l++m.map .bool))
 | .aT l n,.aT m n'=>some (.aT (l++m) (n+n'))
 | .aT l n,.cells m=>(match oq m with|some y=>some (.aT (l++y) (n+m.length))|none=>none)
 | .aT ..,.ints .. =>none
 | .ints ..,_=>none
def dY:Option Nat->List Nat
 |some n=> [n]
 |none=> []
def eQ(n:Option Nat)(l:Nat):Nat:=match n with|some m=>min l m|none=>l
def iJ(hp:Nat->Option ax)(nm off n:Nat):Option Body:=
 match hp nm with
 |some (.row _ _ _ b)=>b.cut off n
 |some (.dK o k l)=>if o<=off/\off - o+n<=l.length then some (.ints k ((l.drop (off - o)).take n) n)else none
 |_=>none
def fB(hp:Nat->Option ax)(s:Nat)(n:Option Nat)(x:Cell):Option (Option Nat×Nat×Option Body):=
 match x with
 | .str b=>if s=1 then some (none,eQ n b.size,some (.ints .u8 ((b.data.toList.map fun x=>(x.toNat:Int)).take (eQ n b.size)) (eQ n b.size)))else none
 |x=>match dn x s with
  |some none=>some (none,0,none)
  |some (some (nm,off,len))=>match iJ hp nm off (eQ n len*s)with
   |some b=>some (some nm,eQ n len,some b)
   |none=>none
  |none=>none
def setAt(hp:Nat->Option ax)(nm off:Nat)(v:AV):Option cf:=
 match bn hp nm with
 |some (t,false,o,b)=>match b.set off v with
  |some b=>some (.wr nm (.row t false o b))
  |none=>none
 |_=>none
def uB(hp:Nat->Option ax)(nm off:Nat)(s:Option (Option Nat×Nat×Option Body)):Option br:=
 match s with
 |some (from_,n,x)=>match n with
  | 0=>some ⟨.one (.c (.int .i64 0)),.none,dY from_,true⟩
  |m+1=>match x with
   |some x=>match bn hp nm with
    |some (t,false,o,b)=>match b.put off x with
     |some b=>some ⟨.one (.c (.int .i64 (m+1:Nat))),.wr nm (.row t false o b),nm::dY from_,true⟩
     |none=>none
    |_=>none
   |none=>none
 |none=>none
def jX(P:Program)(hp:Nat->Option ax)(argTypes:Array TypeId)(d s:RV):Option br:=
 match argTypes[0]?,d,s with
 |some dt,.one (.c d),.one (.c s)=>match P.underlying dt with
  |some (.slice e)=>match P.info? e with
   |some ti=>match dn d ti.size with
    |some none=>(match fB hp ti.size (some 0) s with
     |some (from_,_,_)=>some ⟨.one (.c (.int .i64 0)),.none,dY from_,true⟩
     |none=>none)
    |some (some (nm,off,len))=>uB hp nm off (fB hp ti.size (some len) s)
    |none=>none
   |none=>none
  |_=>none
 |_,_,_=>none
def appArg(P:Program)(ts:Array TypeId):Bool:=
 match ts[1]? with
 |some t=>(match P.underlying t with|some (.slice _)=>true|some .string=>true|_=>false)
 |none=>false
def fits(ti:TypeInfo)(n:Nat):Bool:=Nat.ble 1 ti.bytes && Nat.ble (n*ti.bytes) 140737488355328
def zh(e:TypeId)(nx size len:Nat)(b x:Option Body)(nd:List Nat):Option br:=
 match b,x with
 |some b,some x=>match b.cat x with
  |some y=>some ⟨.one (.c (.aC nx size 0 len)),.new (.row e false (some size) y),nd,true⟩
  |none=>none
 |_,_=>none
def DB(e:TypeId)(nx size len nm:Nat)(b x:Option Body)(nd:List Nat):Option br:=
 match b,x with
 |some b,some x=>match b.cat x with
  |some y=>some ⟨.one (.c (.aC nx size 0 len)),.mv nm (.row e false (some size) y),nd,true⟩
  |none=>none
 |_,_=>none
def oK(hp:Nat->Option ax)(nm off n:Nat):Option Body:=
 match bn hp nm with
 |some (_,_,_,b)=>b.cut off n
 |none=>none
def DJ(hp:Nat->Option ax)(nm off len cap n size:Nat)(x:Option Body)(nd:List Nat):Option br:=
 match x,bn hp nm with
 |some x,some (t,false,o,b)=>match b.put (off+len*size) x with
  |some b=>some ⟨.one (.c (.sl nm off (len+n) cap)),.wr nm (.row t false o b),nd,true⟩
  |none=>none
 |_,_=>none
def oa(e:TypeId)(ti:TypeInfo)(hp:Nat->Option ax)(nx nm off len cap:Nat)(from_:Option Nat)(n:Nat)(x:Option Body):Option br:=
 match n with
 | 0=>if len<=cap then some ⟨.one (.c (.sl nm off len cap)),.none,dY from_,true⟩else none
 |m+1=>if cap<len+(m+1)/\fits ti (len+(m+1))=true then
   zh e nx ti.size (len+(m+1)) (oK hp nm off (len*ti.size)) x (nm::dY from_)
  else if len+(m+1)<=cap then DJ hp nm off len cap (m+1) ti.size x (nm::dY from_)else none
def oE(e:TypeId)(ti:TypeInfo)(hp:Nat->Option ax)(nx nm sz a len:Nat)(from_:Option Nat)(n:Nat)(x:Option Body):Option br:=
 match n with
 | 0=>some ⟨.one (.c (.aC nm sz a len)),.none,dY from_,true⟩
 |m+1=>if a=0/\sz=ti.size/\fits ti (len+(m+1))=true then
   (match bn hp nm with
    |some (t,false,some sz',b)=>if sz'=ti.size/\t=e then DB e nx ti.size (len+(m+1)) nm (b.cut 0 (len*ti.size)) x (nm::dY from_)else none
    |_=>none)else none
def uf(e:TypeId)(ti:TypeInfo)(nx:Nat)(from_:Option Nat)(n:Nat)(x:Option Body):Option br:=
 match n with
 | 0=>some ⟨.one (.c .bf),.none,dY from_,true⟩
 |m+1=>if fits ti (m+1)=true then(match x with
   |some x=>some ⟨.one (.c (.aC nx ti.size 0 (m+1))),.new (.row e false (some ti.size) x),dY from_,true⟩
   |none=>none)else none
def Ao(e:TypeId)(ti:TypeInfo)(hp:Nat->Option ax)(nx:Nat)(d:Cell)(s:Option (Option Nat×Nat×Option Body)):Option br:=
 match s with
 |some (from_,n,x)=>match d with
  | .bf=>uf e ti nx from_ n x
  | .sl nm off len cap=>oa e ti hp nx nm off len cap from_ n x
  | .aC nm sz a len=>oE e ti hp nx nm sz a len from_ n x
  |_=>none
 |none=>none
def im(P:Program)(hp:Nat->Option ax)(nx:Nat)(argTypes:Array TypeId)(d s:RV):Option br:=
 match argTypes[0]?,d,s with
 |some dt,.one (.c d),.one (.c s)=>match P.underlying dt with
  |some (.slice e)=>match P.info? e with
   |some ti=>match iT P e with
    |some z=>if z.size=ti.size/\appArg P argTypes=true then Ao e ti hp nx d (fB hp ti.size none s)else none
    |none=>none
   |none=>none
  |_=>none
 |_,_,_=>none
def iI(n:Nat)(nd:List Nat):Option br:=some ⟨.one (.c (.int .i64 n)),.none,nd,true⟩
def W7(x:RV):Option br:=
 match x with
 | .one (.c .bf)=>iI 0 []
 | .one (.c (.sl _ _ len _))=>iI len []
 | .one (.c (.aC _ _ _ len))=>iI len []
 | .one (.c (.dI l))=>iI l.length []
 |_=>none
def HF(hp:Nat->Option ax)(x:RV):Option br:=
 match x with
 | .one (.c .map0)=>iI 0 []
 | .one (.c (.map nm))=>match hp nm with
  |some (.map es)=>iI es.length [nm]
  |some (.mapR es)=>iI es.length [nm]
  |_=>none
 |_=>none
def qI(P:Program)(hp:Nat->Option ax)(ts:Array TypeId)(x:RV):Option br:=
 match ts[0]? with
 |some t=>match P.underlying t with
  |some .string=>(match x with| .one (.c (.str s))=>iI s.size []|_=>none)
  |some (.slice _)=>W7 x
  |some (.map _ _)=>HF hp x
  |some (.array n _)=>iI n []
  |_=>none
 |none=>none
def Fw(P:Program)(ts:Array TypeId)(x:RV):Option br:=
 match ts[0]?,x with
 |some t,.one (.c x)=>match P.underlying t,x with
  |some (.slice _),.bf=>iI 0 []
  |some (.slice _),.sl _ _ _ cap=>iI cap []
  |_,_=>none
 |_,_=>none
def zz(f:Int->Int->Int):List RV->Option AV
 | [.one (.c (.int k x)),.one (.c (.int k' y))]=>if k=k' then some (.c (.int k (f x y)))else none
 |_=>none
def kD(P:Program)(t:TypeId):Option TypeDesc:=
 match P.underlying t with
 |some (.map kt _)=>P.underlying kt
 |_=>none
def HB(es:List (Cell×AV))(nm:Nat)(r:Option (Option (Nat×AV))):Option br:=
 match r with
 |some (some (i,_))=>some ⟨fc,.wr nm (.map (es.eraseIdx i)),[nm],true⟩
 |some none=>some ⟨fc,.none,[nm],true⟩
 |none=>none
def kN(P:Program)(hp:Nat->Option ax)(ts:Array TypeId)(m k:RV):Option br:=
 match ts[0]?,m,k with
 |some t,.one (.c (.map nm)),.one (.c k)=>match hp nm with
  |some (.map es)=>if eI (kD P t) k=true then HB es nm (findKey k es 0)else none
  |_=>none
 |_,_,_=>none
def rowsOf(P:Program)(e:TypeId)(z:AV)(n:Nat):Body:=
 match v8 P 5 e with|some _=>GP z n|none=>match z with| .c (.bool b)=> .aT (cx [b] n) n|z=> .cells (cx z.pz n)
def Bo(P:Program)(hp:Nat->Option ax)(e:TypeId)(x:Cell):Option br:=
 match P.info? e,iT P e with
 |some ti,some z=>if z.size=ti.size then(match dn x ti.size with
  |some none=>some ⟨fc,.none,[],true⟩
  |some (some (nm,off,len))=>match len with
   | 0=>some ⟨fc,.none,[],true⟩
   |m+1=>match bn hp nm with
    |some (t,false,o,b)=>match b.put off (rowsOf P e z (m+1))with
     |some b=>some ⟨fc,.wr nm (.row t false o b),[nm],true⟩
     |none=>none
    |_=>none
  |none=>none)else none
 |_,_=>none
def mq(P:Program)(hp:Nat->Option ax)(ts:Array TypeId)(m:RV):Option br:=
 match ts[0]?,m with
 |some t,.one (.c (.map nm))=>match P.underlying t with
  |some (.map _ _)=>match hp nm with
   |some (.map _)=>some ⟨fc,.wr nm (.map []),[nm],true⟩
   |_=>none
  |_=>none
 |some t,.one (.c x)=>match P.underlying t with
  |some (.slice e)=>Bo P hp e x
  |_=>none
 |_,_=>none
def ir(P:Program)(hp:Nat->Option ax)(nx:Nat)(b:Builtin)(ts:Array TypeId)(args:List RV):Option br:=
 match b,args with
 | .len,[x]=>qI P hp ts x
 | .copy,[d,s]=>jX P hp ts d s
 | .append,[d,s]=>im P hp nx ts d s
 | .min,l=>match zz (fun x y=>if y<x then y else x) l with|some v=>quiet v|none=>none
 | .max,l=>match zz (fun x y=>if y>x then y else x) l with|some v=>quiet v|none=>none
 | .delete,[m,k]=>kN P hp ts m k
 | .clear,[m]=>mq P hp ts m
 | .cap,[x]=>Fw P ts x
 |_,_=>none
def idx(i:Int)(len:Nat):Option Nat:=
 match i with
 | .ofNat m=>if m<len then some m else none
 | .negSucc _=>none
abbrev Ev:=Operand->Option RV
abbrev Hp:=Nat->Option ax
def r9(x:Option AV):Option br:=match x with|some v=>quiet v|none=>none
def xr(x:Option Cell):Option br:=match x with|some v=>quiet (.c v)|none=>none
def zJ(ev:Ev)(x:Operand):Option br:=match ev x with|some v=>some ⟨v,.none,[],false⟩|none=>none
def LO(t:Bool)(x y:RV):Option br:=
 match x,y with
 | .one (.c (.bool p)),.one (.c (.bool q))=>quiet (.c (.bool (if t then p else q)))
 |x,y=>match t with
  |true=>some ⟨x,.none,[],false⟩
  |false=>some ⟨y,.none,[],false⟩
def vm(ev:Ev)(c a b:Operand):Option br:=
 match ev c with
 |some (.one (.c (.bool t)))=>match ev a with
  |some x=>match ev b with
   |some y=>LO t x y
   |none=>none
  |none=>none
 |_=>none
def Bi(P:Program)(nx:Nat)(t:TypeId):Option br:=
 match iT P t with
 |some z=>some ⟨.one (.c (.ptr nx 0)),.new (.row t false none (wK P t z)),[],true⟩
 |none=>none
def NQ(P:Program)(ev:Ev)(nx:Nat)(t:TypeId)(x:Operand):Option br:=
 match ev x with
 |some (.one v)=>some ⟨.one (.c (.ptr nx 0)),.new (.row t false none (wK P t v)),[],true⟩
 |_=>none
def AR(P:Program)(ev:Ev)(t:TypeId)(ps:Array (Nat×Operand)):Option br:=
 match tk P t with
 |some k=>match iT P t with
  |some z=>match Eh P t with
   |true=>match Js ev ps.toList with
    |some l=>match pW (place P t) z.body l with
     |some b=>r9 (b.abS k)
     |none=>none
    |none=>none
   |false=>none
  |none=>none
 |none=>none
def oI(P:Program)(ev:Ev)(nx:Nat)(t:TypeId)(len:Nat)(ps:Array (Nat×Operand)):Option br:=
 match P.underlying t with
 |some (.slice e)=>match iT P e with
  |some z=>match P.info? e with
   |some ti=>match Js ev ps.toList with
    |some l=>match pW (fun i=>some (i*ti.size,ti.size)) (rowsOf P e z len) l with
     |some b=>if len*ti.size<=1000000/\z.size=ti.size then some ⟨.one (.c (.sl nx 0 len len)),.new (.row e false none b),[],true⟩else none
     |none=>none
    |none=>none
   |none=>none
  |none=>none
 |_=>none
def recC:List IntKind->List Int->Nat->List Cell
 | [],_,_=> []
 |k::ks,l,j=> .int k (l.getD j 0)::recC ks l (j+1)
def LH(o:Nat)(ks:List IntKind)(l:aj)(off m:Nat):Prop:=o<=off/\(off - o) % ks.length=0/\m=ks.length/\off - o+m<=l.length
instance(o:Nat)(ks:List IntKind)(l:aj)(off m:Nat):Decidable (LH o ks l off m):=by unfold LH;infer_instance
def Ex(x:Option ax)(off:Nat)(k:TK):Option AV:=
 match x,k with
 |some (.recs o ks l),.agg m=>if LH o ks l off m then some (.agg (recC ks l (off - o)))else none
 |_,_=>none
def FX:Option RV->Option (List Int×Nat)
 |some (.one (.c (.vptr l i)))=>some (l,i)
 |_=>none
def LI(k:Option TK)(l:aj)(i:Nat):Option br:=
 match k with
 |some .sc=>if i<l.length then some ⟨.one (.c (.int .i64 (l.getD i 0))),.none,[],true⟩else none
 |_=>none
def lB(P:Program)(ev:Ev)(hp:Hp)(t:TypeId)(a:Operand):Option br:=
 match ev a with
 |some (.one (.c (.ptr nm off)))=>match tk P t with
  |some k=>match bn hp nm with
   |some (_,_,_,b)=>match b.get off k with
    |some v=>some ⟨.one v,.none,[nm],true⟩
    |none=>none
   |none=>match Ex (hp nm) off k with
    |some v=>some ⟨.one v,.none,[nm],true⟩
    |none=>none
  |none=>none
 |_=>none
def jU(P:Program)(ev:Ev)(hp:Hp)(t:TypeId)(a:Operand):Option br:=
 match FX (ev a)with
 |some (l,i)=>LI (tk P t) l i
 |none=>lB P ev hp t a
def kX(P:Program)(ev:Ev)(hp:Hp)(t:TypeId)(a x:Operand):Option br:=
 match ev a with
 |some (.one (.c (.ptr nm off)))=>match ev x with
  |some (.one v)=>match P.info? t with
   |some ti=>if v.size=ti.size then(match setAt hp nm off v with
     |some u=>some ⟨fc,u,[nm],true⟩
     |none=>none)else none
   |none=>none
  |_=>none
 |_=>none
def MK(ev:Ev)(x:Operand):Option br:=
 match ev x with
 |some (.one (.c (.ptr nm off)))=>quiet (.c (.ptr nm off))
 |some (.one (.c (.fn f fs cs)))=>quiet (.c (.fn f fs cs))
 |_=>none
def Al(P:Program)(ev:Ev)(op:BinOp)(t:TypeId)(x y:Operand):Option br:=
 match ev x with
 |some (.one x)=>match ev y with
  |some (.one y)=>r9 (rq P op t x y)
  |_=>none
 |_=>none
def S5(ev:Ev)(op:UnOp)(x:Operand):Option br:=
 match ev x with
 |some x=>r9 (LY op x)
 |none=>none
def py(P:Program)(ev:Ev)(src dst:TypeId)(x:Operand):Option br:=
 match ev x with
 |some (.one (.c (.int _ n)))=>match P.underlying src with
  |some (.int _)=>match P.underlying dst with
   |some (.int k)=>quiet (.c (.int k (k.wrap n)))
   |_=>none
  |_=>none
 |_=>none
def strOf(l:aj):ByteArray:=Oc (l.map Int.toNat)
def lF(hp:Hp)(x:Cell):Option (ByteArray×List Nat):=
 match x with
 | .bf=>some (.empty,[])
 |x=>match fB hp 1 none x with
  |some (some nm,_,some (.ints .u8 l _))=>some (strOf l,[nm])
  |some (some nm,_,some (.cells cs))=>match nq .u8 cs with
   |some l=>some (strOf l,[nm])
   |none=>none
  |_=>none
def l5(P:Program)(ev:Ev)(hp:Hp)(nx:Nat)(src dst:TypeId)(x:Operand):Option br:=
 match ev x with
 |some (.one (.c (.str s)))=>match P.underlying src,P.underlying dst with
  |some .string,some .string=>quiet (.c (.str s))
  |some .string,some (.slice e)=>match P.underlying e with
   |some (.int .u8)=>match Nat.ble s.size 1000000000 with
    |true=>some ⟨.one (.c (.aC nx 1 0 s.size)),.new (.row e true (some 1) (.ints .u8 (s.data.toList.map fun x=>(x.toNat:Int)) s.size)),[],true⟩
    |false=>none
   |_=>none
  |_,_=>none
 |some (.one (.c x))=>match P.underlying src,P.underlying dst with
  |some (.slice e),some .string=>match P.underlying e with
   |some (.int .u8)=>match lF hp x with
    |some (s,nd)=>some ⟨.one (.c (.str s)),.none,nd,true⟩
    |none=>none
   |_=>none
  |some (.slice _),some (.slice e)=>match x,P.underlying e with
   | .sl nm off len cap,some (.int .u8)=>match hp nm,decide (src=dst)with
    |some (.row t false o b),true=>some ⟨.one (.c (.sl nm off len cap)),.wr nm (.row t true o b),[nm],true⟩
    |_,_=>none
   |_,_=>none
  |_,_=>none
 |_=>none
def jT(P:Program)(ev:Ev)(hp:Hp)(nx:Nat)(src dst:TypeId)(x:Operand):Option br:=
 match py P ev src dst x with
 |some r=>some r
 |none=>l5 P ev hp nx src dst x
def Bl(P:Program)(ev:Ev)(nx:Nat)(t:TypeId)(x:Operand):Option br:=
 match ev x with
 |some (.one (.c (.str s)))=>match P.underlying t with
  |some .string=>some ⟨.one (.c (.ptr nx 0)),.new (.iter s 0),[],true⟩
  |_=>none
 |_=>none
def lM(ev:Ev)(hp:Hp)(x:Operand)(str:Bool):Option br:=
 match ev x,str with
 |some (.one (.c (.ptr nm 0))),true=>match hp nm with
  |some (.iter s pos)=>match Nat.blt pos s.size with
   |true=>match Utf8.decode s pos with
    |(c,wd)=>some ⟨.aF [.c (.bool true),.c (.int .i64 pos),.c (.int .i32 c)],.wr nm (.iter s (pos+wd)),[nm],true⟩
   |false=>some ⟨.aF [.c (.bool false)],.none,[nm],true⟩
  |_=>none
 |_,_=>none
def KS(P:Program)(ev:Ev)(t:TypeId)(x:Operand):Option br:=
 match ev x with
 |some (.one (.c x))=>match P.underlying t with
  |some (.array n e)=>match P.info? e with
   |some ti=>match dn x ti.size with
    |some (some (nm,off,len))=>if len<n then none else quiet (.c (.ptr nm off))
    |_=>none
   |none=>none
  |_=>none
 |_=>none
def qz:List RV->Option (List (Nat×Nat))
 | []=>some []
 | .one (.c (.ptr nm off))::r=>match qz r with|some l=>some ((nm,off)::l)|none=>none
 |_=>none
def GW(ev:Ev)(fn:Fn)(first dH:Array Operand):Option br:=
 match fn with
 | .func f=>match lS ev first.toList with
  |some fl=>match qz fl with
   |some fs=>match lS ev dH.toList with
    |some l=>match qz l with
     |some cs=>quiet (.c (.fn f fs cs))
     |none=>none
    |none=>none
   |none=>none
  |none=>none
 |_=>none
def uM(nx:Nat)(r:Option Operand):Option br:=
 match r with
 |none=>some ⟨.one (.c (.map nx)),.new (.map []),[],true⟩
 |some _=>none
def kr(P:Program)(ev:Ev)(nx:Nat)(t:TypeId)(l c:Operand):Option br:=
 match P.underlying t with
 |some (.slice e)=>match ev l with
  |some (.one (.c (.int _ (.ofNat n))))=>match ev c with
   |some (.one (.c (.int _ (.ofNat m))))=>match iT P e with
    |some z=>match P.info? e with
     |some ti=>if n<=m/\ti.bytes*m<=1000000000/\m<1000000000/\z.size=ti.size then some ⟨.one (.c (.sl nx 0 n m)),.new (.row e false none (rowsOf P e z m)),[],true⟩else none
     |none=>none
    |none=>none
   |_=>none
  |_=>none
 |_=>none
def wy(P:Program)(n:Nat)(e:TypeId)(nm off:Nat)(lo hi:Option RV):Option br:=
 match P.info? e with
 |some ti=>xr (fO ti.size (.sl nm off n n) lo hi)
 |none=>none
def ED(P:Program)(e:TypeId)(x:Cell)(lo hi:Option RV):Option br:=
 match P.info? e with
 |some ti=>xr (fO ti.size x lo hi)
 |none=>none
def DP(s:ByteArray)(lo hi:Option RV):Option br:=
 match ga hi 0 s.size s.size with
 |some h=>match ga lo 0 h 0 with
  |some l=>quiet (.c (.str (s.extract l h)))
  |none=>none
 |none=>none
def IX(x:Cell):Option Cell:=
 match x with
 | .bf=>some .bf
 | .sl nm off _ _=>some (.sl nm off 0 0)
 | .aC nm _ a _=>if a=0 then some (.sl nm 0 0 0)else none
 |_=>none
def isZero(v:Option RV):Bool:=match v with|some (.one (.c (.int _ (.ofNat 0))))=>true|_=>false
def st3(P:Program)(ev:Ev)(t:TypeId)(x:Operand)(lo hi:Option Operand)(mx:Operand):Option br:=
 match lo,hi with
 |none,some hi=>if isZero (ev hi)=true/\isZero (ev mx)=true then(match ev x with
  |some (.one (.c x))=>(match P.underlying t with
   |some (.slice e)=>(match P.info? e with|some _=>xr (IX x)|none=>none)
   |_=>none)
  |_=>none)else none
 |_,_=>none
def jD(P:Program)(ev:Ev)(t:TypeId)(x:Operand)(lo hi mx:Option Operand):Option br:=
 match mx with
 |some mx=>st3 P ev t x lo hi mx
 |none=>match vM ev lo with
  |none=>none
  |some lo=>match vM ev hi with
   |none=>none
   |some hi=>match ev x with
    |some (.one (.c x))=>match P.underlying t with
     |some (.array n e)=>(match x with| .ptr nm off=>wy P n e nm off lo hi|_=>none)
     |some (.slice e)=>ED P e x lo hi
     |some (.pointer arr)=>(match x with
      | .ptr nm off=>(match P.underlying arr with|some (.array n e)=>wy P n e nm off lo hi|_=>none)
      |_=>none)
     |some .string=>(match x with| .str s=>DP s lo hi|_=>none)
     |_=>none
    |_=>none
def qu(P:Program)(ev:Ev)(s:TypeId)(x:Operand)(f:Nat):Option br:=
 match ev x with
 |some (.one (.c (.ptr nm off)))=>match P.underlying s with
  |some (.struct fs)=>match fs[f]? with
   |some fd=>match P.info? fd.type with
    |some ti=>if ti.size=0 then none else quiet (.c (.ptr nm (off+fd.offset)))
    |none=>none
   |none=>none
  |_=>none
 |_=>none
def tA:AV->Bool
 | .c _=>false
 |_=>true
def AO(P:Program)(ev:Ev)(t:TypeId)(x:Operand)(f:Nat):Option br:=
 match ev x with
 |some (.one v)=>match P.underlying t with
  |some (.struct fs)=>match fs[f]? with
   |some fd=>match tk P fd.type with
    |some k=>if tA v=true then r9 ((Body.cells v.pz).get fd.offset k)else none
    |none=>none
   |none=>none
  |_=>none
 |_=>none
def DA(P:Program)(e:TypeId)(nm off len:Nat)(i:Int):Option br:=
 match P.info? e with
 |some ti=>match idx i len with
  |some j=>quiet (.c (.ptr nm (off+j*ti.size)))
  |none=>none
 |none=>none
def Z6(ti:TypeInfo)(x:Cell)(i:Int):Option br:=
 match x with
 | .dI l=>if ti.size=1 then(match idx i l.length with|some j=>quiet (.c (.vptr l j))|none=>none)else none
 |_=>none
def Gx(P:Program)(e:TypeId)(x:Cell)(i:Int):Option br:=
 match P.info? e with
 |some ti=>match dn x ti.size with
  |some (some (nm,off,len))=>match idx i len with
   |some j=>quiet (.c (.ptr nm (off+j*ti.size)))
   |none=>none
  |_=>Z6 ti x i
 |none=>none
def iY(P:Program)(ev:Ev)(t:TypeId)(x i:Operand):Option br:=
 match ev i with
 |some (.one (.c (.int _ i)))=>match ev x with
  |some (.one (.c x))=>match P.underlying t with
   |some (.array len e)=>(match x with| .ptr nm off=>DA P e nm off len i|_=>none)
   |some (.slice e)=>Gx P e x i
   |_=>none
  |_=>none
 |_=>none
def AV.AQ:AV->Body
 | .ints k l n=> .ints k l n
 |v=> .cells v.pz
def DD(v:AV)(i:Int):Option br:=
 match v with
 | .c (.str s)=>match idx i s.size with
  |some j=>match s[j]? with
   |some b=>quiet (.c (.int .u8 b.toNat))
   |none=>none
  |none=>none
 |_=>none
def oh(P:Program)(ev:Ev)(t:TypeId)(x i:Operand):Option br:=
 match ev i with
 |some (.one (.c (.int _ i)))=>match ev x with
  |some (.one v)=>match P.underlying t with
   |some (.array len e)=>match P.info? e with
    |some ti=>match tk P e with
     |some k=>match idx i len with
      |some j=>if tA v=true then r9 (v.AQ.get (j*ti.size) k)else none
      |none=>none
     |none=>none
    |none=>none
   |some .string=>DD v i
   |_=>none
  |_=>none
 |_=>none
def pG(vk:Option IntKind)(x:Int):Cell:=match vk with|some k=> .int k x|none=> .bool (x !=0)
def gq(vk:Option IntKind)(l:ak):List (Cell×AV):=l.map fun p=>(.int .i64 p.1,.c (pG vk p.2))
def Hi(vk:Option IntKind)(v:AV):Option Int:=
 match vk,v with
 |some k,.c (.int k' x)=>if k=k' then some x else none
 |none,.c (.bool b)=>some (if b then 1 else 0)
 |_,_=>none
def bC:List (Int×Int)->Int->Int->List (Int×Int)
 | [],k,v=> [(k,v)]
 |(a,b)::r,k,v=>if a=k then(k,v)::r else(a,b)::bC r k v
def bp:List (Int×Int)->Int->Int
 | [],_=>0
 |(a,b)::r,k=>if a=k then b else bp r k
def sG:List (Int×Int)->Int->Bool
 | [],_=>false
 |(a,_)::r,k=>if a=k then true else sG r k
def iF:List (Int×List Int)->Int->List Int->List (Int×List Int)
 | [],k,v=> [(k,v)]
 |(a,b)::r,k,v=>if a=k then(k,v)::r else(a,b)::iF r k v
def gY:List (Int×List Int)->Int->List Int
 | [],_=> []
 |(a,b)::r,k=>if a=k then b else gY r k
def se:List (Int×List Int)->Int->Bool
 | [],_=>false
 |(a,_)::r,k=>if a=k then true else se r k
def nC(l:List ByteArray)(s:ByteArray):Bool:=l.any fun c=>s==c
def lJ(l:List ByteArray)(s:ByteArray):List ByteArray:=bif nC l s then l else l++ [s]
def iy(l:List (Int×List Int)):List (Cell×AV):=l.map fun p=>(.int .i64 p.1,.c (.dI p.2))
def gO(l:List ByteArray):List (Cell×AV):=l.map fun s=>(.str s,.c (.bool true))
def nh(hp:Hp)(m kc:Cell):Option (Nat×Cell×Bool):=
 match m with
 | .map nm=>match hp nm,kc with
  |some (.eE l),.int .i64 k=>some (nm,.dI (gY l k),se l k)
  |some (.di l),.str s=>some (nm,.bool (nC l s),nC l s)
  |_,_=>none
 |_=>none
def zVS(v:Cell)(z:AV):Bool:=
 match v,z with
 | .dI _,.c .bf=>true
 | .bool _,.c (.bool b)=> !b
 |_,_=>false
def kC(hp:Hp)(m:Cell):Option (List (Cell×AV)×List Nat):=
 match m with
 | .map0=>some ([],[])
 | .map nm=>match hp nm with|some (.map es)=>some (es,[nm])|some (.aQ vk l)=>some (gq vk l,[nm])|some (.mapR es)=>some (es,[nm])|_=>none
 |_=>none
def kT(ok:Bool)(z:AV)(nd:List Nat)(r:Option (Option (Nat×AV))):Option br:=
 match r with
 |some (some (_,v))=>some ⟨bif ok then .aF [v,.c (.bool true)]else .one v,.none,nd,true⟩
 |some none=>some ⟨bif ok then .aF [z,.c (.bool false)]else .one z,.none,nd,true⟩
 |none=>none
def kq(hp:Hp)(m:Cell):Option (Nat×List (Cell×AV)):=
 match m with
 | .map nm=>match hp nm with|some (.mapP es)=>some (nm,es)|_=>none
 |_=>none
def findAll(k:Cell):List (Cell×AV)->Option (Option AV)
 | []=>some none
 |(c,v)::r=>match jE k c,findAll k r with
  |some true,some _=>some (some v)
  |some false,some x=>some x
  |_,_=>none
def Nt(ok:Bool)(z:AV)(nm:Nat)(r:Option (Option AV)):Option br:=
 match r with
 |some (some v)=>some ⟨bif ok then .aF [v,.c (.bool true)]else .one v,.none,[nm],true⟩
 |some none=>some ⟨bif ok then .aF [z,.c (.bool false)]else .one z,.none,[nm],true⟩
 |none=>none
def gT(P:Program)(ev:Ev)(hp:Hp)(t:TypeId)(m k:Operand)(ok:Bool):Option br:=
 match P.underlying t with
 |some (.map kt e)=>match ev m with
  |some (.one (.c m))=>match ev k with
   |some (.one (.c k))=>match iT P e with
    |some z=>match nh hp m k with
     |some (nm,v,t)=>if eI (P.underlying kt) k=true/\zVS v z=true then some ⟨bif ok then .aF [.c v,.c (.bool t)]else .one (.c v),.none,[nm],true⟩else none
     |none=>match kq hp m with
      |some (nm,es)=>if eI (P.underlying kt) k=true then Nt ok z nm (findAll k es)else none
      |none=>match kC hp m with
       |some (es,nd)=>if eI (P.underlying kt) k=true then kT ok z nd (findKey k es 0)else none
       |none=>none
    |none=>none
   |_=>none
  |_=>none
 |_=>none
def zT(es:List (Cell×AV))(nm:Nat)(k:Cell)(v:AV)(r:Option (Option (Nat×AV))):Option br:=
 match r with
 |some (some (i,_))=>some ⟨fc,.wr nm (.map (es.set i (k,v))),[nm],true⟩
 |some none=>some ⟨fc,.wr nm (.map (es++ [(k,v)])),[nm],true⟩
 |none=>none
def vK(vk:Option IntKind)(l:ak)(nm:Nat)(k:Cell)(v:AV):Option br:=
 match k with
 | .int .i64 k=>match Hi vk v with
  |some x=>some ⟨fc,.wr nm (.aQ vk (bC l k x)),[nm],true⟩
  |none=>none
 |_=>none
def vW(l:List (Int×List Int))(nm:Nat)(k:Cell)(v:AV):Option br:=
 match k,v with
 | .int .i64 k,.c (.dI c)=>some ⟨fc,.wr nm (.eE (iF l k c)),[nm],true⟩
 |_,_=>none
def wa(l:List ByteArray)(nm:Nat)(k:Cell)(v:AV):Option br:=
 match k,v with
 | .str s,.c (.bool true)=>some ⟨fc,.wr nm (.di (lJ l s)),[nm],true⟩
 |_,_=>none
def eB(P:Program)(ev:Ev)(hp:Hp)(t:TypeId)(m k x:Operand):Option br:=
 match ev m with
 |some (.one (.c (.map nm)))=>match ev k with
  |some (.one (.c k))=>match ev x with
   |some (.one v)=>match hp nm with
    |some (.map es)=>if eI (kD P t) k=true then zT es nm k v (findKey k es 0)else none
    |some (.aQ vk l)=>if eI (kD P t) k=true then vK vk l nm k v else none
    |some (.eE l)=>if eI (kD P t) k=true then vW l nm k v else none
    |some (.di l)=>if eI (kD P t) k=true then wa l nm k v else none
    |_=>none
   |_=>none
  |_=>none
 |_=>none
def tQ(ev:Ev)(x:Operand)(i:Nat):Option br:=
 match ev x with
 |some (.aF l)=>match l[i]? with|some v=>some ⟨.one v,.none,[],false⟩|none=>none
 |_=>none
def kj(P:Program)(ev:Ev)(hp:Hp)(nx:Nat)(c:Call):Option br:=
 match c.callee with
 | .builtin b=>match lS ev c.args.toList with
  |some l=>ir P hp nx b c.argTypes l
  |none=>none
 |_=>none
def iV(P:Program)(ev:Ev)(hp:Hp)(nx:Nat)(o:Op):Option br:=
 match o with
 | .move x=>zJ ev x
 | .assign x=>zJ ev x
 | .pick c a b=>vm ev c a b
 | .alloc t=>Bi P nx t
 | .box t x=>NQ P ev nx t x
 | .build t ps=>AR P ev t ps
 | .buildSlice t len ps=>oI P ev nx t len ps
 | .load t a=>jU P ev hp t a
 | .store t a x=>kX P ev hp t a x
 | .nilCheck x=>MK ev x
 | .binOp op t x y _=>Al P ev op t x y
 | .unOp op _ x=>S5 ev op x
 | .convert src dst x=>jT P ev hp nx src dst x
 | .range t x=>Bl P ev nx t x
 | .next x b=>lM ev hp x b
 | .sliceToArrayPointer t x=>KS P ev t x
 | .makeFunc fn first dH=>GW ev fn first dH
 | .makeMap _ r=>uM nx r
 | .makeSlice t l c=>kr P ev nx t l c
 | .slice t x lo hi mx=>jD P ev t x lo hi mx
 | .fieldAddr s x f=>qu P ev s x f
 | .field t x f=>AO P ev t x f
 | .indexAddr t x i=>iY P ev t x i
 | .index t x i=>oh P ev t x i
 | .lookup t m k ok=>gT P ev hp t m k ok
 | .mapUpdate t m k x=>eB P ev hp t m k x
 | .insert t m k x=>eB P ev hp t m k x
 | .extract x i=>tQ ev x i
 | .call c=>kj P ev hp nx c
 |_=>none
def rH:Op->Option (Operand×Array Operand)
 | .call c=>match c.callee with
  | .value f=>some (f,c.args)
  |_=>none
 |_=>none
section
structure S where
 sl:T RV
 hp:T ax
 nx:Nat
 lg:List Nat
inductive X where
 |normal
 |exit (id:Nat)
 |ret
def eval(n:Nat)(sl:T RV):Operand->Option RV
 | .tmp t=>if t<n then(match sl.get t with|some v=>some v|none=>some fc)else some fc
 | .const v=>match v with
  | .tuple l=>(match l.toList with| []=>some fc|_=>none)
  |v=>match cellOf v with|some c=>some (.one (.c c))|none=>none
 | .func f=>some (.one (.c (.fn f [] [])))
 | .global _=>none
abbrev depth:Nat:=60
def iQ{β:Type}(z:Bool)(u:cf)(s:S)(k:S->Option β):Option β:=
 match u with
 | .none=>k s
 | .new b=>GQ z b fun b=>T.set depth s.hp s.nx (some b) fun hp=>eX (s.nx+1) fun nx=>k {s with hp,nx}
 | .wr nm b=>Bool.rec none (GQ z b fun b=>T.set depth s.hp nm (some b) fun hp=>k {s with hp,lg:=nm::s.lg}) (Nat.blt nm s.nx)
 | .mv nm b=>Bool.rec none (GQ z b fun b=>T.set depth s.hp nm none fun hp=>T.set depth hp s.nx (some b) fun hp=>eX (s.nx+1) fun nx=>k {s with hp,nx,lg:=nm::s.lg}) (Nat.blt nm s.nx)
def putDst{β:Type}(n:Nat)(d:Option Tmp)(v:RV)(s:S)(k:S->Option β):Option β:=
 match d with
 |none=>k s
 |some d=>if d<n then T.set depth s.sl d (some v) fun sl=>k {s with sl}else none
abbrev Sum:=List RV->T ax->Nat->Option (RV×T ax×Nat×List Nat)
def guardOf(n:Nat)(ops:List Oper)(sl:T RV)(o:Oper):Option Bool:=
 match o.guard with
 |none=>some true
 |some (j,want)=>match ops[j]? with
  |some oj=>match oj.dst with
   |some d=>match eval n sl (.tmp d)with
    |some (.one (.c (.bool b)))=>some (b==want)
    |some (.aF [])=>some false
    |_=>none
   |none=>none
  |none=>none
def setArgs{β:Type}(n:Nat):List RV->Nat->T RV->(T RV->Option β)->Option β
 | [],_,sl,k=>k sl
 |v::vs,i,sl,k=>if i<n then T.set depth sl i (some v) fun sl=>setArgs n vs (i+1) sl k else none
def ba(P:Program)(n:Nat)(s:S):List ResultVar->Option (List AV)
 | []=>some []
 |r::rs=>match(match r with
   | .tmp t=>(match eval n s.sl (.tmp t)with|some (.one v)=>some v|_=>none)
   | .cell a t=>(match eval n s.sl (.tmp a),tk P t with
    |some (.one (.c (.ptr nm off))),some k=>(match bn s.hp.get nm with
     |some (_,_,_,b)=>b.get off k
     |none=>none)
    |_,_=>none)),ba P n s rs with
  |some v,some l=>some (v::l)
  |_,_=>none
def c6:List AV->RV
 | [v]=> .one v
 |l=> .aF l
variable(P:Program)(Sg:FuncId->Option Sum)(z:Bool)
def YB:Nat:=1000000000
def me(n:Nat)(sl:T RV)(x:Operand):Option (FuncId×List RV×List RV):=
 match eval n sl x with
 |some (.one (.c (.fn f fs dH)))=>match Nat.blt f YB with
  |true=>some (f,fs.map (fun(nm,off)=> .one (.c (.ptr nm off))),dH.map fun(nm,off)=> .one (.c (.ptr nm off)))
  |false=>none
 |some (.one (.c (.yield nm)))=>some (YB+nm,[],[])
 |_=>none
abbrev fJ(β:Type):=FuncId->List RV->S->(RV->S->Option β)->Option β
abbrev fG:=Option (List Nat)
def q9{β:Type}(call:fJ β)(n:Nat)(f:Operand)(args:Array Operand)(d:Option Tmp)(s:S)(k:fG->S->Option β):Option β:=
 match me n s.sl f with
 |some (f,fs,dH)=>match lS (eval n s.sl) args.toList with
  |some l=>call f (fs++(l++dH)) s fun v s'=>putDst n d v s' (k none)
  |none=>none
 |none=>none
def oF{β:Type}(n:Nat)(o:Oper)(s:S)(k:fG->S->Option β):Option β:=
 match iV P (eval n s.sl) s.hp.get s.nx o.op with
 |some r=>sRV (z && r.fz) r.v fun v=>iQ z r.u s fun s=>putDst n o.dst v s (k (some r.ar))
 |none=>none
def mG{β:Type}(call:fJ β)(n:Nat)(ops:List Oper)(o:Oper)(s:S)(k:fG->S->Option β):Option β:=
 match guardOf n ops s.sl o with
 |none=>none
 |some g=>
  match g with
  |true=>match rH o.op with
   |some (f,args)=>q9 call n f args o.dst s k
   |none=>oF P z n o s k
  |false=>putDst n o.dst fc s (k (some []))
def VM:Cell->Bool
 | .ptr .. | .sl .. | .aC .. | .map _| .yield _| .any| .dI _| .vptr .. =>false
 | .fn _ fs cs=>fs.isEmpty && cs.isEmpty
 |_=>true
def WG:RV->Bool
 | .one (.c x)=>VM x
 | .one (.agg l)=>l.all VM
 | .one (.ints ..)=>true
 |_=>false
def E7{β:Type}(lo:Nat)(src:T ax):Nat->T ax->(T ax->Option β)->Option β
 | 0,t,k=>k t
 |m+1,t,k=>match src.get (lo+m)with
  |some b=>T.set depth t (lo+m) (some b) fun t=>E7 lo src m t k
  |none=>E7 lo src m t k
def El{β:Type}(call:fJ β)(n:Nat)(f:Operand)(args:Array Operand)(d:Option Tmp)(s:S)(k:fG->S->Option β):Option β:=
 match me n s.sl f with
 |some (f,fs,dH)=>match lS (eval n s.sl) args.toList with
  |some l=>match(fs++(l++dH)).all WG with
   |true=>call f (fs++(l++dH)) ⟨s.sl,.nil,s.nx,s.lg⟩ fun v s'=>E7 s.nx s'.hp (s'.nx - s.nx) s.hp fun hp=>putDst n d v ⟨s'.sl,hp,s'.nx,s'.lg⟩ (k (some []))
   |false=>call f (fs++(l++dH)) s fun v s'=>putDst n d v s' (k none)
  |none=>none
 |none=>none
def Fs{β:Type}(call:fJ β)(n:Nat)(ops:List Oper)(o:Oper)(s:S)(k:fG->S->Option β):Option β:=
 match guardOf n ops s.sl o with
 |none=>none
 |some g=>
  match g with
  |true=>match rH o.op with
   |some (f,args)=>El call n f args o.dst s k
   |none=>oF P z n o s k
  |false=>putDst n o.dst fc s (k (some []))
def qZ{β:Type}(call:fJ β)(n:Nat)(ops:List Oper):List Oper->S->(S->Option β)->Option β
 | [],s,k=>k s
 |o::rest,s,k=>mG P z call n ops o s fun _ s=>qZ call n ops rest s k
def ko(acc:List Nat):List Edge->Nat
 | []=>0
 |e::es=>match Region.binds .any e with
  |true=>Nat.lor (Nat.lor (2 ^ e.on) (acc.getD e.on 0)) (ko acc es)
  |false=>ko acc es
def kf:List Oper->List Nat->List Nat
 | [],acc=>acc
 |o::r,acc=>kf r (acc++ [ko acc o.after.toList])
def tmpsOf:List Operand->List Tmp
 | []=> []
 | .tmp t::r=>t::tmpsOf r
 |_::r=>tmpsOf r
def oO(ops:List Oper)(o:Oper):List Tmp:=
 match o.guard with
 |none=> []
 |some (j,_)=>match ops[j]? with
  |some oj=>oj.dst.toList
  |none=> []
def looks(ops:List Oper)(o:Oper):List Tmp:=o.dst.toList++tmpsOf o.op.operands.toList++oO ops o
structure FP where
 ar:fG
 wr:List Nat
 lo:Nat
 hi:Nat
def rM(l:List Nat)(x:Nat):Bool:= !l.contains x
def indep(fi fj:FP):Bool:=
 (match fj.ar with
  |none=>fi.wr.isEmpty && Nat.beq fi.lo fi.hi
  |some l=>l.all fun x=>rM fi.wr x && !(Nat.ble fi.lo x && Nat.blt x fi.hi)) &&
 (match fi.ar with
  |none=>fj.wr.all fun x=>Nat.ble fi.lo x
  |some l=>l.all fun x=>rM fj.wr x) &&
 (fi.wr.all fun x=>rM fj.wr x) &&
 (fj.wr.all fun x=> !(Nat.ble fi.lo x && Nat.blt x fi.hi))
def apart(ops:List Oper)(oi oj:Oper):Bool:=
 (match oi.dst with|some d=>rM (looks ops oj) d|none=>true) &&
 (match oj.dst with|some d=>rM (looks ops oi) d|none=>true)
def Ad(ops:List Oper)(m:Nat)(oj:Oper)(fj:FP):List Oper->List FP->Nat->Bool
 |oi::os,fi::fs,i=>(Nat.testBit m i||(apart ops oi oj && indep fi fj)) && Ad ops m oj fj os fs (i+1)
 |_,_,_=>true
def kH(ops:List Oper):List Oper->List Nat->List FP->List Oper->List FP->Bool
 |oj::os,m::ms,fj::fs,pre,pfs=>Ad ops m oj fj pre pfs 0 && kH ops os ms fs (pre++ [oj]) (pfs++ [fj])
 |_,_,_,_,_=>true
def qA(ops:List Oper):List Oper->Nat->Bool
 | [],_=>true
 |o::r,i=>(o.after.toList.all fun e=> !Region.binds .any e||Nat.blt e.on i) &&
   (match o.guard with|none=>true|some (j,_)=>(o.after.toList.any fun e=>Region.binds .any e && Nat.beq e.on j)) &&
   (match o.op with| .select .. =>false|_=>true) && qA ops r (i+1)
def pK{β:Type}(call:fJ β)(n:Nat)(ops:List Oper):List Oper->List FP->S->(List FP->S->Option β)->Option β
 | [],fps,s,k=>k fps s
 |o::rest,fps,s,k=>mG P z call n ops o {s with lg:= []} fun ar s'=>
   pK call n ops rest (fps++ [⟨ar,s'.lg,s.nx,s'.nx⟩]) s' k
def ry{β:Type}(call:fJ β)(n:Nat)(ops:List Oper):List Oper->List FP->S->(List FP->S->Option β)->Option β
 | [],fps,s,k=>k fps s
 |o::rest,fps,s,k=>Fs P z call n ops o {s with lg:= []} fun ar s'=>
   ry call n ops rest (fps++ [⟨ar,s'.lg,s.nx,s'.nx⟩]) s' k
def mw:List FP->List Nat->List Nat
 | [],acc=>acc
 |f::r,acc=>mw r (f.wr++acc)
def wq{β:Type}(call:fJ β)(n:Nat)(ops:List Oper)(s:S)(k:S->Option β):Option β:=
 match qA ops ops 0 with
 |false=>none
 |true=>pK P z call n ops ops [] s fun fps s'=>
  match kH ops ops (kf ops []) fps [] []with
  |true=>k {s' with lg:=mw fps s.lg}
  |false=>ry P z call n ops ops [] s fun fps s'=>
   match kH ops ops (kf ops []) fps [] []with
   |true=>k {s' with lg:=mw fps s.lg}
   |false=>none
def ik{β:Type}(call:fJ β)(n:Nat)(ops:List Oper)(draw:Bool)(s:S)(k:S->Option β):Option β:=
 match draw with
 |false=>qZ P z call n ops ops s k
 |true=>wq P z call n ops s k
abbrev fU(β:Type):=Nat->Code->S->(X->S->Option β)->Option β
def oC{β:Type}(fn:Func)(s:S)(k:RV->S->Option β)(x:X)(s':S):Option β:=
 match x with
 | .exit _=>none
 |_=>match ba P fn.ntmps s' fn.results.toList with
  |some l=>k (c6 l) {s' with sl:=s.sl}
  |none=>none
def jW{β:Type}(ex:fU β)(fn:Func)(c:Code)(args:List RV)(s:S)(k:RV->S->Option β):Option β:=
 setArgs fn.ntmps args 0 .nil fun sl=>ex fn.ntmps c {s with sl} (oC P fn s k)
def iK:Code->Bool
 | .seq a b=>iK a && iK b
 | .cond _ a b=>iK a && iK b
 | .block _ c=>iK c
 | .loop c=>iK c
 | .rangeFunc .. =>false
 |_=>true
def zH:List Nat->List RV->List RV->Option (List RV)
 | [],[],sl=>some sl
 |p::ps,v::vs,sl=>zH ps vs (sl.set p v)
 |_,_,_=>none
def IY{β:Type}(nm:Nat)(bf:T RV)(k:RV->S->Option β)(x:X)(s:S):Option β:=
 match s.hp.get nm with
 |some (.loop .busy sl ps aa bd)=>match x with
  | .normal=>T.set depth s.hp nm (some (.loop .ready sl ps aa bd)) fun hp=>k (.one (.c (.bool true))) ⟨bf,hp,s.nx,nm::s.lg⟩
  | .ret=>T.set depth s.hp nm (some (.loop (.done none) sl ps aa bd)) fun hp=>k (.one (.c (.bool false))) ⟨bf,hp,s.nx,nm::s.lg⟩
  | .exit id=>T.set depth s.hp nm (some (.loop (.done (some id)) sl ps aa bd)) fun hp=>k (.one (.c (.bool false))) ⟨bf,hp,s.nx,nm::s.lg⟩
 |_=>none
def Kv{β:Type}(ex:fU β)(nm n:Nat)(bd:Code)(bf:T RV)(k:RV->S->Option β)(x:X)(s:S):Option β:=
 match x with
 | .normal=>match s.hp.get nm with
  |some (.loop .ready sl ps aa bd')=>T.set depth s.hp nm (some (.loop .busy sl ps aa bd')) fun hp=>ex n bd ⟨s.sl,hp,s.nx,nm::s.lg⟩ (IY nm bf k)
  |_=>none
 |_=>none
def xy{β:Type}(ex:fU β)(nm:Nat)(args:List RV)(s:S)(k:RV->S->Option β):Option β:=
 match s.hp.get nm with
 |some (.loop .ready sl ps aa bd)=>match iK aa && iK bd with
  |true=>match zH ps args sl with
   |some sl1=>setArgs sl1.length sl1 0 .nil fun t=>ex sl1.length aa ⟨t,s.hp,s.nx,s.lg⟩ (Kv ex nm sl1.length bd s.sl k)
   |none=>none
  |false=>none
 |_=>none
def rJ{β:Type}(sl:T RV):Nat->List RV->(List RV->Option β)->Option β
 | 0,acc,k=>k acc
 |t+1,acc,k=>match sl.get t with
  |some v=>rJ sl t (v::acc) k
  |none=>rJ sl t (fc::acc) k
def PD{β:Type}(l:Nat)(k:X->S->Option β)(_:RV)(s:S):Option β:=
 match s.hp.get l with
 |some (.loop st _ _ _ _)=>T.set depth s.hp l none fun hp=>match st with
  | .ready=>k .normal ⟨s.sl,hp,s.nx,s.lg⟩
  | .done none=>k .ret ⟨s.sl,hp,s.nx,s.lg⟩
  | .done (some id)=>k (.exit id) ⟨s.sl,hp,s.nx,s.lg⟩
  | .busy=>none
 |_=>none
def xZ{β:Type}(call:fJ β)(n:Nat)(g:Operand)(ps:Array Tmp)(aa bd:Code)(s:S)(k:X->S->Option β):Option β:=
 match eval n s.sl g with
 |some (.one (.c (.fn f fs dH)))=>match Nat.blt f YB with
  |true=>rJ s.sl n [] fun sl=>T.set depth s.hp s.nx (some (.loop .ready sl ps.toList aa bd)) fun hp=>eX (s.nx+1) fun nx=>
    call f (fs.map (fun(nm,off)=> .one (.c (.ptr nm off)))++(.one (.c (.yield s.nx))::dH.map fun(nm,off)=> .one (.c (.ptr nm off)))) ⟨s.sl,hp,nx,s.lg⟩ (PD s.nx k)
  |false=>none
 |_=>none
def pr{β:Type}(ex:fU β):fJ β:=fun g args s k=>
 match P.funcs[g]? with
 |none=>match Nat.ble YB g with
  |true=>xy ex (g - YB) args s k
  |false=>none
 |some fn=>match Nat.blt g YB with
  |false=>none
  |true=>match fn.body with
   |none=>none
   |some c=>match Sg g with
    |some sm=>match sm args s.hp s.nx with
     |some (v,hp,nx,lg)=>k v {s with hp,nx,lg:=lg++s.lg}
     |none=>jW P ex fn c args s k
    |none=>jW P ex fn c args s k
def AF{β:Type}(ex:fU β)(n:Nat)(b:Code)(k:X->S->Option β)(x:X)(s:S):Option β:=
 match x with
 | .normal=>ex n b s k
 |x=>k x s
def yY{β:Type}(id:Nat)(k:X->S->Option β)(x:X)(s:S):Option β:=
 match x with
 | .exit j=>if j=id then k .normal s else k (.exit j) s
 |x=>k x s
def vL{β:Type}(ex:fU β)(n:Nat)(c:Operand)(a b:Code)(s:S)(k:X->S->Option β):Option β:=
 match eval n s.sl c with
 |some (.one (.c (.bool t)))=>bif t then ex n a s k else ex n b s k
 |_=>none
def du{β:Type}(ex:fU β)(n:Nat)(c:Code)(s:S)(k:X->S->Option β):Option β:=
 match c with
 | .skip=>k .normal s
 | .ret=>k .ret s
 | .exit id=>k (.exit id) s
 | .seq a b=>ex n a s (AF ex n b k)
 | .cond c a b=>vL ex n c a b s k
 | .block id c=>ex n c s (yY id k)
 | .loop c=>ex n c s (AF ex n (.loop c) k)
 | .region _ ops draw=>ik P z (pr P Sg ex) n ops.toList draw s (k .normal)
 | .rangeFunc g ps aa bd=>match z with
  |true=>xZ (pr P Sg ex) n g ps aa bd s k
  |false=>none
 |_=>none
def exec{β:Type}(f:Nat):fU β:=Nat.rec (fun _ _ _ _=>none) (fun _ ih n c s k=>du P Sg z ih n c s k) f
def run(fuel:Nat)(g:FuncId)(args:List RV):Option RV:=
 match P.funcs[g]? with
 |none=>none
 |some fn=>match fn.body with
  |none=>none
  |some c=>setArgs fn.ntmps args 0 .nil fun sl=>
   exec P Sg z fuel fn.ntmps c ⟨sl,.nil,0,[]⟩ fun x s=>
    match x with
    | .exit _=>none
    |_=>match ba P fn.ntmps s fn.results.toList with
     |some l=>some (c6 l)
     |none=>none
end
abbrev ag:=X->S->Prop
abbrev ah:=X->Option (List AV)->Prop
end Go.Sx
