/-
  Parts of the executor Sx over the model's code (any program), or of this seat's walks: words and proofs that the row's text uses.
-/
import Derived.Test.YtganobhodimjnaaSxI
namespace Go.Sx
/-! The executor with assumed tests: of each test that hangs on a variable the answer is given, and the test is noted. -/
noncomputable section

structure A where
  n : Nat
  orc : List (Nat × Bool)
  ob : List Prop

def All : List Prop → Prop
  | [] => True
  | p :: l => p ∧ All l

abbrev A.Sat (α : A) : Prop := All α.ob

section defs
variable {β : Type}

/-- a test: taken as it is, or as it is said -/
def ask (α : A) (t : Bool) (k : Bool → A → Option β) : Option β :=
  match α with
  | ⟨n, orc, ob⟩ => match orc with
    | [] => Bool.rec (k false ⟨n, [], ob⟩) (k true ⟨n, [], ob⟩) t
    | (i, b) :: r => fNat (n + 1) fun n' => Bool.rec
        (Bool.rec (k false ⟨n', (i, b) :: r, ob⟩) (k true ⟨n', (i, b) :: r, ob⟩) t)
        (k b ⟨n', r, (t = b) :: ob⟩) (Nat.beq i n)

def chkA (α : A) (p : Prop) [Decidable p] (k : A → Option β) : Option β := ask α (decide p) fun t α => Bool.rec none (k α) t

def optA {γ : Type} (x : Option γ) (α : A) (k : γ → A → Option β) : Option β := match x with | some v => k v α | none => none

def Body.getA (b : Body) (off : Nat) (t : TK) (α : A) (k : AV → A → Option β) : Option β :=
  match b, t with
  | .ints kd l n, .sc => chkA α (off < n) fun α => k (.c (.int kd (l.getD off 0))) α
  | .ints kd l n, .ints k' m => if kd = k' then chkA α (off + m ≤ n) fun α => k (.ints kd ((l.drop off).take m) m) α else none
  | b, t => optA (b.get off t) α k

def Body.setA (b : Body) (off : Nat) (v : AV) (α : A) (k : Body → A → Option β) : Option β :=
  match b, v with
  | .ints kd l n, .c (.int k' x) => if kd = k' then chkA α (off < n) fun α => k (.ints kd (l.set off x) n) α else none
  | .ints kd l n, .ints k' x m => if kd = k' then chkA α (off + m ≤ n) fun α => k (.ints kd (over l off x) n) α else none
  | b, v => optA (b.set off v) α k

def idxA (i : Int) (len : Nat) (α : A) (k : Nat → A → Option β) : Option β := chkA α (0 ≤ i ∧ i < len) fun α => k i.toNat α

def stLoadA (P : Program) (ev : Ev) (hp : Hp) (t : TypeId) (a : Operand) (α : A) (k : Res → A → Option β) : Option β :=
  match ev a with
  | some (.one (.c (.ptr nm off))) => match tk P t with
    | some kd => match getRow hp nm with
      | some (_, _, _, b) => b.getA off kd α fun v α => k ⟨.one v, .none, [nm], true⟩ α
      | none => none
    | none => none
  | _ => none

def stStoreA (P : Program) (ev : Ev) (hp : Hp) (t : TypeId) (a x : Operand) (α : A) (k : Res → A → Option β) : Option β :=
  match ev a with
  | some (.one (.c (.ptr nm off))) => match ev x with
    | some (.one v) => match P.info? t with
      | some ti => if v.size = ti.size then (match getRow hp nm with
          | some (ty, false, o, b) => b.setA off v α fun b α => k ⟨und, .wr nm (.row ty false o b), [nm], true⟩ α
          | _ => none) else none
      | none => none
    | _ => none
  | _ => none

def ixArrA (P : Program) (e : TypeId) (nm off len : Nat) (i : Int) (α : A) (k : Res → A → Option β) : Option β :=
  match P.info? e with
  | some ti => idxA i len α fun j α => k ⟨.one (.c (.ptr nm (off + j * ti.size))), .none, [], true⟩ α
  | none => none

def ixSlA (P : Program) (e : TypeId) (x : Cell) (i : Int) (α : A) (k : Res → A → Option β) : Option β :=
  match P.info? e with
  | some ti => match sliceParts x ti.size with
    | some (some (nm, off, len)) => idxA i len α fun j α => k ⟨.one (.c (.ptr nm (off + j * ti.size))), .none, [], true⟩ α
    | _ => none
  | none => none

def stIndexAddrA (P : Program) (ev : Ev) (t : TypeId) (x i : Operand) (α : A) (k : Res → A → Option β) : Option β :=
  match ev i with
  | some (.one (.c (.int _ i))) => match ev x with
    | some (.one (.c x)) => match P.underlying t with
      | some (.array len e) => (match x with | .ptr nm off => ixArrA P e nm off len i α k | _ => none)
      | some (.slice e) => ixSlA P e x i α k
      | _ => none
    | _ => none
  | _ => none

def stIndexA (P : Program) (ev : Ev) (t : TypeId) (x i : Operand) (α : A) (k : Res → A → Option β) : Option β :=
  match ev i with
  | some (.one (.c (.int _ i))) => match ev x with
    | some (.one v) => match P.underlying t with
      | some (.array len e) => match P.info? e with
        | some ti => match tk P e with
          | some kd => if isAggV v = true then idxA i len α fun j α => v.rowBody.getA (j * ti.size) kd α fun v α => k ⟨.one v, .none, [], true⟩ α else none
          | none => none
        | none => none
      | _ => none
    | _ => none
  | _ => none

def binIntA (op : BinOp) (kd : IntKind) (a b : Int) (α : A) (k : Cell → A → Option β) : Option β :=
  match op with
  | .quo => chkA α (¬ b = 0) fun α => k (.int kd (kd.wrap (a.tdiv b))) α
  | .rem => chkA α (¬ b = 0) fun α => k (.int kd (a.tmod b)) α
  | op => optA (binInt op kd a b) α k

def shiftResA (op : BinOp) (kd : IntKind) (a b : Int) (α : A) (k : AV → A → Option β) : Option β :=
  match op with
  | .shl => chkA α (¬ b < 0) fun α => k (.c (.int kd (kd.wrap (a * 2 ^ (min b.toNat kd.bits))))) α
  | .shr => chkA α (¬ b < 0) fun α => k (.c (.int kd (a.fdiv (2 ^ (min b.toNat kd.bits))))) α
  | _ => none

def intResA (op : BinOp) (kd : IntKind) (a : Int) (k' : IntKind) (b : Int) (α : A) (k : AV → A → Option β) : Option β :=
  match isShift op with
  | true => shiftResA op kd a b α k
  | false => if kd = k' then binIntA op kd a b α fun c α => k (.c c) α else none

def binResA (P : Program) (op : BinOp) (t : TypeId) (x y : AV) (α : A) (k : AV → A → Option β) : Option β :=
  match x, y with
  | .c (.int kd a), .c (.int k' b) => intResA op kd a k' b α k
  | x, y => optA (binRes P op t x y) α k

def stBinA (P : Program) (ev : Ev) (op : BinOp) (t : TypeId) (x y : Operand) (α : A) (k : Res → A → Option β) : Option β :=
  match ev x with
  | some (.one x) => match ev y with
    | some (.one y) => binResA P op t x y α fun v α => k ⟨.one v, .none, [], true⟩ α
    | _ => none
  | _ => none

def findKeyA (kc : Cell) : List (Cell × AV) → Nat → A → (Option (Nat × AV) → A → Option β) → Option β
  | [], _, α, k => k none α
  | (c, v) :: r, i, α, k => match eqKey kc c with
    | some t => ask α t fun t α => Bool.rec (findKeyA kc r (i + 1) α k) (k (some (i, v)) α) t
    | none => none

def stLookupA (P : Program) (ev : Ev) (hp : Hp) (t : TypeId) (m kx : Operand) (ok : Bool) (α : A) (k : Res → A → Option β) : Option β :=
  match P.underlying t with
  | some (.map kt e) => match ev m with
    | some (.one (.c m)) => match ev kx with
      | some (.one (.c kc)) => match zeroAV P e with
        | some z => match mapEs hp m with
          | some (es, nd) => if keyOK (P.underlying kt) kc = true then findKeyA kc es 0 α fun r α => optA (lookRes ok z nd (some r)) α k else none
          | none => none
        | none => none
      | _ => none
    | _ => none
  | _ => none

def stMapUpdateA (P : Program) (ev : Ev) (hp : Hp) (t : TypeId) (m kx x : Operand) (α : A) (k : Res → A → Option β) : Option β :=
  match ev m with
  | some (.one (.c (.map nm))) => match ev kx with
    | some (.one (.c kc)) => match ev x with
      | some (.one v) => match hp nm with
        | some (.map es) => if keyOK (keyTy P t) kc = true then findKeyA kc es 0 α fun r α => optA (mapPut es nm kc v (some r)) α k else none
        | _ => none
      | _ => none
    | _ => none
  | _ => none

def sboundA (x : Option RV) (lo hi dflt : Nat) (α : A) (k : Nat → A → Option β) : Option β :=
  match x with
  | none => k dflt α
  | some (.one (.c (.int _ i))) => chkA α ((lo : Int) ≤ i ∧ i ≤ hi) fun α => k i.toNat α
  | some _ => none

def sliceCellA (s : Nat) (x : Cell) (lo hi : Option RV) (α : A) (k : Cell → A → Option β) : Option β :=
  match x with
  | .sl nm off len cap => sboundA hi 0 cap len α fun h α => sboundA lo 0 h 0 α fun l α => k (.sl nm (if cap = l then off else off + l * s) (h - l) (cap - l)) α
  | .slu nm sz a len => sboundA hi 0 len len α fun h α => sboundA lo 0 h 0 α fun l α => if sz = s then k (.slu nm sz (a + l) (h - l)) α else none
  | x => optA (sliceCell s x lo hi) α k

def slArrA (P : Program) (n : Nat) (e : TypeId) (nm off : Nat) (lo hi : Option RV) (α : A) (k : Res → A → Option β) : Option β :=
  match P.info? e with
  | some ti => sliceCellA ti.size (.sl nm off n n) lo hi α fun c α => k ⟨.one (.c c), .none, [], true⟩ α
  | none => none

def slSlA (P : Program) (e : TypeId) (x : Cell) (lo hi : Option RV) (α : A) (k : Res → A → Option β) : Option β :=
  match P.info? e with
  | some ti => sliceCellA ti.size x lo hi α fun c α => k ⟨.one (.c c), .none, [], true⟩ α
  | none => none

def stSliceA (P : Program) (ev : Ev) (t : TypeId) (x : Operand) (lo hi mx : Option Operand) (α : A) (k : Res → A → Option β) : Option β :=
  match mx with
  | some _ => none
  | none => match optEv ev lo with
    | none => none
    | some lo => match optEv ev hi with
      | none => none
      | some hi => match ev x with
        | some (.one (.c x)) => match P.underlying t with
          | some (.array n e) => (match x with | .ptr nm off => slArrA P n e nm off lo hi α k | _ => none)
          | some (.slice e) => slSlA P e x lo hi α k
          | some (.pointer arr) => (match x with
            | .ptr nm off => (match P.underlying arr with | some (.array n e) => slArrA P n e nm off lo hi α k | _ => none)
            | _ => none)
          | _ => none
        | _ => none

def stMakeSliceA (P : Program) (ev : Ev) (nx : Nat) (t : TypeId) (l c : Operand) (α : A) (k : Res → A → Option β) : Option β :=
  match P.underlying t with
  | some (.slice e) => match ev l with
    | some (.one (.c (.int _ n))) => match ev c with
      | some (.one (.c (.int _ m))) => match zeroAV P e with
        | some z => match P.info? e with
          | some ti => chkA α (0 ≤ n ∧ n = m ∧ ti.bytes * n.toNat ≤ 1000000000 ∧ n.toNat < 1000000000) fun α => if z.size = ti.size then
              k ⟨.one (.c (.sl nx 0 n.toNat n.toNat)), .new (.row e false none (rowsOf P e z n.toNat)), [], true⟩ α else none
          | none => none
        | none => none
      | _ => none
    | _ => none
  | _ => none

def Body.cutA (b : Body) (off n : Nat) (α : A) (k : Body → A → Option β) : Option β :=
  match b with
  | .ints kd l m => chkA α (off + n ≤ m) fun α => k (.ints kd ((l.drop off).take n) n) α
  | b => optA (b.cut off n) α k

def Body.putA (b : Body) (off : Nat) (x : Body) (α : A) (k : Body → A → Option β) : Option β :=
  match b, x with
  | .ints kd l n, .ints k' x m => if kd = k' then chkA α (off + m ≤ n) fun α => k (.ints kd (over l off x) n) α else none
  | b, x => optA (b.put off x) α k

def slicePartsA (c : Cell) (s : Nat) (α : A) (k : Option (Nat × Nat × Nat) → A → Option β) : Option β :=
  match c with
  | .slu nm sz a len => chkA α (len ≠ 0) fun α => if sz = s then k (some (nm, a * sz, len)) α else none
  | c => optA (sliceParts c s) α k

def srcBodyA (hp : Nat → Option Blk) (s : Nat) (n : Option Nat) (x : Cell) (α : A) (k : Option Nat × Nat × Option Body → A → Option β) : Option β :=
  match x with
  | .str b => optA (srcBody hp s n (.str b)) α k
  | x => slicePartsA x s α fun p α => match p with
    | none => k (none, 0, none) α
    | some (nm, off, len) =>
      match getRow hp nm with
      | some (_, _, _, b) => b.cutA off (lenBy n len * s) α fun b α => k (some nm, lenBy n len, some b) α
      | none => none

def copyToA (hp : Nat → Option Blk) (nm off : Nat) (s : Option Nat × Nat × Option Body) (α : A) (k : Res → A → Option β) : Option β :=
  ask α (Nat.beq s.2.1 0) fun t α => Bool.rec
    (match s.2.2 with
      | some x => match getRow hp nm with
        | some (t, false, o, b) => b.putA off x α fun b α => k ⟨.one (.c (.int .i64 s.2.1)), .wr nm (.row t false o b), nm :: needOf s.1, true⟩ α
        | _ => none
      | none => none)
    (k ⟨.one (.c (.int .i64 0)), .none, needOf s.1, true⟩ α) t

def copyResA (P : Program) (hp : Nat → Option Blk) (argTypes : Array TypeId) (d s : RV) (α : A) (k : Res → A → Option β) : Option β :=
  match argTypes[0]?, d, s with
  | some dt, .one (.c d), .one (.c s) => match P.underlying dt with
    | some (.slice e) => match P.info? e with
      | some ti => slicePartsA d ti.size α fun p α => match p with
        | none => optA (copyRes P hp argTypes (.one (.c d)) (.one (.c s))) α k
        | some (nm, off, len) => srcBodyA hp ti.size (some len) s α fun sb α => copyToA hp nm off sb α k
      | none => none
    | _ => none
  | _, _, _ => none

def appSluA (e : TypeId) (ti : TypeInfo) (hp : Nat → Option Blk) (nx nm sz a len : Nat) (from_ : Option Nat) (n : Nat) (x : Option Body) (α : A) (k : Res → A → Option β) : Option β :=
  ask α (Nat.beq n 0) fun t α => Bool.rec
    (chkA α (fits ti (len + n) = true) fun α => if a = 0 ∧ sz = ti.size then
      (match getRow hp nm with
        | some (t, false, some sz', b) => if sz' = ti.size ∧ t = e then b.cutA 0 (len * ti.size) α fun b α => optA (appMv e nx ti.size (len + n) nm (some b) x (nm :: needOf from_)) α k else none
        | _ => none) else none)
    (k ⟨.one (.c (.slu nm sz a len)), .none, needOf from_, true⟩ α) t

def appNilA (e : TypeId) (ti : TypeInfo) (nx : Nat) (from_ : Option Nat) (n : Nat) (x : Option Body) (α : A) (k : Res → A → Option β) : Option β :=
  ask α (Nat.beq n 0) fun t α => Bool.rec
    (chkA α (fits ti n = true) fun α => match x with
      | some x => k ⟨.one (.c (.slu nx ti.size 0 n)), .new (.row e false (some ti.size) x), needOf from_, true⟩ α
      | none => none)
    (k ⟨.one (.c .sl0), .none, needOf from_, true⟩ α) t

def appGoA (e : TypeId) (ti : TypeInfo) (hp : Nat → Option Blk) (nx : Nat) (d : Cell) (s : Option Nat × Nat × Option Body) (α : A) (k : Res → A → Option β) : Option β :=
  match d with
  | .sl0 => appNilA e ti nx s.1 s.2.1 s.2.2 α k
  | .slu nm sz a len => appSluA e ti hp nx nm sz a len s.1 s.2.1 s.2.2 α k
  | d => optA (appGo e ti hp nx d (some s)) α k

def appendResA (P : Program) (hp : Nat → Option Blk) (nx : Nat) (argTypes : Array TypeId) (d s : RV) (α : A) (k : Res → A → Option β) : Option β :=
  match argTypes[0]?, d, s with
  | some dt, .one (.c d), .one (.c s) => match P.underlying dt with
    | some (.slice e) => match P.info? e with
      | some ti => match zeroAV P e with
        | some z => if z.size = ti.size ∧ appArg P argTypes = true then srcBodyA hp ti.size none s α fun sb α => appGoA e ti hp nx d sb α k else none
        | none => none
      | none => none
    | _ => none
  | _, _, _ => none

def stCallA (P : Program) (ev : Ev) (hp : Hp) (nx : Nat) (c : Call) (α : A) (k : Res → A → Option β) : Option β :=
  match c.callee with
  | .builtin b => match evl ev c.args.toList with
    | some l => (match b, l with
      | .copy, [d, s] => copyResA P hp c.argTypes d s α k
      | .append, [d, s] => appendResA P hp nx c.argTypes d s α k
      | b, l => optA (builtinRes P hp nx b c.argTypes l) α k)
    | none => none
  | _ => none

def stPickA (ev : Ev) (c a b : Operand) (α : A) (k : Res → A → Option β) : Option β :=
  match ev c with
  | some (.one (.c (.bool t))) => match ev a with
    | some x => match ev b with
      | some y => ask α t fun t α => optA (pickV t x y) α k
      | none => none
    | none => none
  | _ => none

def opStepA (P : Program) (ev : Ev) (hp : Hp) (nx : Nat) (o : Op) (α : A) (k : Res → A → Option β) : Option β :=
  match o with
  | .pick c a b => stPickA ev c a b α k
  | .load t a => stLoadA P ev hp t a α k
  | .store t a x => stStoreA P ev hp t a x α k
  | .binOp op t x y _ => stBinA P ev op t x y α k
  | .makeSlice t l c => stMakeSliceA P ev nx t l c α k
  | .slice t x lo hi mx => stSliceA P ev t x lo hi mx α k
  | .indexAddr t x i => stIndexAddrA P ev t x i α k
  | .index t x i => stIndexA P ev t x i α k
  | .lookup t m kx ok => stLookupA P ev hp t m kx ok α k
  | .mapUpdate t m kx x => stMapUpdateA P ev hp t m kx x α k
  | .insert t m kx x => stMapUpdateA P ev hp t m kx x α k
  | .call c => stCallA P ev hp nx c α k
  | o => optA (opStep P ev hp nx o) α k

/-! ### running -/
abbrev SumA := List RV → T Blk → Nat → Option (RV × T Blk × Nat × List Nat × List Prop)
abbrev CallFA (β : Type) := FuncId → List RV → S → A → (RV → S → A → Option β) → Option β
abbrev ExecFA (β : Type) := Nat → Code → S → A → (X → S → A → Option β) → Option β

variable (P : Program) (Sg : FuncId → Option SumA)

/-! names and shapes are forced; numbers are not -/
def wCell (c : Cell) (k : Cell → Option β) : Option β :=
  match c with
  | .ptr nm off => fNat nm fun nm => k (.ptr nm off)
  | .sl nm off len cap => fNat nm fun nm => k (.sl nm off len cap)
  | .slu nm sz off len => fNat nm fun nm => k (.slu nm sz off len)
  | .map nm => fNat nm fun nm => k (.map nm)
  | c => k c
def wCells : List Cell → (List Cell → Option β) → Option β
  | [], k => k []
  | x :: xs, k => wCell x fun x => wCells xs fun xs => k (x :: xs)
def wAV (v : AV) (k : AV → Option β) : Option β :=
  match v with
  | .c x => wCell x fun x => k (.c x)
  | .agg l => wCells l fun l => k (.agg l)
  | .ints kd l n => k (.ints kd l n)
def wAVs : List AV → (List AV → Option β) → Option β
  | [], k => k []
  | x :: xs, k => wAV x fun x => wAVs xs fun xs => k (x :: xs)
def wRV (v : RV) (k : RV → Option β) : Option β :=
  match v with
  | .one v => wAV v fun v => k (.one v)
  | .tup l => wAVs l fun l => k (.tup l)
  | .any => k .any
def wEs : List (Cell × AV) → (List (Cell × AV) → Option β) → Option β
  | [], k => k []
  | (x, v) :: xs, k => wCell x fun x => wAV v fun v => wEs xs fun xs => k ((x, v) :: xs)
def wBlk (b : Blk) (k : Blk → Option β) : Option β :=
  match b with
  | .row t ro o (.cells l) => wCells l fun l => k (.row t ro o (.cells l))
  | .row t ro o (.ints kd l n) => k (.row t ro o (.ints kd l n))
  | .map es => wEs es fun es => k (.map es)

def applyUA (u : Upd) (s : S) (k : S → Option β) : Option β :=
  match s with
  | ⟨sl, hp, nx, lg⟩ => match u with
    | .none => k ⟨sl, hp, nx, lg⟩
    | .new b => wBlk b fun b => T.set depth hp nx (some b) fun hp => fNat (nx + 1) fun nx => k ⟨sl, hp, nx, lg⟩
    | .wr nm b => Bool.rec none (wBlk b fun b => T.set depth hp nm (some b) fun hp => k ⟨sl, hp, nx, nm :: lg⟩) (Nat.blt nm nx)
    | .mv nm b => Bool.rec none (wBlk b fun b => T.set depth hp nm none fun hp => T.set depth hp nx (some b) fun hp => fNat (nx + 1) fun nx => k ⟨sl, hp, nx, nm :: lg⟩) (Nat.blt nm nx)

def putDstA (n : Nat) (d : Option Tmp) (v : RV) (s : S) (k : S → Option β) : Option β :=
  match d with
  | none => k s
  | some d => match s with
    | ⟨sl, hp, nx, lg⟩ => if d < n then T.set depth sl d (some v) fun sl => k ⟨sl, hp, nx, lg⟩ else none

def plainA (n : Nat) (o : Oper) (s : S) (α : A) (k : Need → S → A → Option β) : Option β :=
  match s with
  | ⟨sl, hp, nx, lg⟩ => opStepA P (eval n sl) hp.get nx o.op α fun r α => match r with
    | ⟨v, u, need, _⟩ => wRV v fun v => applyUA u ⟨sl, hp, nx, lg⟩ fun s => putDstA n o.dst v s fun s => k (some need) s α

def guardA (n : Nat) (ops : List Oper) (sl : T RV) (o : Oper) (α : A) (k : Bool → A → Option β) : Option β :=
  match o.guard with
  | none => k true α
  | some (j, want) => match ops[j]? with
    | some oj => match oj.dst with
      | some d => match eval n sl (.tmp d) with
        | some (.one (.c (.bool b))) => ask α b fun b α => k (b == want) α
        | some (.tup []) => k false α
        | _ => none
      | none => none
    | none => none

def callRunA (call : CallFA β) (n : Nat) (f : Operand) (args : Array Operand) (d : Option Tmp) (s : S) (α : A) (k : Need → S → A → Option β) : Option β :=
  match calleeOf n s.sl f with
  | some (f, fs, caps) => match evl (eval n s.sl) args.toList with
    | some l => call f (fs ++ (l ++ caps)) s α fun v s' α => putDstA n d v s' fun s' => k none s' α
    | none => none
  | none => none

def opA (call : CallFA β) (n : Nat) (ops : List Oper) (o : Oper) (s : S) (α : A) (k : Need → S → A → Option β) : Option β :=
  guardA n ops s.sl o α fun g α =>
    match g with
    | true => match isCall o.op with
      | some (f, args) => callRunA call n f args o.dst s α k
      | none => plainA P n o s α k
    | false => putDstA n o.dst und s fun s => k (some []) s α

def opsA (call : CallFA β) (n : Nat) (ops : List Oper) : List Oper → S → A → (S → A → Option β) → Option β
  | [], s, α, k => k s α
  | o :: rest, s, α, k => opA P call n ops o s α fun _ s α => opsA call n ops rest s α k

def drawGoA (call : CallFA β) (n : Nat) (ops : List Oper) : List Oper → List FP → S → A → (List FP → S → A → Option β) → Option β
  | [], fps, s, α, k => k fps s α
  | o :: rest, fps, ⟨sl, hp, nx, _⟩, α, k => opA P call n ops o ⟨sl, hp, nx, []⟩ α fun need s' α => match s' with
      | ⟨sl', hp', nx', lg'⟩ => drawGoA call n ops rest (fps ++ [⟨need, lg', nx, nx'⟩]) ⟨sl', hp', nx', lg'⟩ α k

def drawA (call : CallFA β) (n : Nat) (ops : List Oper) (s : S) (α : A) (k : S → A → Option β) : Option β :=
  match noRing ops ops 0 with
  | false => none
  | true => drawGoA P call n ops ops [] s α fun fps s' α =>
    match pairsAll ops ops (befs ops []) fps [] [] with
    | true => (match s, s' with | ⟨_, _, _, lg0⟩, ⟨sl, hp, nx, _⟩ => k ⟨sl, hp, nx, allLogs fps lg0⟩ α)
    | false => none

def regionA (call : CallFA β) (n : Nat) (ops : List Oper) (draw : Bool) (s : S) (α : A) (k : S → A → Option β) : Option β :=
  match draw with
  | false => opsA P call n ops ops s α k
  | true => drawA P call n ops s α k

def backA (fn : Func) (s : S) (k : RV → S → A → Option β) (x : X) (s' : S) (α : A) : Option β :=
  match x with
  | .exit _ => none
  | _ => match resOf P fn.ntmps s' fn.results.toList with
    | some l => wRV (resRV l) fun v => match s, s' with
      | ⟨sl, _, _, _⟩, ⟨_, hp, nx, lg⟩ => k v ⟨sl, hp, nx, lg⟩ α
    | none => none

def bodyA (ex : ExecFA β) (fn : Func) (c : Code) (args : List RV) (s : S) (α : A) (k : RV → S → A → Option β) : Option β :=
  match s with
  | ⟨sl0, hp, nx, lg⟩ => setArgs fn.ntmps args 0 .nil fun sl => ex fn.ntmps c ⟨sl, hp, nx, lg⟩ α (backA P fn ⟨sl0, hp, nx, lg⟩ k)

def callByA (ex : ExecFA β) : CallFA β := fun g args s α k =>
  match P.funcs[g]? with
  | none => none
  | some fn => match fn.body with
    | none => none
    | some c => match Sg g with
      | some sm => match sm args s.hp s.nx with
        | some (v, hp, nx, lg, ps) => (match s, α with | ⟨sl, _, _, lg0⟩, ⟨n, orc, ob⟩ => k v ⟨sl, hp, nx, lg ++ lg0⟩ ⟨n, orc, ps ++ ob⟩)
        | none => bodyA P ex fn c args s α k
      | none => bodyA P ex fn c args s α k

def seqA (ex : ExecFA β) (n : Nat) (b : Code) (k : X → S → A → Option β) (x : X) (s : S) (α : A) : Option β :=
  match x with
  | .normal => ex n b s α k
  | x => k x s α

def blockA (id : Nat) (k : X → S → A → Option β) (x : X) (s : S) (α : A) : Option β :=
  match x with
  | .exit j => if j = id then k .normal s α else k (.exit j) s α
  | x => k x s α

def condA (ex : ExecFA β) (n : Nat) (c : Operand) (a b : Code) (s : S) (α : A) (k : X → S → A → Option β) : Option β :=
  match eval n s.sl c with
  | some (.one (.c (.bool t))) => ask α t fun t α => Bool.rec (ex n b s α k) (ex n a s α k) t
  | _ => none

def codeA (ex : ExecFA β) (n : Nat) (c : Code) (s : S) (α : A) (k : X → S → A → Option β) : Option β :=
  match c with
  | .skip => k .normal s α
  | .ret => k .ret s α
  | .exit id => k (.exit id) s α
  | .seq a b => ex n a s α (seqA ex n b k)
  | .cond c a b => condA ex n c a b s α k
  | .block id c => ex n c s α (blockA id k)
  | .loop c => ex n c s α (seqA ex n (.loop c) k)
  | .region _ ops draw => regionA P (callByA P Sg ex) n ops.toList draw s α (k .normal)
  | _ => none

def execA (f : Nat) : ExecFA β := Nat.rec (fun _ _ _ _ _ => none) (fun _ ih n c s α k => codeA P Sg ih n c s α k) f

def runA (fuel : Nat) (g : FuncId) (args : List RV) (s : S) (α : A) (k : RV → S → A → Option β) : Option β :=
  match P.funcs[g]? with
  | none => none
  | some fn => match fn.body with
    | none => none
    | some c => bodyA P (execA P Sg fuel) fn c args s α k
end defs
end
end Go.Sx

namespace Go.Sx
section
variable {β : Type} {γ : Type}

def Ok1 (α : A) (k : γ → A → Option β) (r : β) (g : γ → Prop) : Prop := ∃ v α', k v α' = some r ∧ (α'.Sat → α.Sat ∧ g v)

theorem ask_ok {α : A} {t : Bool} {k : Bool → A → Option β} {r : β} (h : ask α t k = some r) : Ok1 α k r (fun b => t = b) := by
  unfold ask at h
  obtain ⟨n, orc, ob⟩ := α
  simp only at h
  split at h
  · cases t with
    | false => exact ⟨_, _, h, fun s => ⟨s, rfl⟩⟩
    | true => exact ⟨_, _, h, fun s => ⟨s, rfl⟩⟩
  · rename_i i b rest
    rw [fNat_eq] at h
    cases hb : Nat.beq i n with
    | true =>
      rw [hb] at h
      exact ⟨_, _, h, fun s => ⟨s.2, s.1⟩⟩
    | false =>
      rw [hb] at h
      cases t with
      | false => exact ⟨_, _, h, fun s => ⟨s, rfl⟩⟩
      | true => exact ⟨_, _, h, fun s => ⟨s, rfl⟩⟩

theorem chkA_ok {α : A} {p : Prop} [Decidable p] {k : A → Option β} {r : β} (h : chkA α p k = some r) : ∃ α', k α' = some r ∧ (α'.Sat → α.Sat ∧ p) := by
  unfold chkA at h
  obtain ⟨b, α', h1, h2⟩ := ask_ok h
  cases b with
  | false => cases h1
  | true => exact ⟨α', h1, fun s => ⟨(h2 s).1, of_decide_eq_true (h2 s).2⟩⟩

theorem optA_ok {x : Option γ} {α : A} {k : γ → A → Option β} {r : β} (h : optA x α k = some r) : ∃ v, x = some v ∧ k v α = some r := by
  unfold optA at h
  split at h <;> try (cases h; done)
  exact ⟨_, rfl, h⟩

theorem optA_ok1 {x : Option γ} {α : A} {k : γ → A → Option β} {r : β} (h : optA x α k = some r) : Ok1 α k r (fun v => x = some v) := by
  obtain ⟨v, h1, h2⟩ := optA_ok h
  exact ⟨v, α, h2, fun s => ⟨s, h1⟩⟩

theorem getA_ok {b : Body} {off : Nat} {t : TK} {α : A} {k : AV → A → Option β} {r : β} (h : b.getA off t α k = some r) : Ok1 α k r (fun v => b.get off t = some v) := by
  unfold Body.getA at h
  split at h
  · obtain ⟨α', h1, h2⟩ := chkA_ok h
    exact ⟨_, α', h1, fun s => ⟨(h2 s).1, by simp only [Body.get]; rw [if_pos (h2 s).2]⟩⟩
  · split at h <;> try (cases h; done)
    rename_i hk
    obtain ⟨α', h1, h2⟩ := chkA_ok h
    exact ⟨_, α', h1, fun s => ⟨(h2 s).1, by simp only [Body.get]; rw [if_pos ⟨hk, (h2 s).2⟩]⟩⟩
  · exact optA_ok1 h

theorem setA_ok {b : Body} {off : Nat} {v : AV} {α : A} {k : Body → A → Option β} {r : β} (h : b.setA off v α k = some r) : Ok1 α k r (fun b' => b.set off v = some b') := by
  unfold Body.setA at h
  split at h
  · split at h <;> try (cases h; done)
    rename_i hk
    obtain ⟨α', h1, h2⟩ := chkA_ok h
    exact ⟨_, α', h1, fun s => ⟨(h2 s).1, by simp only [Body.set]; rw [if_pos ⟨hk, (h2 s).2⟩]⟩⟩
  · split at h <;> try (cases h; done)
    rename_i hk
    obtain ⟨α', h1, h2⟩ := chkA_ok h
    exact ⟨_, α', h1, fun s => ⟨(h2 s).1, by simp only [Body.set]; rw [if_pos ⟨hk, (h2 s).2⟩]⟩⟩
  · exact optA_ok1 h

theorem idxA_ok {i : Int} {len : Nat} {α : A} {k : Nat → A → Option β} {r : β} (h : idxA i len α k = some r) : Ok1 α k r (fun j => idx i len = some j) := by
  unfold idxA at h
  obtain ⟨α', h1, h2⟩ := chkA_ok h
  refine ⟨_, α', h1, fun s => ⟨(h2 s).1, ?_⟩⟩
  obtain ⟨p1, p2⟩ := (h2 s).2
  obtain ⟨m, rfl⟩ := Int.eq_ofNat_of_zero_le p1
  show (if m < len then some m else none) = _
  rw [if_pos (by omega)]; rfl

abbrev OkR (α : A) (k : Res → A → Option β) (r : β) (x : Option Res) : Prop := Ok1 α k r (fun v => x = some v)

theorem stLoadA_ok {P : Program} {ev : Ev} {hp : Hp} {t : TypeId} {a : Operand} {α : A} {k : Res → A → Option β} {r : β} (h : stLoadA P ev hp t a α k = some r) : OkR α k r (stLoad P ev hp t a) := by
  unfold stLoadA at h
  split at h <;> try (cases h; done)
  rename_i nm off e1
  split at h <;> try (cases h; done)
  rename_i kd e2
  split at h <;> try (cases h; done)
  rename_i b e3
  obtain ⟨v, α', h1, h2⟩ := getA_ok h
  exact ⟨_, α', h1, fun s => ⟨(h2 s).1, by simp only [stLoad, e1, e2, e3, (h2 s).2]⟩⟩

theorem stStoreA_ok {P : Program} {ev : Ev} {hp : Hp} {t : TypeId} {a x : Operand} {α : A} {k : Res → A → Option β} {r : β} (h : stStoreA P ev hp t a x α k = some r) : OkR α k r (stStore P ev hp t a x) := by
  unfold stStoreA at h
  split at h <;> try (cases h; done)
  rename_i nm off e1
  split at h <;> try (cases h; done)
  rename_i v e2
  split at h <;> try (cases h; done)
  rename_i ti e3
  split at h <;> try (cases h; done)
  rename_i e4
  split at h <;> try (cases h; done)
  rename_i ty o b e5
  obtain ⟨v, α', h1, h2⟩ := setA_ok h
  exact ⟨_, α', h1, fun s => ⟨(h2 s).1, by simp only [stStore, e1, e2, e3, if_pos e4, setAt, e5, (h2 s).2]⟩⟩

theorem ixArrA_ok {P : Program} {e : TypeId} {nm off len : Nat} {i : Int} {α : A} {k : Res → A → Option β} {r : β} (h : ixArrA P e nm off len i α k = some r) : OkR α k r (ixArr P e nm off len i) := by
  unfold ixArrA at h
  split at h <;> try (cases h; done)
  rename_i ti e1
  obtain ⟨v, α', h1, h2⟩ := idxA_ok h
  exact ⟨_, α', h1, fun s => ⟨(h2 s).1, by simp only [ixArr, e1, (h2 s).2, quiet]⟩⟩

theorem ixSlA_ok {P : Program} {e : TypeId} {x : Cell} {i : Int} {α : A} {k : Res → A → Option β} {r : β} (h : ixSlA P e x i α k = some r) : OkR α k r (ixSl P e x i) := by
  unfold ixSlA at h
  split at h <;> try (cases h; done)
  rename_i ti e1
  split at h <;> try (cases h; done)
  rename_i e2
  obtain ⟨v, α', h1, h2⟩ := idxA_ok h
  exact ⟨_, α', h1, fun s => ⟨(h2 s).1, by simp only [ixSl, e1, e2, (h2 s).2, quiet]⟩⟩

theorem stIndexAddrA_ok {P : Program} {ev : Ev} {t : TypeId} {x i : Operand} {α : A} {k : Res → A → Option β} {r : β} (h : stIndexAddrA P ev t x i α k = some r) : OkR α k r (stIndexAddr P ev t x i) := by
  unfold stIndexAddrA at h
  split at h <;> try (cases h; done)
  rename_i e1
  split at h <;> try (cases h; done)
  rename_i x e2
  split at h <;> try (cases h; done)
  · rename_i len e e3
    split at h <;> try (cases h; done)
    obtain ⟨v, α', h1, h2⟩ := ixArrA_ok h
    exact ⟨_, α', h1, fun s => ⟨(h2 s).1, by simp only [stIndexAddr, e1, e2, e3, (h2 s).2]⟩⟩
  · rename_i e e3
    obtain ⟨v, α', h1, h2⟩ := ixSlA_ok h
    exact ⟨_, α', h1, fun s => ⟨(h2 s).1, by simp only [stIndexAddr, e1, e2, e3, (h2 s).2]⟩⟩

theorem stIndexA_ok {P : Program} {ev : Ev} {t : TypeId} {x i : Operand} {α : A} {k : Res → A → Option β} {r : β} (h : stIndexA P ev t x i α k = some r) : OkR α k r (stIndex P ev t x i) := by
  unfold stIndexA at h
  split at h <;> try (cases h; done)
  rename_i e1
  split at h <;> try (cases h; done)
  rename_i x e2
  split at h <;> try (cases h; done)
  rename_i len e e3
  split at h <;> try (cases h; done)
  rename_i ti e4
  split at h <;> try (cases h; done)
  rename_i kd e5
  split at h <;> try (cases h; done)
  rename_i e6
  obtain ⟨j, α', h1, h2⟩ := idxA_ok h
  obtain ⟨v, α'', h3, h4⟩ := getA_ok h1
  exact ⟨_, α'', h3, fun s => ⟨(h2 (h4 s).1).1, by simp only [stIndex, e1, e2, e3, e4, e5, (h2 (h4 s).1).2, if_pos e6, (h4 s).2, qOpt, quiet]⟩⟩

theorem binIntA_ok {op : BinOp} {kd : IntKind} {a b : Int} {α : A} {k : Cell → A → Option β} {r : β} (h : binIntA op kd a b α k = some r) : Ok1 α k r (fun c => binInt op kd a b = some c) := by
  unfold binIntA at h
  split at h
  · obtain ⟨α', h1, h2⟩ := chkA_ok h
    exact ⟨_, α', h1, fun s => ⟨(h2 s).1, by simp only [binInt, if_neg (h2 s).2]⟩⟩
  · obtain ⟨α', h1, h2⟩ := chkA_ok h
    exact ⟨_, α', h1, fun s => ⟨(h2 s).1, by simp only [binInt, if_neg (h2 s).2]⟩⟩
  · exact optA_ok1 h

theorem shiftResA_ok {op : BinOp} {kd : IntKind} {a b : Int} {α : A} {k : AV → A → Option β} {r : β} (h : shiftResA op kd a b α k = some r) : Ok1 α k r (fun c => shiftRes op kd a b = some c) := by
  unfold shiftResA at h
  split at h
  · obtain ⟨α', h1, h2⟩ := chkA_ok h
    exact ⟨_, α', h1, fun s => ⟨(h2 s).1, by simp only [shiftRes, if_neg (h2 s).2]⟩⟩
  · obtain ⟨α', h1, h2⟩ := chkA_ok h
    exact ⟨_, α', h1, fun s => ⟨(h2 s).1, by simp only [shiftRes, if_neg (h2 s).2]⟩⟩
  · cases h

theorem intResA_ok {op : BinOp} {kd : IntKind} {a : Int} {k' : IntKind} {b : Int} {α : A} {k : AV → A → Option β} {r : β} (h : intResA op kd a k' b α k = some r) : Ok1 α k r (fun c => intRes op kd a k' b = some c) := by
  unfold intResA at h
  split at h
  · rename_i e
    obtain ⟨v, α', h1, h2⟩ := shiftResA_ok h
    exact ⟨_, α', h1, fun s => ⟨(h2 s).1, by simp only [intRes, e, (h2 s).2]⟩⟩
  · rename_i e
    split at h <;> try (cases h; done)
    rename_i hk
    obtain ⟨v, α', h1, h2⟩ := binIntA_ok h
    exact ⟨_, α', h1, fun s => ⟨(h2 s).1, by simp only [intRes, e, if_pos hk, (h2 s).2]⟩⟩

theorem binResA_ok {P : Program} {op : BinOp} {t : TypeId} {x y : AV} {α : A} {k : AV → A → Option β} {r : β} (h : binResA P op t x y α k = some r) : Ok1 α k r (fun c => binRes P op t x y = some c) := by
  unfold binResA at h
  split at h
  · obtain ⟨v, α', h1, h2⟩ := intResA_ok h
    exact ⟨_, α', h1, fun s => ⟨(h2 s).1, by simp only [binRes, (h2 s).2]⟩⟩
  · exact optA_ok1 h

theorem stBinA_ok {P : Program} {ev : Ev} {op : BinOp} {t : TypeId} {x y : Operand} {α : A} {k : Res → A → Option β} {r : β} (h : stBinA P ev op t x y α k = some r) : OkR α k r (stBin P ev op t x y) := by
  unfold stBinA at h
  split at h <;> try (cases h; done)
  rename_i e1
  split at h <;> try (cases h; done)
  rename_i e2
  obtain ⟨v, α', h1, h2⟩ := binResA_ok h
  exact ⟨_, α', h1, fun s => ⟨(h2 s).1, by simp only [stBin, e1, e2, (h2 s).2, qOpt, quiet]⟩⟩

theorem findKeyA_ok {kc : Cell} {r : β} {k : Option (Nat × AV) → A → Option β} : ∀ {es : List (Cell × AV)} {i : Nat} {α : A}, findKeyA kc es i α k = some r → Ok1 α k r (fun v => findKey kc es i = some v)
  | [], i, α, h => ⟨_, _, h, fun s => ⟨s, rfl⟩⟩
  | (c, v) :: es, i, α, h => by
    unfold findKeyA at h
    split at h <;> try (cases h; done)
    rename_i t e1
    obtain ⟨b, α', h1, h2⟩ := ask_ok h
    cases b with
    | false =>
      obtain ⟨v', α'', h3, h4⟩ := findKeyA_ok h1
      exact ⟨_, _, h3, fun s => ⟨(h2 (h4 s).1).1, by simp only [findKey, e1, (h2 (h4 s).1).2, (h4 s).2]⟩⟩
    | true => exact ⟨_, _, h1, fun s => ⟨(h2 s).1, by simp only [findKey, e1, (h2 s).2]⟩⟩

theorem stLookupA_ok {P : Program} {ev : Ev} {hp : Hp} {t : TypeId} {m kx : Operand} {ok : Bool} {α : A} {k : Res → A → Option β} {r : β} (h : stLookupA P ev hp t m kx ok α k = some r) : OkR α k r (stLookup P ev hp t m kx ok) := by
  unfold stLookupA at h
  split at h <;> try (cases h; done)
  rename_i kt e e1
  split at h <;> try (cases h; done)
  rename_i m' e2
  split at h <;> try (cases h; done)
  rename_i kc e3
  split at h <;> try (cases h; done)
  rename_i z e4
  split at h <;> try (cases h; done)
  rename_i es nd e5
  split at h <;> try (cases h; done)
  rename_i e6
  obtain ⟨v, α', h1, h2⟩ := findKeyA_ok h
  obtain ⟨v', h3, h4⟩ := optA_ok h1
  exact ⟨_, _, h4, fun s => ⟨(h2 s).1, by simp only [stLookup, e1, e2, e3, e4, e5, if_pos e6, (h2 s).2, h3]⟩⟩

theorem stMapUpdateA_ok {P : Program} {ev : Ev} {hp : Hp} {t : TypeId} {m kx x : Operand} {α : A} {k : Res → A → Option β} {r : β} (h : stMapUpdateA P ev hp t m kx x α k = some r) : OkR α k r (stMapUpdate P ev hp t m kx x) := by
  unfold stMapUpdateA at h
  split at h <;> try (cases h; done)
  rename_i nm e2
  split at h <;> try (cases h; done)
  rename_i kc e3
  split at h <;> try (cases h; done)
  rename_i v e4
  split at h <;> try (cases h; done)
  rename_i es e5
  split at h <;> try (cases h; done)
  rename_i e6
  obtain ⟨v, α', h1, h2⟩ := findKeyA_ok h
  obtain ⟨v', h3, h4⟩ := optA_ok h1
  exact ⟨_, _, h4, fun s => ⟨(h2 s).1, by simp only [stMapUpdate, e2, e3, e4, e5, if_pos e6, (h2 s).2, h3]⟩⟩

theorem sboundA_ok {x : Option RV} {lo hi d : Nat} {α : A} {k : Nat → A → Option β} {r : β} (h : sboundA x lo hi d α k = some r) : Ok1 α k r (fun v => sbound x lo hi d = some v) := by
  unfold sboundA at h
  split at h
  · exact ⟨_, _, h, fun s => ⟨s, rfl⟩⟩
  · rename_i kd i
    obtain ⟨α', h1, h2⟩ := chkA_ok h
    refine ⟨_, _, h1, fun s => ⟨(h2 s).1, ?_⟩⟩
    obtain ⟨p1, p2⟩ := (h2 s).2
    obtain ⟨m, rfl⟩ := Int.eq_ofNat_of_zero_le (show 0 ≤ i by omega)
    show (if lo ≤ m ∧ m ≤ hi then some m else none) = _
    rw [if_pos (by omega)]; rfl
  · cases h

theorem sliceCellA_ok {sz : Nat} {x : Cell} {lo hi : Option RV} {α : A} {k : Cell → A → Option β} {r : β} (h : sliceCellA sz x lo hi α k = some r) : Ok1 α k r (fun v => sliceCell sz x lo hi = some v) := by
  unfold sliceCellA at h
  split at h
  · obtain ⟨v, α', h1, h2⟩ := sboundA_ok h
    obtain ⟨u, α'', h3, h4⟩ := sboundA_ok h1
    exact ⟨_, _, h3, fun s => ⟨(h2 (h4 s).1).1, by simp only [sliceCell, (h2 (h4 s).1).2, (h4 s).2]⟩⟩
  · obtain ⟨v, α', h1, h2⟩ := sboundA_ok h
    obtain ⟨u, α'', h3, h4⟩ := sboundA_ok h1
    split at h3 <;> try (cases h3; done)
    rename_i e
    exact ⟨_, _, h3, fun s => ⟨(h2 (h4 s).1).1, by simp only [sliceCell, (h2 (h4 s).1).2, (h4 s).2, if_pos e]⟩⟩
  · exact optA_ok1 h

theorem slArrA_ok {P : Program} {n : Nat} {e : TypeId} {nm off : Nat} {lo hi : Option RV} {α : A} {k : Res → A → Option β} {r : β} (h : slArrA P n e nm off lo hi α k = some r) : OkR α k r (slArr P n e nm off lo hi) := by
  unfold slArrA at h
  split at h <;> try (cases h; done)
  rename_i ti e1
  obtain ⟨v, α', h1, h2⟩ := sliceCellA_ok h
  exact ⟨_, α', h1, fun s => ⟨(h2 s).1, by simp only [slArr, e1, (h2 s).2, cOpt, quiet]⟩⟩

theorem slSlA_ok {P : Program} {e : TypeId} {x : Cell} {lo hi : Option RV} {α : A} {k : Res → A → Option β} {r : β} (h : slSlA P e x lo hi α k = some r) : OkR α k r (slSl P e x lo hi) := by
  unfold slSlA at h
  split at h <;> try (cases h; done)
  rename_i ti e1
  obtain ⟨v, α', h1, h2⟩ := sliceCellA_ok h
  exact ⟨_, α', h1, fun s => ⟨(h2 s).1, by simp only [slSl, e1, (h2 s).2, cOpt, quiet]⟩⟩

theorem stSliceA_ok {P : Program} {ev : Ev} {t : TypeId} {x : Operand} {lo hi mx : Option Operand} {α : A} {k : Res → A → Option β} {r : β} (h : stSliceA P ev t x lo hi mx α k = some r) : OkR α k r (stSlice P ev t x lo hi mx) := by
  unfold stSliceA at h
  split at h <;> try (cases h; done)
  split at h <;> try (cases h; done)
  rename_i e1
  split at h <;> try (cases h; done)
  rename_i e2
  split at h <;> try (cases h; done)
  rename_i x e3
  split at h <;> try (cases h; done)
  · rename_i len e e4
    split at h <;> try (cases h; done)
    obtain ⟨v, α', h1, h2⟩ := slArrA_ok h
    exact ⟨_, α', h1, fun s => ⟨(h2 s).1, by simp only [stSlice, e1, e2, e3, e4, (h2 s).2]⟩⟩
  · rename_i e e4
    obtain ⟨v, α', h1, h2⟩ := slSlA_ok h
    exact ⟨_, α', h1, fun s => ⟨(h2 s).1, by simp only [stSlice, e1, e2, e3, e4, (h2 s).2]⟩⟩
  · rename_i arr e4
    split at h <;> try (cases h; done)
    split at h <;> try (cases h; done)
    rename_i e5
    obtain ⟨v, α', h1, h2⟩ := slArrA_ok h
    exact ⟨_, α', h1, fun s => ⟨(h2 s).1, by simp only [stSlice, e1, e2, e3, e4, e5, (h2 s).2]⟩⟩

theorem stMakeSliceA_ok {P : Program} {ev : Ev} {nx : Nat} {t : TypeId} {l c : Operand} {α : A} {k : Res → A → Option β} {r : β} (h : stMakeSliceA P ev nx t l c α k = some r) : OkR α k r (stMakeSlice P ev nx t l c) := by
  unfold stMakeSliceA at h
  split at h <;> try (cases h; done)
  rename_i e e1
  split at h <;> try (cases h; done)
  rename_i n e2
  split at h <;> try (cases h; done)
  rename_i m e3
  split at h <;> try (cases h; done)
  rename_i z e4
  split at h <;> try (cases h; done)
  rename_i ti e5
  obtain ⟨α', h1, h2⟩ := chkA_ok h
  split at h1 <;> try (cases h1; done)
  rename_i e6
  refine ⟨_, α', h1, fun s => ⟨(h2 s).1, ?_⟩⟩
  obtain ⟨p1, p2, p3, p4⟩ := (h2 s).2
  subst p2
  obtain ⟨m, rfl⟩ := Int.eq_ofNat_of_zero_le p1
  simp only [Int.toNat_natCast] at p3 p4
  simp only [stMakeSlice, e1, e2, e3, e4, e5]
  rw [show ((m : Nat) : Int) = Int.ofNat m from rfl]
  rw [if_pos ⟨trivial, p3, p4, e6⟩]
  rfl

theorem cutA_ok {b : Body} {off n : Nat} {α : A} {k : Body → A → Option β} {r : β} (h : b.cutA off n α k = some r) : Ok1 α k r (fun v => b.cut off n = some v) := by
  unfold Body.cutA at h
  split at h
  · obtain ⟨α', h1, h2⟩ := chkA_ok h
    exact ⟨_, α', h1, fun s => ⟨(h2 s).1, by simp only [Body.cut]; rw [if_pos (h2 s).2]⟩⟩
  · exact optA_ok1 h

theorem putA_ok {b : Body} {off : Nat} {x : Body} {α : A} {k : Body → A → Option β} {r : β} (h : b.putA off x α k = some r) : Ok1 α k r (fun v => b.put off x = some v) := by
  unfold Body.putA at h
  split at h
  · split at h <;> try (cases h; done)
    rename_i hk
    obtain ⟨α', h1, h2⟩ := chkA_ok h
    exact ⟨_, α', h1, fun s => ⟨(h2 s).1, by simp only [Body.put]; rw [if_pos ⟨hk, (h2 s).2⟩]⟩⟩
  · exact optA_ok1 h

theorem slicePartsA_ok {c : Cell} {sz : Nat} {α : A} {k : Option (Nat × Nat × Nat) → A → Option β} {r : β} (h : slicePartsA c sz α k = some r) : Ok1 α k r (fun v => sliceParts c sz = some v) := by
  unfold slicePartsA at h
  split at h
  · obtain ⟨α', h1, h2⟩ := chkA_ok h
    split at h1 <;> try (cases h1; done)
    rename_i e
    exact ⟨_, α', h1, fun s => ⟨(h2 s).1, by simp only [sliceParts]; rw [if_pos ⟨e, (h2 s).2⟩]⟩⟩
  · exact optA_ok1 h

theorem srcBodyA_ok {hp : Nat → Option Blk} {sz : Nat} {n : Option Nat} {x : Cell} {α : A} {k : Option Nat × Nat × Option Body → A → Option β} {r : β} (h : srcBodyA hp sz n x α k = some r) : Ok1 α k r (fun v => srcBody hp sz n x = some v) := by
  unfold srcBodyA at h
  split at h
  · exact optA_ok1 h
  · rename_i hns
    obtain ⟨p, α', h1, h2⟩ := slicePartsA_ok h
    have hsb : srcBody hp sz n x = (match sliceParts x sz with
      | some none => some (none, 0, none)
      | some (some (nm, off, len)) =>
        match getRow hp nm with
        | some (_, _, _, b) => match b.cut (off) (lenBy n len * sz) with
          | some b => some (some nm, lenBy n len, some b)
          | none => none
        | none => none
      | none => none) := by
      cases x <;> first | rfl | exact absurd rfl (hns _)
    cases p with
    | none => exact ⟨_, _, h1, fun s => ⟨(h2 s).1, by rw [hsb]; simp only [(h2 s).2]⟩⟩
    | some p =>
      obtain ⟨nm, off, len⟩ := p
      simp only at h1
      split at h1 <;> try (cases h1; done)
      rename_i b e1
      obtain ⟨v, α'', h3, h4⟩ := cutA_ok h1
      exact ⟨_, _, h3, fun s => ⟨(h2 (h4 s).1).1, by rw [hsb]; simp only [(h2 (h4 s).1).2, e1, (h4 s).2]⟩⟩

theorem copyToA_ok {hp : Nat → Option Blk} {nm off : Nat} {sb : Option Nat × Nat × Option Body} {α : A} {k : Res → A → Option β} {r : β} (h : copyToA hp nm off sb α k = some r) : OkR α k r (copyTo hp nm off (some sb)) := by
  unfold copyToA at h
  obtain ⟨fr, n, x⟩ := sb
  obtain ⟨b, α', h1, h2⟩ := ask_ok h
  cases b with
  | true =>
    refine ⟨_, _, h1, fun s => ⟨(h2 s).1, ?_⟩⟩
    have : n = 0 := Nat.eq_of_beq_eq_true (h2 s).2
    subst this
    rfl
  | false =>
    simp only at h1
    split at h1 <;> try (cases h1; done)
    rename_i x e1
    split at h1 <;> try (cases h1; done)
    rename_i t o b e2
    obtain ⟨v, α'', h3, h4⟩ := putA_ok h1
    refine ⟨_, _, h3, fun s => ⟨(h2 (h4 s).1).1, ?_⟩⟩
    have hn : Nat.beq n 0 = false := (h2 (h4 s).1).2
    cases n with
    | zero => cases hn
    | succ m => simp only [copyTo, e2, (h4 s).2]

theorem copyResA_ok {P : Program} {hp : Nat → Option Blk} {ts : Array TypeId} {d sv : RV} {α : A} {k : Res → A → Option β} {r : β} (h : copyResA P hp ts d sv α k = some r) : OkR α k r (copyRes P hp ts d sv) := by
  unfold copyResA at h
  split at h <;> try (cases h; done)
  rename_i dt d sv e0
  split at h <;> try (cases h; done)
  rename_i e e1
  split at h <;> try (cases h; done)
  rename_i ti e2
  obtain ⟨p, α', h1, h2⟩ := slicePartsA_ok h
  cases p with
  | none =>
    obtain ⟨v, h3, h4⟩ := optA_ok h1
    exact ⟨_, _, h4, fun s => ⟨(h2 s).1, h3⟩⟩
  | some p =>
    obtain ⟨nm, off, len⟩ := p
    obtain ⟨sb, α'', h3, h4⟩ := srcBodyA_ok h1
    obtain ⟨v, α3, h5, h6⟩ := copyToA_ok h3
    exact ⟨_, _, h5, fun s => ⟨(h2 (h4 (h6 s).1).1).1, by simp only [copyRes, e0, e1, e2, (h2 (h4 (h6 s).1).1).2, (h4 (h6 s).1).2, (h6 s).2]⟩⟩

theorem appSluA_ok {e : TypeId} {ti : TypeInfo} {hp : Nat → Option Blk} {nx nm sz a len : Nat} {fr : Option Nat} {n : Nat} {x : Option Body} {α : A} {k : Res → A → Option β} {r : β} (h : appSluA e ti hp nx nm sz a len fr n x α k = some r) :
    OkR α k r (appSlu e ti hp nx nm sz a len fr n x) := by
  unfold appSluA at h
  obtain ⟨b, α', h1, h2⟩ := ask_ok h
  cases b with
  | true =>
    refine ⟨_, _, h1, fun s => ⟨(h2 s).1, ?_⟩⟩
    have : n = 0 := Nat.eq_of_beq_eq_true (h2 s).2
    subst this
    rfl
  | false =>
    obtain ⟨α2, h3, h4⟩ := chkA_ok h1
    split at h3 <;> try (cases h3; done)
    rename_i e1
    split at h3 <;> try (cases h3; done)
    rename_i t sz' b e2
    split at h3 <;> try (cases h3; done)
    rename_i e3
    obtain ⟨v, α3, h5, h6⟩ := cutA_ok h3
    obtain ⟨u, h7, h8⟩ := optA_ok h5
    refine ⟨_, _, h8, fun s => ⟨(h2 (h4 (h6 s).1).1).1, ?_⟩⟩
    have hn : Nat.beq n 0 = false := (h2 (h4 (h6 s).1).1).2
    cases n with
    | zero => cases hn
    | succ m =>
      simp only [appSlu]
      rw [if_pos ⟨e1.1, e1.2, (h4 (h6 s).1).2⟩]
      simp only [e2]
      rw [if_pos e3, (h6 s).2]
      exact h7

theorem appNilA_ok {e : TypeId} {ti : TypeInfo} {nx : Nat} {fr : Option Nat} {n : Nat} {x : Option Body} {α : A} {k : Res → A → Option β} {r : β} (h : appNilA e ti nx fr n x α k = some r) :
    OkR α k r (appNil e ti nx fr n x) := by
  unfold appNilA at h
  obtain ⟨b, α', h1, h2⟩ := ask_ok h
  cases b with
  | true =>
    refine ⟨_, _, h1, fun s => ⟨(h2 s).1, ?_⟩⟩
    have : n = 0 := Nat.eq_of_beq_eq_true (h2 s).2
    subst this
    rfl
  | false =>
    obtain ⟨α2, h3, h4⟩ := chkA_ok h1
    split at h3 <;> try (cases h3; done)
    refine ⟨_, _, h3, fun s => ⟨(h2 (h4 s).1).1, ?_⟩⟩
    have hn : Nat.beq n 0 = false := (h2 (h4 s).1).2
    cases n with
    | zero => cases hn
    | succ m =>
      simp only [appNil]
      rw [if_pos (h4 s).2]

theorem appGoA_ok {e : TypeId} {ti : TypeInfo} {hp : Nat → Option Blk} {nx : Nat} {d : Cell} {sb : Option Nat × Nat × Option Body} {α : A} {k : Res → A → Option β} {r : β} (h : appGoA e ti hp nx d sb α k = some r) :
    OkR α k r (appGo e ti hp nx d (some sb)) := by
  unfold appGoA at h
  split at h
  · exact appNilA_ok h
  · exact appSluA_ok h
  · exact optA_ok1 h

theorem appendResA_ok {P : Program} {hp : Nat → Option Blk} {nx : Nat} {ts : Array TypeId} {d sv : RV} {α : A} {k : Res → A → Option β} {r : β} (h : appendResA P hp nx ts d sv α k = some r) : OkR α k r (appendRes P hp nx ts d sv) := by
  unfold appendResA at h
  split at h <;> try (cases h; done)
  rename_i dt d sv e0
  split at h <;> try (cases h; done)
  rename_i e e1
  split at h <;> try (cases h; done)
  rename_i ti e2
  split at h <;> try (cases h; done)
  rename_i z e3
  split at h <;> try (cases h; done)
  rename_i e4
  obtain ⟨sb, α', h1, h2⟩ := srcBodyA_ok h
  obtain ⟨v, α'', h3, h4⟩ := appGoA_ok h1
  exact ⟨_, _, h3, fun s => ⟨(h2 (h4 s).1).1, by simp only [appendRes, e0, e1, e2, e3, if_pos e4, (h2 (h4 s).1).2, (h4 s).2]⟩⟩

theorem stCallA_ok {P : Program} {ev : Ev} {hp : Hp} {nx : Nat} {c : Call} {α : A} {k : Res → A → Option β} {r : β} (h : stCallA P ev hp nx c α k = some r) : OkR α k r (stCall P ev hp nx c) := by
  unfold stCallA at h
  split at h <;> try (cases h; done)
  rename_i b e0
  split at h <;> try (cases h; done)
  rename_i l e1
  split at h
  · obtain ⟨v, α', h1, h2⟩ := copyResA_ok h
    exact ⟨_, _, h1, fun s => ⟨(h2 s).1, by simp only [stCall, e0, e1, builtinRes, (h2 s).2]⟩⟩
  · obtain ⟨v, α', h1, h2⟩ := appendResA_ok h
    exact ⟨_, _, h1, fun s => ⟨(h2 s).1, by simp only [stCall, e0, e1, builtinRes, (h2 s).2]⟩⟩
  · obtain ⟨v, h1, h2⟩ := optA_ok h
    exact ⟨_, _, h2, fun s => ⟨s, by simp only [stCall, e0, e1, h1]⟩⟩

theorem stPickA_ok {ev : Ev} {c a b : Operand} {α : A} {k : Res → A → Option β} {r : β} (h : stPickA ev c a b α k = some r) : OkR α k r (stPick ev c a b) := by
  unfold stPickA at h
  split at h <;> try (cases h; done)
  rename_i e1
  split at h <;> try (cases h; done)
  rename_i e2
  split at h <;> try (cases h; done)
  rename_i e3
  obtain ⟨t, α', h1, h2⟩ := ask_ok h
  obtain ⟨v, h3, h4⟩ := optA_ok h1
  exact ⟨_, _, h4, fun s => ⟨(h2 s).1, by simp only [stPick, e1, e2, e3, (h2 s).2, h3]⟩⟩

theorem opStepA_ok {P : Program} {ev : Ev} {hp : Hp} {nx : Nat} {o : Op} {α : A} {k : Res → A → Option β} {r : β} (h : opStepA P ev hp nx o α k = some r) : OkR α k r (opStep P ev hp nx o) := by
  unfold opStepA at h
  split at h
  · exact stPickA_ok h
  · exact stLoadA_ok h
  · exact stStoreA_ok h
  · exact stBinA_ok h
  · exact stMakeSliceA_ok h
  · exact stSliceA_ok h
  · exact stIndexAddrA_ok h
  · exact stIndexA_ok h
  · exact stLookupA_ok h
  · exact stMapUpdateA_ok h
  · exact stMapUpdateA_ok h
  · exact stCallA_ok h
  · exact optA_ok1 h
end
end Go.Sx

namespace Go.Sx
section
variable {β : Type}

namespace T
variable {α : Type}
theorem path_fun (x : Option α) (f : Nat) : ∀ (i : Nat) (k : T α → Option β) (r : β), path x f i k = some r →
    ∃ t, k t = some r ∧ ∀ (γ : Type) (k' : T α → Option γ), path x f i k' = k' t := by
  induction f with
  | zero => intro i k r h; simp [path] at h
  | succ f ih =>
    intro i k r h
    have E : ∀ (γ : Type) (k' : T α → Option γ), path x (f + 1) i k' = Bool.rec (motive := fun _ => Option γ) (Bool.rec (motive := fun _ => Option γ) (path x f (Nat.pred (Nat.div i 2)) fun r => k' (.node .nil none r)) (path x f (Nat.div i 2) fun l => k' (.node l none .nil)) (Nat.beq (Nat.mod i 2) 1))
      (k' (.node .nil x .nil)) (Nat.beq i 0) := fun _ _ => rfl
    rw [E] at h
    simp only [E]
    cases h0 : Nat.beq i 0 with
    | true => rw [h0] at h; exact ⟨_, h, fun _ _ => rfl⟩
    | false =>
      rw [h0] at h
      cases h1 : Nat.beq (Nat.mod i 2) 1 with
      | true =>
        rw [h1] at h
        obtain ⟨t, g1, g2⟩ := ih _ _ _ h
        exact ⟨_, g1, fun γ k' => g2 γ _⟩
      | false =>
        rw [h1] at h
        obtain ⟨t, g1, g2⟩ := ih _ _ _ h
        exact ⟨_, g1, fun γ k' => g2 γ _⟩

theorem set_fun (d : Nat) (t : T α) : ∀ (i : Nat) (x : Option α) (k : T α → Option β) (r : β), set d t i x k = some r →
    ∃ t', k t' = some r ∧ ∀ (γ : Type) (k' : T α → Option γ), set d t i x k' = k' t' := by
  induction t with
  | nil => intro i x k r h; exact path_fun x d i k r h
  | node l v rr ihl ihr =>
    intro i x k r h
    have E : ∀ (γ : Type) (k' : T α → Option γ), set d (.node l v rr) i x k' = Bool.rec (motive := fun _ => Option γ) (Bool.rec (motive := fun _ => Option γ) (set d rr (Nat.pred (Nat.div i 2)) x fun r' => k' (.node l v r')) (set d l (Nat.div i 2) x fun l' => k' (.node l' v rr)) (Nat.beq (Nat.mod i 2) 1))
      (k' (.node l x rr)) (Nat.beq i 0) := fun _ _ => rfl
    rw [E] at h
    simp only [E]
    cases h0 : Nat.beq i 0 with
    | true => rw [h0] at h; exact ⟨_, h, fun _ _ => rfl⟩
    | false =>
      rw [h0] at h
      cases h1 : Nat.beq (Nat.mod i 2) 1 with
      | true =>
        rw [h1] at h
        obtain ⟨t, g1, g2⟩ := ihl _ _ _ _ h
        exact ⟨_, g1, fun γ k' => g2 γ _⟩
      | false =>
        rw [h1] at h
        obtain ⟨t, g1, g2⟩ := ihr _ _ _ _ h
        exact ⟨_, g1, fun γ k' => g2 γ _⟩
end T

theorem wCell_eq (c : Cell) (k : Cell → Option β) : wCell c k = k c := by cases c <;> simp [wCell, fNat_eq]
theorem wCells_eq (l : List Cell) : ∀ k : List Cell → Option β, wCells l k = k l := by
  induction l with
  | nil => intro k; rfl
  | cons x l ih => intro k; simp [wCells, wCell_eq, ih]
theorem wAV_eq (v : AV) (k : AV → Option β) : wAV v k = k v := by cases v <;> simp [wAV, wCell_eq, wCells_eq]
theorem wAVs_eq (l : List AV) : ∀ k : List AV → Option β, wAVs l k = k l := by
  induction l with
  | nil => intro k; rfl
  | cons x l ih => intro k; simp [wAVs, wAV_eq, ih]
theorem wRV_eq (v : RV) (k : RV → Option β) : wRV v k = k v := by cases v <;> simp [wRV, wAV_eq, wAVs_eq]
theorem wEs_eq (l : List (Cell × AV)) : ∀ k : List (Cell × AV) → Option β, wEs l k = k l := by
  induction l with
  | nil => intro k; rfl
  | cons x l ih => intro k; cases x; simp [wEs, wAV_eq, wCell_eq, ih]
theorem wBlk_eq (b : Blk) (k : Blk → Option β) : wBlk b k = k b := by
  cases b with
  | row t ro o b => cases b <;> simp [wBlk, wCells_eq]
  | map es => simp [wBlk, wEs_eq]
theorem applyUA_eq (u : Upd) (s : S) (k : S → Option β) : applyUA u s k = applyU false u s k := by
  obtain ⟨sl, hp, nx, lg⟩ := s
  cases u <;> simp only [applyUA, applyU, wBlk_eq, sBlk_eq]
theorem putDstA_eq (n : Nat) (d : Option Tmp) (v : RV) (s : S) (k : S → Option β) : putDstA n d v s k = putDst n d v s k := by
  obtain ⟨sl, hp, nx, lg⟩ := s
  cases d <;> rfl

theorem applyU_fun {u : Upd} {s : S} {k : S → Option β} {r : β} (h : applyU false u s k = some r) : ∃ s', k s' = some r ∧ ∀ (γ : Type) (k' : S → Option γ), applyU false u s k' = k' s' := by
  cases u with
  | none => exact ⟨s, h, fun _ _ => rfl⟩
  | new b =>
    simp only [applyU, sBlk_eq] at h ⊢
    obtain ⟨t, h1, h2⟩ := T.set_fun _ _ _ _ _ _ h
    rw [fNat_eq] at h1
    exact ⟨_, h1, fun γ k' => by rw [h2, fNat_eq]⟩
  | wr nm b =>
    simp only [applyU, sBlk_eq] at h ⊢
    cases hb : Nat.blt nm s.nx with
    | false => rw [hb] at h; cases h
    | true =>
      rw [hb] at h
      obtain ⟨t, h1, h2⟩ := T.set_fun _ _ _ _ _ _ h
      exact ⟨_, h1, fun γ k' => h2 _ _⟩
  | mv nm b =>
    simp only [applyU, sBlk_eq] at h ⊢
    cases hb : Nat.blt nm s.nx with
    | false => rw [hb] at h; cases h
    | true =>
      rw [hb] at h
      obtain ⟨t, h1, h2⟩ := T.set_fun _ _ _ _ _ _ h
      obtain ⟨t', h3, h4⟩ := T.set_fun _ _ _ _ _ _ h1
      rw [fNat_eq] at h3
      refine ⟨_, h3, fun γ k' => ?_⟩
      show T.set depth s.hp nm none _ = _
      rw [h2, h4, fNat_eq]

theorem putDst_fun {n : Nat} {d : Option Tmp} {v : RV} {s : S} {k : S → Option β} {r : β} (h : putDst n d v s k = some r) : ∃ s', k s' = some r ∧ ∀ (γ : Type) (k' : S → Option γ), putDst n d v s k' = k' s' := by
  cases d with
  | none => exact ⟨s, h, fun _ _ => rfl⟩
  | some d =>
    simp only [putDst] at h ⊢
    split at h <;> try (cases h; done)
    rename_i hlt
    obtain ⟨t, h1, h2⟩ := T.set_fun _ _ _ _ _ _ h
    exact ⟨_, h1, fun γ k' => by rw [if_pos hlt, h2]⟩

theorem setArgs_fun {n : Nat} : ∀ {args : List RV} {i : Nat} {sl : T RV} {k : T RV → Option β} {r : β}, setArgs n args i sl k = some r →
    ∃ sl', k sl' = some r ∧ ∀ (γ : Type) (k' : T RV → Option γ), setArgs n args i sl k' = k' sl'
  | [], i, sl, k, r, h => ⟨sl, h, fun _ _ => rfl⟩
  | v :: vs, i, sl, k, r, h => by
    simp only [setArgs] at h ⊢
    split at h <;> try (cases h; done)
    rename_i hlt
    obtain ⟨t, h1, h2⟩ := T.set_fun _ _ _ _ _ _ h
    obtain ⟨sl', h3, h4⟩ := setArgs_fun h1
    exact ⟨sl', h3, fun γ k' => by rw [if_pos hlt, h2, h4]⟩

def CallRel (callA : CallFA β) (call : ∀ γ : Type, CallF γ) : Prop := ∀ f args s α k r, callA f args s α k = some r →
  ∃ v s' α', k v s' α' = some r ∧ (α'.Sat → α.Sat ∧ ∀ (γ : Type) (k' : RV → S → Option γ), call γ f args s k' = k' v s')

def ExecRel (exA : ExecFA β) (ex : ∀ γ : Type, ExecF γ) : Prop := ∀ n c s α k r, exA n c s α k = some r →
  ∃ x s' α', k x s' α' = some r ∧ (α'.Sat → α.Sat ∧ ∀ (γ : Type) (k' : X → S → Option γ), ex γ n c s k' = k' x s')

variable {P : Program}

theorem plainA_ok {n : Nat} {o : Oper} {s : S} {α : A} {k : Need → S → A → Option β} {r : β} (h : plainA P n o s α k = some r) :
    ∃ nd s' α', k nd s' α' = some r ∧ (α'.Sat → α.Sat ∧ ∀ (γ : Type) (k' : Need → S → Option γ), plainRun P false n o s k' = k' nd s') := by
  unfold plainA at h
  obtain ⟨sl, hp, nx, lg⟩ := s
  simp only at h
  obtain ⟨re, α', h1, h2⟩ := opStepA_ok h
  obtain ⟨v, u, need, fz⟩ := re
  simp only [wRV_eq, applyUA_eq, putDstA_eq] at h1
  obtain ⟨s1, h3, h4⟩ := applyU_fun h1
  obtain ⟨s2, h5, h6⟩ := putDst_fun h3
  refine ⟨_, _, _, h5, fun st => ⟨(h2 st).1, fun γ k' => ?_⟩⟩
  simp only [plainRun, (h2 st).2, Bool.false_and, sRV_eq, h4, h6]

theorem guardA_ok {n : Nat} {ops : List Oper} {sl : T RV} {o : Oper} {α : A} {k : Bool → A → Option β} {r : β} (h : guardA n ops sl o α k = some r) : Ok1 α k r (fun g => guardOf n ops sl o = some g) := by
  unfold guardA at h
  unfold guardOf
  split at h
  · rename_i e; rw [e]; exact ⟨_, _, h, fun s => ⟨s, rfl⟩⟩
  · rename_i j want e
    rw [e]
    simp only
    split at h <;> try (cases h; done)
    rename_i oj e1
    rw [e1]
    simp only
    split at h <;> try (cases h; done)
    rename_i d e2
    rw [e2]
    simp only
    split at h <;> try (cases h; done)
    · rename_i b e3
      rw [e3]
      obtain ⟨g, α', h1, h2⟩ := ask_ok h
      exact ⟨_, _, h1, fun s => ⟨(h2 s).1, by simp only [(h2 s).2]⟩⟩
    · rename_i e3
      rw [e3]
      exact ⟨_, _, h, fun s => ⟨s, rfl⟩⟩

section
variable {callA : CallFA β} {call : ∀ γ : Type, CallF γ} (hc : CallRel callA call)
include hc

theorem callRunA_ok {n : Nat} {f : Operand} {args : Array Operand} {d : Option Tmp} {s : S} {α : A} {k : Need → S → A → Option β} {r : β} (h : callRunA callA n f args d s α k = some r) :
    ∃ nd s' α', k nd s' α' = some r ∧ (α'.Sat → α.Sat ∧ ∀ (γ : Type) (k' : Need → S → Option γ), callRun (call γ) n f args d s k' = k' nd s') := by
  unfold callRunA at h
  unfold callRun
  split at h <;> try (cases h; done)
  rename_i f' fs caps e1
  rw [e1]
  simp only
  split at h <;> try (cases h; done)
  rename_i l e2
  rw [e2]
  simp only
  obtain ⟨v, s1, α', h1, h2⟩ := hc _ _ _ _ _ _ h
  rw [putDstA_eq] at h1
  obtain ⟨s2, h3, h4⟩ := putDst_fun h1
  exact ⟨_, _, _, h3, fun st => ⟨(h2 st).1, fun γ k' => by rw [(h2 st).2, h4]⟩⟩

theorem opA_ok {n : Nat} {ops : List Oper} {o : Oper} {s : S} {α : A} {k : Need → S → A → Option β} {r : β} (h : opA P callA n ops o s α k = some r) :
    ∃ nd s' α', k nd s' α' = some r ∧ (α'.Sat → α.Sat ∧ ∀ (γ : Type) (k' : Need → S → Option γ), opRun P false (call γ) n ops o s k' = k' nd s') := by
  unfold opA at h
  obtain ⟨g, α1, h1, h2⟩ := guardA_ok h
  cases g with
  | false =>
    simp only [putDstA_eq] at h1
    obtain ⟨s1, h3, h4⟩ := putDst_fun h1
    exact ⟨_, _, _, h3, fun st => ⟨(h2 st).1, fun γ k' => by simp only [opRun, (h2 st).2, h4]⟩⟩
  | true =>
    simp only at h1
    split at h1
    · rename_i f args e
      obtain ⟨nd, s1, α2, h3, h4⟩ := callRunA_ok hc h1
      exact ⟨_, _, _, h3, fun st => ⟨(h2 (h4 st).1).1, fun γ k' => by simp only [opRun, (h2 (h4 st).1).2, e, (h4 st).2]⟩⟩
    · rename_i e
      obtain ⟨nd, s1, α2, h3, h4⟩ := plainA_ok h1
      exact ⟨_, _, _, h3, fun st => ⟨(h2 (h4 st).1).1, fun γ k' => by simp only [opRun, (h2 (h4 st).1).2, e, (h4 st).2]⟩⟩

theorem opsA_ok {n : Nat} {ops : List Oper} {r : β} : ∀ {rest : List Oper} {s : S} {α : A} {k : S → A → Option β}, opsA P callA n ops rest s α k = some r →
    ∃ s' α', k s' α' = some r ∧ (α'.Sat → α.Sat ∧ ∀ (γ : Type) (k' : S → Option γ), opsRun P false (call γ) n ops rest s k' = k' s')
  | [], s, α, k, h => ⟨_, _, h, fun st => ⟨st, fun _ _ => rfl⟩⟩
  | o :: rest, s, α, k, h => by
    simp only [opsA] at h
    obtain ⟨nd, s1, α1, h1, h2⟩ := opA_ok hc h
    obtain ⟨s2, α2, h3, h4⟩ := opsA_ok h1
    exact ⟨_, _, h3, fun st => ⟨(h2 (h4 st).1).1, fun γ k' => by simp only [opsRun, (h2 (h4 st).1).2, (h4 st).2]⟩⟩

theorem drawGoA_ok {n : Nat} {ops : List Oper} {r : β} : ∀ {rest : List Oper} {fps : List FP} {s : S} {α : A} {k : List FP → S → A → Option β}, drawGoA P callA n ops rest fps s α k = some r →
    ∃ fps' s' α', k fps' s' α' = some r ∧ (α'.Sat → α.Sat ∧ ∀ (γ : Type) (k' : List FP → S → Option γ), drawGo P false (call γ) n ops rest fps s k' = k' fps' s')
  | [], fps, s, α, k, h => ⟨_, _, _, h, fun st => ⟨st, fun _ _ => rfl⟩⟩
  | o :: rest, fps, ⟨sl, hp, nx, lg⟩, α, k, h => by
    simp only [drawGoA] at h
    obtain ⟨nd, s1, α1, h1, h2⟩ := opA_ok hc h
    obtain ⟨sl', hp', nx', lg'⟩ := s1
    simp only at h1
    obtain ⟨fps2, s2, α2, h3, h4⟩ := drawGoA_ok h1
    exact ⟨_, _, _, h3, fun st => ⟨(h2 (h4 st).1).1, fun γ k' => by simp only [drawGo, (h2 (h4 st).1).2, (h4 st).2]⟩⟩

theorem regionA_ok {n : Nat} {ops : List Oper} {draw : Bool} {s : S} {α : A} {k : S → A → Option β} {r : β} (h : regionA P callA n ops draw s α k = some r) :
    ∃ s' α', k s' α' = some r ∧ (α'.Sat → α.Sat ∧ ∀ (γ : Type) (k' : S → Option γ), regionRun P false (call γ) n ops draw s k' = k' s') := by
  unfold regionA at h
  cases draw with
  | false => exact opsA_ok hc h
  | true =>
    simp only at h
    unfold drawA at h
    simp only [regionRun, drawRun]
    split at h <;> try (cases h; done)
    rename_i e
    rw [e]
    obtain ⟨fps, s1, α1, h1, h2⟩ := drawGoA_ok hc h
    split at h1 <;> try (cases h1; done)
    rename_i e1
    obtain ⟨sl, hp, nx, lg⟩ := s
    obtain ⟨sl', hp', nx', lg'⟩ := s1
    simp only at h1
    exact ⟨_, _, h1, fun st => ⟨(h2 st).1, fun γ k' => by simp only [(h2 st).2, e1]⟩⟩
end

section
variable {exA : ExecFA β} {ex : ∀ γ : Type, ExecF γ} (he : ExecRel exA ex)

noncomputable def toSum (sm : SumA) : Sum := fun args hp nx =>
  match sm args hp nx with
  | some (v, hp', nx', lg, ps) => open Classical in if All ps then some (v, hp', nx', lg) else none
  | none => none

theorem All_append : ∀ (a b : List Prop), All (a ++ b) ↔ All a ∧ All b
  | [], b => by simp [All]
  | p :: a, b => by simp [All, All_append a b, and_assoc]

include he in
theorem bodyA_ok {fn : Func} {c : Code} {args : List RV} {s : S} {α : A} {k : RV → S → A → Option β} {r : β} (h : bodyA P exA fn c args s α k = some r) :
    ∃ v s' α', k v s' α' = some r ∧ (α'.Sat → α.Sat ∧ ∀ (γ : Type) (k' : RV → S → Option γ), bodyRun P (ex γ) fn c args s k' = k' v s') := by
  unfold bodyA at h
  obtain ⟨sl0, hp, nx, lg⟩ := s
  simp only at h
  obtain ⟨sl, h1, h2⟩ := setArgs_fun h
  obtain ⟨x, s1, α1, h3, h4⟩ := he _ _ _ _ _ _ h1
  unfold backA at h3
  split at h3 <;> try (cases h3; done)
  rename_i hx
  split at h3 <;> try (cases h3; done)
  rename_i l e1
  obtain ⟨sl', hp', nx', lg'⟩ := s1
  simp only [wRV_eq] at h3
  refine ⟨_, _, _, h3, fun st => ⟨(h4 st).1, fun γ k' => ?_⟩⟩
  unfold bodyRun
  rw [h2, (h4 st).2]
  cases x with
  | exit id => exact absurd rfl (hx id)
  | normal => simp only [backRun, e1]
  | ret => simp only [backRun, e1]

include he in
theorem callByA_ok (Sg : FuncId → Option SumA) : CallRel (callByA P Sg exA) (fun γ => callBy P (fun f => (Sg f).map toSum) (ex γ)) := by
  intro g args s α k r h
  unfold callByA at h
  unfold callBy
  split at h <;> try (cases h; done)
  rename_i fn e1
  split at h <;> try (cases h; done)
  rename_i c e2
  simp only [e1, e2]
  split at h
  · rename_i sm e3
    simp only [e3, Option.map_some]
    split at h
    · rename_i v hp nx lg ps e4
      obtain ⟨sl, hp0, nx0, lg0⟩ := s
      obtain ⟨an, ao, ab⟩ := α
      simp only at h e4
      refine ⟨_, _, _, h, fun st => ?_⟩
      have st' := (All_append _ _).1 st
      refine ⟨st'.2, fun γ k' => ?_⟩
      have : toSum sm args hp0 nx0 = some (v, hp, nx, lg) := by
        unfold toSum
        rw [e4]
        simp only
        rw [if_pos st'.1]
      simp only [this]
    · rename_i e4
      have : toSum sm args s.hp s.nx = none := by unfold toSum; rw [e4]
      simp only [this]
      exact bodyA_ok he h
  · rename_i e3
    simp only [e3, Option.map_none]
    exact bodyA_ok he h

include he in
theorem codeA_ok (Sg : FuncId → Option SumA) : ExecRel (codeA P Sg exA) (fun γ => codeRun P (fun f => (Sg f).map toSum) false (ex γ)) := by
  intro n c s α k r h
  cases c with
  | skip => exact ⟨_, _, _, h, fun st => ⟨st, fun _ _ => rfl⟩⟩
  | ret => exact ⟨_, _, _, h, fun st => ⟨st, fun _ _ => rfl⟩⟩
  | exit id => exact ⟨_, _, _, h, fun st => ⟨st, fun _ _ => rfl⟩⟩
  | seq a b =>
    simp only [codeA] at h
    obtain ⟨x, s1, α1, h1, h2⟩ := he _ _ _ _ _ _ h
    cases x with
    | normal =>
      simp only [seqA] at h1
      obtain ⟨y, s2, α2, h3, h4⟩ := he _ _ _ _ _ _ h1
      exact ⟨_, _, _, h3, fun st => ⟨(h2 (h4 st).1).1, fun γ k' => by simp only [codeRun]; rw [(h2 (h4 st).1).2]; simp only [seqK]; rw [(h4 st).2]⟩⟩
    | exit id => exact ⟨_, _, _, h1, fun st => ⟨(h2 st).1, fun γ k' => by simp only [codeRun]; rw [(h2 st).2]; rfl⟩⟩
    | ret => exact ⟨_, _, _, h1, fun st => ⟨(h2 st).1, fun γ k' => by simp only [codeRun]; rw [(h2 st).2]; rfl⟩⟩
  | cond c a b =>
    simp only [codeA] at h
    unfold condA at h
    split at h <;> try (cases h; done)
    rename_i t e1
    obtain ⟨g, α1, h1, h2⟩ := ask_ok h
    cases g with
    | false =>
      obtain ⟨y, s2, α2, h3, h4⟩ := he _ _ _ _ _ _ h1
      exact ⟨_, _, _, h3, fun st => ⟨(h2 (h4 st).1).1, fun γ k' => by simp only [codeRun, condRun, e1, (h2 (h4 st).1).2, cond_false]; rw [(h4 st).2]⟩⟩
    | true =>
      obtain ⟨y, s2, α2, h3, h4⟩ := he _ _ _ _ _ _ h1
      exact ⟨_, _, _, h3, fun st => ⟨(h2 (h4 st).1).1, fun γ k' => by simp only [codeRun, condRun, e1, (h2 (h4 st).1).2, cond_true]; rw [(h4 st).2]⟩⟩
  | block id c =>
    simp only [codeA] at h
    obtain ⟨x, s1, α1, h1, h2⟩ := he _ _ _ _ _ _ h
    cases x with
    | normal => exact ⟨_, _, _, h1, fun st => ⟨(h2 st).1, fun γ k' => by simp only [codeRun]; rw [(h2 st).2]; rfl⟩⟩
    | ret => exact ⟨_, _, _, h1, fun st => ⟨(h2 st).1, fun γ k' => by simp only [codeRun]; rw [(h2 st).2]; rfl⟩⟩
    | exit j =>
      simp only [blockA] at h1
      split at h1
      · rename_i e
        exact ⟨_, _, _, h1, fun st => ⟨(h2 st).1, fun γ k' => by simp only [codeRun]; rw [(h2 st).2]; simp only [blockK, if_pos e]⟩⟩
      · rename_i e
        exact ⟨_, _, _, h1, fun st => ⟨(h2 st).1, fun γ k' => by simp only [codeRun]; rw [(h2 st).2]; simp only [blockK, if_neg e]⟩⟩
  | loop c =>
    simp only [codeA] at h
    obtain ⟨x, s1, α1, h1, h2⟩ := he _ _ _ _ _ _ h
    cases x with
    | normal =>
      simp only [seqA] at h1
      obtain ⟨y, s2, α2, h3, h4⟩ := he _ _ _ _ _ _ h1
      exact ⟨_, _, _, h3, fun st => ⟨(h2 (h4 st).1).1, fun γ k' => by simp only [codeRun]; rw [(h2 (h4 st).1).2]; simp only [seqK]; rw [(h4 st).2]⟩⟩
    | exit id => exact ⟨_, _, _, h1, fun st => ⟨(h2 st).1, fun γ k' => by simp only [codeRun]; rw [(h2 st).2]; rfl⟩⟩
    | ret => exact ⟨_, _, _, h1, fun st => ⟨(h2 st).1, fun γ k' => by simp only [codeRun]; rw [(h2 st).2]; rfl⟩⟩
  | region id ops draw =>
    simp only [codeA] at h
    obtain ⟨s1, α1, h1, h2⟩ := regionA_ok (callByA_ok he Sg) h
    exact ⟨_, _, _, h1, fun st => ⟨(h2 st).1, fun γ k' => by simp only [codeRun]; rw [(h2 st).2]⟩⟩
  | rangeFunc => cases h
  | scope => cases h
  | label => cases h
  | goto => cases h
  | refuse => cases h
end

theorem execA_ok (Sg : FuncId → Option SumA) : ∀ f, ExecRel (execA (β := β) P Sg f) (fun γ => exec P (fun f => (Sg f).map toSum) false f)
  | 0 => fun n c s α k r h => by cases h
  | f + 1 => by
    have := codeA_ok (P := P) (execA_ok Sg f) Sg
    exact this

theorem runA_ok {Sg : FuncId → Option SumA} {fuel : Nat} {g : FuncId} {args : List RV} {s : S} {α : A} {k : RV → S → A → Option β} {r : β} (h : runA P Sg fuel g args s α k = some r) :
    ∃ v s' α', k v s' α' = some r ∧ (α'.Sat → α.Sat ∧ ∀ (γ : Type) (k' : RV → S → Option γ), runB P (fun f => (Sg f).map toSum) false fuel g args s k' = k' v s') := by
  unfold runA at h
  unfold runB
  split at h <;> try (cases h; done)
  rename_i fn e1
  rw [e1]
  simp only
  split at h <;> try (cases h; done)
  rename_i c e2
  rw [e2]
  exact bodyA_ok (execA_ok Sg fuel) h

/-- what a path's run says -/
theorem path_info {Sg : FuncId → Option SumA} (F : Fit P (fun f => (Sg f).map toSum)) {fuel : Nat} {g : FuncId} {args : List RV} {s : S} {o : List (Nat × Bool)} {v : RV} {s' : S} {ps : List Prop} (ht : Top s)
    (h : runA P Sg fuel g args s ⟨0, o, []⟩ (fun v s α => some (v, s, α.ob)) = some (v, s', ps)) (hp : All ps) : ∃ L, CallInfo P g args s v s' L := by
  obtain ⟨v1, s1, α', h1, h2⟩ := runA_ok h
  simp only [Option.some.injEq, Prod.mk.injEq] at h1
  obtain ⟨rfl, rfl, rfl⟩ := h1
  have h3 := (h2 hp).2 (RV × S) (fun v s => some (v, s))
  obtain ⟨v2, s2, L, h4, ci⟩ := runB_info F ht h3
  simp only [Option.some.injEq, Prod.mk.injEq] at h4
  obtain ⟨rfl, rfl⟩ := h4
  exact ⟨L, ci⟩
end
end Go.Sx

namespace Go.Sx
open Go.RowKit
variable {P : Program}

/-- slots forgotten, but some -/
noncomputable def fgtSl (sl : T RV) (keep : List Nat) : Nat → T RV → (T RV → Option (T RV)) → Option (T RV)
  | 0, t, k => k t
  | n + 1, t, k => T.set depth t n (some (if keep.contains n then (sl.get n).getD und else .any)) fun t => fgtSl sl keep n t k
noncomputable def fgt (keep : List Nat) (n : Nat) (s : S) : S := match s with | ⟨sl, hp, nx, _⟩ => match fgtSl sl keep n .nil some with | some t => ⟨t, hp, nx, []⟩ | none => ⟨sl, hp, nx, []⟩

/-- what a piece leaves, but for the log -/
structure AbsN (s s' : S) (L : List Nat) : Prop where
  le : s.nx ≤ s'.nx
  keep : ∀ nm, nm < s.nx → nm ∉ L → s'.hp.get nm = s.hp.get nm
  top : Top s'
  lt : ∀ nm, nm ∈ L → nm < s'.nx
theorem Abs.n {s s' : S} {L : List Nat} (h : Abs s s' L) : AbsN s s' L := ⟨h.le, h.keep, h.top, h.lt⟩
theorem AbsN.trans {s1 s2 s3 : S} {L1 L2 : List Nat} (a : AbsN s1 s2 L1) (b : AbsN s2 s3 L2) : AbsN s1 s3 (L2 ++ L1) where
  le := Nat.le_trans a.le b.le
  keep := fun nm h hn => by
    rw [List.mem_append, not_or] at hn
    rw [b.keep nm (Nat.lt_of_lt_of_le h a.le) hn.1, a.keep nm h hn.2]
  top := b.top
  lt := fun nm h => by
    rcases List.mem_append.1 h with h | h
    · exact b.lt nm h
    · exact Nat.lt_of_lt_of_le (a.lt nm h) b.le

theorem fgtSl_ok {sl : T RV} {keep : List Nat} : ∀ {n : Nat} {t : T RV} {r : T RV}, fgtSl sl keep n t some = some r → ∀ j, r.get j = if j < n then some (if keep.contains j then (sl.get j).getD und else .any) else t.get j
  | 0, t, r, h, j => by simp only [fgtSl, Option.some.injEq] at h; subst h; simp
  | n + 1, t, r, h, j => by
    unfold fgtSl at h
    obtain ⟨t', h1, h2⟩ := T.set_ok _ _ _ _ _ _ h
    rw [fgtSl_ok h1, h2]
    by_cases e : j < n
    · simp only [if_pos e, if_pos (show j < n + 1 by omega)]
    · by_cases e2 : j = n
      · subst e2; simp only [if_neg e, if_pos (show j < j + 1 by omega)]; rfl
      · simp only [if_neg e, if_neg e2, if_neg (show ¬ j < n + 1 by omega)]

theorem Rel.fgt {n : Nat} {ρ : Rho} {s : S} {a : Act} {w : World} (R : Rel n ρ s a w) (keep : List Nat) : Rel n ρ (fgt keep n s) a w := by
  obtain ⟨sl, hp, nx, lg⟩ := s
  unfold Sx.fgt
  simp only
  split
  · rename_i t ht
    refine ⟨R.sz, R.df, fun j => ?_, R.hp, R.fresh⟩
    have := fgtSl_ok ht j
    unfold slot
    simp only
    by_cases hj : j < n
    · rw [if_pos hj, this, if_pos hj]
      simp only [Option.getD_some]
      split
      · have := R.sl j
        unfold slot at this
        rw [if_pos hj] at this
        exact this
      · trivial
    · have := R.sl j
      unfold slot at this
      rw [if_neg hj] at this ⊢
      exact this
  · exact ⟨R.sz, R.df, R.sl, R.hp, R.fresh⟩
theorem fgt_hp (keep : List Nat) (n : Nat) (s : S) : (fgt keep n s).hp = s.hp ∧ (fgt keep n s).nx = s.nx := by
  obtain ⟨sl, hp, nx, lg⟩ := s
  unfold fgt
  simp only
  split <;> exact ⟨rfl, rfl⟩

/-- a loop from the head of a round -/
def LoopFrom (P : Program) (c : Code) (Q : Exit → Act → World → Prop) (a : Act) (w : World) : Prop :=
  ∀ b k cs, ∃ e a' w', Q e a' w' ∧ Arrives P (lone (b.at a (.code c :: .inLoop c :: k)) cs w) b k cs e a' w'

theorem LoopFrom.wp {c : Code} {Q : Exit → Act → World → Prop} {a : Act} {w : World} (h : LoopFrom P c Q a w) : (Code.loop c).wp P Q a w := fun b k cs => by
  obtain ⟨e, a', w', hq, harr⟩ := h b k cs
  exact ⟨e, a', w', hq, .of_steps (.one step_loop) harr⟩

theorem LoopFrom.open {c : Code} {Q : Exit → Act → World → Prop} {a : Act} {w : World} (h : c.wp P (Exit.then (LoopFrom P c Q) Q) a w) : LoopFrom P c Q a w := fun b k cs => by
  obtain ⟨e, a₁, w₁, hq, harr⟩ := h b (.inLoop c :: k) cs
  cases e with
  | normal =>
    obtain ⟨e₂, a₂, w₂, hq₂, harr₂⟩ := hq b k cs
    exact ⟨e₂, a₂, w₂, hq₂, .of_steps (Steps.trans harr (.one step_inLoop)) harr₂⟩
  | exit id => exact ⟨_, a₁, w₁, hq, .pass (x := .inLoop c) rfl (fun _ _ => .inl (by simp)) harr⟩
  | goto l => exact ⟨_, a₁, w₁, hq, .pass (x := .inLoop c) rfl (fun _ _ => .inl (by simp)) harr⟩
  | ret => exact ⟨_, a₁, w₁, hq, .pass (x := .inLoop c) rfl (fun _ _ => .inl (by simp)) harr⟩
  | panic ch => exact ⟨_, a₁, w₁, hq, .pass (x := .inLoop c) rfl (fun _ _ => .inl (by simp)) harr⟩
  | outgrown => exact ⟨_, a₁, w₁, hq, .pass (x := .inLoop c) rfl (fun _ _ => .inl (by simp)) harr⟩

theorem LoopFrom.rounds {c : Code} {Q : Exit → Act → World → Prop} : ∀ {m : Nat} {a : Act} {w : World}, Code.rounds P c Q m a w → LoopFrom P c Q a w
  | 0, _, _, h => h.elim
  | m + 1, a, w, h => .open (wp_mono h fun e a' w' hq => by cases e <;> first | exact LoopFrom.rounds hq | exact hq)

theorem LoopFrom.mono {c : Code} {Q Q' : Exit → Act → World → Prop} {a : Act} {w : World} (h : LoopFrom P c Q a w) (hq : ∀ e a w, Q e a w → Q' e a w) : LoopFrom P c Q' a w := fun b k cs => by
  obtain ⟨e, a', w', h1, h2⟩ := h b k cs
  exact ⟨e, a', w', hq _ _ _ h1, h2⟩

def WpY (P : Program) (c : Code) (Q : Exit → Act → World → Prop) (a : Act) (w : World) : Prop :=
  match c with
  | .loop c => LoopFrom P c Q a w
  | c => c.wp P Q a w

theorem WpY.wp {c : Code} {Q : Exit → Act → World → Prop} {a : Act} {w : World} (h : WpY P c Q a w) : c.wp P Q a w := by
  unfold WpY at h
  split at h
  · exact h.wp
  · exact h

theorem WpX.y {m : Nat} {c : Code} {Q : Exit → Act → World → Prop} {a : Act} {w : World} (h : WpX P m c Q a w) : WpY P c Q a w := by
  unfold WpX at h
  unfold WpY
  split at h
  · exact .rounds h
  · rename_i hn
    split
    · exact absurd rfl (hn _)
    · exact h

theorem WpY.mono {c : Code} {Q Q' : Exit → Act → World → Prop} {a : Act} {w : World} (h : WpY P c Q a w) (hq : ∀ e a w, Q e a w → Q' e a w) : WpY P c Q' a w := by
  unfold WpY at h ⊢
  cases c with
  | loop c => exact h.mono hq
  | _ => exact wp_mono h hq

/-- a piece of code from a state: where it may end -/
def Tr (P : Program) (n : Nat) (c : Code) (s : S) (Q : X → S → Prop) : Prop := Top s → ∀ (ρ : Rho) (a : Act) (w : World), Rel n ρ s a w →
  WpY P c (fun e a' w' => ∃ x s' L, Q x s' ∧ AbsN s s' L ∧ PostX n ρ s w x s' L e a' w') a w

theorem Tr.mono {n : Nat} {c : Code} {s : S} {Q Q' : X → S → Prop} (h : Tr P n c s Q) (hq : ∀ x s', Q x s' → Q' x s') : Tr P n c s Q' := fun ht ρ a w R => by
  exact (h ht ρ a w R).mono fun e a w ⟨x, s', L, h1, h2⟩ => ⟨x, s', L, hq _ _ h1, h2⟩

theorem Tr.fgt {n : Nat} {c : Code} {s : S} {Q : X → S → Prop} (keep : List Nat) (h : Tr P n c s fun x s' => Q x (fgt keep n s')) : Tr P n c s Q := fun ht ρ a w R => by
  refine (h ht ρ a w R).mono fun e a w ⟨x, s', L, h1, h2, h3, ρ', h4, h5⟩ => ?_
  obtain ⟨e1, e2⟩ := fgt_hp keep n s'
  refine ⟨x, _, L, h1, ⟨by rw [e2]; exact h2.le, by rw [e1]; exact h2.keep, ?_, by rw [e2]; exact h2.lt⟩, h3, ρ', h4.fgt keep, ?_⟩
  · unfold Top; rw [e1, e2]; exact h2.top
  · unfold StpS; rw [e1, e2]; exact h5

theorem Tr.pre {n : Nat} {c : Code} {s : S} {Q : X → S → Prop} (keep : List Nat) (h : Tr P n c (Sx.fgt keep n s) Q) : Tr P n c s Q := fun ht ρ a w R => by
  obtain ⟨e1, e2⟩ := fgt_hp keep n s
  refine (h (by unfold Top; rw [e1, e2]; exact ht) ρ a w (R.fgt keep)).mono fun e a w ⟨x, s', L, h1, h2, h3, ρ', h4, h5⟩ => ⟨x, s', L, h1, ⟨by rw [← e2]; exact h2.le, by rw [← e1, ← e2]; exact h2.keep, h2.top, h2.lt⟩, h3, ρ', h4, ?_⟩
  unfold StpS at h5 ⊢; rw [← e1, ← e2]; exact h5

/-- a path of the executor -/
theorem Tr.path {Sg : FuncId → Option SumA} (F : Fit P (fun f => (Sg f).map toSum)) {fuel n : Nat} {c : Code} {s : S} {o : List (Nat × Bool)} {keep : List Nat} {x : X} {s' : S} {ps : List Prop}
    (h : execA P Sg fuel n c s ⟨0, o, []⟩ (fun x s α => some (x, Sx.fgt keep n s, α.ob)) = some (x, s', ps)) (hp : All ps) {Q : X → S → Prop} (hq : Q x s') : Tr P n c s Q := by
  refine Tr.fgt keep fun ht ρ a w R => ?_
  obtain ⟨x1, s1, α', h1, h2⟩ := execA_ok Sg fuel _ _ _ _ _ _ h
  simp only [Option.some.injEq, Prod.mk.injEq] at h1
  obtain ⟨rfl, rfl, rfl⟩ := h1
  have h3 := (h2 hp).2 (X × S) (fun x s => some (x, s))
  obtain ⟨x2, s2, L, m, h4, ab, hw⟩ := exec_sound F.ng F.mixed F.sums fuel _ _ _ _ _ ht h3
  simp only [Option.some.injEq, Prod.mk.injEq] at h4
  obtain ⟨rfl, rfl⟩ := h4
  exact (hw ρ a w R).y.mono fun e a w hh => ⟨_, _, L, hq, ab.n, hh⟩

/-- behind a piece -/
def Then (P : Program) (n : Nat) (s : S) (Q : X → S → Prop) (c : Code) : X → S → Prop := fun x s1 => match x with
  | .normal => Tr P n c s1 Q
  | x => Q x s1

theorem Tr.seq {n : Nat} {c d : Code} {s : S} {Q : X → S → Prop} (h : Tr P n c s (Then P n s Q d)) : Tr P n (.seq c d) s Q := fun ht ρ a w R => by
  refine wp_seq (wp_mono (h ht ρ a w R).wp fun e a' w' ⟨x, s', L, h1, ab, h3, ρ', h4, h5⟩ => ?_)
  cases x with
  | normal =>
    cases e <;> simp only [XR] at h3
    exact wp_mono (h1 ab.top ρ' a' w' h4).wp fun e a w ⟨x, s2, L2, g1, g2, g3⟩ => ⟨x, s2, L2 ++ L, g1, ab.trans g2, g3.trans h5⟩
  | exit id => cases e <;> simp only [XR] at h3; subst h3; exact ⟨_, s', L, h1, ab, rfl, ρ', h4, h5⟩
  | ret => cases e <;> simp only [XR] at h3; exact ⟨.ret, s', L, h1, ab, trivial, ρ', h4, h5⟩

theorem Tr.block {n id : Nat} {c : Code} {s : S} {Q : X → S → Prop} (h : Tr P n c s fun x s' => match x with | .exit j => if j = id then Q .normal s' else Q (.exit j) s' | x => Q x s') : Tr P n (.block id c) s Q := fun ht ρ a w R => by
  refine wp_block (wp_mono (h ht ρ a w R).wp fun e a' w' ⟨x, s', L, h1, ab, h3, h4⟩ => ?_)
  cases x with
  | normal => cases e <;> simp only [XR] at h3; exact ⟨.normal, s', L, h1, ab, trivial, h4⟩
  | ret => cases e <;> simp only [XR] at h3; exact ⟨.ret, s', L, h1, ab, trivial, h4⟩
  | exit j =>
    cases e <;> simp only [XR] at h3
    subst h3
    simp only at h1
    by_cases hj : j = id
    · rw [if_pos hj] at h1
      simp only [Exit.inBlock, hj, if_true]
      exact ⟨.normal, s', L, h1, ab, trivial, h4⟩
    · rw [if_neg hj] at h1
      simp only [Exit.inBlock, hj, if_false]
      exact ⟨.exit j, s', L, h1, ab, rfl, h4⟩

theorem Tr.condT {n : Nat} {o : Operand} {c d : Code} {s : S} {t : Bool} {Q : X → S → Prop} (he : eval n s.sl o = some (.one (.c (.bool t)))) (ht : t = true) (h : Tr P n c s Q) : Tr P n (.cond o c d) s Q := fun htop ρ a w R => by
  have := eval_ok (ρ := ρ) (n := n) (sl := s.sl) (a := a) (x := o) (fun t _ => R.sl t) _ he
  have e : a.eval o = .bool t := this
  subst ht
  exact wp_cond_true e (h htop ρ a w R).wp
theorem Tr.condF {n : Nat} {o : Operand} {c d : Code} {s : S} {t : Bool} {Q : X → S → Prop} (he : eval n s.sl o = some (.one (.c (.bool t)))) (ht : t = false) (h : Tr P n d s Q) : Tr P n (.cond o c d) s Q := fun htop ρ a w R => by
  have := eval_ok (ρ := ρ) (n := n) (sl := s.sl) (a := a) (x := o) (fun t _ => R.sl t) _ he
  have e : a.eval o = .bool t := this
  subst ht
  exact wp_cond_false e (h htop ρ a w R).wp

/-- one round more -/
theorem Tr.loop {n : Nat} {c : Code} {s : S} {Q : X → S → Prop} (h : Tr P n c s (Then P n s Q (.loop c))) : Tr P n (.loop c) s Q := fun ht ρ a w R => by
  refine LoopFrom.open (wp_mono (h ht ρ a w R).wp fun e a' w' ⟨x, s', L, h1, ab, h3, ρ', h4, h5⟩ => ?_)
  cases x with
  | normal =>
    cases e <;> simp only [XR] at h3
    exact LoopFrom.mono (h1 ab.top ρ' a' w' h4) fun e a w ⟨x, s2, L2, g1, g2, g3⟩ => ⟨x, s2, L2 ++ L, g1, ab.trans g2, g3.trans h5⟩
  | exit id => cases e <;> simp only [XR] at h3; subst h3; exact ⟨_, s', L, h1, ab, rfl, ρ', h4, h5⟩
  | ret => cases e <;> simp only [XR] at h3; exact ⟨.ret, s', L, h1, ab, trivial, ρ', h4, h5⟩

/-- what a call leaves: all that it says of its answer and of the heap -/
theorem Tr.calls {g : FuncId} {fn : Func} {c : Code} (hf : P.funcs[g]? = some fn) (hb : fn.body = some c) {args : List RV} {s : S} {sl : T RV} {Q : RV → S → Prop}
    (hset : setArgs fn.ntmps args 0 .nil some = some sl) (ht : Top s)
    (h : Tr P fn.ntmps c { s with sl := sl } fun x s1 => (x = .normal ∨ x = .ret) ∧ ∃ l, resOf P fn.ntmps s1 fn.results.toList = some l ∧ Q (resRV l) s1)
    (ρ : Rho) (w : World) (vs : List Value) (hr : HRel ρ s.hp.get w) (hfr : Fresh ρ s.nx) (ha : ArgsR ρ args vs) :
    Calls P g vs.toArray w fun e w' => ∃ v s' L V ρ', Q v s' ∧ AbsN s s' L ∧ e = .returned V ∧ RVR ρ' v V ∧ HRel ρ' s'.hp.get w' ∧ Fresh ρ' s'.nx ∧ Stp ρ s.hp.get s.nx w ρ' s'.hp.get s'.nx w' L := by
  obtain ⟨sl', h1, h2, h3⟩ := setArgs_ok hset
  cases h1
  obtain ⟨len, hget⟩ := ha.get
  have R0 : Rel fn.ntmps ρ { s with sl := sl } { tmps := vs.toArray ++ Array.replicate (fn.ntmps - vs.toArray.size) undef, defers := [] } w := by
    have hle : vs.length ≤ fn.ntmps := by
      rcases h3 with rfl | h3
      · simp at len; rw [len]; simp
      · omega
    refine ⟨by simp; omega, rfl, fun t => ?_, hr, hfr⟩
    unfold slot
    simp only
    rw [h2]
    simp only [Nat.zero_le, true_and, Nat.zero_add, Nat.sub_zero, T.get_nil]
    by_cases hlt : t < args.length
    · have hlt' : t < vs.length := by omega
      rw [if_pos (show t < fn.ntmps by omega), if_pos hlt]
      obtain ⟨V, e1, e2⟩ := hget t args[t] (List.getElem?_eq_getElem hlt)
      rw [List.getElem?_eq_getElem hlt]
      have : (vs.toArray ++ Array.replicate (fn.ntmps - vs.toArray.size) undef).getD t undef = V := by
        rw [Array.getD_eq_getD_getElem?, Array.getElem?_append_left (by simpa using hlt')]
        simp [e1]
      rw [this]
      exact e2
    · rw [if_neg hlt]
      have : (vs.toArray ++ Array.replicate (fn.ntmps - vs.toArray.size) undef).getD t undef = undef := by
        rw [Array.getD_eq_getD_getElem?, Array.getElem?_append_right (by simp; omega)]
        rw [Array.getElem?_replicate]
        split <;> rfl
      rw [this]
      simp only [ite_self, Option.getD_none]
      exact und_ok
  refine calls_of_wp hf hb ?_
  refine wp_mono (h ht ρ _ w R0).wp fun e a' w' hq => ?_
  obtain ⟨x, s1, L, ⟨hx, l, hl, hQ⟩, ab, hxr, ρ', R', st⟩ := hq
  obtain ⟨V, v1, v2⟩ := results_ok R' hl
  have fin : a'.defers = [] ∧ ∃ v, (results fn a'.tmps).run P w' = .ok v w' ∧ ∃ v' s' L V ρ', Q v' s' ∧ AbsN s s' L ∧ Ending.returned v = .returned V ∧ RVR ρ' v' V ∧ HRel ρ' s'.hp.get w' ∧ Fresh ρ' s'.nx ∧ Stp ρ s.hp.get s.nx w ρ' s'.hp.get s'.nx w' L :=
    ⟨R'.df, V, v2, _, _, L, V, ρ', hQ, ⟨ab.le, ab.keep, ab.top, ab.lt⟩, rfl, v1, R'.hp, R'.fresh, st⟩
  rcases hx with rfl | rfl
  · cases e <;> simp only [XR] at hxr
    exact fin
  · cases e <;> simp only [XR] at hxr
    exact fin

/-! ### states written out -/
noncomputable def ofL {α : Type} : List (Nat × α) → T α
  | [] => .nil
  | (i, x) :: l => match T.set (β := T α) depth (ofL l) i (some x) some with | some t => t | none => .nil

def SumAOK (P : Program) (f : FuncId) (sm : SumA) : Prop := ∀ args s v hp nx lg ps, Top s → sm args s.hp s.nx = some (v, hp, nx, lg, ps) → All ps →
  CallInfo P f args s v { s with hp := hp, nx := nx, lg := lg ++ s.lg } lg

theorem SumAOK.sum {Sg : FuncId → Option SumA} (h : ∀ f sm, Sg f = some sm → SumAOK P f sm) : SumOK P (fun f => (Sg f).map toSum) := by
  intro f sm hsm args s v hp nx lg ht hs
  simp only [Option.map_eq_some_iff] at hsm
  obtain ⟨sm', h1, rfl⟩ := hsm
  unfold toSum at hs
  split at hs <;> try (cases hs; done)
  rename_i v' hp' nx' lg' ps h2
  split at hs <;> try (cases hs; done)
  rename_i h3
  simp only [Option.some.injEq, Prod.mk.injEq] at hs
  obtain ⟨rfl, rfl, rfl, rfl⟩ := hs
  exact h f sm' h1 args s _ _ _ _ ps ht h2 h3

/-- a function of its arguments alone -/
def pureSum (F : List RV → Option (RV × List Prop)) : SumA := fun args hp nx => match F args with
  | some (v, ps) => some (v, hp, nx, [], ps)
  | none => none

def PureOK (P : Program) (f : FuncId) (F : List RV → Option (RV × List Prop)) : Prop := ∀ args v ps, F args = some (v, ps) → All ps → ∀ (ρ : Rho) (w : World) (vs : List Value), ArgsR ρ args vs →
  Calls P f vs.toArray w fun e w' => ∃ V, e = .returned V ∧ RVR ρ v V ∧ Below w.heap.size w w'

theorem PureOK.sum {f : FuncId} {F : List RV → Option (RV × List Prop)} (hfn : ∃ fn, P.funcs[f]? = some fn ∧ fn.body.isNone = false) (h : PureOK P f F) : SumAOK P f (pureSum F) := by
  intro args s v hp nx lg ps ht hs hp'
  unfold pureSum at hs
  split at hs <;> try (cases hs; done)
  rename_i v' ps' h1
  simp only [Option.some.injEq, Prod.mk.injEq] at hs
  obtain ⟨rfl, rfl, rfl, rfl, rfl⟩ := hs
  exact CallInfo.quiet ht hfn fun ρ w vs _ ha => h args _ _ h1 hp' ρ w vs ha
end Go.Sx

namespace Go.Sx
open Go.RowKit
variable {P : Program}
/-- without pointers -/
def flatC : Cell → Bool
  | .int _ _ => true
  | .bool _ => true
  | .str _ => true
  | .ptr0 => true
  | .sl0 => true
  | .map0 => true
  | .fn0 => true
  | _ => false
def flatA : AV → Bool
  | .c x => flatC x
  | .agg l => l.all flatC
  | .ints _ _ _ => true
def flatR : RV → Bool
  | .one v => flatA v
  | .tup l => l.all flatA
  | .any => true
theorem CR.indep {ρ ρ' : Rho} {c : Cell} {v : Value} (hf : flatC c = true) (h : CR ρ c v) : CR ρ' c v := by
  cases c <;> first | (cases hf; done) | exact h
theorem CsR.indep {ρ ρ' : Rho} : ∀ {l : List Cell} {vs : List Value}, l.all flatC = true → CsR ρ l vs → CsR ρ' l vs
  | [], _, _, h => h
  | c :: l, _, hf, ⟨v, vs', h1, h2, h3⟩ => by
    simp only [List.all_cons, Bool.and_eq_true] at hf
    exact ⟨v, vs', h1.indep hf.1, CsR.indep hf.2 h2, h3⟩
theorem AVR.indep {ρ ρ' : Rho} {x : AV} {v : Value} (hf : flatA x = true) (h : AVR ρ x v) : AVR ρ' x v := by
  cases x with
  | c x => exact CR.indep hf h
  | agg l => obtain ⟨vs, h1, h2⟩ := h; exact ⟨vs, CsR.indep hf h1, h2⟩
  | ints => exact h
theorem AVsR.indep {ρ ρ' : Rho} : ∀ {l : List AV} {vs : List Value}, l.all flatA = true → AVsR ρ l vs → AVsR ρ' l vs
  | [], _, _, h => h
  | c :: l, _, hf, ⟨v, vs', h1, h2, h3⟩ => by
    simp only [List.all_cons, Bool.and_eq_true] at hf
    exact ⟨v, vs', h1.indep hf.1, AVsR.indep hf.2 h2, h3⟩
theorem RVR.indep {ρ ρ' : Rho} {x : RV} {v : Value} (hf : flatR x = true) (h : RVR ρ x v) : RVR ρ' x v := by
  cases x with
  | one x => exact AVR.indep hf h
  | tup l => obtain ⟨vs, h1, h2⟩ := h; exact ⟨vs, AVsR.indep hf h1, h2⟩
  | any => trivial
theorem ArgsR.indep {ρ ρ' : Rho} : ∀ {l : List RV} {vs : List Value}, l.all flatR = true → ArgsR ρ l vs → ArgsR ρ' l vs
  | [], _, _, h => h
  | c :: l, _, hf, ⟨v, vs', h1, h2, h3⟩ => by
    simp only [List.all_cons, Bool.and_eq_true] at hf
    exact ⟨v, vs', h1.indep hf.1, ArgsR.indep hf.2 h2, h3⟩

/-- a body walked from nothing: a contract at every world -/
theorem Tr.pure {g : FuncId} {fn : Func} {c : Code} (hf : P.funcs[g]? = some fn) (hb : fn.body = some c) {args : List RV} {sl : T RV} {v : RV} (hfa : args.all flatR = true) (hfv : flatR v = true)
    (hset : setArgs fn.ntmps args 0 .nil some = some sl)
    (h : Tr P fn.ntmps c ⟨sl, .nil, 0, []⟩ fun x s1 => (x = .normal ∨ x = .ret) ∧ ∃ l, resOf P fn.ntmps s1 fn.results.toList = some l ∧ resRV l = v)
    (ρ : Rho) (w : World) (vs : List Value) (ha : ArgsR ρ args vs) : Calls P g vs.toArray w fun e w' => ∃ V, e = .returned V ∧ RVR ρ v V ∧ Below w.heap.size w w' := by
  refine (Tr.calls (s := s0) (Q := fun v' _ => v' = v) hf hb hset (fun nm _ => T.get_nil nm) h (fun _ => none) w vs (HRel.nil _ _) (fun _ _ => rfl) (ha.indep hfa)).mono fun e w' hh => ?_
  obtain ⟨v', s', L, V, ρ', rfl, ab, e1, e2, e3, e4, st⟩ := hh
  exact ⟨V, e1, e2.indep hfv, ⟨st.os, st.tape, st.out, st.size, fun k hk => st.frame k hk (fun nm c _ hlt => absurd hlt (Nat.not_lt_zero _))⟩⟩

/-- one path from nothing: a contract at every world -/
theorem pure_path {Sg : FuncId → Option SumA} (F : Fit P (fun f => (Sg f).map toSum)) {fuel : Nat} {g : FuncId} {args : List RV} {o : List (Nat × Bool)} {v : RV} {ps : List Prop} (hfa : args.all flatR = true) (hfv : flatR v = true)
    (h : runA P Sg fuel g args s0 ⟨0, o, []⟩ (fun v _ α => some (v, α.ob)) = some (v, ps)) (hp : All ps) (ρ : Rho) (w : World) (vs : List Value) (ha : ArgsR ρ args vs) :
    Calls P g vs.toArray w fun e w' => ∃ V, e = .returned V ∧ RVR ρ v V ∧ Below w.heap.size w w' := by
  obtain ⟨v1, s1, α', h1, h2⟩ := runA_ok h
  simp only [Option.some.injEq, Prod.mk.injEq] at h1
  obtain ⟨rfl, rfl⟩ := h1
  have h3 := (h2 hp).2 (RV × S) (fun v s => some (v, s))
  obtain ⟨v2, s2, L, h4, ci⟩ := runB_info F (fun nm _ => T.get_nil nm) h3
  simp only [Option.some.injEq, Prod.mk.injEq] at h4
  obtain ⟨rfl, rfl⟩ := h4
  refine (ci.run (fun _ => none) w vs (HRel.nil _ _) (fun _ _ => rfl) (ha.indep hfa)).mono fun e w' ⟨V, ρ', e1, e2, e3, e4, st⟩ => ⟨V, e1, e2.indep hfv, ?_⟩
  exact ⟨st.os, st.tape, st.out, st.size, fun k hk => st.frame k hk (fun nm c _ hlt => absurd hlt (Nat.not_lt_zero _))⟩
end Go.Sx
