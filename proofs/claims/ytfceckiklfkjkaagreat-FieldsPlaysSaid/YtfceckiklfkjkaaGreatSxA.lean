/-
  Parts of the executor Sx over the model's code (any program), or of this seat's walks: words and proofs that the row's text uses.
-/
import Derived.WalkKit
namespace Go.Sx

/-! A small executor over named blocks. -/

inductive T (α : Type) where
  | nil
  | node (l : T α) (v : Option α) (r : T α)

namespace T
noncomputable def get {α : Type} (t : T α) : Nat → Option α :=
  T.rec (fun _ => none)
    (fun _ v _ gl gr i => Bool.rec (Bool.rec (gr (Nat.pred (Nat.div i 2))) (gl (Nat.div i 2)) (Nat.beq (Nat.mod i 2) 1)) v (Nat.beq i 0)) t

/-- a path to i, alone -/
noncomputable def path {α β : Type} (x : Option α) (f : Nat) : Nat → (T α → Option β) → Option β :=
  Nat.rec (fun _ _ => none)
    (fun _ ih i k => Bool.rec
      (Bool.rec (ih (Nat.pred (Nat.div i 2)) fun r => k (.node .nil none r)) (ih (Nat.div i 2) fun l => k (.node l none .nil)) (Nat.beq (Nat.mod i 2) 1))
      (k (.node .nil x .nil)) (Nat.beq i 0)) f

/-- a copy of the path to i, with x there -/
noncomputable def set {α β : Type} (d : Nat) (t : T α) (i : Nat) (x : Option α) (k : T α → Option β) : Option β :=
  T.rec (motive := fun _ => Nat → (T α → Option β) → Option β) (fun i k => path x d i k)
    (fun l v r sl sr i k => Bool.rec
      (Bool.rec (sr (Nat.pred (Nat.div i 2)) fun r' => k (.node l v r')) (sl (Nat.div i 2) fun l' => k (.node l' v r)) (Nat.beq (Nat.mod i 2) 1))
      (k (.node l x r)) (Nat.beq i 0)) t i k
end T

inductive Cell where
  | int (k : IntKind) (n : Int)
  | bool (b : Bool)
  | str (s : ByteArray)
  | ptr0
  | ptr (nm off : Nat)
  | sl0
  | sl (nm off len cap : Nat)
  | slu (nm size at_ len : Nat)
  | map0
  | map (nm : Nat)
  | fn0
  | fn (f : FuncId) (fs caps : List (Nat × Nat))
  | any   -- one cell, whatever it holds
  | yield (nm : Nat)   -- what a range over a function hands to it
  | vsl (l : List Int)   -- a slice of numbers, frozen
  | vptr (l : List Int) (i : Nat)   -- a place in it

inductive AV where
  | c (x : Cell)
  | agg (l : List Cell)
  | ints (k : IntKind) (l : List Int) (n : Nat)

inductive RV where
  | one (v : AV)
  | tup (l : List AV)
  | any

inductive Body where
  | cells (l : List Cell)
  | ints (k : IntKind) (l : List Int) (n : Nat)
  | bools (l : List Bool) (n : Nat)

/-- how a range over a function stands -/
inductive LSt where
  | ready
  | busy
  | done (id : Option Nat)

inductive Blk where
  | row (t : TypeId) (ro : Bool) (opn : Option Nat) (b : Body)
  | map (es : List (Cell × AV))
  | win (off : Nat) (k : IntKind) (l : List Int)   -- a part of a block, to be read alone
  | mapI (vk : Option IntKind) (l : List (Int × Int))   -- a map of int, to a number or (none) to a bool
  | mapR (es : List (Cell × AV))   -- a map, to be read alone
  | loop (st : LSt) (sl : List RV) (ps : List Nat) (as bd : Code)   -- a range over a function
  | iter (s : ByteArray) (pos : Nat)   -- how far a range over a text has come
  | mapP (es : List (Cell × AV))   -- a map, to be read alone, whatever its order
  | recs (off : Nat) (ks : List IntKind) (l : List Int)   -- a part of a block, records of numbers, to be read alone
  | mapV (l : List (Int × List Int))   -- a map of int, to frozen slices (nil: [])
  | mapS (l : List ByteArray)   -- a map of texts, to true

abbrev und : RV := .tup []

/-! forcing -/
def fNat {β : Type} (n : Nat) (k : Nat → β) : β := Nat.rec (k 0) (fun m _ => k (m + 1)) n
def fInt {β : Type} (n : Int) (k : Int → β) : β :=
  match n with
  | .ofNat m => fNat m fun m => k (.ofNat m)
  | .negSucc m => fNat m fun m => k (.negSucc m)
def fBool {β : Type} (b : Bool) (k : Bool → β) : β := match b with | true => k true | false => k false
def fInts {β : Type} : List Int → (List Int → β) → β
  | [], k => k []
  | x :: xs, k => fInt x fun x => fInts xs fun xs => k (x :: xs)
def fBools {β : Type} : List Bool → (List Bool → β) → β
  | [], k => k []
  | x :: xs, k => fBool x fun x => fBools xs fun xs => k (x :: xs)
def fNats {β : Type} : List Nat → (List Nat → β) → β
  | [], k => k []
  | x :: xs, k => fNat x fun x => fNats xs fun xs => k (x :: xs)
def mkS (l : List Nat) : ByteArray := ⟨⟨l.map UInt8.ofNat⟩⟩
def fStr {β : Type} (s : ByteArray) (k : ByteArray → β) : β := fNats (s.data.toList.map UInt8.toNat) fun l => k (mkS l)
def fCell {β : Type} (c : Cell) (k : Cell → β) : β :=
  match c with
  | .str s => fStr s fun s => k (.str s)
  | .int kd n => fInt n fun n => k (.int kd n)
  | .bool b => fBool b fun b => k (.bool b)
  | .ptr nm off => fNat nm fun nm => fNat off fun off => k (.ptr nm off)
  | .sl nm off len cap => fNat nm fun nm => fNat off fun off => fNat len fun len => fNat cap fun cap => k (.sl nm off len cap)
  | .slu nm sz off len => fNat nm fun nm => fNat sz fun sz => fNat off fun off => fNat len fun len => k (.slu nm sz off len)
  | .map nm => fNat nm fun nm => k (.map nm)
  | .yield nm => fNat nm fun nm => k (.yield nm)
  | c => k c
def fCells {β : Type} : List Cell → (List Cell → β) → β
  | [], k => k []
  | x :: xs, k => fCell x fun x => fCells xs fun xs => k (x :: xs)
def fAV {β : Type} (v : AV) (k : AV → β) : β :=
  match v with
  | .c x => fCell x fun x => k (.c x)
  | .agg l => fCells l fun l => k (.agg l)
  | .ints kd l n => fInts l fun l => fNat n fun n => k (.ints kd l n)
def fAVs {β : Type} : List AV → (List AV → β) → β
  | [], k => k []
  | x :: xs, k => fAV x fun x => fAVs xs fun xs => k (x :: xs)
def fRV {β : Type} (v : RV) (k : RV → β) : β :=
  match v with
  | .one v => fAV v fun v => k (.one v)
  | .tup l => fAVs l fun l => k (.tup l)
  | .any => k .any
def fEs {β : Type} : List (Cell × AV) → (List (Cell × AV) → β) → β
  | [], k => k []
  | (x, v) :: xs, k => fCell x fun x => fAV v fun v => fEs xs fun xs => k ((x, v) :: xs)
def fBlk {β : Type} (b : Blk) (k : Blk → β) : β :=
  match b with
  | .row t ro o (.cells l) => fCells l fun l => k (.row t ro o (.cells l))
  | .row t ro o (.ints kd l n) => fInts l fun l => fNat n fun n => k (.row t ro o (.ints kd l n))
  | .row t ro o (.bools l n) => fBools l fun l => fNat n fun n => k (.row t ro o (.bools l n))
  | .map es => fEs es fun es => k (.map es)
  | .win o kd l => k (.win o kd l)
  | .mapI vk l => k (.mapI vk l)
  | .mapR es => fEs es fun es => k (.mapR es)
  | .loop st sl ps as bd => k (.loop st sl ps as bd)
  | .iter s p => fNat p fun p => k (.iter s p)
  | .mapP es => fEs es fun es => k (.mapP es)
  | .recs o ks l => k (.recs o ks l)
  | .mapV l => k (.mapV l)
  | .mapS l => k (.mapS l)
def sRV {β : Type} (z : Bool) (v : RV) (k : RV → β) : β := match z with | true => fRV v k | false => k v
def sBlk {β : Type} (z : Bool) (v : Blk) (k : Blk → β) : β := match z with | true => fBlk v k | false => k v

/-! types -/
inductive TK where
  | sc
  | ints (k : IntKind) (n : Nat)
  | agg (n : Nat)

def leafInt (P : Program) : Nat → TypeId → Option IntKind
  | 0, _ => none
  | d + 1, t => match P.underlying t with
    | some (.int k) => some k
    | some (.array _ e) => leafInt P d e
    | _ => none

def tk (P : Program) (t : TypeId) : Option TK :=
  match P.underlying t, P.info? t with
  | some (.struct _), some i => some (.agg i.size)
  | some (.array _ e), some i => match leafInt P 5 e with
    | some k => some (.ints k i.size)
    | none => some (.agg i.size)
  | some _, some _ => some .sc
  | _, _ => none

def cellOf : Value → Option Cell
  | .int k n => some (.int k n)
  | .bool b => some (.bool b)
  | .string s => some (.str s)
  | .pointer none => some .ptr0
  | .slice none 0 0 => some .sl0
  | .map none => some .map0
  | .nilFunc => some .fn0
  | _ => none

def cellsOf : List Value → Option (List Cell)
  | [] => some []
  | v :: vs => match cellOf v, cellsOf vs with
    | some c, some cs => some (c :: cs)
    | _, _ => none

def toInts (k : IntKind) : List Cell → Option (List Int)
  | [] => some []
  | .int k' n :: cs => if k = k' then (match toInts k cs with | some l => some (n :: l) | none => none) else none
  | _ :: _ => none

def toBools : List Cell → Option (List Bool)
  | [] => some []
  | .bool b :: cs => (match toBools cs with | some l => some (b :: l) | none => none)
  | _ :: _ => none

def zeroOf (k : TK) (cs : List Value) : Option AV :=
  match cellsOf cs with
  | none => none
  | some l => match k with
    | .sc => none
    | .ints k n => match toInts k l with
      | some l => if l.length = n then some (.ints k l n) else none
      | none => none
    | .agg _ => some (.agg l)

def zeroAV (P : Program) (t : TypeId) : Option AV :=
  match tk P t with
  | some k => match P.info? t with
    | some i => match i.zero with
      | some (.agg cs) => zeroOf k cs.toList
      | some v => match cellOf v with
        | some c => some (.c c)
        | none => none
      | none => none
    | none => none
  | none => none

def AV.body : AV → Body
  | .c (.int k n) => .ints k [n] 1
  | .c x => .cells [x]
  | .agg l => .cells l
  | .ints k l n => .ints k l n

def AV.cellList : AV → List Cell
  | .c x => [x]
  | .agg l => l
  | .ints k l _ => l.map (.int k)

def AV.size : AV → Nat
  | .c _ => 1
  | .agg l => l.length
  | .ints _ _ n => n

/-- the body of a new block -/
def bodyFor (P : Program) (t : TypeId) (v : AV) : Body :=
  match leafInt P 5 t, v with
  | some _, v => v.body
  | none, .c x => .cells [x]
  | none, .agg l => .cells l
  | none, .ints k l _ => .cells (l.map (.int k))

def Body.get (b : Body) (off : Nat) (t : TK) : Option AV :=
  match b, t with
  | .ints k l n, .sc => if off < n then some (.c (.int k (l.getD off 0))) else none
  | .ints k l n, .ints k' m => if k = k' ∧ off + m ≤ n then some (.ints k ((l.drop off).take m) m) else none
  | .ints _ _ _, .agg _ => none
  | .bools l n, .sc => if off < n then some (.c (.bool (l.getD off false))) else none
  | .bools _ _, _ => none
  | .cells l, .sc => match l[off]? with | some c => some (.c c) | none => none
  | .cells l, .agg m => if off + m ≤ l.length then some (.agg ((l.drop off).take m)) else none
  | .cells l, .ints k m => if off + m ≤ l.length then (match toInts k ((l.drop off).take m) with | some l => some (.ints k l m) | none => none) else none

def over {α : Type} (l : List α) (off : Nat) (x : List α) : List α := l.take off ++ x ++ l.drop (off + x.length)

def Body.set (b : Body) (off : Nat) (v : AV) : Option Body :=
  match b, v with
  | .ints k l n, .c (.int k' x) => if k = k' ∧ off < n then some (.ints k (l.set off x) n) else none
  | .ints k l n, .ints k' x m => if k = k' ∧ off + m ≤ n then some (.ints k (over l off x) n) else none
  | .ints _ _ _, _ => none
  | .bools l n, .c (.bool x) => if off < n then some (.bools (l.set off x) n) else none
  | .bools _ _, _ => none
  | .cells l, v => if off + v.size ≤ l.length then some (.cells (over l off v.cellList)) else none

def Body.size : Body → Nat
  | .cells l => l.length
  | .ints _ _ n => n
  | .bools _ n => n

inductive Upd where
  | none
  | new (b : Blk)
  | wr (nm : Nat) (b : Blk)
  | mv (nm : Nat) (b : Blk)

structure Res where
  v : RV
  u : Upd
  need : List Nat
  fz : Bool := true

def quiet (v : AV) : Option Res := some ⟨.one v, .none, [], true⟩

def eqC (P : Program) (t : TypeId) (x y : Cell) : Option Bool :=
  match P.underlying t, x, y with
  | some .bool, .bool a, .bool b => some (a == b)
  | some (.pointer _), .ptr0, .ptr0 => some true
  | some (.pointer _), .ptr0, .ptr _ _ => some false
  | some (.pointer _), .ptr _ _, .ptr0 => some false
  | some (.slice _), .sl0, .sl0 => some true
  | some (.slice _), .sl .., .sl0 => some false
  | some (.slice _), .slu .., .sl0 => some false
  | some (.slice _), .sl0, .sl .. => some false
  | some (.slice _), .sl0, .slu .. => some false
  | some (.map _ _), .map0, .map0 => some true
  | some (.map _ _), .map _, .map0 => some false
  | some (.map _ _), .map0, .map _ => some false
  | some (.func _ _ _), .fn0, .fn0 => some true
  | some (.func _ _ _), .fn .., .fn0 => some false
  | some (.func _ _ _), .fn0, .fn .. => some false
  | _, _, _ => none

def cutC (l : List Cell) (off n : Nat) : List Cell := (l.drop off).take n

/-- fields, one by one -/
def eqFs (P : Program) (eq : TypeId → List Cell → List Cell → Option Bool) (xs ys : List Cell) : List Field → Option Bool
  | [] => some true
  | f :: fs => match f.name == "_" with
    | true => eqFs P eq xs ys fs
    | false => match P.info? f.type with
      | some i => if f.offset + i.size ≤ xs.length ∧ f.offset + i.size ≤ ys.length then
          match eq f.type (cutC xs f.offset i.size) (cutC ys f.offset i.size), eqFs P eq xs ys fs with
          | some a, some b => some (a && b)
          | _, _ => none
        else none
      | none => none

/-- a leaf's one cell -/
def eqLeaf : Option TypeDesc → List Cell → List Cell → Option Bool
  | some (.int _), [.int k a], [.int k' b] => if k = k' then some (a == b) else none
  | some .bool, [.bool a], [.bool b] => some (a == b)
  | some .string, [.str a], [.str b] => some (a == b)
  | _, _, _ => none

def leafArr (P : Program) (e : TypeId) : Bool :=
  match P.underlying e, P.info? e with
  | some (.int _), some i => i.size == 1
  | some .bool, some i => i.size == 1
  | some .string, some i => i.size == 1
  | _, _ => false

/-- cells of a leaf's array -/
def eqRow (d : Option TypeDesc) : List Cell → List Cell → Option Bool
  | [], [] => some true
  | x :: xs, y :: ys => match eqLeaf d [x] [y], eqRow d xs ys with
    | some a, some b => some (a && b)
    | _, _ => none
  | _, _ => none

def eqT (P : Program) : Nat → TypeId → List Cell → List Cell → Option Bool
  | 0, _, _, _ => none
  | d + 1, t, xs, ys => match P.underlying t with
    | some (.struct fs) => if P.stoodInHeld t then none else eqFs P (eqT P d) xs ys fs.toList
    | some (.array len e) => if leafArr P e = true ∧ xs.length = len ∧ ys.length = len then eqRow (P.underlying e) xs ys else none
    | u => eqLeaf u xs ys

def eqInts (P : Program) (t : TypeId) (n : Nat) : Bool :=
  match P.underlying t with
  | some (.array len e) => match P.underlying e, P.info? e with
    | some (.int _), some i => i.size == 1 && len == n
    | _, _ => false
  | _ => false

def aggD : TypeDesc → Bool
  | .struct _ | .array _ _ => true
  | _ => false

def aggT (P : Program) (t : TypeId) : Bool := match P.underlying t with | some d => aggD d | none => false

def eqTop (P : Program) (t : TypeId) (x y : AV) : Option Bool :=
  match x, y with
  | .c x, .c y => eqC P t x y
  | .agg l, .agg m => if P.eqGuardType P.depth t = false ∧ aggT P t = true then eqT P 5 t l m else none
  | .ints k l n, .ints k' m n' => if k = k' ∧ n = n' ∧ eqInts P t n = true ∧ P.eqGuardType P.depth t = false then some (l == m) else none
  | _, _ => none

def bitsI (op : BinOp) (k : IntKind) (x y : Int) : Option Int :=
  match op with
  | .and => some (k.wrap ((BitVec.ofInt k.bits x &&& BitVec.ofInt k.bits y).toNat : Int))
  | .or => some (k.wrap ((BitVec.ofInt k.bits x ||| BitVec.ofInt k.bits y).toNat : Int))
  | .xor => some (k.wrap ((BitVec.ofInt k.bits x ^^^ BitVec.ofInt k.bits y).toNat : Int))
  | .andNot => some (k.wrap ((BitVec.ofInt k.bits x &&& ~~~ (BitVec.ofInt k.bits y)).toNat : Int))
  | _ => none

def binInt (op : BinOp) (k : IntKind) (a b : Int) : Option Cell :=
  match op with
  | .add => some (.int k (k.wrap (a + b)))
  | .sub => some (.int k (k.wrap (a - b)))
  | .mul => some (.int k (k.wrap (a * b)))
  | .quo => if b = 0 then none else some (.int k (k.wrap (a.tdiv b)))
  | .rem => if b = 0 then none else some (.int k (a.tmod b))
  | .eql => some (.bool (a == b))
  | .neq => some (.bool (a != b))
  | .lss => some (.bool (decide (a < b)))
  | .leq => some (.bool (decide (a ≤ b)))
  | .gtr => some (.bool (decide (a > b)))
  | .geq => some (.bool (decide (a ≥ b)))
  | op => match bitsI op k a b with | some n => some (.int k n) | none => none

def pureCell : Sem Value → Option Cell
  | .pure v => cellOf v
  | _ => none

def shiftRes (op : BinOp) (k : IntKind) (a b : Int) : Option AV :=
  match op with
  | .shl => if b < 0 then none else some (.c (.int k (k.wrap (a * 2 ^ (min b.toNat k.bits)))))
  | .shr => if b < 0 then none else some (.c (.int k (a.fdiv (2 ^ (min b.toNat k.bits)))))
  | _ => none

def isShift : BinOp → Bool
  | .shl | .shr => true
  | _ => false

def intRes (op : BinOp) (k : IntKind) (a : Int) (k' : IntKind) (b : Int) : Option AV :=
  match isShift op with
  | true => shiftRes op k a b
  | false => if k = k' then (match binInt op k a b with | some c => some (.c c) | none => none) else none

def eqRes (P : Program) (op : BinOp) (t : TypeId) (x y : AV) : Option AV :=
  match op with
  | .eql => match eqTop P t x y with | some b => some (.c (.bool b)) | none => none
  | .neq => match eqTop P t x y with | some b => some (.c (.bool (!b))) | none => none
  | _ => none

def binRes (P : Program) (op : BinOp) (t : TypeId) (x y : AV) : Option AV :=
  match x, y with
  | .c (.int k a), .c (.int k' b) => intRes op k a k' b
  | .c (.str a), .c (.str b) => match pureCell (Op.stringOp op a b) with | some c => some (.c c) | none => none
  | x, y => eqRes P op t x y

def unRes (op : UnOp) (x : RV) : Option AV :=
  match op, x with
  | .neg, .one (.c (.int k n)) => some (.c (.int k (k.wrap (0 - n))))
  | .xor, .one (.c (.int k n)) => match bitsI .xor k (if k.signed then -1 else k.max) n with | some m => some (.c (.int k m)) | none => none
  | .not, .one (.c (.bool b)) => some (.c (.bool !b))
  | _, _ => none

/-- parts laid over zero cells -/
def fillB (place : Nat → Option (Nat × Nat)) (b : Body) : List (Nat × RV) → Option Body
  | [] => some b
  | (i, .one v) :: rest => match place i with
    | some (off, size) => if v.size = size then (match b.set off v with | some b => fillB place b rest | none => none) else none
    | none => none
  | (_, .tup _) :: _ => none
  | (_, .any) :: _ => none

def evs (ev : Operand → Option RV) : List (Nat × Operand) → Option (List (Nat × RV))
  | [] => some []
  | (i, x) :: r => match ev x, evs ev r with
    | some v, some l => some ((i, v) :: l)
    | _, _ => none

def evl (ev : Operand → Option RV) : List Operand → Option (List RV)
  | [] => some []
  | x :: r => match ev x, evl ev r with
    | some v, some l => some (v :: l)
    | _, _ => none

def place (P : Program) (t : TypeId) : Nat → Option (Nat × Nat) := fun i =>
  match P.underlying t with
  | some (.struct fs) => match fs[i]? with
    | some f => match P.info? f.type with | some ti => some (f.offset, ti.size) | none => none
    | none => none
  | some (.array _ e) => match P.info? e with | some ti => some (i * ti.size, ti.size) | none => none
  | _ => none

def Body.toAV (t : TK) : Body → Option AV
  | .cells l => match t with
    | .sc => none
    | .ints k n => match toInts k l with
      | some l => if l.length = n then some (.ints k l n) else none
      | none => none
    | .agg _ => some (.agg l)
  | .ints k l n => match t with
    | .ints _ _ => some (.ints k l n)
    | _ => none
  | .bools _ _ => none

/-- every field's type is one -/
def fieldsOK (P : Program) (t : TypeId) : Bool :=
  match P.underlying t with
  | some (.struct fs) => fs.toList.all fun f => (P.info? f.type).isSome
  | some (.array _ e) => (P.info? e).isSome
  | _ => false

def repl {α : Type} (l : List α) : Nat → List α
  | 0 => []
  | n + 1 => l ++ repl l n

def bodyRepl (b : AV) (n : Nat) : Body :=
  match b.body with
  | .cells l => .cells (repl l n)
  | .ints k l m => .ints k (repl l n) (m * n)
  | .bools l m => .bools (repl l n) (m * n)

def sbound (x : Option RV) (lo hi dflt : Nat) : Option Nat :=
  match x with
  | none => some dflt
  | some (.one (.c (.int _ i))) => match i with
    | .ofNat m => if lo ≤ m ∧ m ≤ hi then some m else none
    | .negSucc _ => none
  | some _ => none

/-- a slice: where, its first element, length, room (none: unknown), the size of its elements' cells -/
def sliceCell (s : Nat) (x : Cell) (lo hi : Option RV) : Option Cell :=
  match x with
  | .sl nm off len cap =>
    match sbound hi 0 cap len with
    | some h => match sbound lo 0 h 0 with
      | some l => some (.sl nm (if cap = l then off else off + l * s) (h - l) (cap - l))
      | none => none
    | none => none
  | .slu nm sz a len =>
    match sbound hi 0 len len with
    | some h => match sbound lo 0 h 0 with
      | some l => if sz = s then some (.slu nm sz (a + l) (h - l)) else none
      | none => none
    | none => none
  | .sl0 =>
    match sbound hi 0 0 0 with
    | some _ => match sbound lo 0 0 0 with
      | some _ => some .sl0
      | none => none
    | none => none
  | _ => none

def optEv (ev : Operand → Option RV) : Option Operand → Option (Option RV)
  | none => some none
  | some x => match ev x with | some v => some (some v) | none => none

def eqKey : Cell → Cell → Option Bool
  | .int k a, .int k' b => if k = k' then some (a == b) else none
  | .str a, .str b => some (a == b)
  | .bool a, .bool b => some (a == b)
  | _, _ => none

/-- a key that its type's own test takes -/
def keyOK : Option TypeDesc → Cell → Bool
  | some (.int _), .int _ _ => true
  | some .string, .str _ => true
  | some .bool, .bool _ => true
  | _, _ => false

def findKey (k : Cell) : List (Cell × AV) → Nat → Option (Option (Nat × AV))
  | [], _ => some none
  | (c, v) :: r, i => match eqKey k c with
    | some true => some (some (i, v))
    | some false => findKey k r (i + 1)
    | none => none

def sliceParts : Cell → Nat → Option (Option (Nat × Nat × Nat))   -- name, first cell, length
  | .sl0, _ => some none
  | .sl nm off len _, _ => some (some (nm, off, len))
  | .slu nm sz a len, s => if sz = s ∧ len ≠ 0 then some (some (nm, a * sz, len)) else if len = 0 then some none else none
  | _, _ => none

def getRow (hp : Nat → Option Blk) (nm : Nat) : Option (TypeId × Bool × Option Nat × Body) :=
  match hp nm with
  | some (.row t ro o b) => some (t, ro, o, b)
  | _ => none

/-- n cells of a block, as a body -/
def Body.cut (b : Body) (off n : Nat) : Option Body :=
  match b with
  | .cells l => if off + n ≤ l.length then some (.cells ((l.drop off).take n)) else none
  | .ints k l m => if off + n ≤ m then some (.ints k ((l.drop off).take n) n) else none
  | .bools l m => if off + n ≤ m then some (.bools ((l.drop off).take n) n) else none

def Body.put (b : Body) (off : Nat) (x : Body) : Option Body :=
  match b, x with
  | .cells l, .cells x => if off + x.length ≤ l.length then some (.cells (over l off x)) else none
  | .ints k l n, .ints k' x m => if k = k' ∧ off + m ≤ n then some (.ints k (over l off x) n) else none
  | .cells l, .ints k x m => if off + m ≤ l.length then some (.cells (over l off (x.map (.int k)))) else none
  | .bools l n, .bools x m => if off + m ≤ n then some (.bools (over l off x) n) else none
  | .bools l n, .cells x => (match toBools x with | some y => if off + x.length ≤ n then some (.bools (over l off y) n) else none | none => none)
  | .cells l, .bools x m => if off + m ≤ l.length then some (.cells (over l off (x.map .bool))) else none
  | .bools .., .ints .. => none
  | .ints .., _ => none

def Body.cat (x y : Body) : Option Body :=
  match x, y with
  | .cells l, .cells m => some (.cells (l ++ m))
  | .ints k l n, .ints k' m n' => if k = k' then some (.ints k (l ++ m) (n + n')) else none
  | .cells l, .ints k m _ => some (.cells (l ++ m.map (.int k)))
  | .cells l, .bools m _ => some (.cells (l ++ m.map .bool))
  | .bools l n, .bools m n' => some (.bools (l ++ m) (n + n'))
  | .bools l n, .cells m => (match toBools m with | some y => some (.bools (l ++ y) (n + m.length)) | none => none)
  | .bools .., .ints .. => none
  | .ints .., _ => none

def needOf : Option Nat → List Nat
  | some n => [n]
  | none => []

def lenBy (n : Option Nat) (l : Nat) : Nat := match n with | some m => min l m | none => l

def rowOrWin (hp : Nat → Option Blk) (nm off n : Nat) : Option Body :=
  match hp nm with
  | some (.row _ _ _ b) => b.cut off n
  | some (.win o k l) => if o ≤ off ∧ off - o + n ≤ l.length then some (.ints k ((l.drop (off - o)).take n) n) else none
  | _ => none

/-- the cells of a slice or a string: where from, and what -/
def srcBody (hp : Nat → Option Blk) (s : Nat) (n : Option Nat) (x : Cell) : Option (Option Nat × Nat × Option Body) :=
  match x with
  | .str b => if s = 1 then some (none, lenBy n b.size, some (.ints .u8 ((b.data.toList.map fun x => (x.toNat : Int)).take (lenBy n b.size)) (lenBy n b.size))) else none
  | x => match sliceParts x s with
    | some none => some (none, 0, none)
    | some (some (nm, off, len)) => match rowOrWin hp nm off (lenBy n len * s) with
      | some b => some (some nm, lenBy n len, some b)
      | none => none
    | none => none

def setAt (hp : Nat → Option Blk) (nm off : Nat) (v : AV) : Option Upd :=
  match getRow hp nm with
  | some (t, false, o, b) => match b.set off v with
    | some b => some (.wr nm (.row t false o b))
    | none => none
  | _ => none

def copyTo (hp : Nat → Option Blk) (nm off : Nat) (s : Option (Option Nat × Nat × Option Body)) : Option Res :=
  match s with
  | some (from_, n, x) => match n with
    | 0 => some ⟨.one (.c (.int .i64 0)), .none, needOf from_, true⟩
    | m + 1 => match x with
      | some x => match getRow hp nm with
        | some (t, false, o, b) => match b.put off x with
          | some b => some ⟨.one (.c (.int .i64 (m + 1 : Nat))), .wr nm (.row t false o b), nm :: needOf from_, true⟩
          | none => none
        | _ => none
      | none => none
  | none => none

def copyRes (P : Program) (hp : Nat → Option Blk) (argTypes : Array TypeId) (d s : RV) : Option Res :=
  match argTypes[0]?, d, s with
  | some dt, .one (.c d), .one (.c s) => match P.underlying dt with
    | some (.slice e) => match P.info? e with
      | some ti => match sliceParts d ti.size with
        | some none => (match srcBody hp ti.size (some 0) s with
          | some (from_, _, _) => some ⟨.one (.c (.int .i64 0)), .none, needOf from_, true⟩
          | none => none)
        | some (some (nm, off, len)) => copyTo hp nm off (srcBody hp ti.size (some len) s)
        | none => none
      | none => none
    | _ => none
  | _, _, _ => none

/-- what is appended is a slice or a string -/
def appArg (P : Program) (ts : Array TypeId) : Bool :=
  match ts[1]? with
  | some t => (match P.underlying t with | some (.slice _) => true | some .string => true | _ => false)
  | none => false

def fits (ti : TypeInfo) (n : Nat) : Bool := Nat.ble 1 ti.bytes && Nat.ble (n * ti.bytes) 140737488355328

/-- a new row, known but for its end -/
def appNew (e : TypeId) (nx size len : Nat) (b x : Option Body) (nd : List Nat) : Option Res :=
  match b, x with
  | some b, some x => match b.cat x with
    | some y => some ⟨.one (.c (.slu nx size 0 len)), .new (.row e false (some size) y), nd, true⟩
    | none => none
  | _, _ => none

def appMv (e : TypeId) (nx size len nm : Nat) (b x : Option Body) (nd : List Nat) : Option Res :=
  match b, x with
  | some b, some x => match b.cat x with
    | some y => some ⟨.one (.c (.slu nx size 0 len)), .mv nm (.row e false (some size) y), nd, true⟩
    | none => none
  | _, _ => none

def rowCut (hp : Nat → Option Blk) (nm off n : Nat) : Option Body :=
  match getRow hp nm with
  | some (_, _, _, b) => b.cut off n
  | none => none

/-- in place -/
def appIn (hp : Nat → Option Blk) (nm off len cap n size : Nat) (x : Option Body) (nd : List Nat) : Option Res :=
  match x, getRow hp nm with
  | some x, some (t, false, o, b) => match b.put (off + len * size) x with
    | some b => some ⟨.one (.c (.sl nm off (len + n) cap)), .wr nm (.row t false o b), nd, true⟩
    | none => none
  | _, _ => none
def appSl (e : TypeId) (ti : TypeInfo) (hp : Nat → Option Blk) (nx nm off len cap : Nat) (from_ : Option Nat) (n : Nat) (x : Option Body) : Option Res :=
  match n with
  | 0 => if len ≤ cap then some ⟨.one (.c (.sl nm off len cap)), .none, needOf from_, true⟩ else none
  | m + 1 => if cap < len + (m + 1) ∧ fits ti (len + (m + 1)) = true then
      appNew e nx ti.size (len + (m + 1)) (rowCut hp nm off (len * ti.size)) x (nm :: needOf from_)
    else if len + (m + 1) ≤ cap then appIn hp nm off len cap (m + 1) ti.size x (nm :: needOf from_) else none

def appSlu (e : TypeId) (ti : TypeInfo) (hp : Nat → Option Blk) (nx nm sz a len : Nat) (from_ : Option Nat) (n : Nat) (x : Option Body) : Option Res :=
  match n with
  | 0 => some ⟨.one (.c (.slu nm sz a len)), .none, needOf from_, true⟩
  | m + 1 => if a = 0 ∧ sz = ti.size ∧ fits ti (len + (m + 1)) = true then
      (match getRow hp nm with
        | some (t, false, some sz', b) => if sz' = ti.size ∧ t = e then appMv e nx ti.size (len + (m + 1)) nm (b.cut 0 (len * ti.size)) x (nm :: needOf from_) else none
        | _ => none) else none

def appNil (e : TypeId) (ti : TypeInfo) (nx : Nat) (from_ : Option Nat) (n : Nat) (x : Option Body) : Option Res :=
  match n with
  | 0 => some ⟨.one (.c .sl0), .none, needOf from_, true⟩
  | m + 1 => if fits ti (m + 1) = true then (match x with
      | some x => some ⟨.one (.c (.slu nx ti.size 0 (m + 1))), .new (.row e false (some ti.size) x), needOf from_, true⟩
      | none => none) else none

def appGo (e : TypeId) (ti : TypeInfo) (hp : Nat → Option Blk) (nx : Nat) (d : Cell) (s : Option (Option Nat × Nat × Option Body)) : Option Res :=
  match s with
  | some (from_, n, x) => match d with
    | .sl0 => appNil e ti nx from_ n x
    | .sl nm off len cap => appSl e ti hp nx nm off len cap from_ n x
    | .slu nm sz a len => appSlu e ti hp nx nm sz a len from_ n x
    | _ => none
  | none => none

def appendRes (P : Program) (hp : Nat → Option Blk) (nx : Nat) (argTypes : Array TypeId) (d s : RV) : Option Res :=
  match argTypes[0]?, d, s with
  | some dt, .one (.c d), .one (.c s) => match P.underlying dt with
    | some (.slice e) => match P.info? e with
      | some ti => match zeroAV P e with
        | some z => if z.size = ti.size ∧ appArg P argTypes = true then appGo e ti hp nx d (srcBody hp ti.size none s) else none
        | none => none
      | none => none
    | _ => none
  | _, _, _ => none

def intQ (n : Nat) (nd : List Nat) : Option Res := some ⟨.one (.c (.int .i64 n)), .none, nd, true⟩

def lenSl (x : RV) : Option Res :=
  match x with
  | .one (.c .sl0) => intQ 0 []
  | .one (.c (.sl _ _ len _)) => intQ len []
  | .one (.c (.slu _ _ _ len)) => intQ len []
  | .one (.c (.vsl l)) => intQ l.length []
  | _ => none

def lenMap (hp : Nat → Option Blk) (x : RV) : Option Res :=
  match x with
  | .one (.c .map0) => intQ 0 []
  | .one (.c (.map nm)) => match hp nm with
    | some (.map es) => intQ es.length [nm]
    | some (.mapR es) => intQ es.length [nm]
    | _ => none
  | _ => none

def lenRes (P : Program) (hp : Nat → Option Blk) (ts : Array TypeId) (x : RV) : Option Res :=
  match ts[0]? with
  | some t => match P.underlying t with
    | some .string => (match x with | .one (.c (.str s)) => intQ s.size [] | _ => none)
    | some (.slice _) => lenSl x
    | some (.map _ _) => lenMap hp x
    | some (.array n _) => intQ n []
    | _ => none
  | none => none

def capRes (P : Program) (ts : Array TypeId) (x : RV) : Option Res :=
  match ts[0]?, x with
  | some t, .one (.c x) => match P.underlying t, x with
    | some (.slice _), .sl0 => intQ 0 []
    | some (.slice _), .sl _ _ _ cap => intQ cap []
    | _, _ => none
  | _, _ => none
def minRes (f : Int → Int → Int) : List RV → Option AV
  | [.one (.c (.int k x)), .one (.c (.int k' y))] => if k = k' then some (.c (.int k (f x y))) else none
  | _ => none

def keyTy (P : Program) (t : TypeId) : Option TypeDesc :=
  match P.underlying t with
  | some (.map kt _) => P.underlying kt
  | _ => none

def delRes (es : List (Cell × AV)) (nm : Nat) (r : Option (Option (Nat × AV))) : Option Res :=
  match r with
  | some (some (i, _)) => some ⟨und, .wr nm (.map (es.eraseIdx i)), [nm], true⟩
  | some none => some ⟨und, .none, [nm], true⟩
  | none => none

def deleteRes (P : Program) (hp : Nat → Option Blk) (ts : Array TypeId) (m k : RV) : Option Res :=
  match ts[0]?, m, k with
  | some t, .one (.c (.map nm)), .one (.c k) => match hp nm with
    | some (.map es) => if keyOK (keyTy P t) k = true then delRes es nm (findKey k es 0) else none
    | _ => none
  | _, _, _ => none

def rowsOf (P : Program) (e : TypeId) (z : AV) (n : Nat) : Body :=
  match leafInt P 5 e with | some _ => bodyRepl z n | none => match z with | .c (.bool b) => .bools (repl [b] n) n | z => .cells (repl z.cellList n)

/-- noughts in a slice -/
def clearSl (P : Program) (hp : Nat → Option Blk) (e : TypeId) (x : Cell) : Option Res :=
  match P.info? e, zeroAV P e with
  | some ti, some z => if z.size = ti.size then (match sliceParts x ti.size with
    | some none => some ⟨und, .none, [], true⟩
    | some (some (nm, off, len)) => match len with
      | 0 => some ⟨und, .none, [], true⟩
      | m + 1 => match getRow hp nm with
        | some (t, false, o, b) => match b.put off (rowsOf P e z (m + 1)) with
          | some b => some ⟨und, .wr nm (.row t false o b), [nm], true⟩
          | none => none
        | _ => none
    | none => none) else none
  | _, _ => none
def clearRes (P : Program) (hp : Nat → Option Blk) (ts : Array TypeId) (m : RV) : Option Res :=
  match ts[0]?, m with
  | some t, .one (.c (.map nm)) => match P.underlying t with
    | some (.map _ _) => match hp nm with
      | some (.map _) => some ⟨und, .wr nm (.map []), [nm], true⟩
      | _ => none
    | _ => none
  | some t, .one (.c x) => match P.underlying t with
    | some (.slice e) => clearSl P hp e x
    | _ => none
  | _, _ => none

def builtinRes (P : Program) (hp : Nat → Option Blk) (nx : Nat) (b : Builtin) (ts : Array TypeId) (args : List RV) : Option Res :=
  match b, args with
  | .len, [x] => lenRes P hp ts x
  | .copy, [d, s] => copyRes P hp ts d s
  | .append, [d, s] => appendRes P hp nx ts d s
  | .min, l => match minRes (fun x y => if y < x then y else x) l with | some v => quiet v | none => none
  | .max, l => match minRes (fun x y => if y > x then y else x) l with | some v => quiet v | none => none
  | .delete, [m, k] => deleteRes P hp ts m k
  | .clear, [m] => clearRes P hp ts m
  | .cap, [x] => capRes P ts x
  | _, _ => none

def idx (i : Int) (len : Nat) : Option Nat :=
  match i with
  | .ofNat m => if m < len then some m else none
  | .negSucc _ => none

/-! one definition a form of operation: small bodies are cheap in the kernel -/
abbrev Ev := Operand → Option RV
abbrev Hp := Nat → Option Blk

def qOpt (x : Option AV) : Option Res := match x with | some v => quiet v | none => none
def cOpt (x : Option Cell) : Option Res := match x with | some v => quiet (.c v) | none => none

def stMove (ev : Ev) (x : Operand) : Option Res := match ev x with | some v => some ⟨v, .none, [], false⟩ | none => none

def pickV (t : Bool) (x y : RV) : Option Res :=
  match x, y with
  | .one (.c (.bool p)), .one (.c (.bool q)) => quiet (.c (.bool (if t then p else q)))
  | x, y => match t with
    | true => some ⟨x, .none, [], false⟩
    | false => some ⟨y, .none, [], false⟩

def stPick (ev : Ev) (c a b : Operand) : Option Res :=
  match ev c with
  | some (.one (.c (.bool t))) => match ev a with
    | some x => match ev b with
      | some y => pickV t x y
      | none => none
    | none => none
  | _ => none

def stAlloc (P : Program) (nx : Nat) (t : TypeId) : Option Res :=
  match zeroAV P t with
  | some z => some ⟨.one (.c (.ptr nx 0)), .new (.row t false none (bodyFor P t z)), [], true⟩
  | none => none

def stBox (P : Program) (ev : Ev) (nx : Nat) (t : TypeId) (x : Operand) : Option Res :=
  match ev x with
  | some (.one v) => some ⟨.one (.c (.ptr nx 0)), .new (.row t false none (bodyFor P t v)), [], true⟩
  | _ => none

def stBuild (P : Program) (ev : Ev) (t : TypeId) (ps : Array (Nat × Operand)) : Option Res :=
  match tk P t with
  | some k => match zeroAV P t with
    | some z => match fieldsOK P t with
      | true => match evs ev ps.toList with
        | some l => match fillB (place P t) z.body l with
          | some b => qOpt (b.toAV k)
          | none => none
        | none => none
      | false => none
    | none => none
  | none => none

def stBuildSlice (P : Program) (ev : Ev) (nx : Nat) (t : TypeId) (len : Nat) (ps : Array (Nat × Operand)) : Option Res :=
  match P.underlying t with
  | some (.slice e) => match zeroAV P e with
    | some z => match P.info? e with
      | some ti => match evs ev ps.toList with
        | some l => match fillB (fun i => some (i * ti.size, ti.size)) (rowsOf P e z len) l with
          | some b => if len * ti.size ≤ 1000000 ∧ z.size = ti.size then some ⟨.one (.c (.sl nx 0 len len)), .new (.row e false none b), [], true⟩ else none
          | none => none
        | none => none
      | none => none
    | none => none
  | _ => none

/-- a record's cells -/
def recC : List IntKind → List Int → Nat → List Cell
  | [], _, _ => []
  | k :: ks, l, j => .int k (l.getD j 0) :: recC ks l (j + 1)
def recP (o : Nat) (ks : List IntKind) (l : List Int) (off m : Nat) : Prop := o ≤ off ∧ (off - o) % ks.length = 0 ∧ m = ks.length ∧ off - o + m ≤ l.length
instance (o : Nat) (ks : List IntKind) (l : List Int) (off m : Nat) : Decidable (recP o ks l off m) := by unfold recP; infer_instance
def recGet (x : Option Blk) (off : Nat) (k : TK) : Option AV :=
  match x, k with
  | some (.recs o ks l), .agg m => if recP o ks l off m then some (.agg (recC ks l (off - o))) else none
  | _, _ => none
/-- out of a frozen slice -/
def vptrOf : Option RV → Option (List Int × Nat)
  | some (.one (.c (.vptr l i))) => some (l, i)
  | _ => none
def loadV (k : Option TK) (l : List Int) (i : Nat) : Option Res :=
  match k with
  | some .sc => if i < l.length then some ⟨.one (.c (.int .i64 (l.getD i 0))), .none, [], true⟩ else none
  | _ => none
def stLoad (P : Program) (ev : Ev) (hp : Hp) (t : TypeId) (a : Operand) : Option Res :=
  match ev a with
  | some (.one (.c (.ptr nm off))) => match tk P t with
    | some k => match getRow hp nm with
      | some (_, _, _, b) => match b.get off k with
        | some v => some ⟨.one v, .none, [nm], true⟩
        | none => none
      | none => match recGet (hp nm) off k with
        | some v => some ⟨.one v, .none, [nm], true⟩
        | none => none
    | none => none
  | _ => none

def stLoadV (P : Program) (ev : Ev) (hp : Hp) (t : TypeId) (a : Operand) : Option Res :=
  match vptrOf (ev a) with
  | some (l, i) => loadV (tk P t) l i
  | none => stLoad P ev hp t a
def stStore (P : Program) (ev : Ev) (hp : Hp) (t : TypeId) (a x : Operand) : Option Res :=
  match ev a with
  | some (.one (.c (.ptr nm off))) => match ev x with
    | some (.one v) => match P.info? t with
      | some ti => if v.size = ti.size then (match setAt hp nm off v with
          | some u => some ⟨und, u, [nm], true⟩
          | none => none) else none
      | none => none
    | _ => none
  | _ => none

def stNil (ev : Ev) (x : Operand) : Option Res :=
  match ev x with
  | some (.one (.c (.ptr nm off))) => quiet (.c (.ptr nm off))
  | some (.one (.c (.fn f fs cs))) => quiet (.c (.fn f fs cs))
  | _ => none

def stBin (P : Program) (ev : Ev) (op : BinOp) (t : TypeId) (x y : Operand) : Option Res :=
  match ev x with
  | some (.one x) => match ev y with
    | some (.one y) => qOpt (binRes P op t x y)
    | _ => none
  | _ => none

def stUn (ev : Ev) (op : UnOp) (x : Operand) : Option Res :=
  match ev x with
  | some x => qOpt (unRes op x)
  | none => none

def stConv (P : Program) (ev : Ev) (src dst : TypeId) (x : Operand) : Option Res :=
  match ev x with
  | some (.one (.c (.int _ n))) => match P.underlying src with
    | some (.int _) => match P.underlying dst with
      | some (.int k) => quiet (.c (.int k (k.wrap n)))
      | _ => none
    | _ => none
  | _ => none

/-- bytes as a text -/
def strOf (l : List Int) : ByteArray := mkS (l.map Int.toNat)
def bytesC (hp : Hp) (x : Cell) : Option (ByteArray × List Nat) :=
  match x with
  | .sl0 => some (.empty, [])
  | x => match srcBody hp 1 none x with
    | some (some nm, _, some (.ints .u8 l _)) => some (strOf l, [nm])
    | some (some nm, _, some (.cells cs)) => match toInts .u8 cs with
      | some l => some (strOf l, [nm])
      | none => none
    | _ => none
def stConvS (P : Program) (ev : Ev) (hp : Hp) (nx : Nat) (src dst : TypeId) (x : Operand) : Option Res :=
  match ev x with
  | some (.one (.c (.str s))) => match P.underlying src, P.underlying dst with
    | some .string, some .string => quiet (.c (.str s))
    | some .string, some (.slice e) => match P.underlying e with
      | some (.int .u8) => match Nat.ble s.size 1000000000 with
        | true => some ⟨.one (.c (.slu nx 1 0 s.size)), .new (.row e true (some 1) (.ints .u8 (s.data.toList.map fun x => (x.toNat : Int)) s.size)), [], true⟩
        | false => none
      | _ => none
    | _, _ => none
  | some (.one (.c x)) => match P.underlying src, P.underlying dst with
    | some (.slice e), some .string => match P.underlying e with
      | some (.int .u8) => match bytesC hp x with
        | some (s, nd) => some ⟨.one (.c (.str s)), .none, nd, true⟩
        | none => none
      | _ => none
    | some (.slice _), some (.slice e) => match x, P.underlying e with
      | .sl nm off len cap, some (.int .u8) => match hp nm, decide (src = dst) with
        | some (.row t false o b), true => some ⟨.one (.c (.sl nm off len cap)), .wr nm (.row t true o b), [nm], true⟩
        | _, _ => none
      | _, _ => none
    | _, _ => none
  | _ => none
def stConvH (P : Program) (ev : Ev) (hp : Hp) (nx : Nat) (src dst : TypeId) (x : Operand) : Option Res :=
  match stConv P ev src dst x with
  | some r => some r
  | none => stConvS P ev hp nx src dst x

def stRange (P : Program) (ev : Ev) (nx : Nat) (t : TypeId) (x : Operand) : Option Res :=
  match ev x with
  | some (.one (.c (.str s))) => match P.underlying t with
    | some .string => some ⟨.one (.c (.ptr nx 0)), .new (.iter s 0), [], true⟩
    | _ => none
  | _ => none
def stNext (ev : Ev) (hp : Hp) (x : Operand) (str : Bool) : Option Res :=
  match ev x, str with
  | some (.one (.c (.ptr nm 0))), true => match hp nm with
    | some (.iter s pos) => match Nat.blt pos s.size with
      | true => match Utf8.decode s pos with
        | (c, wd) => some ⟨.tup [.c (.bool true), .c (.int .i64 pos), .c (.int .i32 c)], .wr nm (.iter s (pos + wd)), [nm], true⟩
      | false => some ⟨.tup [.c (.bool false)], .none, [nm], true⟩
    | _ => none
  | _, _ => none

def stArr (P : Program) (ev : Ev) (t : TypeId) (x : Operand) : Option Res :=
  match ev x with
  | some (.one (.c x)) => match P.underlying t with
    | some (.array n e) => match P.info? e with
      | some ti => match sliceParts x ti.size with
        | some (some (nm, off, len)) => if len < n then none else quiet (.c (.ptr nm off))
        | _ => none
      | none => none
    | _ => none
  | _ => none

def capsOf : List RV → Option (List (Nat × Nat))
  | [] => some []
  | .one (.c (.ptr nm off)) :: r => match capsOf r with | some l => some ((nm, off) :: l) | none => none
  | _ => none

def stFunc (ev : Ev) (fn : Fn) (first caps : Array Operand) : Option Res :=
  match fn with
  | .func f => match evl ev first.toList with
    | some fl => match capsOf fl with
      | some fs => match evl ev caps.toList with
        | some l => match capsOf l with
          | some cs => quiet (.c (.fn f fs cs))
          | none => none
        | none => none
      | none => none
    | none => none
  | _ => none

def stMakeMap (nx : Nat) (r : Option Operand) : Option Res :=
  match r with
  | none => some ⟨.one (.c (.map nx)), .new (.map []), [], true⟩
  | some _ => none

def stMakeSlice (P : Program) (ev : Ev) (nx : Nat) (t : TypeId) (l c : Operand) : Option Res :=
  match P.underlying t with
  | some (.slice e) => match ev l with
    | some (.one (.c (.int _ (.ofNat n)))) => match ev c with
      | some (.one (.c (.int _ (.ofNat m)))) => match zeroAV P e with
        | some z => match P.info? e with
          | some ti => if n ≤ m ∧ ti.bytes * m ≤ 1000000000 ∧ m < 1000000000 ∧ z.size = ti.size then some ⟨.one (.c (.sl nx 0 n m)), .new (.row e false none (rowsOf P e z m)), [], true⟩ else none
          | none => none
        | none => none
      | _ => none
    | _ => none
  | _ => none

def slArr (P : Program) (n : Nat) (e : TypeId) (nm off : Nat) (lo hi : Option RV) : Option Res :=
  match P.info? e with
  | some ti => cOpt (sliceCell ti.size (.sl nm off n n) lo hi)
  | none => none

def slSl (P : Program) (e : TypeId) (x : Cell) (lo hi : Option RV) : Option Res :=
  match P.info? e with
  | some ti => cOpt (sliceCell ti.size x lo hi)
  | none => none

def slStr (s : ByteArray) (lo hi : Option RV) : Option Res :=
  match sbound hi 0 s.size s.size with
  | some h => match sbound lo 0 h 0 with
    | some l => quiet (.c (.str (s.extract l h)))
    | none => none
  | none => none
/-- x[:0:0] -/
def zeroCut (x : Cell) : Option Cell :=
  match x with
  | .sl0 => some .sl0
  | .sl nm off _ _ => some (.sl nm off 0 0)
  | .slu nm _ a _ => if a = 0 then some (.sl nm 0 0 0) else none
  | _ => none
def isZero (v : Option RV) : Bool := match v with | some (.one (.c (.int _ (.ofNat 0)))) => true | _ => false
def st3 (P : Program) (ev : Ev) (t : TypeId) (x : Operand) (lo hi : Option Operand) (mx : Operand) : Option Res :=
  match lo, hi with
  | none, some hi => if isZero (ev hi) = true ∧ isZero (ev mx) = true then (match ev x with
    | some (.one (.c x)) => (match P.underlying t with
      | some (.slice e) => (match P.info? e with | some _ => cOpt (zeroCut x) | none => none)
      | _ => none)
    | _ => none) else none
  | _, _ => none

def stSlice (P : Program) (ev : Ev) (t : TypeId) (x : Operand) (lo hi mx : Option Operand) : Option Res :=
  match mx with
  | some mx => st3 P ev t x lo hi mx
  | none => match optEv ev lo with
    | none => none
    | some lo => match optEv ev hi with
      | none => none
      | some hi => match ev x with
        | some (.one (.c x)) => match P.underlying t with
          | some (.array n e) => (match x with | .ptr nm off => slArr P n e nm off lo hi | _ => none)
          | some (.slice e) => slSl P e x lo hi
          | some (.pointer arr) => (match x with
            | .ptr nm off => (match P.underlying arr with | some (.array n e) => slArr P n e nm off lo hi | _ => none)
            | _ => none)
          | some .string => (match x with | .str s => slStr s lo hi | _ => none)
          | _ => none
        | _ => none

def stFieldAddr (P : Program) (ev : Ev) (s : TypeId) (x : Operand) (f : Nat) : Option Res :=
  match ev x with
  | some (.one (.c (.ptr nm off))) => match P.underlying s with
    | some (.struct fs) => match fs[f]? with
      | some fd => match P.info? fd.type with
        | some ti => if ti.size = 0 then none else quiet (.c (.ptr nm (off + fd.offset)))
        | none => none
      | none => none
    | _ => none
  | _ => none

def isAggV : AV → Bool
  | .c _ => false
  | _ => true

def stField (P : Program) (ev : Ev) (t : TypeId) (x : Operand) (f : Nat) : Option Res :=
  match ev x with
  | some (.one v) => match P.underlying t with
    | some (.struct fs) => match fs[f]? with
      | some fd => match tk P fd.type with
        | some k => if isAggV v = true then qOpt ((Body.cells v.cellList).get fd.offset k) else none
        | none => none
      | none => none
    | _ => none
  | _ => none

def ixArr (P : Program) (e : TypeId) (nm off len : Nat) (i : Int) : Option Res :=
  match P.info? e with
  | some ti => match idx i len with
    | some j => quiet (.c (.ptr nm (off + j * ti.size)))
    | none => none
  | none => none

def ixV (ti : TypeInfo) (x : Cell) (i : Int) : Option Res :=
  match x with
  | .vsl l => if ti.size = 1 then (match idx i l.length with | some j => quiet (.c (.vptr l j)) | none => none) else none
  | _ => none
def ixSl (P : Program) (e : TypeId) (x : Cell) (i : Int) : Option Res :=
  match P.info? e with
  | some ti => match sliceParts x ti.size with
    | some (some (nm, off, len)) => match idx i len with
      | some j => quiet (.c (.ptr nm (off + j * ti.size)))
      | none => none
    | _ => ixV ti x i
  | none => none

def stIndexAddr (P : Program) (ev : Ev) (t : TypeId) (x i : Operand) : Option Res :=
  match ev i with
  | some (.one (.c (.int _ i))) => match ev x with
    | some (.one (.c x)) => match P.underlying t with
      | some (.array len e) => (match x with | .ptr nm off => ixArr P e nm off len i | _ => none)
      | some (.slice e) => ixSl P e x i
      | _ => none
    | _ => none
  | _ => none

def AV.rowBody : AV → Body
  | .ints k l n => .ints k l n
  | v => .cells v.cellList

def strAt (v : AV) (i : Int) : Option Res :=
  match v with
  | .c (.str s) => match idx i s.size with
    | some j => match s[j]? with
      | some b => quiet (.c (.int .u8 b.toNat))
      | none => none
    | none => none
  | _ => none
def stIndex (P : Program) (ev : Ev) (t : TypeId) (x i : Operand) : Option Res :=
  match ev i with
  | some (.one (.c (.int _ i))) => match ev x with
    | some (.one v) => match P.underlying t with
      | some (.array len e) => match P.info? e with
        | some ti => match tk P e with
          | some k => match idx i len with
            | some j => if isAggV v = true then qOpt (v.rowBody.get (j * ti.size) k) else none
            | none => none
          | none => none
        | none => none
      | some .string => strAt v i
      | _ => none
    | _ => none
  | _ => none

def valI (vk : Option IntKind) (x : Int) : Cell := match vk with | some k => .int k x | none => .bool (x != 0)
def toEs (vk : Option IntKind) (l : List (Int × Int)) : List (Cell × AV) := l.map fun p => (.int .i64 p.1, .c (valI vk p.2))
def unvalI (vk : Option IntKind) (v : AV) : Option Int :=
  match vk, v with
  | some k, .c (.int k' x) => if k = k' then some x else none
  | none, .c (.bool b) => some (if b then 1 else 0)
  | _, _ => none
def putI : List (Int × Int) → Int → Int → List (Int × Int)
  | [], k, v => [(k, v)]
  | (a, b) :: r, k, v => if a = k then (k, v) :: r else (a, b) :: putI r k v
def getI : List (Int × Int) → Int → Int
  | [], _ => 0
  | (a, b) :: r, k => if a = k then b else getI r k
def hasI : List (Int × Int) → Int → Bool
  | [], _ => false
  | (a, _) :: r, k => if a = k then true else hasI r k

def putV : List (Int × List Int) → Int → List Int → List (Int × List Int)
  | [], k, v => [(k, v)]
  | (a, b) :: r, k, v => if a = k then (k, v) :: r else (a, b) :: putV r k v
def getV : List (Int × List Int) → Int → List Int
  | [], _ => []
  | (a, b) :: r, k => if a = k then b else getV r k
def hasV : List (Int × List Int) → Int → Bool
  | [], _ => false
  | (a, _) :: r, k => if a = k then true else hasV r k
def hasT (l : List ByteArray) (s : ByteArray) : Bool := l.any fun c => s == c
def putT (l : List ByteArray) (s : ByteArray) : List ByteArray := bif hasT l s then l else l ++ [s]
def toVs (l : List (Int × List Int)) : List (Cell × AV) := l.map fun p => (.int .i64 p.1, .c (.vsl p.2))
def toSs (l : List ByteArray) : List (Cell × AV) := l.map fun s => (.str s, .c (.bool true))
/-- in a map of slices, of texts: name, value, is it there? -/
def lookVS (hp : Hp) (m kc : Cell) : Option (Nat × Cell × Bool) :=
  match m with
  | .map nm => match hp nm, kc with
    | some (.mapV l), .int .i64 k => some (nm, .vsl (getV l k), hasV l k)
    | some (.mapS l), .str s => some (nm, .bool (hasT l s), hasT l s)
    | _, _ => none
  | _ => none
def zVS (v : Cell) (z : AV) : Bool :=
  match v, z with
  | .vsl _, .c .sl0 => true
  | .bool _, .c (.bool b) => !b
  | _, _ => false
def mapEs (hp : Hp) (m : Cell) : Option (List (Cell × AV) × List Nat) :=
  match m with
  | .map0 => some ([], [])
  | .map nm => match hp nm with | some (.map es) => some (es, [nm]) | some (.mapI vk l) => some (toEs vk l, [nm]) | some (.mapR es) => some (es, [nm]) | _ => none
  | _ => none

def lookRes (ok : Bool) (z : AV) (nd : List Nat) (r : Option (Option (Nat × AV))) : Option Res :=
  match r with
  | some (some (_, v)) => some ⟨bif ok then .tup [v, .c (.bool true)] else .one v, .none, nd, true⟩
  | some none => some ⟨bif ok then .tup [z, .c (.bool false)] else .one z, .none, nd, true⟩
  | none => none

def mapPof (hp : Hp) (m : Cell) : Option (Nat × List (Cell × AV)) :=
  match m with
  | .map nm => match hp nm with | some (.mapP es) => some (nm, es) | _ => none
  | _ => none
/-- all keys are looked at -/
def findAll (k : Cell) : List (Cell × AV) → Option (Option AV)
  | [] => some none
  | (c, v) :: r => match eqKey k c, findAll k r with
    | some true, some _ => some (some v)
    | some false, some x => some x
    | _, _ => none
def lookP (ok : Bool) (z : AV) (nm : Nat) (r : Option (Option AV)) : Option Res :=
  match r with
  | some (some v) => some ⟨bif ok then .tup [v, .c (.bool true)] else .one v, .none, [nm], true⟩
  | some none => some ⟨bif ok then .tup [z, .c (.bool false)] else .one z, .none, [nm], true⟩
  | none => none
def stLookup (P : Program) (ev : Ev) (hp : Hp) (t : TypeId) (m k : Operand) (ok : Bool) : Option Res :=
  match P.underlying t with
  | some (.map kt e) => match ev m with
    | some (.one (.c m)) => match ev k with
      | some (.one (.c k)) => match zeroAV P e with
        | some z => match lookVS hp m k with
          | some (nm, v, t) => if keyOK (P.underlying kt) k = true ∧ zVS v z = true then some ⟨bif ok then .tup [.c v, .c (.bool t)] else .one (.c v), .none, [nm], true⟩ else none
          | none => match mapPof hp m with
            | some (nm, es) => if keyOK (P.underlying kt) k = true then lookP ok z nm (findAll k es) else none
            | none => match mapEs hp m with
              | some (es, nd) => if keyOK (P.underlying kt) k = true then lookRes ok z nd (findKey k es 0) else none
              | none => none
        | none => none
      | _ => none
    | _ => none
  | _ => none

def mapPut (es : List (Cell × AV)) (nm : Nat) (k : Cell) (v : AV) (r : Option (Option (Nat × AV))) : Option Res :=
  match r with
  | some (some (i, _)) => some ⟨und, .wr nm (.map (es.set i (k, v))), [nm], true⟩
  | some none => some ⟨und, .wr nm (.map (es ++ [(k, v)])), [nm], true⟩
  | none => none

def mapPutI (vk : Option IntKind) (l : List (Int × Int)) (nm : Nat) (k : Cell) (v : AV) : Option Res :=
  match k with
  | .int .i64 k => match unvalI vk v with
    | some x => some ⟨und, .wr nm (.mapI vk (putI l k x)), [nm], true⟩
    | none => none
  | _ => none

def mapPutV (l : List (Int × List Int)) (nm : Nat) (k : Cell) (v : AV) : Option Res :=
  match k, v with
  | .int .i64 k, .c (.vsl c) => some ⟨und, .wr nm (.mapV (putV l k c)), [nm], true⟩
  | _, _ => none
def mapPutT (l : List ByteArray) (nm : Nat) (k : Cell) (v : AV) : Option Res :=
  match k, v with
  | .str s, .c (.bool true) => some ⟨und, .wr nm (.mapS (putT l s)), [nm], true⟩
  | _, _ => none
def stMapUpdate (P : Program) (ev : Ev) (hp : Hp) (t : TypeId) (m k x : Operand) : Option Res :=
  match ev m with
  | some (.one (.c (.map nm))) => match ev k with
    | some (.one (.c k)) => match ev x with
      | some (.one v) => match hp nm with
        | some (.map es) => if keyOK (keyTy P t) k = true then mapPut es nm k v (findKey k es 0) else none
        | some (.mapI vk l) => if keyOK (keyTy P t) k = true then mapPutI vk l nm k v else none
        | some (.mapV l) => if keyOK (keyTy P t) k = true then mapPutV l nm k v else none
        | some (.mapS l) => if keyOK (keyTy P t) k = true then mapPutT l nm k v else none
        | _ => none
      | _ => none
    | _ => none
  | _ => none

def stExtract (ev : Ev) (x : Operand) (i : Nat) : Option Res :=
  match ev x with
  | some (.tup l) => match l[i]? with | some v => some ⟨.one v, .none, [], false⟩ | none => none
  | _ => none

def stCall (P : Program) (ev : Ev) (hp : Hp) (nx : Nat) (c : Call) : Option Res :=
  match c.callee with
  | .builtin b => match evl ev c.args.toList with
    | some l => builtinRes P hp nx b c.argTypes l
    | none => none
  | _ => none

def opStep (P : Program) (ev : Ev) (hp : Hp) (nx : Nat) (o : Op) : Option Res :=
  match o with
  | .move x => stMove ev x
  | .assign x => stMove ev x
  | .pick c a b => stPick ev c a b
  | .alloc t => stAlloc P nx t
  | .box t x => stBox P ev nx t x
  | .build t ps => stBuild P ev t ps
  | .buildSlice t len ps => stBuildSlice P ev nx t len ps
  | .load t a => stLoadV P ev hp t a
  | .store t a x => stStore P ev hp t a x
  | .nilCheck x => stNil ev x
  | .binOp op t x y _ => stBin P ev op t x y
  | .unOp op _ x => stUn ev op x
  | .convert src dst x => stConvH P ev hp nx src dst x
  | .range t x => stRange P ev nx t x
  | .next x b => stNext ev hp x b
  | .sliceToArrayPointer t x => stArr P ev t x
  | .makeFunc fn first caps => stFunc ev fn first caps
  | .makeMap _ r => stMakeMap nx r
  | .makeSlice t l c => stMakeSlice P ev nx t l c
  | .slice t x lo hi mx => stSlice P ev t x lo hi mx
  | .fieldAddr s x f => stFieldAddr P ev s x f
  | .field t x f => stField P ev t x f
  | .indexAddr t x i => stIndexAddr P ev t x i
  | .index t x i => stIndex P ev t x i
  | .lookup t m k ok => stLookup P ev hp t m k ok
  | .mapUpdate t m k x => stMapUpdate P ev hp t m k x
  | .insert t m k x => stMapUpdate P ev hp t m k x
  | .extract x i => stExtract ev x i
  | .call c => stCall P ev hp nx c
  | _ => none

/-- a call of a function: whom, with what -/
def isCall : Op → Option (Operand × Array Operand)
  | .call c => match c.callee with
    | .value f => some (f, c.args)
    | _ => none
  | _ => none

noncomputable section
structure S where
  sl : T RV
  hp : T Blk
  nx : Nat
  lg : List Nat

inductive X where
  | normal
  | exit (id : Nat)
  | ret

def eval (n : Nat) (sl : T RV) : Operand → Option RV
  | .tmp t => if t < n then (match sl.get t with | some v => some v | none => some und) else some und
  | .const v => match v with
    | .tuple l => (match l.toList with | [] => some und | _ => none)
    | v => match cellOf v with | some c => some (.one (.c c)) | none => none
  | .func f => some (.one (.c (.fn f [] [])))
  | .global _ => none

abbrev depth : Nat := 60

def applyU {β : Type} (z : Bool) (u : Upd) (s : S) (k : S → Option β) : Option β :=
  match u with
  | .none => k s
  | .new b => sBlk z b fun b => T.set depth s.hp s.nx (some b) fun hp => fNat (s.nx + 1) fun nx => k { s with hp, nx }
  | .wr nm b => Bool.rec none (sBlk z b fun b => T.set depth s.hp nm (some b) fun hp => k { s with hp, lg := nm :: s.lg }) (Nat.blt nm s.nx)
  | .mv nm b => Bool.rec none (sBlk z b fun b => T.set depth s.hp nm none fun hp => T.set depth hp s.nx (some b) fun hp => fNat (s.nx + 1) fun nx => k { s with hp, nx, lg := nm :: s.lg }) (Nat.blt nm s.nx)

def putDst {β : Type} (n : Nat) (d : Option Tmp) (v : RV) (s : S) (k : S → Option β) : Option β :=
  match d with
  | none => k s
  | some d => if d < n then T.set depth s.sl d (some v) fun sl => k { s with sl } else none

/-- a function's summary: arguments, heap, next name -> result, heap, next name, log -/
abbrev Sum := List RV → T Blk → Nat → Option (RV × T Blk × Nat × List Nat)

def guardOf (n : Nat) (ops : List Oper) (sl : T RV) (o : Oper) : Option Bool :=
  match o.guard with
  | none => some true
  | some (j, want) => match ops[j]? with
    | some oj => match oj.dst with
      | some d => match eval n sl (.tmp d) with
        | some (.one (.c (.bool b))) => some (b == want)
        | some (.tup []) => some false
        | _ => none
      | none => none
    | none => none

def setArgs {β : Type} (n : Nat) : List RV → Nat → T RV → (T RV → Option β) → Option β
  | [], _, sl, k => k sl
  | v :: vs, i, sl, k => if i < n then T.set depth sl i (some v) fun sl => setArgs n vs (i + 1) sl k else none

def resOf (P : Program) (n : Nat) (s : S) : List ResultVar → Option (List AV)
  | [] => some []
  | r :: rs => match (match r with
      | .tmp t => (match eval n s.sl (.tmp t) with | some (.one v) => some v | _ => none)
      | .cell a t => (match eval n s.sl (.tmp a), tk P t with
        | some (.one (.c (.ptr nm off))), some k => (match getRow s.hp.get nm with
          | some (_, _, _, b) => b.get off k
          | none => none)
        | _, _ => none)), resOf P n s rs with
    | some v, some l => some (v :: l)
    | _, _ => none

def resRV : List AV → RV
  | [v] => .one v
  | l => .tup l

variable (P : Program) (Sg : FuncId → Option Sum) (z : Bool)

/-- from here on a number names no function, but the record of a range over a function -/
def YB : Nat := 1000000000

def calleeOf (n : Nat) (sl : T RV) (x : Operand) : Option (FuncId × List RV × List RV) :=
  match eval n sl x with
  | some (.one (.c (.fn f fs caps))) => match Nat.blt f YB with
    | true => some (f, fs.map (fun (nm, off) => .one (.c (.ptr nm off))), caps.map fun (nm, off) => .one (.c (.ptr nm off)))
    | false => none
  | some (.one (.c (.yield nm))) => some (YB + nm, [], [])
  | _ => none

abbrev CallF (β : Type) := FuncId → List RV → S → (RV → S → Option β) → Option β

/-- what one operation needs of the heap: some names, or all -/
abbrev Need := Option (List Nat)

def callRun {β : Type} (call : CallF β) (n : Nat) (f : Operand) (args : Array Operand) (d : Option Tmp) (s : S) (k : Need → S → Option β) : Option β :=
  match calleeOf n s.sl f with
  | some (f, fs, caps) => match evl (eval n s.sl) args.toList with
    | some l => call f (fs ++ (l ++ caps)) s fun v s' => putDst n d v s' (k none)
    | none => none
  | none => none

def plainRun {β : Type} (n : Nat) (o : Oper) (s : S) (k : Need → S → Option β) : Option β :=
  match opStep P (eval n s.sl) s.hp.get s.nx o.op with
  | some r => sRV (z && r.fz) r.v fun v => applyU z r.u s fun s => putDst n o.dst v s (k (some r.need))
  | none => none

/-- one operation, guard and all; `call` does the calls of functions -/
def opRun {β : Type} (call : CallF β) (n : Nat) (ops : List Oper) (o : Oper) (s : S) (k : Need → S → Option β) : Option β :=
  match guardOf n ops s.sl o with
  | none => none
  | some g =>
    match g with
    | true => match isCall o.op with
      | some (f, args) => callRun call n f args o.dst s k
      | none => plainRun P z n o s k
    | false => putDst n o.dst und s (k (some []))

/-! .. where a call of what leads nowhere is made with no memory at all -/
def bareC : Cell → Bool
  | .ptr .. | .sl .. | .slu .. | .map _ | .yield _ | .any | .vsl _ | .vptr .. => false
  | .fn _ fs cs => fs.isEmpty && cs.isEmpty
  | _ => true
def bareV : RV → Bool
  | .one (.c x) => bareC x
  | .one (.agg l) => l.all bareC
  | .one (.ints ..) => true
  | _ => false
/-- the blocks from lo on of src, laid into t -/
def addT {β : Type} (lo : Nat) (src : T Blk) : Nat → T Blk → (T Blk → Option β) → Option β
  | 0, t, k => k t
  | m + 1, t, k => match src.get (lo + m) with
    | some b => T.set depth t (lo + m) (some b) fun t => addT lo src m t k
    | none => addT lo src m t k
def callRunI {β : Type} (call : CallF β) (n : Nat) (f : Operand) (args : Array Operand) (d : Option Tmp) (s : S) (k : Need → S → Option β) : Option β :=
  match calleeOf n s.sl f with
  | some (f, fs, caps) => match evl (eval n s.sl) args.toList with
    | some l => match (fs ++ (l ++ caps)).all bareV with
      | true => call f (fs ++ (l ++ caps)) ⟨s.sl, .nil, s.nx, s.lg⟩ fun v s' => addT s.nx s'.hp (s'.nx - s.nx) s.hp fun hp => putDst n d v ⟨s'.sl, hp, s'.nx, s'.lg⟩ (k (some []))
      | false => call f (fs ++ (l ++ caps)) s fun v s' => putDst n d v s' (k none)
    | none => none
  | none => none
def opRunI {β : Type} (call : CallF β) (n : Nat) (ops : List Oper) (o : Oper) (s : S) (k : Need → S → Option β) : Option β :=
  match guardOf n ops s.sl o with
  | none => none
  | some g =>
    match g with
    | true => match isCall o.op with
      | some (f, args) => callRunI call n f args o.dst s k
      | none => plainRun P z n o s k
    | false => putDst n o.dst und s (k (some []))

def opsRun {β : Type} (call : CallF β) (n : Nat) (ops : List Oper) : List Oper → S → (S → Option β) → Option β
  | [], s, k => k s
  | o :: rest, s, k => opRun P z call n ops o s fun _ s => opsRun call n ops rest s k

/-! ### a region that draws its order -/
def maskOf (acc : List Nat) : List Edge → Nat
  | [] => 0
  | e :: es => match Region.binds .any e with
    | true => Nat.lor (Nat.lor (2 ^ e.on) (acc.getD e.on 0)) (maskOf acc es)
    | false => maskOf acc es

def befs : List Oper → List Nat → List Nat
  | [], acc => acc
  | o :: r, acc => befs r (acc ++ [maskOf acc o.after.toList])

def tmpsOf : List Operand → List Tmp
  | [] => []
  | .tmp t :: r => t :: tmpsOf r
  | _ :: r => tmpsOf r

def guardTmp (ops : List Oper) (o : Oper) : List Tmp :=
  match o.guard with
  | none => []
  | some (j, _) => match ops[j]? with
    | some oj => oj.dst.toList
    | none => []

def looks (ops : List Oper) (o : Oper) : List Tmp := o.dst.toList ++ tmpsOf o.op.operands.toList ++ guardTmp ops o

structure FP where
  need : Need
  wr : List Nat
  lo : Nat
  hi : Nat

def notIn (l : List Nat) (x : Nat) : Bool := !l.contains x

def indep (fi fj : FP) : Bool :=
  (match fj.need with
    | none => fi.wr.isEmpty && Nat.beq fi.lo fi.hi
    | some l => l.all fun x => notIn fi.wr x && !(Nat.ble fi.lo x && Nat.blt x fi.hi)) &&
  (match fi.need with
    | none => fj.wr.all fun x => Nat.ble fi.lo x
    | some l => l.all fun x => notIn fj.wr x) &&
  (fi.wr.all fun x => notIn fj.wr x) &&
  (fj.wr.all fun x => !(Nat.ble fi.lo x && Nat.blt x fi.hi))

def apart (ops : List Oper) (oi oj : Oper) : Bool :=
  (match oi.dst with | some d => notIn (looks ops oj) d | none => true) &&
  (match oj.dst with | some d => notIn (looks ops oi) d | none => true)

/-- j, with the bits of all that come ahead of it, against those ahead of it in the text -/
def pairs1 (ops : List Oper) (m : Nat) (oj : Oper) (fj : FP) : List Oper → List FP → Nat → Bool
  | oi :: os, fi :: fs, i => (Nat.testBit m i || (apart ops oi oj && indep fi fj)) && pairs1 ops m oj fj os fs (i + 1)
  | _, _, _ => true

def pairsAll (ops : List Oper) : List Oper → List Nat → List FP → List Oper → List FP → Bool
  | oj :: os, m :: ms, fj :: fs, pre, pfs => pairs1 ops m oj fj pre pfs 0 && pairsAll ops os ms fs (pre ++ [oj]) (pfs ++ [fj])
  | _, _, _, _, _ => true

def noRing (ops : List Oper) : List Oper → Nat → Bool
  | [], _ => true
  | o :: r, i => (o.after.toList.all fun e => !Region.binds .any e || Nat.blt e.on i) &&
      (match o.guard with | none => true | some (j, _) => (o.after.toList.any fun e => Region.binds .any e && Nat.beq e.on j)) &&
      (match o.op with | .select .. => false | _ => true) && noRing ops r (i + 1)

def drawGo {β : Type} (call : CallF β) (n : Nat) (ops : List Oper) : List Oper → List FP → S → (List FP → S → Option β) → Option β
  | [], fps, s, k => k fps s
  | o :: rest, fps, s, k => opRun P z call n ops o { s with lg := [] } fun need s' =>
      drawGo call n ops rest (fps ++ [⟨need, s'.lg, s.nx, s'.nx⟩]) s' k

def drawGoI {β : Type} (call : CallF β) (n : Nat) (ops : List Oper) : List Oper → List FP → S → (List FP → S → Option β) → Option β
  | [], fps, s, k => k fps s
  | o :: rest, fps, s, k => opRunI P z call n ops o { s with lg := [] } fun need s' =>
      drawGoI call n ops rest (fps ++ [⟨need, s'.lg, s.nx, s'.nx⟩]) s' k

def allLogs : List FP → List Nat → List Nat
  | [], acc => acc
  | f :: r, acc => allLogs r (f.wr ++ acc)

def drawRun {β : Type} (call : CallF β) (n : Nat) (ops : List Oper) (s : S) (k : S → Option β) : Option β :=
  match noRing ops ops 0 with
  | false => none
  | true => drawGo P z call n ops ops [] s fun fps s' =>
    match pairsAll ops ops (befs ops []) fps [] [] with
    | true => k { s' with lg := allLogs fps s.lg }
    | false => drawGoI P z call n ops ops [] s fun fps s' =>
      match pairsAll ops ops (befs ops []) fps [] [] with
      | true => k { s' with lg := allLogs fps s.lg }
      | false => none

def regionRun {β : Type} (call : CallF β) (n : Nat) (ops : List Oper) (draw : Bool) (s : S) (k : S → Option β) : Option β :=
  match draw with
  | false => opsRun P z call n ops ops s k
  | true => drawRun P z call n ops s k

abbrev ExecF (β : Type) := Nat → Code → S → (X → S → Option β) → Option β

/-- what a body leaves, as the call's answer -/
def backRun {β : Type} (fn : Func) (s : S) (k : RV → S → Option β) (x : X) (s' : S) : Option β :=
  match x with
  | .exit _ => none
  | _ => match resOf P fn.ntmps s' fn.results.toList with
    | some l => k (resRV l) { s' with sl := s.sl }
    | none => none

def bodyRun {β : Type} (ex : ExecF β) (fn : Func) (c : Code) (args : List RV) (s : S) (k : RV → S → Option β) : Option β :=
  setArgs fn.ntmps args 0 .nil fun sl => ex fn.ntmps c { s with sl } (backRun P fn s k)

/-! a range over a function -/
def noRF : Code → Bool
  | .seq a b => noRF a && noRF b
  | .cond _ a b => noRF a && noRF b
  | .block _ c => noRF c
  | .loop c => noRF c
  | .rangeFunc .. => false
  | _ => true
def setPs : List Nat → List RV → List RV → Option (List RV)
  | [], [], sl => some sl
  | p :: ps, v :: vs, sl => setPs ps vs (sl.set p v)
  | _, _, _ => none
/-- behind a round's body -/
def yieldK2 {β : Type} (nm : Nat) (sl0 : T RV) (k : RV → S → Option β) (x : X) (s : S) : Option β :=
  match s.hp.get nm with
  | some (.loop .busy sl ps as bd) => match x with
    | .normal => T.set depth s.hp nm (some (.loop .ready sl ps as bd)) fun hp => k (.one (.c (.bool true))) ⟨sl0, hp, s.nx, nm :: s.lg⟩
    | .ret => T.set depth s.hp nm (some (.loop (.done none) sl ps as bd)) fun hp => k (.one (.c (.bool false))) ⟨sl0, hp, s.nx, nm :: s.lg⟩
    | .exit id => T.set depth s.hp nm (some (.loop (.done (some id)) sl ps as bd)) fun hp => k (.one (.c (.bool false))) ⟨sl0, hp, s.nx, nm :: s.lg⟩
  | _ => none
/-- behind a round's assignments -/
def yieldK1 {β : Type} (ex : ExecF β) (nm n : Nat) (bd : Code) (sl0 : T RV) (k : RV → S → Option β) (x : X) (s : S) : Option β :=
  match x with
  | .normal => match s.hp.get nm with
    | some (.loop .ready sl ps as bd') => T.set depth s.hp nm (some (.loop .busy sl ps as bd')) fun hp => ex n bd ⟨s.sl, hp, s.nx, nm :: s.lg⟩ (yieldK2 nm sl0 k)
    | _ => none
  | _ => none
def yieldRun {β : Type} (ex : ExecF β) (nm : Nat) (args : List RV) (s : S) (k : RV → S → Option β) : Option β :=
  match s.hp.get nm with
  | some (.loop .ready sl ps as bd) => match noRF as && noRF bd with
    | true => match setPs ps args sl with
      | some sl1 => setArgs sl1.length sl1 0 .nil fun t => ex sl1.length as ⟨t, s.hp, s.nx, s.lg⟩ (yieldK1 ex nm sl1.length bd s.sl k)
      | none => none
    | false => none
  | _ => none
def slotsK {β : Type} (sl : T RV) : Nat → List RV → (List RV → Option β) → Option β
  | 0, acc, k => k acc
  | t + 1, acc, k => match sl.get t with
    | some v => slotsK sl t (v :: acc) k
    | none => slotsK sl t (und :: acc) k
/-- behind the call -/
def rangeK {β : Type} (l : Nat) (k : X → S → Option β) (_ : RV) (s : S) : Option β :=
  match s.hp.get l with
  | some (.loop st _ _ _ _) => T.set depth s.hp l none fun hp => match st with
    | .ready => k .normal ⟨s.sl, hp, s.nx, s.lg⟩
    | .done none => k .ret ⟨s.sl, hp, s.nx, s.lg⟩
    | .done (some id) => k (.exit id) ⟨s.sl, hp, s.nx, s.lg⟩
    | .busy => none
  | _ => none
def rangeRun {β : Type} (call : CallF β) (n : Nat) (g : Operand) (ps : Array Tmp) (as bd : Code) (s : S) (k : X → S → Option β) : Option β :=
  match eval n s.sl g with
  | some (.one (.c (.fn f fs caps))) => match Nat.blt f YB with
    | true => slotsK s.sl n [] fun sl => T.set depth s.hp s.nx (some (.loop .ready sl ps.toList as bd)) fun hp => fNat (s.nx + 1) fun nx =>
        call f (fs.map (fun (nm, off) => .one (.c (.ptr nm off))) ++ (.one (.c (.yield s.nx)) :: caps.map fun (nm, off) => .one (.c (.ptr nm off)))) ⟨s.sl, hp, nx, s.lg⟩ (rangeK s.nx k)
    | false => none
  | _ => none

def callBy {β : Type} (ex : ExecF β) : CallF β := fun g args s k =>
  match P.funcs[g]? with
  | none => match Nat.ble YB g with
    | true => yieldRun ex (g - YB) args s k
    | false => none
  | some fn => match Nat.blt g YB with
    | false => none
    | true => match fn.body with
      | none => none
      | some c => match Sg g with
        | some sm => match sm args s.hp s.nx with
          | some (v, hp, nx, lg) => k v { s with hp, nx, lg := lg ++ s.lg }
          | none => bodyRun P ex fn c args s k
        | none => bodyRun P ex fn c args s k

def seqK {β : Type} (ex : ExecF β) (n : Nat) (b : Code) (k : X → S → Option β) (x : X) (s : S) : Option β :=
  match x with
  | .normal => ex n b s k
  | x => k x s

def blockK {β : Type} (id : Nat) (k : X → S → Option β) (x : X) (s : S) : Option β :=
  match x with
  | .exit j => if j = id then k .normal s else k (.exit j) s
  | x => k x s

def condRun {β : Type} (ex : ExecF β) (n : Nat) (c : Operand) (a b : Code) (s : S) (k : X → S → Option β) : Option β :=
  match eval n s.sl c with
  | some (.one (.c (.bool t))) => bif t then ex n a s k else ex n b s k
  | _ => none

def codeRun {β : Type} (ex : ExecF β) (n : Nat) (c : Code) (s : S) (k : X → S → Option β) : Option β :=
  match c with
  | .skip => k .normal s
  | .ret => k .ret s
  | .exit id => k (.exit id) s
  | .seq a b => ex n a s (seqK ex n b k)
  | .cond c a b => condRun ex n c a b s k
  | .block id c => ex n c s (blockK id k)
  | .loop c => ex n c s (seqK ex n (.loop c) k)
  | .region _ ops draw => regionRun P z (callBy P Sg ex) n ops.toList draw s (k .normal)
  | .rangeFunc g ps as bd => match z with
    | true => rangeRun (callBy P Sg ex) n g ps as bd s k
    | false => none
  | _ => none

def exec {β : Type} (f : Nat) : ExecF β := Nat.rec (fun _ _ _ _ => none) (fun _ ih n c s k => codeRun P Sg z ih n c s k) f

def run (fuel : Nat) (g : FuncId) (args : List RV) : Option RV :=
  match P.funcs[g]? with
  | none => none
  | some fn => match fn.body with
    | none => none
    | some c => setArgs fn.ntmps args 0 .nil fun sl =>
      exec P Sg z fuel fn.ntmps c ⟨sl, .nil, 0, []⟩ fun x s =>
        match x with
        | .exit _ => none
        | _ => match resOf P fn.ntmps s fn.results.toList with
          | some l => some (resRV l)
          | none => none

end
end Go.Sx
