/-
  Parts of the executor Sx over the model's code (any program), or of this seat's walks: words and proofs that the row's text uses.
-/
import Derived.Test.YtfceckiklfkjkaaGreatSxI
namespace Go.Sx
/-! The executor with assumed tests: of each test that hangs on a variable the answer is given, and the test is noted. -/
noncomputable section

structure A where
  n : Nat
  orc : List (Nat × Bool)
  ob : List Prop

def All : List Prop → Prop
  | [] => True
  | p :: l => p ∧ All l

abbrev A.Sat (α : A) : Prop := All α.ob

section defs
variable {β : Type}

/-- a test: taken as it is, or as it is said -/
def ask (α : A) (t : Bool) (k : Bool → A → Option β) : Option β :=
  match α with
  | ⟨n, orc, ob⟩ => match orc with
    | [] => Bool.rec (k false ⟨n, [], ob⟩) (k true ⟨n, [], ob⟩) t
    | (i, b) :: r => fNat (n + 1) fun n' => Bool.rec
        (Bool.rec (k false ⟨n', (i, b) :: r, ob⟩) (k true ⟨n', (i, b) :: r, ob⟩) t)
        (k b ⟨n', r, (t = b) :: ob⟩) (Nat.beq i n)

def chkA (α : A) (p : Prop) [Decidable p] (k : A → Option β) : Option β := ask α (decide p) fun t α => Bool.rec none (k α) t

def optA {γ : Type} (x : Option γ) (α : A) (k : γ → A → Option β) : Option β := match x with | some v => k v α | none => none

def Body.getA (b : Body) (off : Nat) (t : TK) (α : A) (k : AV → A → Option β) : Option β :=
  match b, t with
  | .ints kd l n, .sc => chkA α (off < n) fun α => k (.c (.int kd (l.getD off 0))) α
  | .ints kd l n, .ints k' m => if kd = k' then chkA α (off + m ≤ n) fun α => k (.ints kd ((l.drop off).take m) m) α else none
  | .bools l n, .sc => chkA α (off < n) fun α => k (.c (.bool (l.getD off false))) α
  | b, t => optA (b.get off t) α k

def Body.setA (b : Body) (off : Nat) (v : AV) (α : A) (k : Body → A → Option β) : Option β :=
  match b, v with
  | .ints kd l n, .c (.int k' x) => if kd = k' then chkA α (off < n) fun α => k (.ints kd (l.set off x) n) α else none
  | .ints kd l n, .ints k' x m => if kd = k' then chkA α (off + m ≤ n) fun α => k (.ints kd (over l off x) n) α else none
  | .bools l n, .c (.bool x) => chkA α (off < n) fun α => k (.bools (l.set off x) n) α
  | b, v => optA (b.set off v) α k

def idxA (i : Int) (len : Nat) (α : A) (k : Nat → A → Option β) : Option β := chkA α (0 ≤ i ∧ i < len) fun α => k i.toNat α

def stLoadA (P : Program) (ev : Ev) (hp : Hp) (t : TypeId) (a : Operand) (α : A) (k : Res → A → Option β) : Option β :=
  match ev a with
  | some (.one (.c (.ptr nm off))) => match tk P t with
    | some kd => match getRow hp nm with
      | some (_, _, _, b) => b.getA off kd α fun v α => k ⟨.one v, .none, [nm], true⟩ α
      | none => match hp nm, kd with
        | some (.recs o ks l), .agg m => chkA α (recP o ks l off m) fun α => k ⟨.one (.agg (recC ks l (off - o))), .none, [nm], true⟩ α
        | _, _ => none
    | none => none
  | _ => none

def loadVA (kd : Option TK) (l : List Int) (i : Nat) (α : A) (k : Res → A → Option β) : Option β :=
  match kd with
  | some .sc => chkA α (i < l.length) fun α => k ⟨.one (.c (.int .i64 (l.getD i 0))), .none, [], true⟩ α
  | _ => none
def stLoadVA (P : Program) (ev : Ev) (hp : Hp) (t : TypeId) (a : Operand) (α : A) (k : Res → A → Option β) : Option β :=
  match vptrOf (ev a) with
  | some (l, i) => loadVA (tk P t) l i α k
  | none => stLoadA P ev hp t a α k
def stStoreA (P : Program) (ev : Ev) (hp : Hp) (t : TypeId) (a x : Operand) (α : A) (k : Res → A → Option β) : Option β :=
  match ev a with
  | some (.one (.c (.ptr nm off))) => match ev x with
    | some (.one v) => match P.info? t with
      | some ti => if v.size = ti.size then (match getRow hp nm with
          | some (ty, false, o, b) => b.setA off v α fun b α => k ⟨und, .wr nm (.row ty false o b), [nm], true⟩ α
          | _ => none) else none
      | none => none
    | _ => none
  | _ => none

def slicePartsA (c : Cell) (s : Nat) (α : A) (k : Option (Nat × Nat × Nat) → A → Option β) : Option β :=
  match c with
  | .slu nm sz a len => chkA α (len ≠ 0) fun α => if sz = s then k (some (nm, a * sz, len)) α else none
  | c => optA (sliceParts c s) α k

def ixArrA (P : Program) (e : TypeId) (nm off len : Nat) (i : Int) (α : A) (k : Res → A → Option β) : Option β :=
  match P.info? e with
  | some ti => idxA i len α fun j α => k ⟨.one (.c (.ptr nm (off + j * ti.size))), .none, [], true⟩ α
  | none => none

def vslOf (x : Cell) : Option (List Int) := match x with | .vsl l => some l | _ => none
def ixSlA (P : Program) (e : TypeId) (x : Cell) (i : Int) (α : A) (k : Res → A → Option β) : Option β :=
  match P.info? e with
  | some ti => match vslOf x with
   | some l => if ti.size = 1 then idxA i l.length α fun j α => k ⟨.one (.c (.vptr l j)), .none, [], true⟩ α else none
   | none => slicePartsA x ti.size α fun p α => match p with
    | some (nm, off, len) => idxA i len α fun j α => k ⟨.one (.c (.ptr nm (off + j * ti.size))), .none, [], true⟩ α
    | none => none
  | none => none

def stIndexAddrA (P : Program) (ev : Ev) (t : TypeId) (x i : Operand) (α : A) (k : Res → A → Option β) : Option β :=
  match ev i with
  | some (.one (.c (.int _ i))) => match ev x with
    | some (.one (.c x)) => match P.underlying t with
      | some (.array len e) => (match x with | .ptr nm off => ixArrA P e nm off len i α k | _ => none)
      | some (.slice e) => ixSlA P e x i α k
      | _ => none
    | _ => none
  | _ => none

def byteAt (s : ByteArray) (j : Nat) : UInt8 := match s[j]? with | some b => b | none => 0
def strAtA (s : ByteArray) (i : Int) (α : A) (k : Res → A → Option β) : Option β :=
  idxA i s.size α fun j α => k ⟨.one (.c (.int .u8 (byteAt s j).toNat)), .none, [], true⟩ α
def stNextA (ev : Ev) (hp : Hp) (x : Operand) (str : Bool) (α : A) (k : Res → A → Option β) : Option β :=
  match ev x, str with
  | some (.one (.c (.ptr nm 0))), true => match hp nm with
    | some (.iter s pos) => ask α (Nat.blt pos s.size) fun t α => Bool.rec
        (k ⟨.tup [.c (.bool false)], .none, [nm], true⟩ α)
        (k ⟨.tup [.c (.bool true), .c (.int .i64 pos), .c (.int .i32 (Utf8.decode s pos).1)], .wr nm (.iter s (pos + (Utf8.decode s pos).2)), [nm], true⟩ α) t
    | _ => none
  | _, _ => none

def stIndexA (P : Program) (ev : Ev) (t : TypeId) (x i : Operand) (α : A) (k : Res → A → Option β) : Option β :=
  match ev i with
  | some (.one (.c (.int _ i))) => match ev x with
    | some (.one v) => match P.underlying t with
      | some (.array len e) => match P.info? e with
        | some ti => match tk P e with
          | some kd => if isAggV v = true then idxA i len α fun j α => v.rowBody.getA (j * ti.size) kd α fun v α => k ⟨.one v, .none, [], true⟩ α else none
          | none => none
        | none => none
      | some .string => (match v with | .c (.str s) => strAtA s i α k | _ => none)
      | _ => none
    | _ => none
  | _ => none

def binIntA (op : BinOp) (kd : IntKind) (a b : Int) (α : A) (k : Cell → A → Option β) : Option β :=
  match op with
  | .quo => chkA α (¬ b = 0) fun α => k (.int kd (kd.wrap (a.tdiv b))) α
  | .rem => chkA α (¬ b = 0) fun α => k (.int kd (a.tmod b)) α
  | op => optA (binInt op kd a b) α k

def shiftResA (op : BinOp) (kd : IntKind) (a b : Int) (α : A) (k : AV → A → Option β) : Option β :=
  match op with
  | .shl => chkA α (¬ b < 0) fun α => k (.c (.int kd (kd.wrap (a * 2 ^ (min b.toNat kd.bits))))) α
  | .shr => chkA α (¬ b < 0) fun α => k (.c (.int kd (a.fdiv (2 ^ (min b.toNat kd.bits))))) α
  | _ => none

def intResA (op : BinOp) (kd : IntKind) (a : Int) (k' : IntKind) (b : Int) (α : A) (k : AV → A → Option β) : Option β :=
  match isShift op with
  | true => shiftResA op kd a b α k
  | false => if kd = k' then binIntA op kd a b α fun c α => k (.c c) α else none

def binResA (P : Program) (op : BinOp) (t : TypeId) (x y : AV) (α : A) (k : AV → A → Option β) : Option β :=
  match x, y with
  | .c (.int kd a), .c (.int k' b) => intResA op kd a k' b α k
  | x, y => optA (binRes P op t x y) α k

def stBinA (P : Program) (ev : Ev) (op : BinOp) (t : TypeId) (x y : Operand) (α : A) (k : Res → A → Option β) : Option β :=
  match ev x with
  | some (.one x) => match ev y with
    | some (.one y) => binResA P op t x y α fun v α => k ⟨.one v, .none, [], true⟩ α
    | _ => none
  | _ => none

def findKeyA (kc : Cell) : List (Cell × AV) → Nat → A → (Option (Nat × AV) → A → Option β) → Option β
  | [], _, α, k => k none α
  | (c, v) :: r, i, α, k => match eqKey kc c with
    | some t => ask α t fun t α => Bool.rec (findKeyA kc r (i + 1) α k) (k (some (i, v)) α) t
    | none => none

def zI (vk : Option IntKind) (z : AV) : Bool :=
  match vk, z with
  | some k, .c (.int k' n) => decide (k = k') && decide (n = 0)
  | none, .c (.bool b) => !b
  | _, _ => false
def mapIof (hp : Hp) (m : Cell) : Option (Nat × Option IntKind × List (Int × Int)) :=
  match m with
  | .map nm => match hp nm with | some (.mapI vk l) => some (nm, vk, l) | _ => none
  | _ => none

def stLookupA (P : Program) (ev : Ev) (hp : Hp) (t : TypeId) (m kx : Operand) (ok : Bool) (α : A) (k : Res → A → Option β) : Option β :=
  match P.underlying t with
  | some (.map kt e) => match ev m with
    | some (.one (.c m)) => match ev kx with
      | some (.one (.c kc)) => match zeroAV P e with
        | some z => match lookVS hp m kc with
         | some (nm, v, t) => if keyOK (P.underlying kt) kc = true ∧ zVS v z = true then k ⟨bif ok then .tup [.c v, .c (.bool t)] else .one (.c v), .none, [nm], true⟩ α else none
         | none => match mapIof hp m with
          | some (nm, vk, l) => (match kc with
            | .int .i64 kn => if zI vk z = true ∧ keyOK (P.underlying kt) (.int .i64 kn) = true then k ⟨bif ok then .tup [.c (valI vk (getI l kn)), .c (.bool (hasI l kn))] else .one (.c (valI vk (getI l kn))), .none, [nm], true⟩ α else none
            | _ => none)
          | none => match mapEs hp m with
            | some (es, nd) => if keyOK (P.underlying kt) kc = true then findKeyA kc es 0 α fun r α => optA (lookRes ok z nd (some r)) α k else none
            | none => none
        | none => none
      | _ => none
    | _ => none
  | _ => none

def stMapUpdateA (P : Program) (ev : Ev) (hp : Hp) (t : TypeId) (m kx x : Operand) (α : A) (k : Res → A → Option β) : Option β :=
  match ev m with
  | some (.one (.c (.map nm))) => match ev kx with
    | some (.one (.c kc)) => match ev x with
      | some (.one v) => match hp nm with
        | some (.map es) => if keyOK (keyTy P t) kc = true then findKeyA kc es 0 α fun r α => optA (mapPut es nm kc v (some r)) α k else none
        | some (.mapI vk l) => if keyOK (keyTy P t) kc = true then optA (mapPutI vk l nm kc v) α k else none
        | some (.mapV l) => if keyOK (keyTy P t) kc = true then optA (mapPutV l nm kc v) α k else none
        | some (.mapS l) => if keyOK (keyTy P t) kc = true then optA (mapPutT l nm kc v) α k else none
        | _ => none
      | _ => none
    | _ => none
  | _ => none

def sboundA (x : Option RV) (lo hi dflt : Nat) (α : A) (k : Nat → A → Option β) : Option β :=
  match x with
  | none => k dflt α
  | some (.one (.c (.int _ i))) => chkA α ((lo : Int) ≤ i ∧ i ≤ hi) fun α => k i.toNat α
  | some _ => none

def sliceCellA (s : Nat) (x : Cell) (lo hi : Option RV) (α : A) (k : Cell → A → Option β) : Option β :=
  match x with
  | .sl nm off len cap => sboundA hi 0 cap len α fun h α => sboundA lo 0 h 0 α fun l α => k (.sl nm (if cap = l then off else off + l * s) (h - l) (cap - l)) α
  | .slu nm sz a len => sboundA hi 0 len len α fun h α => sboundA lo 0 h 0 α fun l α => if sz = s then k (.slu nm sz (a + l) (h - l)) α else none
  | x => optA (sliceCell s x lo hi) α k

def slArrA (P : Program) (n : Nat) (e : TypeId) (nm off : Nat) (lo hi : Option RV) (α : A) (k : Res → A → Option β) : Option β :=
  match P.info? e with
  | some ti => sliceCellA ti.size (.sl nm off n n) lo hi α fun c α => k ⟨.one (.c c), .none, [], true⟩ α
  | none => none

def slSlA (P : Program) (e : TypeId) (x : Cell) (lo hi : Option RV) (α : A) (k : Res → A → Option β) : Option β :=
  match P.info? e with
  | some ti => sliceCellA ti.size x lo hi α fun c α => k ⟨.one (.c c), .none, [], true⟩ α
  | none => none

def slStrA (s : ByteArray) (lo hi : Option RV) (α : A) (k : Res → A → Option β) : Option β :=
  sboundA hi 0 s.size s.size α fun h α => sboundA lo 0 h 0 α fun l α => k ⟨.one (.c (.str (s.extract l h))), .none, [], true⟩ α

def stSliceA (P : Program) (ev : Ev) (t : TypeId) (x : Operand) (lo hi mx : Option Operand) (α : A) (k : Res → A → Option β) : Option β :=
  match mx with
  | some mx => optA (st3 P ev t x lo hi mx) α k
  | none => match optEv ev lo with
    | none => none
    | some lo => match optEv ev hi with
      | none => none
      | some hi => match ev x with
        | some (.one (.c x)) => match P.underlying t with
          | some (.array n e) => (match x with | .ptr nm off => slArrA P n e nm off lo hi α k | _ => none)
          | some (.slice e) => slSlA P e x lo hi α k
          | some (.pointer arr) => (match x with
            | .ptr nm off => (match P.underlying arr with | some (.array n e) => slArrA P n e nm off lo hi α k | _ => none)
            | _ => none)
          | some .string => (match x with | .str s => slStrA s lo hi α k | _ => none)
          | _ => none
        | _ => none

def stMakeSliceA (P : Program) (ev : Ev) (nx : Nat) (t : TypeId) (l c : Operand) (α : A) (k : Res → A → Option β) : Option β :=
  match P.underlying t with
  | some (.slice e) => match ev l with
    | some (.one (.c (.int _ n))) => match ev c with
      | some (.one (.c (.int _ m))) => match zeroAV P e with
        | some z => match P.info? e with
          | some ti => chkA α (0 ≤ n ∧ n = m ∧ ti.bytes * n.toNat ≤ 1000000000 ∧ n.toNat < 1000000000) fun α => if z.size = ti.size then
              k ⟨.one (.c (.sl nx 0 n.toNat n.toNat)), .new (.row e false none (rowsOf P e z n.toNat)), [], true⟩ α else none
          | none => none
        | none => none
      | _ => none
    | _ => none
  | _ => none

def Body.cutA (b : Body) (off n : Nat) (α : A) (k : Body → A → Option β) : Option β :=
  match b with
  | .ints kd l m => chkA α (off + n ≤ m) fun α => k (.ints kd ((l.drop off).take n) n) α
  | .bools l m => chkA α (off + n ≤ m) fun α => k (.bools ((l.drop off).take n) n) α
  | b => optA (b.cut off n) α k

def Body.putA (b : Body) (off : Nat) (x : Body) (α : A) (k : Body → A → Option β) : Option β :=
  match b, x with
  | .ints kd l n, .ints k' x m => if kd = k' then chkA α (off + m ≤ n) fun α => k (.ints kd (over l off x) n) α else none
  | b, x => optA (b.put off x) α k

def rowOrWinA (hp : Nat → Option Blk) (nm off n : Nat) (α : A) (k : Body → A → Option β) : Option β :=
  match hp nm with
  | some (.row _ _ _ b) => b.cutA off n α k
  | some (.win o kd l) => chkA α (o ≤ off ∧ off - o + n ≤ l.length) fun α => k (.ints kd ((l.drop (off - o)).take n) n) α
  | _ => none

def srcBodyA (hp : Nat → Option Blk) (s : Nat) (n : Option Nat) (x : Cell) (α : A) (k : Option Nat × Nat × Option Body → A → Option β) : Option β :=
  match x with
  | .str b => optA (srcBody hp s n (.str b)) α k
  | x => slicePartsA x s α fun p α => match p with
    | none => k (none, 0, none) α
    | some (nm, off, len) => rowOrWinA hp nm off (lenBy n len * s) α fun b α => k (some nm, lenBy n len, some b) α

def copyToA (hp : Nat → Option Blk) (nm off : Nat) (s : Option Nat × Nat × Option Body) (α : A) (k : Res → A → Option β) : Option β :=
  ask α (Nat.beq s.2.1 0) fun t α => Bool.rec
    (match s.2.2 with
      | some x => match getRow hp nm with
        | some (t, false, o, b) => b.putA off x α fun b α => k ⟨.one (.c (.int .i64 s.2.1)), .wr nm (.row t false o b), nm :: needOf s.1, true⟩ α
        | _ => none
      | none => none)
    (k ⟨.one (.c (.int .i64 0)), .none, needOf s.1, true⟩ α) t

def copyResA (P : Program) (hp : Nat → Option Blk) (argTypes : Array TypeId) (d s : RV) (α : A) (k : Res → A → Option β) : Option β :=
  match argTypes[0]?, d, s with
  | some dt, .one (.c d), .one (.c s) => match P.underlying dt with
    | some (.slice e) => match P.info? e with
      | some ti => slicePartsA d ti.size α fun p α => match p with
        | none => optA (copyRes P hp argTypes (.one (.c d)) (.one (.c s))) α k
        | some (nm, off, len) => srcBodyA hp ti.size (some len) s α fun sb α => copyToA hp nm off sb α k
      | none => none
    | _ => none
  | _, _, _ => none

def appSluA (e : TypeId) (ti : TypeInfo) (hp : Nat → Option Blk) (nx nm sz a len : Nat) (from_ : Option Nat) (n : Nat) (x : Option Body) (α : A) (k : Res → A → Option β) : Option β :=
  ask α (Nat.beq n 0) fun t α => Bool.rec
    (chkA α (fits ti (len + n) = true) fun α => if a = 0 ∧ sz = ti.size then
      (match getRow hp nm with
        | some (t, false, some sz', b) => if sz' = ti.size ∧ t = e then b.cutA 0 (len * ti.size) α fun b α => optA (appMv e nx ti.size (len + n) nm (some b) x (nm :: needOf from_)) α k else none
        | _ => none) else none)
    (k ⟨.one (.c (.slu nm sz a len)), .none, needOf from_, true⟩ α) t

def appSlA (e : TypeId) (ti : TypeInfo) (hp : Nat → Option Blk) (nx nm off len cap : Nat) (from_ : Option Nat) (n : Nat) (x : Option Body) (α : A) (k : Res → A → Option β) : Option β :=
  ask α (Nat.beq n 0) fun t α => Bool.rec
    (chkA α (cap < len + n ∧ fits ti (len + n) = true) fun α => match getRow hp nm with
      | some (_, _, _, b) => b.cutA off (len * ti.size) α fun b α => optA (appNew e nx ti.size (len + n) (some b) x (nm :: needOf from_)) α k
      | none => none)
    (chkA α (len ≤ cap) fun α => k ⟨.one (.c (.sl nm off len cap)), .none, needOf from_, true⟩ α) t

def appNilA (e : TypeId) (ti : TypeInfo) (nx : Nat) (from_ : Option Nat) (n : Nat) (x : Option Body) (α : A) (k : Res → A → Option β) : Option β :=
  ask α (Nat.beq n 0) fun t α => Bool.rec
    (chkA α (fits ti n = true) fun α => match x with
      | some x => k ⟨.one (.c (.slu nx ti.size 0 n)), .new (.row e false (some ti.size) x), needOf from_, true⟩ α
      | none => none)
    (k ⟨.one (.c .sl0), .none, needOf from_, true⟩ α) t

def appGoA (e : TypeId) (ti : TypeInfo) (hp : Nat → Option Blk) (nx : Nat) (d : Cell) (s : Option Nat × Nat × Option Body) (α : A) (k : Res → A → Option β) : Option β :=
  match d with
  | .sl0 => appNilA e ti nx s.1 s.2.1 s.2.2 α k
  | .slu nm sz a len => appSluA e ti hp nx nm sz a len s.1 s.2.1 s.2.2 α k
  | .sl nm off len cap => appSlA e ti hp nx nm off len cap s.1 s.2.1 s.2.2 α k
  | d => optA (appGo e ti hp nx d (some s)) α k

def appendResA (P : Program) (hp : Nat → Option Blk) (nx : Nat) (argTypes : Array TypeId) (d s : RV) (α : A) (k : Res → A → Option β) : Option β :=
  match argTypes[0]?, d, s with
  | some dt, .one (.c d), .one (.c s) => match P.underlying dt with
    | some (.slice e) => match P.info? e with
      | some ti => match zeroAV P e with
        | some z => if z.size = ti.size ∧ appArg P argTypes = true then srcBodyA hp ti.size none s α fun sb α => appGoA e ti hp nx d sb α k else none
        | none => none
      | none => none
    | _ => none
  | _, _, _ => none

def stCallA (P : Program) (ev : Ev) (hp : Hp) (nx : Nat) (c : Call) (α : A) (k : Res → A → Option β) : Option β :=
  match c.callee with
  | .builtin b => match evl ev c.args.toList with
    | some l => (match b, l with
      | .copy, [d, s] => copyResA P hp c.argTypes d s α k
      | .append, [d, s] => appendResA P hp nx c.argTypes d s α k
      | b, l => optA (builtinRes P hp nx b c.argTypes l) α k)
    | none => none
  | _ => none

def stPickA (ev : Ev) (c a b : Operand) (α : A) (k : Res → A → Option β) : Option β :=
  match ev c with
  | some (.one (.c (.bool t))) => match ev a with
    | some x => match ev b with
      | some y => ask α t fun t α => optA (pickV t x y) α k
      | none => none
    | none => none
  | _ => none

def opStepA (P : Program) (ev : Ev) (hp : Hp) (nx : Nat) (o : Op) (α : A) (k : Res → A → Option β) : Option β :=
  match o with
  | .pick c a b => stPickA ev c a b α k
  | .load t a => stLoadVA P ev hp t a α k
  | .store t a x => stStoreA P ev hp t a x α k
  | .binOp op t x y _ => stBinA P ev op t x y α k
  | .makeSlice t l c => stMakeSliceA P ev nx t l c α k
  | .slice t x lo hi mx => stSliceA P ev t x lo hi mx α k
  | .indexAddr t x i => stIndexAddrA P ev t x i α k
  | .index t x i => stIndexA P ev t x i α k
  | .lookup t m kx ok => stLookupA P ev hp t m kx ok α k
  | .mapUpdate t m kx x => stMapUpdateA P ev hp t m kx x α k
  | .insert t m kx x => stMapUpdateA P ev hp t m kx x α k
  | .next x b => stNextA ev hp x b α k
  | .call c => stCallA P ev hp nx c α k
  | o => optA (opStep P ev hp nx o) α k

/-! ### running -/
abbrev SumA := List RV → T Blk → Nat → Option (RV × T Blk × Nat × List Nat × List Prop)
abbrev CallFA (β : Type) := FuncId → List RV → S → A → (RV → S → A → Option β) → Option β
abbrev ExecFA (β : Type) := Nat → Code → S → A → (X → S → A → Option β) → Option β

variable (P : Program) (Sg : FuncId → Option SumA)

/-! names and shapes are forced; numbers are not -/
def wCell (c : Cell) (k : Cell → Option β) : Option β :=
  match c with
  | .ptr nm off => fNat nm fun nm => k (.ptr nm off)
  | .sl nm off len cap => fNat nm fun nm => k (.sl nm off len cap)
  | .slu nm sz off len => fNat nm fun nm => k (.slu nm sz off len)
  | .map nm => fNat nm fun nm => k (.map nm)
  | c => k c
def wCells : List Cell → (List Cell → Option β) → Option β
  | [], k => k []
  | x :: xs, k => wCell x fun x => wCells xs fun xs => k (x :: xs)
def wAV (v : AV) (k : AV → Option β) : Option β :=
  match v with
  | .c x => wCell x fun x => k (.c x)
  | .agg l => wCells l fun l => k (.agg l)
  | .ints kd l n => k (.ints kd l n)
def wAVs : List AV → (List AV → Option β) → Option β
  | [], k => k []
  | x :: xs, k => wAV x fun x => wAVs xs fun xs => k (x :: xs)
def wRV (v : RV) (k : RV → Option β) : Option β :=
  match v with
  | .one v => wAV v fun v => k (.one v)
  | .tup l => wAVs l fun l => k (.tup l)
  | .any => k .any
def wEs : List (Cell × AV) → (List (Cell × AV) → Option β) → Option β
  | [], k => k []
  | (x, v) :: xs, k => wCell x fun x => wAV v fun v => wEs xs fun xs => k ((x, v) :: xs)
def wBlk (b : Blk) (k : Blk → Option β) : Option β :=
  match b with
  | .row t ro o (.cells l) => wCells l fun l => k (.row t ro o (.cells l))
  | .row t ro o (.ints kd l n) => k (.row t ro o (.ints kd l n))
  | .row t ro o (.bools l n) => k (.row t ro o (.bools l n))
  | .map es => wEs es fun es => k (.map es)
  | .win o kd l => k (.win o kd l)
  | .recs o kd l => k (.recs o kd l)
  | .mapI vk l => k (.mapI vk l)
  | .mapR es => k (.mapR es)
  | .loop st sl ps as bd => k (.loop st sl ps as bd)
  | .iter s p => k (.iter s p)
  | .mapP es => k (.mapP es)
  | .mapV l => k (.mapV l)
  | .mapS l => k (.mapS l)

def applyUA (u : Upd) (s : S) (k : S → Option β) : Option β :=
  match s with
  | ⟨sl, hp, nx, lg⟩ => match u with
    | .none => k ⟨sl, hp, nx, lg⟩
    | .new b => wBlk b fun b => T.set depth hp nx (some b) fun hp => fNat (nx + 1) fun nx => k ⟨sl, hp, nx, lg⟩
    | .wr nm b => Bool.rec none (wBlk b fun b => T.set depth hp nm (some b) fun hp => k ⟨sl, hp, nx, nm :: lg⟩) (Nat.blt nm nx)
    | .mv nm b => Bool.rec none (wBlk b fun b => T.set depth hp nm none fun hp => T.set depth hp nx (some b) fun hp => fNat (nx + 1) fun nx => k ⟨sl, hp, nx, nm :: lg⟩) (Nat.blt nm nx)

def putDstA (n : Nat) (d : Option Tmp) (v : RV) (s : S) (k : S → Option β) : Option β :=
  match d with
  | none => k s
  | some d => match s with
    | ⟨sl, hp, nx, lg⟩ => if d < n then T.set depth sl d (some v) fun sl => k ⟨sl, hp, nx, lg⟩ else none

def plainA (n : Nat) (o : Oper) (s : S) (α : A) (k : Need → S → A → Option β) : Option β :=
  match s with
  | ⟨sl, hp, nx, lg⟩ => opStepA P (eval n sl) hp.get nx o.op α fun r α => match r with
    | ⟨v, u, need, _⟩ => wRV v fun v => applyUA u ⟨sl, hp, nx, lg⟩ fun s => putDstA n o.dst v s fun s => k (some need) s α

def guardA (n : Nat) (ops : List Oper) (sl : T RV) (o : Oper) (α : A) (k : Bool → A → Option β) : Option β :=
  match o.guard with
  | none => k true α
  | some (j, want) => match ops[j]? with
    | some oj => match oj.dst with
      | some d => match eval n sl (.tmp d) with
        | some (.one (.c (.bool b))) => ask α b fun b α => k (b == want) α
        | some (.tup []) => k false α
        | _ => none
      | none => none
    | none => none

def callRunA (call : CallFA β) (n : Nat) (f : Operand) (args : Array Operand) (d : Option Tmp) (s : S) (α : A) (k : Need → S → A → Option β) : Option β :=
  match calleeOf n s.sl f with
  | some (f, fs, caps) => match evl (eval n s.sl) args.toList with
    | some l => call f (fs ++ (l ++ caps)) s α fun v s' α => putDstA n d v s' fun s' => k none s' α
    | none => none
  | none => none

/-! answers are written into the slots that were asked: where the list of answers begins with 2000000000 -/
def treeM (α : A) : Bool := match α with | ⟨_, orc, _⟩ => match orc with | [] => false | (i, _) :: _ => Nat.beq i 2000000000
def refT (n : Nat) (d : Tmp) (b : Bool) (s : S) (k : S → Option β) : Option β :=
  match s with
  | ⟨sl, hp, nx, lg⟩ => match eval n sl (.tmp d) with
    | some (.one (.c (.bool _))) => T.set depth sl d (some (.one (.c (.bool b)))) fun sl => k ⟨sl, hp, nx, lg⟩
    | _ => k ⟨sl, hp, nx, lg⟩
def refG (n : Nat) (ops : List Oper) (o : Oper) (g : Bool) (s : S) (α : A) (k : S → Option β) : Option β :=
  match treeM α with
  | false => k s
  | true => match o.guard with
    | none => k s
    | some (j, want) => match ops[j]? with
      | some oj => match oj.dst with
        | some d => refT n d (g == want) s k
        | none => k s
      | none => k s
def refC (n : Nat) (c : Operand) (t : Bool) (s : S) (α : A) (k : S → Option β) : Option β :=
  match treeM α with
  | false => k s
  | true => match c with
    | .tmp d => refT n d t s k
    | _ => k s

def opA (call : CallFA β) (n : Nat) (ops : List Oper) (o : Oper) (s : S) (α : A) (k : Need → S → A → Option β) : Option β :=
  guardA n ops s.sl o α fun g α => refG n ops o g s α fun s =>
    match g with
    | true => match isCall o.op with
      | some (f, args) => callRunA call n f args o.dst s α k
      | none => plainA P n o s α k
    | false => putDstA n o.dst und s fun s => k (some []) s α

def opsA (call : CallFA β) (n : Nat) (ops : List Oper) : List Oper → S → A → (S → A → Option β) → Option β
  | [], s, α, k => k s α
  | o :: rest, s, α, k => opA P call n ops o s α fun _ s α => opsA call n ops rest s α k

def drawGoA (call : CallFA β) (n : Nat) (ops : List Oper) : List Oper → List FP → S → A → (List FP → S → A → Option β) → Option β
  | [], fps, s, α, k => k fps s α
  | o :: rest, fps, ⟨sl, hp, nx, _⟩, α, k => opA P call n ops o ⟨sl, hp, nx, []⟩ α fun need s' α => match s' with
      | ⟨sl', hp', nx', lg'⟩ => drawGoA call n ops rest (fps ++ [⟨need, lg', nx, nx'⟩]) ⟨sl', hp', nx', lg'⟩ α k

def drawA (call : CallFA β) (n : Nat) (ops : List Oper) (s : S) (α : A) (k : S → A → Option β) : Option β :=
  match noRing ops ops 0 with
  | false => none
  | true => drawGoA P call n ops ops [] s α fun fps s' α =>
    match pairsAll ops ops (befs ops []) fps [] [] with
    | true => (match s, s' with | ⟨_, _, _, lg0⟩, ⟨sl, hp, nx, _⟩ => k ⟨sl, hp, nx, allLogs fps lg0⟩ α)
    | false => none

def regionA (call : CallFA β) (n : Nat) (ops : List Oper) (draw : Bool) (s : S) (α : A) (k : S → A → Option β) : Option β :=
  match draw with
  | false => opsA P call n ops ops s α k
  | true => drawA P call n ops s α k

def backA (fn : Func) (s : S) (k : RV → S → A → Option β) (x : X) (s' : S) (α : A) : Option β :=
  match x with
  | .exit _ => none
  | _ => match resOf P fn.ntmps s' fn.results.toList with
    | some l => wRV (resRV l) fun v => match s, s' with
      | ⟨sl, _, _, _⟩, ⟨_, hp, nx, lg⟩ => k v ⟨sl, hp, nx, lg⟩ α
    | none => none

def bodyA (ex : ExecFA β) (fn : Func) (c : Code) (args : List RV) (s : S) (α : A) (k : RV → S → A → Option β) : Option β :=
  match s with
  | ⟨sl0, hp, nx, lg⟩ => setArgs fn.ntmps args 0 .nil fun sl => ex fn.ntmps c ⟨sl, hp, nx, lg⟩ α (backA P fn ⟨sl0, hp, nx, lg⟩ k)

def callByA (ex : ExecFA β) : CallFA β := fun g args s α k =>
  match P.funcs[g]? with
  | none => none
  | some fn => match Nat.blt g YB with
    | false => none
    | true => match fn.body with
      | none => none
      | some c => match Sg g with
        | some sm => match sm args s.hp s.nx with
          | some (v, hp, nx, lg, ps) => (match s, α with | ⟨sl, _, _, lg0⟩, ⟨n, orc, ob⟩ => k v ⟨sl, hp, nx, lg ++ lg0⟩ ⟨n, orc, ps ++ ob⟩)
          | none => bodyA P ex fn c args s α k
        | none => bodyA P ex fn c args s α k

def seqA (ex : ExecFA β) (n : Nat) (b : Code) (k : X → S → A → Option β) (x : X) (s : S) (α : A) : Option β :=
  match x with
  | .normal => ex n b s α k
  | x => k x s α

def blockA (id : Nat) (k : X → S → A → Option β) (x : X) (s : S) (α : A) : Option β :=
  match x with
  | .exit j => if j = id then k .normal s α else k (.exit j) s α
  | x => k x s α

def condA (ex : ExecFA β) (n : Nat) (c : Operand) (a b : Code) (s : S) (α : A) (k : X → S → A → Option β) : Option β :=
  match eval n s.sl c with
  | some (.one (.c (.bool t))) => ask α t fun t α => refC n c t s α fun s => Bool.rec (ex n b s α k) (ex n a s α k) t
  | _ => none

def codeA (ex : ExecFA β) (n : Nat) (c : Code) (s : S) (α : A) (k : X → S → A → Option β) : Option β :=
  match c with
  | .skip => k .normal s α
  | .ret => k .ret s α
  | .exit id => k (.exit id) s α
  | .seq a b => ex n a s α (seqA ex n b k)
  | .cond c a b => condA ex n c a b s α k
  | .block id c => ex n c s α (blockA id k)
  | .loop c => ex n c s α (seqA ex n (.loop c) k)
  | .region _ ops draw => regionA P (callByA P Sg ex) n ops.toList draw s α (k .normal)
  | _ => none

def execA (f : Nat) : ExecFA β := Nat.rec (fun _ _ _ _ _ => none) (fun _ ih n c s α k => codeA P Sg ih n c s α k) f

def runA (fuel : Nat) (g : FuncId) (args : List RV) (s : S) (α : A) (k : RV → S → A → Option β) : Option β :=
  match P.funcs[g]? with
  | none => none
  | some fn => match fn.body with
    | none => none
    | some c => bodyA P (execA P Sg fuel) fn c args s α k
end defs
end
end Go.Sx

namespace Go.Sx
section
variable {β : Type} {γ : Type}

def Ok1 (α : A) (k : γ → A → Option β) (r : β) (g : γ → Prop) : Prop := ∃ v α', k v α' = some r ∧ (α'.Sat → α.Sat ∧ g v)

theorem ask_ok {α : A} {t : Bool} {k : Bool → A → Option β} {r : β} (h : ask α t k = some r) : Ok1 α k r (fun b => t = b) := by
  unfold ask at h
  obtain ⟨n, orc, ob⟩ := α
  simp only at h
  split at h
  · cases t with
    | false => exact ⟨_, _, h, fun s => ⟨s, rfl⟩⟩
    | true => exact ⟨_, _, h, fun s => ⟨s, rfl⟩⟩
  · rename_i i b rest
    rw [fNat_eq] at h
    cases hb : Nat.beq i n with
    | true =>
      rw [hb] at h
      exact ⟨_, _, h, fun s => ⟨s.2, s.1⟩⟩
    | false =>
      rw [hb] at h
      cases t with
      | false => exact ⟨_, _, h, fun s => ⟨s, rfl⟩⟩
      | true => exact ⟨_, _, h, fun s => ⟨s, rfl⟩⟩

theorem chkA_ok {α : A} {p : Prop} [Decidable p] {k : A → Option β} {r : β} (h : chkA α p k = some r) : ∃ α', k α' = some r ∧ (α'.Sat → α.Sat ∧ p) := by
  unfold chkA at h
  obtain ⟨b, α', h1, h2⟩ := ask_ok h
  cases b with
  | false => cases h1
  | true => exact ⟨α', h1, fun s => ⟨(h2 s).1, of_decide_eq_true (h2 s).2⟩⟩

theorem optA_ok {x : Option γ} {α : A} {k : γ → A → Option β} {r : β} (h : optA x α k = some r) : ∃ v, x = some v ∧ k v α = some r := by
  unfold optA at h
  split at h <;> try (cases h; done)
  exact ⟨_, rfl, h⟩

theorem optA_ok1 {x : Option γ} {α : A} {k : γ → A → Option β} {r : β} (h : optA x α k = some r) : Ok1 α k r (fun v => x = some v) := by
  obtain ⟨v, h1, h2⟩ := optA_ok h
  exact ⟨v, α, h2, fun s => ⟨s, h1⟩⟩

theorem getA_ok {b : Body} {off : Nat} {t : TK} {α : A} {k : AV → A → Option β} {r : β} (h : b.getA off t α k = some r) : Ok1 α k r (fun v => b.get off t = some v) := by
  unfold Body.getA at h
  split at h
  · obtain ⟨α', h1, h2⟩ := chkA_ok h
    exact ⟨_, α', h1, fun s => ⟨(h2 s).1, by simp only [Body.get]; rw [if_pos (h2 s).2]⟩⟩
  · split at h <;> try (cases h; done)
    rename_i hk
    obtain ⟨α', h1, h2⟩ := chkA_ok h
    exact ⟨_, α', h1, fun s => ⟨(h2 s).1, by simp only [Body.get]; rw [if_pos ⟨hk, (h2 s).2⟩]⟩⟩
  · obtain ⟨α', h1, h2⟩ := chkA_ok h
    exact ⟨_, α', h1, fun s => ⟨(h2 s).1, by simp only [Body.get]; rw [if_pos (h2 s).2]⟩⟩
  · exact optA_ok1 h

theorem setA_ok {b : Body} {off : Nat} {v : AV} {α : A} {k : Body → A → Option β} {r : β} (h : b.setA off v α k = some r) : Ok1 α k r (fun b' => b.set off v = some b') := by
  unfold Body.setA at h
  split at h
  · split at h <;> try (cases h; done)
    rename_i hk
    obtain ⟨α', h1, h2⟩ := chkA_ok h
    exact ⟨_, α', h1, fun s => ⟨(h2 s).1, by simp only [Body.set]; rw [if_pos ⟨hk, (h2 s).2⟩]⟩⟩
  · split at h <;> try (cases h; done)
    rename_i hk
    obtain ⟨α', h1, h2⟩ := chkA_ok h
    exact ⟨_, α', h1, fun s => ⟨(h2 s).1, by simp only [Body.set]; rw [if_pos ⟨hk, (h2 s).2⟩]⟩⟩
  · obtain ⟨α', h1, h2⟩ := chkA_ok h
    exact ⟨_, α', h1, fun s => ⟨(h2 s).1, by simp only [Body.set]; rw [if_pos (h2 s).2]⟩⟩
  · exact optA_ok1 h

theorem idxA_ok {i : Int} {len : Nat} {α : A} {k : Nat → A → Option β} {r : β} (h : idxA i len α k = some r) : Ok1 α k r (fun j => idx i len = some j) := by
  unfold idxA at h
  obtain ⟨α', h1, h2⟩ := chkA_ok h
  refine ⟨_, α', h1, fun s => ⟨(h2 s).1, ?_⟩⟩
  obtain ⟨p1, p2⟩ := (h2 s).2
  obtain ⟨m, rfl⟩ := Int.eq_ofNat_of_zero_le p1
  show (if m < len then some m else none) = _
  rw [if_pos (by omega)]; rfl

abbrev OkR (α : A) (k : Res → A → Option β) (r : β) (x : Option Res) : Prop := Ok1 α k r (fun v => x = some v)

theorem stLoadA_ok {P : Program} {ev : Ev} {hp : Hp} {t : TypeId} {a : Operand} {α : A} {k : Res → A → Option β} {r : β} (h : stLoadA P ev hp t a α k = some r) : OkR α k r (stLoad P ev hp t a) := by
  unfold stLoadA at h
  split at h <;> try (cases h; done)
  rename_i nm off e1
  split at h <;> try (cases h; done)
  rename_i kd e2
  split at h
  · rename_i b e3
    obtain ⟨v, α', h1, h2⟩ := getA_ok h
    exact ⟨_, α', h1, fun s => ⟨(h2 s).1, by simp only [stLoad, e1, e2, e3, (h2 s).2]⟩⟩
  · rename_i e3
    split at h <;> try (cases h; done)
    rename_i o ks l m e4
    obtain ⟨α', h1, h2⟩ := chkA_ok h
    exact ⟨_, α', h1, fun s => ⟨(h2 s).1, by simp only [stLoad, e1, e2, e3, recGet, e4]; rw [if_pos (h2 s).2]⟩⟩

theorem stLoadVA_ok {P : Program} {ev : Ev} {hp : Hp} {t : TypeId} {a : Operand} {α : A} {k : Res → A → Option β} {r : β} (h : stLoadVA P ev hp t a α k = some r) : OkR α k r (stLoadV P ev hp t a) := by
  unfold stLoadVA at h
  split at h
  · rename_i l i e1
    unfold loadVA at h
    split at h <;> try (cases h; done)
    rename_i e2
    obtain ⟨α', h1, h2⟩ := chkA_ok h
    exact ⟨_, _, h1, fun s => ⟨(h2 s).1, by simp only [stLoadV, e1, e2, loadV]; rw [if_pos (h2 s).2]⟩⟩
  · rename_i e1
    obtain ⟨v, α', h1, h2⟩ := stLoadA_ok h
    exact ⟨v, α', h1, fun s => ⟨(h2 s).1, by simp only [stLoadV, e1, (h2 s).2]⟩⟩

theorem stStoreA_ok {P : Program} {ev : Ev} {hp : Hp} {t : TypeId} {a x : Operand} {α : A} {k : Res → A → Option β} {r : β} (h : stStoreA P ev hp t a x α k = some r) : OkR α k r (stStore P ev hp t a x) := by
  unfold stStoreA at h
  split at h <;> try (cases h; done)
  rename_i nm off e1
  split at h <;> try (cases h; done)
  rename_i v e2
  split at h <;> try (cases h; done)
  rename_i ti e3
  split at h <;> try (cases h; done)
  rename_i e4
  split at h <;> try (cases h; done)
  rename_i ty o b e5
  obtain ⟨v, α', h1, h2⟩ := setA_ok h
  exact ⟨_, α', h1, fun s => ⟨(h2 s).1, by simp only [stStore, e1, e2, e3, if_pos e4, setAt, e5, (h2 s).2]⟩⟩

theorem slicePartsA_ok {c : Cell} {sz : Nat} {α : A} {k : Option (Nat × Nat × Nat) → A → Option β} {r : β} (h : slicePartsA c sz α k = some r) : Ok1 α k r (fun v => sliceParts c sz = some v) := by
  unfold slicePartsA at h
  split at h
  · obtain ⟨α', h1, h2⟩ := chkA_ok h
    split at h1 <;> try (cases h1; done)
    rename_i e
    exact ⟨_, α', h1, fun s => ⟨(h2 s).1, by simp only [sliceParts]; rw [if_pos ⟨e, (h2 s).2⟩]⟩⟩
  · exact optA_ok1 h

theorem ixArrA_ok {P : Program} {e : TypeId} {nm off len : Nat} {i : Int} {α : A} {k : Res → A → Option β} {r : β} (h : ixArrA P e nm off len i α k = some r) : OkR α k r (ixArr P e nm off len i) := by
  unfold ixArrA at h
  split at h <;> try (cases h; done)
  rename_i ti e1
  obtain ⟨v, α', h1, h2⟩ := idxA_ok h
  exact ⟨_, α', h1, fun s => ⟨(h2 s).1, by simp only [ixArr, e1, (h2 s).2, quiet]⟩⟩

theorem ixSlA_ok {P : Program} {e : TypeId} {x : Cell} {i : Int} {α : A} {k : Res → A → Option β} {r : β} (h : ixSlA P e x i α k = some r) : OkR α k r (ixSl P e x i) := by
  unfold ixSlA at h
  split at h <;> try (cases h; done)
  rename_i ti e1
  split at h
  · rename_i l e2
    split at h <;> try (cases h; done)
    rename_i e3
    obtain ⟨j, α', h1, h2⟩ := idxA_ok h
    refine ⟨_, α', h1, fun s => ⟨(h2 s).1, ?_⟩⟩
    unfold vslOf at e2
    split at e2 <;> try (cases e2; done)
    simp only [Option.some.injEq] at e2; subst e2
    simp only [ixSl, e1, sliceParts, ixV, if_pos e3, (h2 s).2, quiet]
  obtain ⟨p, α', h1, h2⟩ := slicePartsA_ok h
  cases p with
  | none => cases h1
  | some p =>
  obtain ⟨nm, off, len⟩ := p
  obtain ⟨v, α'', h3, h4⟩ := idxA_ok h1
  exact ⟨_, α'', h3, fun s => ⟨(h2 (h4 s).1).1, by simp only [ixSl, e1, (h2 (h4 s).1).2, (h4 s).2, quiet]⟩⟩

theorem stIndexAddrA_ok {P : Program} {ev : Ev} {t : TypeId} {x i : Operand} {α : A} {k : Res → A → Option β} {r : β} (h : stIndexAddrA P ev t x i α k = some r) : OkR α k r (stIndexAddr P ev t x i) := by
  unfold stIndexAddrA at h
  split at h <;> try (cases h; done)
  rename_i e1
  split at h <;> try (cases h; done)
  rename_i x e2
  split at h <;> try (cases h; done)
  · rename_i len e e3
    split at h <;> try (cases h; done)
    obtain ⟨v, α', h1, h2⟩ := ixArrA_ok h
    exact ⟨_, α', h1, fun s => ⟨(h2 s).1, by simp only [stIndexAddr, e1, e2, e3, (h2 s).2]⟩⟩
  · rename_i e e3
    obtain ⟨v, α', h1, h2⟩ := ixSlA_ok h
    exact ⟨_, α', h1, fun s => ⟨(h2 s).1, by simp only [stIndexAddr, e1, e2, e3, (h2 s).2]⟩⟩

theorem strAtA_ok {st : ByteArray} {i : Int} {α : A} {k : Res → A → Option β} {r : β} (h : strAtA st i α k = some r) : OkR α k r (strAt (.c (.str st)) i) := by
  unfold strAtA at h
  obtain ⟨j, α', h1, h2⟩ := idxA_ok h
  refine ⟨_, _, h1, fun s => ⟨(h2 s).1, ?_⟩⟩
  have hj := (h2 s).2
  have hlt := (idx_ok hj).2
  have e : st[j]? = some (byteAt st j) := by
    unfold byteAt
    rw [getElem?_pos st j hlt]
  simp only [strAt, hj, e, quiet]

theorem stIndexA_ok {P : Program} {ev : Ev} {t : TypeId} {x i : Operand} {α : A} {k : Res → A → Option β} {r : β} (h : stIndexA P ev t x i α k = some r) : OkR α k r (stIndex P ev t x i) := by
  unfold stIndexA at h
  split at h <;> try (cases h; done)
  rename_i e1
  split at h <;> try (cases h; done)
  rename_i x e2
  split at h <;> try (cases h; done)
  rotate_left
  · rename_i e3
    split at h <;> try (cases h; done)
    obtain ⟨v, α', h1, h2⟩ := strAtA_ok h
    exact ⟨_, α', h1, fun s => ⟨(h2 s).1, by simp only [stIndex, e1, e2, e3, (h2 s).2]⟩⟩
  rename_i len e e3
  split at h <;> try (cases h; done)
  rename_i ti e4
  split at h <;> try (cases h; done)
  rename_i kd e5
  split at h <;> try (cases h; done)
  rename_i e6
  obtain ⟨j, α', h1, h2⟩ := idxA_ok h
  obtain ⟨v, α'', h3, h4⟩ := getA_ok h1
  exact ⟨_, α'', h3, fun s => ⟨(h2 (h4 s).1).1, by simp only [stIndex, e1, e2, e3, e4, e5, (h2 (h4 s).1).2, if_pos e6, (h4 s).2, qOpt, quiet]⟩⟩

theorem binIntA_ok {op : BinOp} {kd : IntKind} {a b : Int} {α : A} {k : Cell → A → Option β} {r : β} (h : binIntA op kd a b α k = some r) : Ok1 α k r (fun c => binInt op kd a b = some c) := by
  unfold binIntA at h
  split at h
  · obtain ⟨α', h1, h2⟩ := chkA_ok h
    exact ⟨_, α', h1, fun s => ⟨(h2 s).1, by simp only [binInt, if_neg (h2 s).2]⟩⟩
  · obtain ⟨α', h1, h2⟩ := chkA_ok h
    exact ⟨_, α', h1, fun s => ⟨(h2 s).1, by simp only [binInt, if_neg (h2 s).2]⟩⟩
  · exact optA_ok1 h

theorem shiftResA_ok {op : BinOp} {kd : IntKind} {a b : Int} {α : A} {k : AV → A → Option β} {r : β} (h : shiftResA op kd a b α k = some r) : Ok1 α k r (fun c => shiftRes op kd a b = some c) := by
  unfold shiftResA at h
  split at h
  · obtain ⟨α', h1, h2⟩ := chkA_ok h
    exact ⟨_, α', h1, fun s => ⟨(h2 s).1, by simp only [shiftRes, if_neg (h2 s).2]⟩⟩
  · obtain ⟨α', h1, h2⟩ := chkA_ok h
    exact ⟨_, α', h1, fun s => ⟨(h2 s).1, by simp only [shiftRes, if_neg (h2 s).2]⟩⟩
  · cases h

theorem intResA_ok {op : BinOp} {kd : IntKind} {a : Int} {k' : IntKind} {b : Int} {α : A} {k : AV → A → Option β} {r : β} (h : intResA op kd a k' b α k = some r) : Ok1 α k r (fun c => intRes op kd a k' b = some c) := by
  unfold intResA at h
  split at h
  · rename_i e
    obtain ⟨v, α', h1, h2⟩ := shiftResA_ok h
    exact ⟨_, α', h1, fun s => ⟨(h2 s).1, by simp only [intRes, e, (h2 s).2]⟩⟩
  · rename_i e
    split at h <;> try (cases h; done)
    rename_i hk
    obtain ⟨v, α', h1, h2⟩ := binIntA_ok h
    exact ⟨_, α', h1, fun s => ⟨(h2 s).1, by simp only [intRes, e, if_pos hk, (h2 s).2]⟩⟩

theorem binResA_ok {P : Program} {op : BinOp} {t : TypeId} {x y : AV} {α : A} {k : AV → A → Option β} {r : β} (h : binResA P op t x y α k = some r) : Ok1 α k r (fun c => binRes P op t x y = some c) := by
  unfold binResA at h
  split at h
  · obtain ⟨v, α', h1, h2⟩ := intResA_ok h
    exact ⟨_, α', h1, fun s => ⟨(h2 s).1, by simp only [binRes, (h2 s).2]⟩⟩
  · exact optA_ok1 h

theorem stBinA_ok {P : Program} {ev : Ev} {op : BinOp} {t : TypeId} {x y : Operand} {α : A} {k : Res → A → Option β} {r : β} (h : stBinA P ev op t x y α k = some r) : OkR α k r (stBin P ev op t x y) := by
  unfold stBinA at h
  split at h <;> try (cases h; done)
  rename_i e1
  split at h <;> try (cases h; done)
  rename_i e2
  obtain ⟨v, α', h1, h2⟩ := binResA_ok h
  exact ⟨_, α', h1, fun s => ⟨(h2 s).1, by simp only [stBin, e1, e2, (h2 s).2, qOpt, quiet]⟩⟩

theorem findKeyA_ok {kc : Cell} {r : β} {k : Option (Nat × AV) → A → Option β} : ∀ {es : List (Cell × AV)} {i : Nat} {α : A}, findKeyA kc es i α k = some r → Ok1 α k r (fun v => findKey kc es i = some v)
  | [], i, α, h => ⟨_, _, h, fun s => ⟨s, rfl⟩⟩
  | (c, v) :: es, i, α, h => by
    unfold findKeyA at h
    split at h <;> try (cases h; done)
    rename_i t e1
    obtain ⟨b, α', h1, h2⟩ := ask_ok h
    cases b with
    | false =>
      obtain ⟨v', α'', h3, h4⟩ := findKeyA_ok h1
      exact ⟨_, _, h3, fun s => ⟨(h2 (h4 s).1).1, by simp only [findKey, e1, (h2 (h4 s).1).2, (h4 s).2]⟩⟩
    | true => exact ⟨_, _, h1, fun s => ⟨(h2 s).1, by simp only [findKey, e1, (h2 s).2]⟩⟩

theorem zI_ok {vk : Option IntKind} {z : AV} (h : zI vk z = true) : z = .c (valI vk 0) := by
  unfold zI at h
  split at h
  · simp only [Bool.and_eq_true, decide_eq_true_eq] at h
    obtain ⟨rfl, rfl⟩ := h; rfl
  · simp only [Bool.not_eq_true'] at h; subst h; rfl
  · cases h
theorem getI_none {l : List (Int × Int)} {k : Int} (h : hasI l k = false) : getI l k = 0 := by
  induction l with
  | nil => rfl
  | cons p r ih =>
    obtain ⟨a, b⟩ := p
    simp only [hasI, getI] at h ⊢
    by_cases e : a = k
    · rw [if_pos e] at h; cases h
    · rw [if_neg e] at h ⊢; exact ih h

theorem mapPof_no {hp : Hp} {m : Cell} {x : List (Cell × AV) × List Nat} (h : mapEs hp m = some x) : mapPof hp m = none := by
  unfold mapEs at h
  unfold mapPof
  split at h <;> try (cases h; done)
  · rfl
  · split at h <;> try (cases h; done)
    all_goals
      rename_i e
      simp only [e]
theorem stLookupA_ok {P : Program} {ev : Ev} {hp : Hp} {t : TypeId} {m kx : Operand} {ok : Bool} {α : A} {k : Res → A → Option β} {r : β} (h : stLookupA P ev hp t m kx ok α k = some r) : OkR α k r (stLookup P ev hp t m kx ok) := by
  unfold stLookupA at h
  split at h <;> try (cases h; done)
  rename_i kt e e1
  split at h <;> try (cases h; done)
  rename_i m' e2
  split at h <;> try (cases h; done)
  rename_i kc e3
  split at h <;> try (cases h; done)
  rename_i z e4
  split at h
  · rename_i nm v t e5
    split at h <;> try (cases h; done)
    rename_i e6
    exact ⟨_, _, h, fun s => ⟨s, by simp only [stLookup, e1, e2, e3, e4, e5, if_pos e6]⟩⟩
  rename_i e5v
  split at h
  · rename_i nm vk l e5
    split at h <;> try (cases h; done)
    rename_i kn
    split at h <;> try (cases h; done)
    rename_i e6
    have e7 : mapEs hp m' = some (toEs vk l, [nm]) := by
      unfold mapIof at e5
      split at e5 <;> try (cases e5; done)
      split at e5 <;> try (cases e5; done)
      rename_i e8
      cases e5
      simp only [mapEs, e8]
    refine ⟨_, _, h, fun s => ⟨s, ?_⟩⟩
    simp only [stLookup, e1, e2, e3, e4, e5v, mapPof_no e7, e7, if_pos e6.2, findKey_I]
    cases hh : hasI l kn with
    | true => simp only [if_true, lookRes]
    | false =>
      simp only [Bool.false_eq_true, if_false, lookRes]
      rw [getI_none hh, ← zI_ok e6.1]
  · split at h <;> try (cases h; done)
    rename_i es nd e5
    split at h <;> try (cases h; done)
    rename_i e6
    obtain ⟨v, α', h1, h2⟩ := findKeyA_ok h
    obtain ⟨v', h3, h4⟩ := optA_ok h1
    exact ⟨_, _, h4, fun s => ⟨(h2 s).1, by simp only [stLookup, e1, e2, e3, e4, e5v, mapPof_no e5, e5, if_pos e6, (h2 s).2, h3]⟩⟩

theorem stMapUpdateA_ok {P : Program} {ev : Ev} {hp : Hp} {t : TypeId} {m kx x : Operand} {α : A} {k : Res → A → Option β} {r : β} (h : stMapUpdateA P ev hp t m kx x α k = some r) : OkR α k r (stMapUpdate P ev hp t m kx x) := by
  unfold stMapUpdateA at h
  split at h <;> try (cases h; done)
  rename_i nm e2
  split at h <;> try (cases h; done)
  rename_i kc e3
  split at h <;> try (cases h; done)
  rename_i v e4
  split at h <;> try (cases h; done)
  · rename_i es e5
    split at h <;> try (cases h; done)
    rename_i e6
    obtain ⟨v, α', h1, h2⟩ := findKeyA_ok h
    obtain ⟨v', h3, h4⟩ := optA_ok h1
    exact ⟨_, _, h4, fun s => ⟨(h2 s).1, by simp only [stMapUpdate, e2, e3, e4, e5, if_pos e6, (h2 s).2, h3]⟩⟩
  · rename_i vk l e5
    split at h <;> try (cases h; done)
    rename_i e6
    obtain ⟨v', h3, h4⟩ := optA_ok h
    exact ⟨_, _, h4, fun s => ⟨s, by simp only [stMapUpdate, e2, e3, e4, e5, if_pos e6, h3]⟩⟩
  · rename_i l e5
    split at h <;> try (cases h; done)
    rename_i e6
    obtain ⟨v', h3, h4⟩ := optA_ok h
    exact ⟨_, _, h4, fun s => ⟨s, by simp only [stMapUpdate, e2, e3, e4, e5, if_pos e6, h3]⟩⟩
  · rename_i l e5
    split at h <;> try (cases h; done)
    rename_i e6
    obtain ⟨v', h3, h4⟩ := optA_ok h
    exact ⟨_, _, h4, fun s => ⟨s, by simp only [stMapUpdate, e2, e3, e4, e5, if_pos e6, h3]⟩⟩

theorem sboundA_ok {x : Option RV} {lo hi d : Nat} {α : A} {k : Nat → A → Option β} {r : β} (h : sboundA x lo hi d α k = some r) : Ok1 α k r (fun v => sbound x lo hi d = some v) := by
  unfold sboundA at h
  split at h
  · exact ⟨_, _, h, fun s => ⟨s, rfl⟩⟩
  · rename_i kd i
    obtain ⟨α', h1, h2⟩ := chkA_ok h
    refine ⟨_, _, h1, fun s => ⟨(h2 s).1, ?_⟩⟩
    obtain ⟨p1, p2⟩ := (h2 s).2
    obtain ⟨m, rfl⟩ := Int.eq_ofNat_of_zero_le (show 0 ≤ i by omega)
    show (if lo ≤ m ∧ m ≤ hi then some m else none) = _
    rw [if_pos (by omega)]; rfl
  · cases h

theorem sliceCellA_ok {sz : Nat} {x : Cell} {lo hi : Option RV} {α : A} {k : Cell → A → Option β} {r : β} (h : sliceCellA sz x lo hi α k = some r) : Ok1 α k r (fun v => sliceCell sz x lo hi = some v) := by
  unfold sliceCellA at h
  split at h
  · obtain ⟨v, α', h1, h2⟩ := sboundA_ok h
    obtain ⟨u, α'', h3, h4⟩ := sboundA_ok h1
    exact ⟨_, _, h3, fun s => ⟨(h2 (h4 s).1).1, by simp only [sliceCell, (h2 (h4 s).1).2, (h4 s).2]⟩⟩
  · obtain ⟨v, α', h1, h2⟩ := sboundA_ok h
    obtain ⟨u, α'', h3, h4⟩ := sboundA_ok h1
    split at h3 <;> try (cases h3; done)
    rename_i e
    exact ⟨_, _, h3, fun s => ⟨(h2 (h4 s).1).1, by simp only [sliceCell, (h2 (h4 s).1).2, (h4 s).2, if_pos e]⟩⟩
  · exact optA_ok1 h

theorem slArrA_ok {P : Program} {n : Nat} {e : TypeId} {nm off : Nat} {lo hi : Option RV} {α : A} {k : Res → A → Option β} {r : β} (h : slArrA P n e nm off lo hi α k = some r) : OkR α k r (slArr P n e nm off lo hi) := by
  unfold slArrA at h
  split at h <;> try (cases h; done)
  rename_i ti e1
  obtain ⟨v, α', h1, h2⟩ := sliceCellA_ok h
  exact ⟨_, α', h1, fun s => ⟨(h2 s).1, by simp only [slArr, e1, (h2 s).2, cOpt, quiet]⟩⟩

theorem slSlA_ok {P : Program} {e : TypeId} {x : Cell} {lo hi : Option RV} {α : A} {k : Res → A → Option β} {r : β} (h : slSlA P e x lo hi α k = some r) : OkR α k r (slSl P e x lo hi) := by
  unfold slSlA at h
  split at h <;> try (cases h; done)
  rename_i ti e1
  obtain ⟨v, α', h1, h2⟩ := sliceCellA_ok h
  exact ⟨_, α', h1, fun s => ⟨(h2 s).1, by simp only [slSl, e1, (h2 s).2, cOpt, quiet]⟩⟩

theorem slStrA_ok {st : ByteArray} {lo hi : Option RV} {α : A} {k : Res → A → Option β} {r : β} (h : slStrA st lo hi α k = some r) : OkR α k r (slStr st lo hi) := by
  unfold slStrA at h
  obtain ⟨v, α', h1, h2⟩ := sboundA_ok h
  obtain ⟨u, α'', h3, h4⟩ := sboundA_ok h1
  exact ⟨_, _, h3, fun s => ⟨(h2 (h4 s).1).1, by simp only [slStr, (h2 (h4 s).1).2, (h4 s).2, quiet]⟩⟩
theorem stNextA_ok {ev : Ev} {hp : Hp} {x : Operand} {b : Bool} {α : A} {k : Res → A → Option β} {r : β} (h : stNextA ev hp x b α k = some r) : OkR α k r (stNext ev hp x b) := by
  unfold stNextA at h
  split at h <;> try (cases h; done)
  rename_i e1
  split at h <;> try (cases h; done)
  rename_i e2
  obtain ⟨t, α', h1, h2⟩ := ask_ok h
  cases t with
  | false => exact ⟨_, _, h1, fun s => ⟨(h2 s).1, by simp only [stNext, e1, e2, (h2 s).2]⟩⟩
  | true => exact ⟨_, _, h1, fun s => ⟨(h2 s).1, by simp only [stNext, e1, e2, (h2 s).2]⟩⟩

theorem stSliceA_ok {P : Program} {ev : Ev} {t : TypeId} {x : Operand} {lo hi mx : Option Operand} {α : A} {k : Res → A → Option β} {r : β} (h : stSliceA P ev t x lo hi mx α k = some r) : OkR α k r (stSlice P ev t x lo hi mx) := by
  unfold stSliceA at h
  split at h
  · rename_i mx
    obtain ⟨v, h1, h2⟩ := optA_ok h
    exact ⟨_, _, h2, fun s => ⟨s, by simp only [stSlice, h1]⟩⟩
  split at h <;> try (cases h; done)
  rename_i e1
  split at h <;> try (cases h; done)
  rename_i e2
  split at h <;> try (cases h; done)
  rename_i x e3
  split at h <;> try (cases h; done)
  · rename_i len e e4
    split at h <;> try (cases h; done)
    obtain ⟨v, α', h1, h2⟩ := slArrA_ok h
    exact ⟨_, α', h1, fun s => ⟨(h2 s).1, by simp only [stSlice, e1, e2, e3, e4, (h2 s).2]⟩⟩
  · rename_i e e4
    obtain ⟨v, α', h1, h2⟩ := slSlA_ok h
    exact ⟨_, α', h1, fun s => ⟨(h2 s).1, by simp only [stSlice, e1, e2, e3, e4, (h2 s).2]⟩⟩
  · rename_i arr e4
    split at h <;> try (cases h; done)
    split at h <;> try (cases h; done)
    rename_i e5
    obtain ⟨v, α', h1, h2⟩ := slArrA_ok h
    exact ⟨_, α', h1, fun s => ⟨(h2 s).1, by simp only [stSlice, e1, e2, e3, e4, e5, (h2 s).2]⟩⟩
  · rename_i e4
    split at h <;> try (cases h; done)
    obtain ⟨v, α', h1, h2⟩ := slStrA_ok h
    exact ⟨_, α', h1, fun s => ⟨(h2 s).1, by simp only [stSlice, e1, e2, e3, e4, (h2 s).2]⟩⟩

theorem stMakeSliceA_ok {P : Program} {ev : Ev} {nx : Nat} {t : TypeId} {l c : Operand} {α : A} {k : Res → A → Option β} {r : β} (h : stMakeSliceA P ev nx t l c α k = some r) : OkR α k r (stMakeSlice P ev nx t l c) := by
  unfold stMakeSliceA at h
  split at h <;> try (cases h; done)
  rename_i e e1
  split at h <;> try (cases h; done)
  rename_i n e2
  split at h <;> try (cases h; done)
  rename_i m e3
  split at h <;> try (cases h; done)
  rename_i z e4
  split at h <;> try (cases h; done)
  rename_i ti e5
  obtain ⟨α', h1, h2⟩ := chkA_ok h
  split at h1 <;> try (cases h1; done)
  rename_i e6
  refine ⟨_, α', h1, fun s => ⟨(h2 s).1, ?_⟩⟩
  obtain ⟨p1, p2, p3, p4⟩ := (h2 s).2
  subst p2
  obtain ⟨m, rfl⟩ := Int.eq_ofNat_of_zero_le p1
  simp only [Int.toNat_natCast] at p3 p4
  simp only [stMakeSlice, e1, e2, e3, e4, e5]
  rw [show ((m : Nat) : Int) = Int.ofNat m from rfl]
  rw [if_pos ⟨Nat.le_refl _, p3, p4, e6⟩]
  rfl

theorem cutA_ok {b : Body} {off n : Nat} {α : A} {k : Body → A → Option β} {r : β} (h : b.cutA off n α k = some r) : Ok1 α k r (fun v => b.cut off n = some v) := by
  unfold Body.cutA at h
  split at h
  · obtain ⟨α', h1, h2⟩ := chkA_ok h
    exact ⟨_, α', h1, fun s => ⟨(h2 s).1, by simp only [Body.cut]; rw [if_pos (h2 s).2]⟩⟩
  · obtain ⟨α', h1, h2⟩ := chkA_ok h
    exact ⟨_, α', h1, fun s => ⟨(h2 s).1, by simp only [Body.cut]; rw [if_pos (h2 s).2]⟩⟩
  · exact optA_ok1 h

theorem putA_ok {b : Body} {off : Nat} {x : Body} {α : A} {k : Body → A → Option β} {r : β} (h : b.putA off x α k = some r) : Ok1 α k r (fun v => b.put off x = some v) := by
  unfold Body.putA at h
  split at h
  · split at h <;> try (cases h; done)
    rename_i hk
    obtain ⟨α', h1, h2⟩ := chkA_ok h
    exact ⟨_, α', h1, fun s => ⟨(h2 s).1, by simp only [Body.put]; rw [if_pos ⟨hk, (h2 s).2⟩]⟩⟩
  · exact optA_ok1 h

theorem rowOrWinA_ok {hp : Nat → Option Blk} {nm off n : Nat} {α : A} {k : Body → A → Option β} {r : β} (h : rowOrWinA hp nm off n α k = some r) : Ok1 α k r (fun v => rowOrWin hp nm off n = some v) := by
  unfold rowOrWinA at h
  split at h <;> try (cases h; done)
  · rename_i e
    obtain ⟨v, α', h1, h2⟩ := cutA_ok h
    exact ⟨_, _, h1, fun s => ⟨(h2 s).1, by simp only [rowOrWin, e, (h2 s).2]⟩⟩
  · rename_i e
    obtain ⟨α', h1, h2⟩ := chkA_ok h
    exact ⟨_, _, h1, fun s => ⟨(h2 s).1, by simp only [rowOrWin, e]; rw [if_pos (h2 s).2]⟩⟩

theorem srcBodyA_ok {hp : Nat → Option Blk} {sz : Nat} {n : Option Nat} {x : Cell} {α : A} {k : Option Nat × Nat × Option Body → A → Option β} {r : β} (h : srcBodyA hp sz n x α k = some r) : Ok1 α k r (fun v => srcBody hp sz n x = some v) := by
  unfold srcBodyA at h
  split at h
  · exact optA_ok1 h
  · rename_i hns
    obtain ⟨p, α', h1, h2⟩ := slicePartsA_ok h
    have hsb : srcBody hp sz n x = (match sliceParts x sz with
      | some none => some (none, 0, none)
      | some (some (nm, off, len)) => match rowOrWin hp nm off (lenBy n len * sz) with
        | some b => some (some nm, lenBy n len, some b)
        | none => none
      | none => none) := by
      cases x <;> first | rfl | exact absurd rfl (hns _)
    cases p with
    | none => exact ⟨_, _, h1, fun s => ⟨(h2 s).1, by rw [hsb]; simp only [(h2 s).2]⟩⟩
    | some p =>
      obtain ⟨nm, off, len⟩ := p
      simp only at h1
      obtain ⟨v, α'', h3, h4⟩ := rowOrWinA_ok h1
      exact ⟨_, _, h3, fun s => ⟨(h2 (h4 s).1).1, by rw [hsb]; simp only [(h2 (h4 s).1).2, (h4 s).2]⟩⟩

theorem copyToA_ok {hp : Nat → Option Blk} {nm off : Nat} {sb : Option Nat × Nat × Option Body} {α : A} {k : Res → A → Option β} {r : β} (h : copyToA hp nm off sb α k = some r) : OkR α k r (copyTo hp nm off (some sb)) := by
  unfold copyToA at h
  obtain ⟨fr, n, x⟩ := sb
  obtain ⟨b, α', h1, h2⟩ := ask_ok h
  cases b with
  | true =>
    refine ⟨_, _, h1, fun s => ⟨(h2 s).1, ?_⟩⟩
    have : n = 0 := Nat.eq_of_beq_eq_true (h2 s).2
    subst this
    rfl
  | false =>
    simp only at h1
    split at h1 <;> try (cases h1; done)
    rename_i x e1
    split at h1 <;> try (cases h1; done)
    rename_i t o b e2
    obtain ⟨v, α'', h3, h4⟩ := putA_ok h1
    refine ⟨_, _, h3, fun s => ⟨(h2 (h4 s).1).1, ?_⟩⟩
    have hn : Nat.beq n 0 = false := (h2 (h4 s).1).2
    cases n with
    | zero => cases hn
    | succ m => simp only [copyTo, e2, (h4 s).2]

theorem copyResA_ok {P : Program} {hp : Nat → Option Blk} {ts : Array TypeId} {d sv : RV} {α : A} {k : Res → A → Option β} {r : β} (h : copyResA P hp ts d sv α k = some r) : OkR α k r (copyRes P hp ts d sv) := by
  unfold copyResA at h
  split at h <;> try (cases h; done)
  rename_i dt d sv e0
  split at h <;> try (cases h; done)
  rename_i e e1
  split at h <;> try (cases h; done)
  rename_i ti e2
  obtain ⟨p, α', h1, h2⟩ := slicePartsA_ok h
  cases p with
  | none =>
    obtain ⟨v, h3, h4⟩ := optA_ok h1
    exact ⟨_, _, h4, fun s => ⟨(h2 s).1, h3⟩⟩
  | some p =>
    obtain ⟨nm, off, len⟩ := p
    obtain ⟨sb, α'', h3, h4⟩ := srcBodyA_ok h1
    obtain ⟨v, α3, h5, h6⟩ := copyToA_ok h3
    exact ⟨_, _, h5, fun s => ⟨(h2 (h4 (h6 s).1).1).1, by simp only [copyRes, e0, e1, e2, (h2 (h4 (h6 s).1).1).2, (h4 (h6 s).1).2, (h6 s).2]⟩⟩

theorem appSluA_ok {e : TypeId} {ti : TypeInfo} {hp : Nat → Option Blk} {nx nm sz a len : Nat} {fr : Option Nat} {n : Nat} {x : Option Body} {α : A} {k : Res → A → Option β} {r : β} (h : appSluA e ti hp nx nm sz a len fr n x α k = some r) :
    OkR α k r (appSlu e ti hp nx nm sz a len fr n x) := by
  unfold appSluA at h
  obtain ⟨b, α', h1, h2⟩ := ask_ok h
  cases b with
  | true =>
    refine ⟨_, _, h1, fun s => ⟨(h2 s).1, ?_⟩⟩
    have : n = 0 := Nat.eq_of_beq_eq_true (h2 s).2
    subst this
    rfl
  | false =>
    obtain ⟨α2, h3, h4⟩ := chkA_ok h1
    split at h3 <;> try (cases h3; done)
    rename_i e1
    split at h3 <;> try (cases h3; done)
    rename_i t sz' b e2
    split at h3 <;> try (cases h3; done)
    rename_i e3
    obtain ⟨v, α3, h5, h6⟩ := cutA_ok h3
    obtain ⟨u, h7, h8⟩ := optA_ok h5
    refine ⟨_, _, h8, fun s => ⟨(h2 (h4 (h6 s).1).1).1, ?_⟩⟩
    have hn : Nat.beq n 0 = false := (h2 (h4 (h6 s).1).1).2
    cases n with
    | zero => cases hn
    | succ m =>
      simp only [appSlu]
      rw [if_pos ⟨e1.1, e1.2, (h4 (h6 s).1).2⟩]
      simp only [e2]
      rw [if_pos e3, (h6 s).2]
      exact h7

theorem appSlA_ok {e : TypeId} {ti : TypeInfo} {hp : Nat → Option Blk} {nx nm off len cap : Nat} {fr : Option Nat} {n : Nat} {x : Option Body} {α : A} {k : Res → A → Option β} {r : β} (h : appSlA e ti hp nx nm off len cap fr n x α k = some r) :
    OkR α k r (appSl e ti hp nx nm off len cap fr n x) := by
  unfold appSlA at h
  obtain ⟨b, α', h1, h2⟩ := ask_ok h
  cases b with
  | true =>
    obtain ⟨α2, h3, h4⟩ := chkA_ok h1
    refine ⟨_, _, h3, fun s => ⟨(h2 (h4 s).1).1, ?_⟩⟩
    have : n = 0 := Nat.eq_of_beq_eq_true (h2 (h4 s).1).2
    subst this
    simp only [appSl]
    rw [if_pos (h4 s).2]
  | false =>
    obtain ⟨α2, h3, h4⟩ := chkA_ok h1
    split at h3 <;> try (cases h3; done)
    rename_i e1
    obtain ⟨v, α3, h5, h6⟩ := cutA_ok h3
    obtain ⟨u, h7, h8⟩ := optA_ok h5
    refine ⟨_, _, h8, fun s => ⟨(h2 (h4 (h6 s).1).1).1, ?_⟩⟩
    have hn : Nat.beq n 0 = false := (h2 (h4 (h6 s).1).1).2
    cases n with
    | zero => cases hn
    | succ m =>
      simp only [appSl]
      rw [if_pos (h4 (h6 s).1).2]
      unfold rowCut
      simp only [e1, (h6 s).2]
      exact h7

theorem appNilA_ok {e : TypeId} {ti : TypeInfo} {nx : Nat} {fr : Option Nat} {n : Nat} {x : Option Body} {α : A} {k : Res → A → Option β} {r : β} (h : appNilA e ti nx fr n x α k = some r) :
    OkR α k r (appNil e ti nx fr n x) := by
  unfold appNilA at h
  obtain ⟨b, α', h1, h2⟩ := ask_ok h
  cases b with
  | true =>
    refine ⟨_, _, h1, fun s => ⟨(h2 s).1, ?_⟩⟩
    have : n = 0 := Nat.eq_of_beq_eq_true (h2 s).2
    subst this
    rfl
  | false =>
    obtain ⟨α2, h3, h4⟩ := chkA_ok h1
    split at h3 <;> try (cases h3; done)
    refine ⟨_, _, h3, fun s => ⟨(h2 (h4 s).1).1, ?_⟩⟩
    have hn : Nat.beq n 0 = false := (h2 (h4 s).1).2
    cases n with
    | zero => cases hn
    | succ m =>
      simp only [appNil]
      rw [if_pos (h4 s).2]

theorem appGoA_ok {e : TypeId} {ti : TypeInfo} {hp : Nat → Option Blk} {nx : Nat} {d : Cell} {sb : Option Nat × Nat × Option Body} {α : A} {k : Res → A → Option β} {r : β} (h : appGoA e ti hp nx d sb α k = some r) :
    OkR α k r (appGo e ti hp nx d (some sb)) := by
  unfold appGoA at h
  split at h
  · exact appNilA_ok h
  · exact appSluA_ok h
  · exact appSlA_ok h
  · exact optA_ok1 h

theorem appendResA_ok {P : Program} {hp : Nat → Option Blk} {nx : Nat} {ts : Array TypeId} {d sv : RV} {α : A} {k : Res → A → Option β} {r : β} (h : appendResA P hp nx ts d sv α k = some r) : OkR α k r (appendRes P hp nx ts d sv) := by
  unfold appendResA at h
  split at h <;> try (cases h; done)
  rename_i dt d sv e0
  split at h <;> try (cases h; done)
  rename_i e e1
  split at h <;> try (cases h; done)
  rename_i ti e2
  split at h <;> try (cases h; done)
  rename_i z e3
  split at h <;> try (cases h; done)
  rename_i e4
  obtain ⟨sb, α', h1, h2⟩ := srcBodyA_ok h
  obtain ⟨v, α'', h3, h4⟩ := appGoA_ok h1
  exact ⟨_, _, h3, fun s => ⟨(h2 (h4 s).1).1, by simp only [appendRes, e0, e1, e2, e3, if_pos e4, (h2 (h4 s).1).2, (h4 s).2]⟩⟩

theorem stCallA_ok {P : Program} {ev : Ev} {hp : Hp} {nx : Nat} {c : Call} {α : A} {k : Res → A → Option β} {r : β} (h : stCallA P ev hp nx c α k = some r) : OkR α k r (stCall P ev hp nx c) := by
  unfold stCallA at h
  split at h <;> try (cases h; done)
  rename_i b e0
  split at h <;> try (cases h; done)
  rename_i l e1
  split at h
  · obtain ⟨v, α', h1, h2⟩ := copyResA_ok h
    exact ⟨_, _, h1, fun s => ⟨(h2 s).1, by simp only [stCall, e0, e1, builtinRes, (h2 s).2]⟩⟩
  · obtain ⟨v, α', h1, h2⟩ := appendResA_ok h
    exact ⟨_, _, h1, fun s => ⟨(h2 s).1, by simp only [stCall, e0, e1, builtinRes, (h2 s).2]⟩⟩
  · obtain ⟨v, h1, h2⟩ := optA_ok h
    exact ⟨_, _, h2, fun s => ⟨s, by simp only [stCall, e0, e1, h1]⟩⟩

theorem stPickA_ok {ev : Ev} {c a b : Operand} {α : A} {k : Res → A → Option β} {r : β} (h : stPickA ev c a b α k = some r) : OkR α k r (stPick ev c a b) := by
  unfold stPickA at h
  split at h <;> try (cases h; done)
  rename_i e1
  split at h <;> try (cases h; done)
  rename_i e2
  split at h <;> try (cases h; done)
  rename_i e3
  obtain ⟨t, α', h1, h2⟩ := ask_ok h
  obtain ⟨v, h3, h4⟩ := optA_ok h1
  exact ⟨_, _, h4, fun s => ⟨(h2 s).1, by simp only [stPick, e1, e2, e3, (h2 s).2, h3]⟩⟩

theorem opStepA_ok {P : Program} {ev : Ev} {hp : Hp} {nx : Nat} {o : Op} {α : A} {k : Res → A → Option β} {r : β} (h : opStepA P ev hp nx o α k = some r) : OkR α k r (opStep P ev hp nx o) := by
  unfold opStepA at h
  split at h
  · exact stPickA_ok h
  · exact stLoadVA_ok h
  · exact stStoreA_ok h
  · exact stBinA_ok h
  · exact stMakeSliceA_ok h
  · exact stSliceA_ok h
  · exact stIndexAddrA_ok h
  · exact stIndexA_ok h
  · exact stLookupA_ok h
  · exact stMapUpdateA_ok h
  · exact stMapUpdateA_ok h
  · exact stNextA_ok h
  · exact stCallA_ok h
  · exact optA_ok1 h
end
end Go.Sx

namespace Go.Sx
section
variable {β : Type}

namespace T
variable {α : Type}
theorem path_fun (x : Option α) (f : Nat) : ∀ (i : Nat) (k : T α → Option β) (r : β), path x f i k = some r →
    ∃ t, k t = some r ∧ ∀ (γ : Type) (k' : T α → Option γ), path x f i k' = k' t := by
  induction f with
  | zero => intro i k r h; simp [path] at h
  | succ f ih =>
    intro i k r h
    have E : ∀ (γ : Type) (k' : T α → Option γ), path x (f + 1) i k' = Bool.rec (motive := fun _ => Option γ) (Bool.rec (motive := fun _ => Option γ) (path x f (Nat.pred (Nat.div i 2)) fun r => k' (.node .nil none r)) (path x f (Nat.div i 2) fun l => k' (.node l none .nil)) (Nat.beq (Nat.mod i 2) 1))
      (k' (.node .nil x .nil)) (Nat.beq i 0) := fun _ _ => rfl
    rw [E] at h
    simp only [E]
    cases h0 : Nat.beq i 0 with
    | true => rw [h0] at h; exact ⟨_, h, fun _ _ => rfl⟩
    | false =>
      rw [h0] at h
      cases h1 : Nat.beq (Nat.mod i 2) 1 with
      | true =>
        rw [h1] at h
        obtain ⟨t, g1, g2⟩ := ih _ _ _ h
        exact ⟨_, g1, fun γ k' => g2 γ _⟩
      | false =>
        rw [h1] at h
        obtain ⟨t, g1, g2⟩ := ih _ _ _ h
        exact ⟨_, g1, fun γ k' => g2 γ _⟩

theorem set_fun (d : Nat) (t : T α) : ∀ (i : Nat) (x : Option α) (k : T α → Option β) (r : β), set d t i x k = some r →
    ∃ t', k t' = some r ∧ ∀ (γ : Type) (k' : T α → Option γ), set d t i x k' = k' t' := by
  induction t with
  | nil => intro i x k r h; exact path_fun x d i k r h
  | node l v rr ihl ihr =>
    intro i x k r h
    have E : ∀ (γ : Type) (k' : T α → Option γ), set d (.node l v rr) i x k' = Bool.rec (motive := fun _ => Option γ) (Bool.rec (motive := fun _ => Option γ) (set d rr (Nat.pred (Nat.div i 2)) x fun r' => k' (.node l v r')) (set d l (Nat.div i 2) x fun l' => k' (.node l' v rr)) (Nat.beq (Nat.mod i 2) 1))
      (k' (.node l x rr)) (Nat.beq i 0) := fun _ _ => rfl
    rw [E] at h
    simp only [E]
    cases h0 : Nat.beq i 0 with
    | true => rw [h0] at h; exact ⟨_, h, fun _ _ => rfl⟩
    | false =>
      rw [h0] at h
      cases h1 : Nat.beq (Nat.mod i 2) 1 with
      | true =>
        rw [h1] at h
        obtain ⟨t, g1, g2⟩ := ihl _ _ _ _ h
        exact ⟨_, g1, fun γ k' => g2 γ _⟩
      | false =>
        rw [h1] at h
        obtain ⟨t, g1, g2⟩ := ihr _ _ _ _ h
        exact ⟨_, g1, fun γ k' => g2 γ _⟩
end T

theorem wCell_eq (c : Cell) (k : Cell → Option β) : wCell c k = k c := by cases c <;> simp [wCell, fNat_eq]
theorem wCells_eq (l : List Cell) : ∀ k : List Cell → Option β, wCells l k = k l := by
  induction l with
  | nil => intro k; rfl
  | cons x l ih => intro k; simp [wCells, wCell_eq, ih]
theorem wAV_eq (v : AV) (k : AV → Option β) : wAV v k = k v := by cases v <;> simp [wAV, wCell_eq, wCells_eq]
theorem wAVs_eq (l : List AV) : ∀ k : List AV → Option β, wAVs l k = k l := by
  induction l with
  | nil => intro k; rfl
  | cons x l ih => intro k; simp [wAVs, wAV_eq, ih]
theorem wRV_eq (v : RV) (k : RV → Option β) : wRV v k = k v := by cases v <;> simp [wRV, wAV_eq, wAVs_eq]
theorem wEs_eq (l : List (Cell × AV)) : ∀ k : List (Cell × AV) → Option β, wEs l k = k l := by
  induction l with
  | nil => intro k; rfl
  | cons x l ih => intro k; cases x; simp [wEs, wAV_eq, wCell_eq, ih]
theorem wBlk_eq (b : Blk) (k : Blk → Option β) : wBlk b k = k b := by
  cases b with
  | row t ro o b => cases b <;> simp [wBlk, wCells_eq]
  | map es => simp [wBlk, wEs_eq]
  | win => rfl
  | recs => rfl
  | mapI => rfl
  | mapR => rfl
  | loop => rfl
  | iter => rfl
  | mapP => rfl
  | mapV => rfl
  | mapS => rfl
theorem applyUA_eq (u : Upd) (s : S) (k : S → Option β) : applyUA u s k = applyU false u s k := by
  obtain ⟨sl, hp, nx, lg⟩ := s
  cases u <;> simp only [applyUA, applyU, wBlk_eq, sBlk_eq]
theorem putDstA_eq (n : Nat) (d : Option Tmp) (v : RV) (s : S) (k : S → Option β) : putDstA n d v s k = putDst n d v s k := by
  obtain ⟨sl, hp, nx, lg⟩ := s
  cases d <;> rfl

theorem applyU_fun {u : Upd} {s : S} {k : S → Option β} {r : β} (h : applyU false u s k = some r) : ∃ s', k s' = some r ∧ ∀ (γ : Type) (k' : S → Option γ), applyU false u s k' = k' s' := by
  cases u with
  | none => exact ⟨s, h, fun _ _ => rfl⟩
  | new b =>
    simp only [applyU, sBlk_eq] at h ⊢
    obtain ⟨t, h1, h2⟩ := T.set_fun _ _ _ _ _ _ h
    rw [fNat_eq] at h1
    exact ⟨_, h1, fun γ k' => by rw [h2, fNat_eq]⟩
  | wr nm b =>
    simp only [applyU, sBlk_eq] at h ⊢
    cases hb : Nat.blt nm s.nx with
    | false => rw [hb] at h; cases h
    | true =>
      rw [hb] at h
      obtain ⟨t, h1, h2⟩ := T.set_fun _ _ _ _ _ _ h
      exact ⟨_, h1, fun γ k' => h2 _ _⟩
  | mv nm b =>
    simp only [applyU, sBlk_eq] at h ⊢
    cases hb : Nat.blt nm s.nx with
    | false => rw [hb] at h; cases h
    | true =>
      rw [hb] at h
      obtain ⟨t, h1, h2⟩ := T.set_fun _ _ _ _ _ _ h
      obtain ⟨t', h3, h4⟩ := T.set_fun _ _ _ _ _ _ h1
      rw [fNat_eq] at h3
      refine ⟨_, h3, fun γ k' => ?_⟩
      show T.set depth s.hp nm none _ = _
      rw [h2, h4, fNat_eq]

theorem putDst_fun {n : Nat} {d : Option Tmp} {v : RV} {s : S} {k : S → Option β} {r : β} (h : putDst n d v s k = some r) : ∃ s', k s' = some r ∧ ∀ (γ : Type) (k' : S → Option γ), putDst n d v s k' = k' s' := by
  cases d with
  | none => exact ⟨s, h, fun _ _ => rfl⟩
  | some d =>
    simp only [putDst] at h ⊢
    split at h <;> try (cases h; done)
    rename_i hlt
    obtain ⟨t, h1, h2⟩ := T.set_fun _ _ _ _ _ _ h
    exact ⟨_, h1, fun γ k' => by rw [if_pos hlt, h2]⟩

theorem setArgs_fun {n : Nat} : ∀ {args : List RV} {i : Nat} {sl : T RV} {k : T RV → Option β} {r : β}, setArgs n args i sl k = some r →
    ∃ sl', k sl' = some r ∧ ∀ (γ : Type) (k' : T RV → Option γ), setArgs n args i sl k' = k' sl'
  | [], i, sl, k, r, h => ⟨sl, h, fun _ _ => rfl⟩
  | v :: vs, i, sl, k, r, h => by
    simp only [setArgs] at h ⊢
    split at h <;> try (cases h; done)
    rename_i hlt
    obtain ⟨t, h1, h2⟩ := T.set_fun _ _ _ _ _ _ h
    obtain ⟨sl', h3, h4⟩ := setArgs_fun h1
    exact ⟨sl', h3, fun γ k' => by rw [if_pos hlt, h2, h4]⟩

def CallRel (callA : CallFA β) (call : ∀ γ : Type, CallF γ) : Prop := ∀ f args s α k r, callA f args s α k = some r →
  ∃ v s' α', k v s' α' = some r ∧ (α'.Sat → α.Sat ∧ ∀ (γ : Type) (k' : RV → S → Option γ), call γ f args s k' = k' v s')

def ExecRel (exA : ExecFA β) (ex : ∀ γ : Type, ExecF γ) : Prop := ∀ n c s α k r, exA n c s α k = some r →
  ∃ x s' α', k x s' α' = some r ∧ (α'.Sat → α.Sat ∧ ∀ (γ : Type) (k' : X → S → Option γ), ex γ n c s k' = k' x s')

variable {P : Program}

theorem plainA_ok {n : Nat} {o : Oper} {s : S} {α : A} {k : Need → S → A → Option β} {r : β} (h : plainA P n o s α k = some r) :
    ∃ nd s' α', k nd s' α' = some r ∧ (α'.Sat → α.Sat ∧ ∀ (γ : Type) (k' : Need → S → Option γ), plainRun P false n o s k' = k' nd s') := by
  unfold plainA at h
  obtain ⟨sl, hp, nx, lg⟩ := s
  simp only at h
  obtain ⟨re, α', h1, h2⟩ := opStepA_ok h
  obtain ⟨v, u, need, fz⟩ := re
  simp only [wRV_eq, applyUA_eq, putDstA_eq] at h1
  obtain ⟨s1, h3, h4⟩ := applyU_fun h1
  obtain ⟨s2, h5, h6⟩ := putDst_fun h3
  refine ⟨_, _, _, h5, fun st => ⟨(h2 st).1, fun γ k' => ?_⟩⟩
  simp only [plainRun, (h2 st).2, Bool.false_and, sRV_eq, h4, h6]

theorem guardA_ok {n : Nat} {ops : List Oper} {sl : T RV} {o : Oper} {α : A} {k : Bool → A → Option β} {r : β} (h : guardA n ops sl o α k = some r) : Ok1 α k r (fun g => guardOf n ops sl o = some g) := by
  unfold guardA at h
  unfold guardOf
  split at h
  · rename_i e; rw [e]; exact ⟨_, _, h, fun s => ⟨s, rfl⟩⟩
  · rename_i j want e
    rw [e]
    simp only
    split at h <;> try (cases h; done)
    rename_i oj e1
    rw [e1]
    simp only
    split at h <;> try (cases h; done)
    rename_i d e2
    rw [e2]
    simp only
    split at h <;> try (cases h; done)
    · rename_i b e3
      rw [e3]
      obtain ⟨g, α', h1, h2⟩ := ask_ok h
      exact ⟨_, _, h1, fun s => ⟨(h2 s).1, by simp only [(h2 s).2]⟩⟩
    · rename_i e3
      rw [e3]
      exact ⟨_, _, h, fun s => ⟨s, rfl⟩⟩

theorem set_same {γ : Type} {t : T γ} {β' : Type} {d : Nat} : ∀ {i : Nat} {x : γ} {k : T γ → Option β'}, t.get i = some x → T.set d t i (some x) k = k t := by
  induction t with
  | nil => intro i x k h; rw [T.get_nil] at h; cases h
  | node l v rr ihl ihr =>
    intro i x k h
    rw [T.get_node] at h
    show Bool.rec (motive := fun _ => Option β') (Bool.rec (motive := fun _ => Option β') (T.set d rr (Nat.pred (Nat.div i 2)) (some x) fun r' => k (.node l v r')) (T.set d l (Nat.div i 2) (some x) fun l' => k (.node l' v rr)) (Nat.beq (Nat.mod i 2) 1))
      (k (.node l (some x) rr)) (Nat.beq i 0) = k (.node l v rr)
    by_cases h0 : i = 0
    · subst h0
      rw [if_pos rfl] at h
      subst h
      rfl
    · have e : Nat.beq i 0 = false := by cases i <;> simp_all [Nat.beq]
      rw [e]
      rw [if_neg h0] at h
      by_cases h2 : i % 2 = 1
      · have e2 : Nat.beq (Nat.mod i 2) 1 = true := by show Nat.beq (i % 2) 1 = true; rw [h2]; rfl
        rw [e2]
        rw [if_pos h2] at h
        exact ihl (k := fun l' => k (.node l' v rr)) h
      · have e2 : Nat.beq (Nat.mod i 2) 1 = false := by
          show Nat.beq (i % 2) 1 = false
          have : i % 2 = 0 := by omega
          rw [this]; rfl
        rw [e2]
        rw [if_neg h2] at h
        exact ihr (k := fun r' => k (.node l v r')) h

theorem refT_ok {n : Nat} {d : Tmp} {b : Bool} {s : S} {k : S → Option β} {r : β} (h : refT n d b s k = some r) : ∃ s2, k s2 = some r ∧ ((∀ b', eval n s.sl (.tmp d) = some (.one (.c (.bool b'))) → b' = b) → s2 = s) := by
  obtain ⟨sl, hp, nx, lg⟩ := s
  unfold refT at h
  simp only at h
  split at h
  · rename_i b' e
    by_cases hb : b' = b
    · subst hb
      have hg : sl.get d = some (.one (.c (.bool b'))) := by
        simp only [eval] at e
        split at e
        · split at e
          · rename_i v hv; rw [hv]; exact e
          · cases e
        · cases e
      rw [set_same hg] at h
      exact ⟨_, h, fun _ => rfl⟩
    · obtain ⟨t', h1, _⟩ := T.set_ok _ _ _ _ _ _ h
      exact ⟨_, h1, fun hh => absurd (hh b' e) hb⟩
  · exact ⟨_, h, fun _ => rfl⟩
theorem refG_ok {n : Nat} {ops : List Oper} {o : Oper} {g : Bool} {s : S} {α : A} {k : S → Option β} {r : β} (h : refG n ops o g s α k = some r) : ∃ s2, k s2 = some r ∧ (guardOf n ops s.sl o = some g → s2 = s) := by
  unfold refG at h
  split at h
  · exact ⟨s, h, fun _ => rfl⟩
  · split at h
    · exact ⟨s, h, fun _ => rfl⟩
    · rename_i j want e
      split at h
      · rename_i oj e1
        split at h
        · rename_i d e2
          obtain ⟨s2, h1, h2⟩ := refT_ok h
          refine ⟨s2, h1, fun hg => h2 fun b' he => ?_⟩
          unfold guardOf at hg
          rw [e] at hg
          simp only [e1, e2, he, Option.some.injEq] at hg
          subst hg
          cases b' <;> cases want <;> rfl
        · exact ⟨s, h, fun _ => rfl⟩
      · exact ⟨s, h, fun _ => rfl⟩
theorem refC_ok {n : Nat} {c : Operand} {t u : Bool} {s : S} {α : A} {k : S → Option β} {r : β} (he : eval n s.sl c = some (.one (.c (.bool u)))) (h : refC n c t s α k = some r) : ∃ s2, k s2 = some r ∧ (u = t → s2 = s) := by
  unfold refC at h
  split at h
  · exact ⟨s, h, fun _ => rfl⟩
  · split at h
    · rename_i d
      obtain ⟨s2, h1, h2⟩ := refT_ok h
      refine ⟨s2, h1, fun hu => h2 fun b' hb => ?_⟩
      rw [he] at hb
      cases hb
      exact hu
    · exact ⟨s, h, fun _ => rfl⟩

section
variable {callA : CallFA β} {call : ∀ γ : Type, CallF γ} (hc : CallRel callA call)
include hc

theorem callRunA_ok {n : Nat} {f : Operand} {args : Array Operand} {d : Option Tmp} {s : S} {α : A} {k : Need → S → A → Option β} {r : β} (h : callRunA callA n f args d s α k = some r) :
    ∃ nd s' α', k nd s' α' = some r ∧ (α'.Sat → α.Sat ∧ ∀ (γ : Type) (k' : Need → S → Option γ), callRun (call γ) n f args d s k' = k' nd s') := by
  unfold callRunA at h
  unfold callRun
  split at h <;> try (cases h; done)
  rename_i f' fs caps e1
  rw [e1]
  simp only
  split at h <;> try (cases h; done)
  rename_i l e2
  rw [e2]
  simp only
  obtain ⟨v, s1, α', h1, h2⟩ := hc _ _ _ _ _ _ h
  rw [putDstA_eq] at h1
  obtain ⟨s2, h3, h4⟩ := putDst_fun h1
  exact ⟨_, _, _, h3, fun st => ⟨(h2 st).1, fun γ k' => by rw [(h2 st).2, h4]⟩⟩

theorem opA_ok {n : Nat} {ops : List Oper} {o : Oper} {s : S} {α : A} {k : Need → S → A → Option β} {r : β} (h : opA P callA n ops o s α k = some r) :
    ∃ nd s' α', k nd s' α' = some r ∧ (α'.Sat → α.Sat ∧ ∀ (γ : Type) (k' : Need → S → Option γ), opRun P false (call γ) n ops o s k' = k' nd s') := by
  unfold opA at h
  obtain ⟨g, α1, h1, h2⟩ := guardA_ok h
  obtain ⟨s0, h1, hs⟩ := refG_ok h1
  cases g with
  | false =>
    simp only [putDstA_eq] at h1
    obtain ⟨s1, h3, h4⟩ := putDst_fun h1
    refine ⟨_, _, _, h3, fun st => ⟨(h2 st).1, fun γ k' => ?_⟩⟩
    obtain rfl := hs (h2 st).2
    simp only [opRun, (h2 st).2, h4]
  | true =>
    simp only at h1
    split at h1
    · rename_i f args e
      obtain ⟨nd, s1, α2, h3, h4⟩ := callRunA_ok hc h1
      refine ⟨_, _, _, h3, fun st => ⟨(h2 (h4 st).1).1, fun γ k' => ?_⟩⟩
      obtain rfl := hs (h2 (h4 st).1).2
      simp only [opRun, (h2 (h4 st).1).2, e, (h4 st).2]
    · rename_i e
      obtain ⟨nd, s1, α2, h3, h4⟩ := plainA_ok h1
      refine ⟨_, _, _, h3, fun st => ⟨(h2 (h4 st).1).1, fun γ k' => ?_⟩⟩
      obtain rfl := hs (h2 (h4 st).1).2
      simp only [opRun, (h2 (h4 st).1).2, e, (h4 st).2]

theorem opsA_ok {n : Nat} {ops : List Oper} {r : β} : ∀ {rest : List Oper} {s : S} {α : A} {k : S → A → Option β}, opsA P callA n ops rest s α k = some r →
    ∃ s' α', k s' α' = some r ∧ (α'.Sat → α.Sat ∧ ∀ (γ : Type) (k' : S → Option γ), opsRun P false (call γ) n ops rest s k' = k' s')
  | [], s, α, k, h => ⟨_, _, h, fun st => ⟨st, fun _ _ => rfl⟩⟩
  | o :: rest, s, α, k, h => by
    simp only [opsA] at h
    obtain ⟨nd, s1, α1, h1, h2⟩ := opA_ok hc h
    obtain ⟨s2, α2, h3, h4⟩ := opsA_ok h1
    exact ⟨_, _, h3, fun st => ⟨(h2 (h4 st).1).1, fun γ k' => by simp only [opsRun, (h2 (h4 st).1).2, (h4 st).2]⟩⟩

theorem drawGoA_ok {n : Nat} {ops : List Oper} {r : β} : ∀ {rest : List Oper} {fps : List FP} {s : S} {α : A} {k : List FP → S → A → Option β}, drawGoA P callA n ops rest fps s α k = some r →
    ∃ fps' s' α', k fps' s' α' = some r ∧ (α'.Sat → α.Sat ∧ ∀ (γ : Type) (k' : List FP → S → Option γ), drawGo P false (call γ) n ops rest fps s k' = k' fps' s')
  | [], fps, s, α, k, h => ⟨_, _, _, h, fun st => ⟨st, fun _ _ => rfl⟩⟩
  | o :: rest, fps, ⟨sl, hp, nx, lg⟩, α, k, h => by
    simp only [drawGoA] at h
    obtain ⟨nd, s1, α1, h1, h2⟩ := opA_ok hc h
    obtain ⟨sl', hp', nx', lg'⟩ := s1
    simp only at h1
    obtain ⟨fps2, s2, α2, h3, h4⟩ := drawGoA_ok h1
    exact ⟨_, _, _, h3, fun st => ⟨(h2 (h4 st).1).1, fun γ k' => by simp only [drawGo, (h2 (h4 st).1).2, (h4 st).2]⟩⟩

theorem regionA_ok {n : Nat} {ops : List Oper} {draw : Bool} {s : S} {α : A} {k : S → A → Option β} {r : β} (h : regionA P callA n ops draw s α k = some r) :
    ∃ s' α', k s' α' = some r ∧ (α'.Sat → α.Sat ∧ ∀ (γ : Type) (k' : S → Option γ), regionRun P false (call γ) n ops draw s k' = k' s') := by
  unfold regionA at h
  cases draw with
  | false => exact opsA_ok hc h
  | true =>
    simp only at h
    unfold drawA at h
    simp only [regionRun, drawRun]
    split at h <;> try (cases h; done)
    rename_i e
    rw [e]
    obtain ⟨fps, s1, α1, h1, h2⟩ := drawGoA_ok hc h
    split at h1 <;> try (cases h1; done)
    rename_i e1
    obtain ⟨sl, hp, nx, lg⟩ := s
    obtain ⟨sl', hp', nx', lg'⟩ := s1
    simp only at h1
    exact ⟨_, _, h1, fun st => ⟨(h2 st).1, fun γ k' => by simp only [(h2 st).2, e1]⟩⟩
end

section
variable {exA : ExecFA β} {ex : ∀ γ : Type, ExecF γ} (he : ExecRel exA ex)

noncomputable def toSum (sm : SumA) : Sum := fun args hp nx =>
  match sm args hp nx with
  | some (v, hp', nx', lg, ps) => open Classical in if All ps then some (v, hp', nx', lg) else none
  | none => none

theorem All_append : ∀ (a b : List Prop), All (a ++ b) ↔ All a ∧ All b
  | [], b => by simp [All]
  | p :: a, b => by simp [All, All_append a b, and_assoc]

theorem All_rep {p : Prop} (h : p) : ∀ n, All (List.replicate n p)
  | 0 => trivial
  | n + 1 => ⟨h, All_rep h n⟩

include he in
theorem bodyA_ok {fn : Func} {c : Code} {args : List RV} {s : S} {α : A} {k : RV → S → A → Option β} {r : β} (h : bodyA P exA fn c args s α k = some r) :
    ∃ v s' α', k v s' α' = some r ∧ (α'.Sat → α.Sat ∧ ∀ (γ : Type) (k' : RV → S → Option γ), bodyRun P (ex γ) fn c args s k' = k' v s') := by
  unfold bodyA at h
  obtain ⟨sl0, hp, nx, lg⟩ := s
  simp only at h
  obtain ⟨sl, h1, h2⟩ := setArgs_fun h
  obtain ⟨x, s1, α1, h3, h4⟩ := he _ _ _ _ _ _ h1
  unfold backA at h3
  split at h3 <;> try (cases h3; done)
  rename_i hx
  split at h3 <;> try (cases h3; done)
  rename_i l e1
  obtain ⟨sl', hp', nx', lg'⟩ := s1
  simp only [wRV_eq] at h3
  refine ⟨_, _, _, h3, fun st => ⟨(h4 st).1, fun γ k' => ?_⟩⟩
  unfold bodyRun
  rw [h2, (h4 st).2]
  cases x with
  | exit id => exact absurd rfl (hx id)
  | normal => simp only [backRun, e1]
  | ret => simp only [backRun, e1]

include he in
theorem callByA_ok (Sg : FuncId → Option SumA) : CallRel (callByA P Sg exA) (fun γ => callBy P (fun f => (Sg f).map toSum) (ex γ)) := by
  intro g args s α k r h
  unfold callByA at h
  unfold callBy
  split at h <;> try (cases h; done)
  rename_i fn e1
  split at h <;> try (cases h; done)
  rename_i e0
  split at h <;> try (cases h; done)
  rename_i c e2
  simp only [e1, e0, e2]
  split at h
  · rename_i sm e3
    simp only [e3, Option.map_some]
    split at h
    · rename_i v hp nx lg ps e4
      obtain ⟨sl, hp0, nx0, lg0⟩ := s
      obtain ⟨an, ao, ab⟩ := α
      simp only at h e4
      refine ⟨_, _, _, h, fun st => ?_⟩
      have st' := (All_append _ _).1 st
      refine ⟨st'.2, fun γ k' => ?_⟩
      have : toSum sm args hp0 nx0 = some (v, hp, nx, lg) := by
        unfold toSum
        rw [e4]
        simp only
        rw [if_pos st'.1]
      simp only [this]
    · rename_i e4
      have : toSum sm args s.hp s.nx = none := by unfold toSum; rw [e4]
      simp only [this]
      exact bodyA_ok he h
  · rename_i e3
    simp only [e3, Option.map_none]
    exact bodyA_ok he h

include he in
theorem codeA_ok (Sg : FuncId → Option SumA) : ExecRel (codeA P Sg exA) (fun γ => codeRun P (fun f => (Sg f).map toSum) false (ex γ)) := by
  intro n c s α k r h
  cases c with
  | skip => exact ⟨_, _, _, h, fun st => ⟨st, fun _ _ => rfl⟩⟩
  | ret => exact ⟨_, _, _, h, fun st => ⟨st, fun _ _ => rfl⟩⟩
  | exit id => exact ⟨_, _, _, h, fun st => ⟨st, fun _ _ => rfl⟩⟩
  | seq a b =>
    simp only [codeA] at h
    obtain ⟨x, s1, α1, h1, h2⟩ := he _ _ _ _ _ _ h
    cases x with
    | normal =>
      simp only [seqA] at h1
      obtain ⟨y, s2, α2, h3, h4⟩ := he _ _ _ _ _ _ h1
      exact ⟨_, _, _, h3, fun st => ⟨(h2 (h4 st).1).1, fun γ k' => by simp only [codeRun]; rw [(h2 (h4 st).1).2]; simp only [seqK]; rw [(h4 st).2]⟩⟩
    | exit id => exact ⟨_, _, _, h1, fun st => ⟨(h2 st).1, fun γ k' => by simp only [codeRun]; rw [(h2 st).2]; rfl⟩⟩
    | ret => exact ⟨_, _, _, h1, fun st => ⟨(h2 st).1, fun γ k' => by simp only [codeRun]; rw [(h2 st).2]; rfl⟩⟩
  | cond c a b =>
    simp only [codeA] at h
    unfold condA at h
    split at h <;> try (cases h; done)
    rename_i t e1
    obtain ⟨g, α1, h1, h2⟩ := ask_ok h
    obtain ⟨s0, h1, hs⟩ := refC_ok e1 h1
    cases g with
    | false =>
      obtain ⟨y, s2, α2, h3, h4⟩ := he _ _ _ _ _ _ h1
      refine ⟨_, _, _, h3, fun st => ⟨(h2 (h4 st).1).1, fun γ k' => ?_⟩⟩
      obtain rfl := hs (h2 (h4 st).1).2
      simp only [codeRun, condRun, e1, (h2 (h4 st).1).2, cond_false]; rw [(h4 st).2]
    | true =>
      obtain ⟨y, s2, α2, h3, h4⟩ := he _ _ _ _ _ _ h1
      refine ⟨_, _, _, h3, fun st => ⟨(h2 (h4 st).1).1, fun γ k' => ?_⟩⟩
      obtain rfl := hs (h2 (h4 st).1).2
      simp only [codeRun, condRun, e1, (h2 (h4 st).1).2, cond_true]; rw [(h4 st).2]
  | block id c =>
    simp only [codeA] at h
    obtain ⟨x, s1, α1, h1, h2⟩ := he _ _ _ _ _ _ h
    cases x with
    | normal => exact ⟨_, _, _, h1, fun st => ⟨(h2 st).1, fun γ k' => by simp only [codeRun]; rw [(h2 st).2]; rfl⟩⟩
    | ret => exact ⟨_, _, _, h1, fun st => ⟨(h2 st).1, fun γ k' => by simp only [codeRun]; rw [(h2 st).2]; rfl⟩⟩
    | exit j =>
      simp only [blockA] at h1
      split at h1
      · rename_i e
        exact ⟨_, _, _, h1, fun st => ⟨(h2 st).1, fun γ k' => by simp only [codeRun]; rw [(h2 st).2]; simp only [blockK, if_pos e]⟩⟩
      · rename_i e
        exact ⟨_, _, _, h1, fun st => ⟨(h2 st).1, fun γ k' => by simp only [codeRun]; rw [(h2 st).2]; simp only [blockK, if_neg e]⟩⟩
  | loop c =>
    simp only [codeA] at h
    obtain ⟨x, s1, α1, h1, h2⟩ := he _ _ _ _ _ _ h
    cases x with
    | normal =>
      simp only [seqA] at h1
      obtain ⟨y, s2, α2, h3, h4⟩ := he _ _ _ _ _ _ h1
      exact ⟨_, _, _, h3, fun st => ⟨(h2 (h4 st).1).1, fun γ k' => by simp only [codeRun]; rw [(h2 (h4 st).1).2]; simp only [seqK]; rw [(h4 st).2]⟩⟩
    | exit id => exact ⟨_, _, _, h1, fun st => ⟨(h2 st).1, fun γ k' => by simp only [codeRun]; rw [(h2 st).2]; rfl⟩⟩
    | ret => exact ⟨_, _, _, h1, fun st => ⟨(h2 st).1, fun γ k' => by simp only [codeRun]; rw [(h2 st).2]; rfl⟩⟩
  | region id ops draw =>
    simp only [codeA] at h
    obtain ⟨s1, α1, h1, h2⟩ := regionA_ok (callByA_ok he Sg) h
    exact ⟨_, _, _, h1, fun st => ⟨(h2 st).1, fun γ k' => by simp only [codeRun]; rw [(h2 st).2]⟩⟩
  | rangeFunc => cases h
  | scope => cases h
  | label => cases h
  | goto => cases h
  | refuse => cases h
end

theorem execA_ok (Sg : FuncId → Option SumA) : ∀ f, ExecRel (execA (β := β) P Sg f) (fun γ => exec P (fun f => (Sg f).map toSum) false f)
  | 0 => fun n c s α k r h => by cases h
  | f + 1 => by
    have := codeA_ok (P := P) (execA_ok Sg f) Sg
    exact this

theorem runA_ok {Sg : FuncId → Option SumA} {fuel : Nat} {g : FuncId} {args : List RV} {s : S} {α : A} {k : RV → S → A → Option β} {r : β} (h : runA P Sg fuel g args s α k = some r) :
    ∃ v s' α', k v s' α' = some r ∧ (α'.Sat → α.Sat ∧ ∀ (γ : Type) (k' : RV → S → Option γ), runB P (fun f => (Sg f).map toSum) false fuel g args s k' = k' v s') := by
  unfold runA at h
  unfold runB
  split at h <;> try (cases h; done)
  rename_i fn e1
  rw [e1]
  simp only
  split at h <;> try (cases h; done)
  rename_i c e2
  rw [e2]
  exact bodyA_ok (execA_ok Sg fuel) h

end
end Go.Sx

namespace Go.Sx
open Go.RowKit
variable {P : Program}

/-- slots forgotten, but some -/
noncomputable def fgtSl (sl : T RV) (keep : List Nat) : Nat → T RV → (T RV → Option (T RV)) → Option (T RV)
  | 0, t, k => k t
  | n + 1, t, k => T.set depth t n (some (if keep.contains n then (sl.get n).getD und else .any)) fun t => fgtSl sl keep n t k
noncomputable def fgt (keep : List Nat) (n : Nat) (s : S) : S := match s with | ⟨sl, hp, nx, _⟩ => match fgtSl sl keep n .nil some with | some t => ⟨t, hp, nx, []⟩ | none => ⟨sl, hp, nx, []⟩

/-- what a piece leaves, but for the log -/
structure AbsN (s s' : S) (L : List Nat) : Prop where
  le : s.nx ≤ s'.nx
  keep : ∀ nm, nm < s.nx → nm ∉ L → s'.hp.get nm = s.hp.get nm
  top : Top s'
  lt : ∀ nm, nm ∈ L → nm < s'.nx
theorem Abs.n {s s' : S} {L : List Nat} (h : Abs s s' L) : AbsN s s' L := ⟨h.le, h.keep, h.top, h.lt⟩
theorem AbsN.trans {s1 s2 s3 : S} {L1 L2 : List Nat} (a : AbsN s1 s2 L1) (b : AbsN s2 s3 L2) : AbsN s1 s3 (L2 ++ L1) where
  le := Nat.le_trans a.le b.le
  keep := fun nm h hn => by
    rw [List.mem_append, not_or] at hn
    rw [b.keep nm (Nat.lt_of_lt_of_le h a.le) hn.1, a.keep nm h hn.2]
  top := b.top
  lt := fun nm h => by
    rcases List.mem_append.1 h with h | h
    · exact b.lt nm h
    · exact Nat.lt_of_lt_of_le (a.lt nm h) b.le

theorem fgtSl_ok {sl : T RV} {keep : List Nat} : ∀ {n : Nat} {t : T RV} {r : T RV}, fgtSl sl keep n t some = some r → ∀ j, r.get j = if j < n then some (if keep.contains j then (sl.get j).getD und else .any) else t.get j
  | 0, t, r, h, j => by simp only [fgtSl, Option.some.injEq] at h; subst h; simp
  | n + 1, t, r, h, j => by
    unfold fgtSl at h
    obtain ⟨t', h1, h2⟩ := T.set_ok _ _ _ _ _ _ h
    rw [fgtSl_ok h1, h2]
    by_cases e : j < n
    · simp only [if_pos e, if_pos (show j < n + 1 by omega)]
    · by_cases e2 : j = n
      · subst e2; simp only [if_neg e, if_pos (show j < j + 1 by omega)]; rfl
      · simp only [if_neg e, if_neg e2, if_neg (show ¬ j < n + 1 by omega)]

theorem Rel.fgt {n : Nat} {ρ : Rho} {s : S} {a : Act} {w : World} (R : Rel n ρ s a w) (keep : List Nat) : Rel n ρ (fgt keep n s) a w := by
  obtain ⟨sl, hp, nx, lg⟩ := s
  unfold Sx.fgt
  simp only
  split
  · rename_i t ht
    refine ⟨R.sz, R.df, fun j => ?_, R.hp, R.fresh⟩
    have := fgtSl_ok ht j
    unfold slot
    simp only
    by_cases hj : j < n
    · rw [if_pos hj, this, if_pos hj]
      simp only [Option.getD_some]
      split
      · have := R.sl j
        unfold slot at this
        rw [if_pos hj] at this
        exact this
      · trivial
    · have := R.sl j
      unfold slot at this
      rw [if_neg hj] at this ⊢
      exact this
  · exact ⟨R.sz, R.df, R.sl, R.hp, R.fresh⟩
theorem fgt_hp (keep : List Nat) (n : Nat) (s : S) : (fgt keep n s).hp = s.hp ∧ (fgt keep n s).nx = s.nx := by
  obtain ⟨sl, hp, nx, lg⟩ := s
  unfold fgt
  simp only
  split <;> exact ⟨rfl, rfl⟩

/-- a loop from the head of a round -/
def LoopFrom (P : Program) (c : Code) (Q : Exit → Act → World → Prop) (a : Act) (w : World) : Prop :=
  ∀ b k cs, ∃ e a' w', Q e a' w' ∧ Arrives P (lone (b.at a (.code c :: .inLoop c :: k)) cs w) b k cs e a' w'

theorem LoopFrom.wp {c : Code} {Q : Exit → Act → World → Prop} {a : Act} {w : World} (h : LoopFrom P c Q a w) : (Code.loop c).wp P Q a w := fun b k cs => by
  obtain ⟨e, a', w', hq, harr⟩ := h b k cs
  exact ⟨e, a', w', hq, .of_steps (.one step_loop) harr⟩

theorem LoopFrom.open {c : Code} {Q : Exit → Act → World → Prop} {a : Act} {w : World} (h : c.wp P (Exit.then (LoopFrom P c Q) Q) a w) : LoopFrom P c Q a w := fun b k cs => by
  obtain ⟨e, a₁, w₁, hq, harr⟩ := h b (.inLoop c :: k) cs
  cases e with
  | normal =>
    obtain ⟨e₂, a₂, w₂, hq₂, harr₂⟩ := hq b k cs
    exact ⟨e₂, a₂, w₂, hq₂, .of_steps (Steps.trans harr (.one step_inLoop)) harr₂⟩
  | exit id => exact ⟨_, a₁, w₁, hq, .pass (x := .inLoop c) rfl (fun _ _ => .inl (by simp)) harr⟩
  | goto l => exact ⟨_, a₁, w₁, hq, .pass (x := .inLoop c) rfl (fun _ _ => .inl (by simp)) harr⟩
  | ret => exact ⟨_, a₁, w₁, hq, .pass (x := .inLoop c) rfl (fun _ _ => .inl (by simp)) harr⟩
  | panic ch => exact ⟨_, a₁, w₁, hq, .pass (x := .inLoop c) rfl (fun _ _ => .inl (by simp)) harr⟩
  | outgrown => exact ⟨_, a₁, w₁, hq, .pass (x := .inLoop c) rfl (fun _ _ => .inl (by simp)) harr⟩

theorem LoopFrom.rounds {c : Code} {Q : Exit → Act → World → Prop} : ∀ {m : Nat} {a : Act} {w : World}, Code.rounds P c Q m a w → LoopFrom P c Q a w
  | 0, _, _, h => h.elim
  | m + 1, a, w, h => .open (wp_mono h fun e a' w' hq => by cases e <;> first | exact LoopFrom.rounds hq | exact hq)

theorem LoopFrom.mono {c : Code} {Q Q' : Exit → Act → World → Prop} {a : Act} {w : World} (h : LoopFrom P c Q a w) (hq : ∀ e a w, Q e a w → Q' e a w) : LoopFrom P c Q' a w := fun b k cs => by
  obtain ⟨e, a', w', h1, h2⟩ := h b k cs
  exact ⟨e, a', w', hq _ _ _ h1, h2⟩

def WpY (P : Program) (c : Code) (Q : Exit → Act → World → Prop) (a : Act) (w : World) : Prop :=
  match c with
  | .loop c => LoopFrom P c Q a w
  | c => c.wp P Q a w

theorem WpY.wp {c : Code} {Q : Exit → Act → World → Prop} {a : Act} {w : World} (h : WpY P c Q a w) : c.wp P Q a w := by
  unfold WpY at h
  split at h
  · exact h.wp
  · exact h

theorem WpX.y {m : Nat} {c : Code} {Q : Exit → Act → World → Prop} {a : Act} {w : World} (h : WpX P m c Q a w) : WpY P c Q a w := by
  unfold WpX at h
  unfold WpY
  split at h
  · exact .rounds h
  · rename_i hn
    split
    · exact absurd rfl (hn _)
    · exact h

theorem WpY.mono {c : Code} {Q Q' : Exit → Act → World → Prop} {a : Act} {w : World} (h : WpY P c Q a w) (hq : ∀ e a w, Q e a w → Q' e a w) : WpY P c Q' a w := by
  unfold WpY at h ⊢
  cases c with
  | loop c => exact h.mono hq
  | _ => exact wp_mono h hq

/-- a piece of code from a state: where it may end -/
def Tr (P : Program) (n : Nat) (c : Code) (s : S) (Q : X → S → Prop) : Prop := Top s → ∀ (ρ : Rho) (a : Act) (w : World), Rel n ρ s a w →
  WpY P c (fun e a' w' => ∃ x s' L, Q x s' ∧ AbsN s s' L ∧ PostX n ρ s w x s' L e a' w') a w

theorem Tr.mono {n : Nat} {c : Code} {s : S} {Q Q' : X → S → Prop} (h : Tr P n c s Q) (hq : ∀ x s', Q x s' → Q' x s') : Tr P n c s Q' := fun ht ρ a w R => by
  exact (h ht ρ a w R).mono fun e a w ⟨x, s', L, h1, h2⟩ => ⟨x, s', L, hq _ _ h1, h2⟩

theorem Tr.fgt {n : Nat} {c : Code} {s : S} {Q : X → S → Prop} (keep : List Nat) (h : Tr P n c s fun x s' => Q x (fgt keep n s')) : Tr P n c s Q := fun ht ρ a w R => by
  refine (h ht ρ a w R).mono fun e a w ⟨x, s', L, h1, h2, h3, ρ', h4, h5⟩ => ?_
  obtain ⟨e1, e2⟩ := fgt_hp keep n s'
  refine ⟨x, _, L, h1, ⟨by rw [e2]; exact h2.le, by rw [e1]; exact h2.keep, ?_, by rw [e2]; exact h2.lt⟩, h3, ρ', h4.fgt keep, ?_⟩
  · unfold Top; rw [e1, e2]; exact h2.top
  · unfold StpS; rw [e1, e2]; exact h5

theorem Tr.pre {n : Nat} {c : Code} {s : S} {Q : X → S → Prop} (keep : List Nat) (h : Tr P n c (Sx.fgt keep n s) Q) : Tr P n c s Q := fun ht ρ a w R => by
  obtain ⟨e1, e2⟩ := fgt_hp keep n s
  refine (h (by unfold Top; rw [e1, e2]; exact ht) ρ a w (R.fgt keep)).mono fun e a w ⟨x, s', L, h1, h2, h3, ρ', h4, h5⟩ => ⟨x, s', L, h1, ⟨by rw [← e2]; exact h2.le, by rw [← e1, ← e2]; exact h2.keep, h2.top, h2.lt⟩, h3, ρ', h4, ?_⟩
  unfold StpS at h5 ⊢; rw [← e1, ← e2]; exact h5

/-- a path of the executor -/
theorem Tr.path {Sg : FuncId → Option SumA} (F : Fit P (fun f => (Sg f).map toSum)) {fuel n : Nat} {c : Code} {s : S} {o : List (Nat × Bool)} {keep : List Nat} {x : X} {s' : S} {ps : List Prop}
    (h : execA P Sg fuel n c s ⟨0, o, []⟩ (fun x s α => some (x, Sx.fgt keep n s, α.ob)) = some (x, s', ps)) (hp : All ps) {Q : X → S → Prop} (hq : Q x s') : Tr P n c s Q := by
  refine Tr.fgt keep fun ht ρ a w R => ?_
  obtain ⟨x1, s1, α', h1, h2⟩ := execA_ok Sg fuel _ _ _ _ _ _ h
  simp only [Option.some.injEq, Prod.mk.injEq] at h1
  obtain ⟨rfl, rfl, rfl⟩ := h1
  have h3 := (h2 hp).2 (X × S) (fun x s => some (x, s))
  obtain ⟨x2, s2, L, m, h4, ab, hw⟩ := exec_sound F.ng F.mixed F.sums fuel _ _ _ _ _ ht h3
  simp only [Option.some.injEq, Prod.mk.injEq] at h4
  obtain ⟨rfl, rfl⟩ := h4
  exact (hw ρ a w R).y.mono fun e a w hh => ⟨_, _, L, hq, ab.n, hh⟩

/-- behind a piece -/
def Then (P : Program) (n : Nat) (s : S) (Q : X → S → Prop) (c : Code) : X → S → Prop := fun x s1 => match x with
  | .normal => Tr P n c s1 Q
  | x => Q x s1

theorem Tr.seq {n : Nat} {c d : Code} {s : S} {Q : X → S → Prop} (h : Tr P n c s (Then P n s Q d)) : Tr P n (.seq c d) s Q := fun ht ρ a w R => by
  refine wp_seq (wp_mono (h ht ρ a w R).wp fun e a' w' ⟨x, s', L, h1, ab, h3, ρ', h4, h5⟩ => ?_)
  cases x with
  | normal =>
    cases e <;> simp only [XR] at h3
    exact wp_mono (h1 ab.top ρ' a' w' h4).wp fun e a w ⟨x, s2, L2, g1, g2, g3⟩ => ⟨x, s2, L2 ++ L, g1, ab.trans g2, g3.trans h5⟩
  | exit id => cases e <;> simp only [XR] at h3; subst h3; exact ⟨_, s', L, h1, ab, rfl, ρ', h4, h5⟩
  | ret => cases e <;> simp only [XR] at h3; exact ⟨.ret, s', L, h1, ab, trivial, ρ', h4, h5⟩

theorem Tr.block {n id : Nat} {c : Code} {s : S} {Q : X → S → Prop} (h : Tr P n c s fun x s' => match x with | .exit j => if j = id then Q .normal s' else Q (.exit j) s' | x => Q x s') : Tr P n (.block id c) s Q := fun ht ρ a w R => by
  refine wp_block (wp_mono (h ht ρ a w R).wp fun e a' w' ⟨x, s', L, h1, ab, h3, h4⟩ => ?_)
  cases x with
  | normal => cases e <;> simp only [XR] at h3; exact ⟨.normal, s', L, h1, ab, trivial, h4⟩
  | ret => cases e <;> simp only [XR] at h3; exact ⟨.ret, s', L, h1, ab, trivial, h4⟩
  | exit j =>
    cases e <;> simp only [XR] at h3
    subst h3
    simp only at h1
    by_cases hj : j = id
    · rw [if_pos hj] at h1
      simp only [Exit.inBlock, hj, if_true]
      exact ⟨.normal, s', L, h1, ab, trivial, h4⟩
    · rw [if_neg hj] at h1
      simp only [Exit.inBlock, hj, if_false]
      exact ⟨.exit j, s', L, h1, ab, rfl, h4⟩

theorem Tr.condT {n : Nat} {o : Operand} {c d : Code} {s : S} {t : Bool} {Q : X → S → Prop} (he : eval n s.sl o = some (.one (.c (.bool t)))) (ht : t = true) (h : Tr P n c s Q) : Tr P n (.cond o c d) s Q := fun htop ρ a w R => by
  have := eval_ok (ρ := ρ) (n := n) (sl := s.sl) (a := a) (x := o) (fun t _ => R.sl t) _ he
  have e : a.eval o = .bool t := this
  subst ht
  exact wp_cond_true e (h htop ρ a w R).wp
/-- one round more -/
theorem Tr.loop {n : Nat} {c : Code} {s : S} {Q : X → S → Prop} (h : Tr P n c s (Then P n s Q (.loop c))) : Tr P n (.loop c) s Q := fun ht ρ a w R => by
  refine LoopFrom.open (wp_mono (h ht ρ a w R).wp fun e a' w' ⟨x, s', L, h1, ab, h3, ρ', h4, h5⟩ => ?_)
  cases x with
  | normal =>
    cases e <;> simp only [XR] at h3
    exact LoopFrom.mono (h1 ab.top ρ' a' w' h4) fun e a w ⟨x, s2, L2, g1, g2, g3⟩ => ⟨x, s2, L2 ++ L, g1, ab.trans g2, g3.trans h5⟩
  | exit id => cases e <;> simp only [XR] at h3; subst h3; exact ⟨_, s', L, h1, ab, rfl, ρ', h4, h5⟩
  | ret => cases e <;> simp only [XR] at h3; exact ⟨.ret, s', L, h1, ab, trivial, ρ', h4, h5⟩

/-- what a call leaves: all that it says of its answer and of the heap -/
theorem Tr.calls {g : FuncId} {fn : Func} {c : Code} (hf : P.funcs[g]? = some fn) (hb : fn.body = some c) {args : List RV} {s : S} {sl : T RV} {Q : RV → S → Prop}
    (hset : setArgs fn.ntmps args 0 .nil some = some sl) (ht : Top s)
    (h : Tr P fn.ntmps c { s with sl := sl } fun x s1 => (x = .normal ∨ x = .ret) ∧ ∃ l, resOf P fn.ntmps s1 fn.results.toList = some l ∧ Q (resRV l) s1)
    (ρ : Rho) (w : World) (vs : List Value) (hr : HRel ρ s.hp.get w) (hfr : Fresh ρ s.nx) (ha : ArgsR ρ args vs) :
    Calls P g vs.toArray w fun e w' => ∃ v s' L V ρ', Q v s' ∧ AbsN s s' L ∧ e = .returned V ∧ RVR ρ' v V ∧ HRel ρ' s'.hp.get w' ∧ Fresh ρ' s'.nx ∧ Stp ρ s.hp.get s.nx w ρ' s'.hp.get s'.nx w' L := by
  obtain ⟨sl', h1, h2, h3⟩ := setArgs_ok hset
  cases h1
  obtain ⟨len, hget⟩ := ha.get
  have R0 : Rel fn.ntmps ρ { s with sl := sl } { tmps := vs.toArray ++ Array.replicate (fn.ntmps - vs.toArray.size) undef, defers := [] } w := by
    have hle : vs.length ≤ fn.ntmps := by
      rcases h3 with rfl | h3
      · simp at len; rw [len]; simp
      · omega
    refine ⟨by simp; omega, rfl, fun t => ?_, hr, hfr⟩
    unfold slot
    simp only
    rw [h2]
    simp only [Nat.zero_le, true_and, Nat.zero_add, Nat.sub_zero, T.get_nil]
    by_cases hlt : t < args.length
    · have hlt' : t < vs.length := by omega
      rw [if_pos (show t < fn.ntmps by omega), if_pos hlt]
      obtain ⟨V, e1, e2⟩ := hget t args[t] (List.getElem?_eq_getElem hlt)
      rw [List.getElem?_eq_getElem hlt]
      have : (vs.toArray ++ Array.replicate (fn.ntmps - vs.toArray.size) undef).getD t undef = V := by
        rw [Array.getD_eq_getD_getElem?, Array.getElem?_append_left (by simpa using hlt')]
        simp [e1]
      rw [this]
      exact e2
    · rw [if_neg hlt]
      have : (vs.toArray ++ Array.replicate (fn.ntmps - vs.toArray.size) undef).getD t undef = undef := by
        rw [Array.getD_eq_getD_getElem?, Array.getElem?_append_right (by simp; omega)]
        rw [Array.getElem?_replicate]
        split <;> rfl
      rw [this]
      simp only [ite_self, Option.getD_none]
      exact und_ok
  refine calls_of_wp hf hb ?_
  refine wp_mono (h ht ρ _ w R0).wp fun e a' w' hq => ?_
  obtain ⟨x, s1, L, ⟨hx, l, hl, hQ⟩, ab, hxr, ρ', R', st⟩ := hq
  obtain ⟨V, v1, v2⟩ := results_ok R' hl
  have fin : a'.defers = [] ∧ ∃ v, (results fn a'.tmps).run P w' = .ok v w' ∧ ∃ v' s' L V ρ', Q v' s' ∧ AbsN s s' L ∧ Ending.returned v = .returned V ∧ RVR ρ' v' V ∧ HRel ρ' s'.hp.get w' ∧ Fresh ρ' s'.nx ∧ Stp ρ s.hp.get s.nx w ρ' s'.hp.get s'.nx w' L :=
    ⟨R'.df, V, v2, _, _, L, V, ρ', hQ, ⟨ab.le, ab.keep, ab.top, ab.lt⟩, rfl, v1, R'.hp, R'.fresh, st⟩
  rcases hx with rfl | rfl
  · cases e <;> simp only [XR] at hxr
    exact fin
  · cases e <;> simp only [XR] at hxr
    exact fin

/-! ### states written out -/
noncomputable def ofL {α : Type} : List (Nat × α) → T α
  | [] => .nil
  | (i, x) :: l => match T.set (β := T α) depth (ofL l) i (some x) some with | some t => t | none => .nil

def SumAOK (P : Program) (f : FuncId) (sm : SumA) : Prop := ∀ args s v hp nx lg ps, Top s → sm args s.hp s.nx = some (v, hp, nx, lg, ps) → All ps →
  CallInfo P f args s v { s with hp := hp, nx := nx, lg := lg ++ s.lg } lg

theorem SumAOK.sum {Sg : FuncId → Option SumA} (h : ∀ f sm, Sg f = some sm → SumAOK P f sm) : SumOK P (fun f => (Sg f).map toSum) := by
  intro f sm hsm args s v hp nx lg ht hs
  simp only [Option.map_eq_some_iff] at hsm
  obtain ⟨sm', h1, rfl⟩ := hsm
  unfold toSum at hs
  split at hs <;> try (cases hs; done)
  rename_i v' hp' nx' lg' ps h2
  split at hs <;> try (cases hs; done)
  rename_i h3
  simp only [Option.some.injEq, Prod.mk.injEq] at hs
  obtain ⟨rfl, rfl, rfl, rfl⟩ := hs
  exact h f sm' h1 args s _ _ _ _ ps ht h2 h3

/-- a function of its arguments alone -/
def pureSum (F : List RV → Option (RV × List Prop)) : SumA := fun args hp nx => match F args with
  | some (v, ps) => some (v, hp, nx, [], ps)
  | none => none

def PureOK (P : Program) (f : FuncId) (F : List RV → Option (RV × List Prop)) : Prop := ∀ args v ps, F args = some (v, ps) → All ps → ∀ (ρ : Rho) (w : World) (vs : List Value), ArgsR ρ args vs →
  Calls P f vs.toArray w fun e w' => ∃ V, e = .returned V ∧ RVR ρ v V ∧ Below w.heap.size w w'

theorem PureOK.sum {f : FuncId} {F : List RV → Option (RV × List Prop)} (hfn : ∃ fn, P.funcs[f]? = some fn ∧ fn.body.isNone = false) (h : PureOK P f F) : SumAOK P f (pureSum F) := by
  intro args s v hp nx lg ps ht hs hp'
  unfold pureSum at hs
  split at hs <;> try (cases hs; done)
  rename_i v' ps' h1
  simp only [Option.some.injEq, Prod.mk.injEq] at hs
  obtain ⟨rfl, rfl, rfl, rfl, rfl⟩ := hs
  exact CallInfo.quiet ht hfn fun ρ w vs _ ha => h args _ _ h1 hp' ρ w vs ha
end Go.Sx

namespace Go.Sx
open Go.RowKit
variable {P : Program}
/-- without pointers -/
def flatC : Cell → Bool
  | .int _ _ => true
  | .bool _ => true
  | .str _ => true
  | .ptr0 => true
  | .sl0 => true
  | .map0 => true
  | .fn0 => true
  | _ => false
def flatA : AV → Bool
  | .c x => flatC x
  | .agg l => l.all flatC
  | .ints _ _ _ => true
def flatR : RV → Bool
  | .one v => flatA v
  | .tup l => l.all flatA
  | .any => true
theorem CR.indep {ρ ρ' : Rho} {c : Cell} {v : Value} (hf : flatC c = true) (h : CR ρ c v) : CR ρ' c v := by
  cases c <;> first | (cases hf; done) | exact h
theorem CsR.indep {ρ ρ' : Rho} : ∀ {l : List Cell} {vs : List Value}, l.all flatC = true → CsR ρ l vs → CsR ρ' l vs
  | [], _, _, h => h
  | c :: l, _, hf, ⟨v, vs', h1, h2, h3⟩ => by
    simp only [List.all_cons, Bool.and_eq_true] at hf
    exact ⟨v, vs', h1.indep hf.1, CsR.indep hf.2 h2, h3⟩
theorem AVR.indep {ρ ρ' : Rho} {x : AV} {v : Value} (hf : flatA x = true) (h : AVR ρ x v) : AVR ρ' x v := by
  cases x with
  | c x => exact CR.indep hf h
  | agg l => obtain ⟨vs, h1, h2⟩ := h; exact ⟨vs, CsR.indep hf h1, h2⟩
  | ints => exact h
theorem AVsR.indep {ρ ρ' : Rho} : ∀ {l : List AV} {vs : List Value}, l.all flatA = true → AVsR ρ l vs → AVsR ρ' l vs
  | [], _, _, h => h
  | c :: l, _, hf, ⟨v, vs', h1, h2, h3⟩ => by
    simp only [List.all_cons, Bool.and_eq_true] at hf
    exact ⟨v, vs', h1.indep hf.1, AVsR.indep hf.2 h2, h3⟩
theorem RVR.indep {ρ ρ' : Rho} {x : RV} {v : Value} (hf : flatR x = true) (h : RVR ρ x v) : RVR ρ' x v := by
  cases x with
  | one x => exact AVR.indep hf h
  | tup l => obtain ⟨vs, h1, h2⟩ := h; exact ⟨vs, AVsR.indep hf h1, h2⟩
  | any => trivial
theorem ArgsR.indep {ρ ρ' : Rho} : ∀ {l : List RV} {vs : List Value}, l.all flatR = true → ArgsR ρ l vs → ArgsR ρ' l vs
  | [], _, _, h => h
  | c :: l, _, hf, ⟨v, vs', h1, h2, h3⟩ => by
    simp only [List.all_cons, Bool.and_eq_true] at hf
    exact ⟨v, vs', h1.indep hf.1, ArgsR.indep hf.2 h2, h3⟩

/-- a body walked from nothing: a contract at every world -/
theorem Tr.pure {g : FuncId} {fn : Func} {c : Code} (hf : P.funcs[g]? = some fn) (hb : fn.body = some c) {args : List RV} {sl : T RV} {v : RV} (hfa : args.all flatR = true) (hfv : flatR v = true)
    (hset : setArgs fn.ntmps args 0 .nil some = some sl)
    (h : Tr P fn.ntmps c ⟨sl, .nil, 0, []⟩ fun x s1 => (x = .normal ∨ x = .ret) ∧ ∃ l, resOf P fn.ntmps s1 fn.results.toList = some l ∧ resRV l = v)
    (ρ : Rho) (w : World) (vs : List Value) (ha : ArgsR ρ args vs) : Calls P g vs.toArray w fun e w' => ∃ V, e = .returned V ∧ RVR ρ v V ∧ Below w.heap.size w w' := by
  refine (Tr.calls (s := s0) (Q := fun v' _ => v' = v) hf hb hset (fun nm _ => T.get_nil nm) h rhoN w vs (HRel.nil _) (fun _ _ => rfl) (ha.indep hfa)).mono fun e w' hh => ?_
  obtain ⟨v', s', L, V, ρ', rfl, ab, e1, e2, e3, e4, st⟩ := hh
  exact ⟨V, e1, e2.indep hfv, ⟨st.os, st.tape, st.out, st.size, fun k hk => st.frame k hk (fun nm c _ hlt => absurd hlt (Nat.not_lt_zero _))⟩⟩

/-- one path from nothing: a contract at every world -/
theorem pure_path {Sg : FuncId → Option SumA} (F : Fit P (fun f => (Sg f).map toSum)) {fuel : Nat} {g : FuncId} {args : List RV} {o : List (Nat × Bool)} {v : RV} {ps : List Prop} (hfa : args.all flatR = true) (hfv : flatR v = true)
    (h : runA P Sg fuel g args s0 ⟨0, o, []⟩ (fun v _ α => some (v, α.ob)) = some (v, ps)) (hp : All ps) (ρ : Rho) (w : World) (vs : List Value) (ha : ArgsR ρ args vs) :
    Calls P g vs.toArray w fun e w' => ∃ V, e = .returned V ∧ RVR ρ v V ∧ Below w.heap.size w w' := by
  obtain ⟨v1, s1, α', h1, h2⟩ := runA_ok h
  simp only [Option.some.injEq, Prod.mk.injEq] at h1
  obtain ⟨rfl, rfl⟩ := h1
  have h3 := (h2 hp).2 (RV × S) (fun v s => some (v, s))
  obtain ⟨v2, s2, L, h4, ci⟩ := runB_info F (fun nm _ => T.get_nil nm) h3
  simp only [Option.some.injEq, Prod.mk.injEq] at h4
  obtain ⟨rfl, rfl⟩ := h4
  refine (ci.run rhoN w vs (HRel.nil _) (fun _ _ => rfl) (ha.indep hfa)).mono fun e w' ⟨V, ρ', e1, e2, e3, e4, st⟩ => ⟨V, e1, e2.indep hfv, ?_⟩
  exact ⟨st.os, st.tape, st.out, st.size, fun k hk => st.frame k hk (fun nm c _ hlt => absurd hlt (Nat.not_lt_zero _))⟩
end Go.Sx

namespace Go.Sx
open Go.RowKit
variable {P : Program}
/-! ## A contract over a few blocks, to be read alone, holds where they bear other names -/
def renC (θ : Nat → Nat) : Cell → Cell
  | .ptr nm off => .ptr (θ nm) off
  | .sl nm off len cap => .sl (θ nm) off len cap
  | .slu nm sz a len => .slu (θ nm) sz a len
  | .map nm => .map (θ nm)
  | .yield nm => .yield (θ nm)
  | .fn f fs caps => .fn f (fs.map fun (a, b) => (θ a, b)) (caps.map fun (a, b) => (θ a, b))
  | c => c
def renA (θ : Nat → Nat) : AV → AV
  | .c x => .c (renC θ x)
  | .agg l => .agg (l.map (renC θ))
  | .ints k l n => .ints k l n
def renR (θ : Nat → Nat) : RV → RV
  | .one v => .one (renA θ v)
  | .tup l => .tup (l.map (renA θ))
  | .any => .any
def inC (k : Nat) : Cell → Bool
  | .ptr nm _ => Nat.blt nm k
  | .sl nm _ _ _ => Nat.blt nm k
  | .slu nm _ _ _ => Nat.blt nm k
  | .map nm => Nat.blt nm k
  | .yield nm => Nat.blt nm k
  | .fn _ fs caps => fs.all (fun (a, _) => Nat.blt a k) && caps.all (fun (a, _) => Nat.blt a k)
  | _ => true
def inA (k : Nat) : AV → Bool
  | .c x => inC k x
  | .agg l => l.all (inC k)
  | .ints .. => true
def inR (k : Nat) : RV → Bool
  | .one v => inA k v
  | .tup l => l.all (inA k)
  | .any => true
def rho0 (k : Nat) (θ : Nat → Nat) (ρ : Rho) : Rho := ⟨fun nm => if nm < k then ρ (θ nm) else none, ρ.fz⟩
theorem rho0_nm {k : Nat} {θ : Nat → Nat} {ρ : Rho} {nm : Nat} : (rho0 k θ ρ) nm = if nm < k then ρ (θ nm) else none := rfl
theorem blt_lt {a b : Nat} (h : Nat.blt a b = true) : a < b := by simpa [Nat.blt_eq] using h
section
variable {k : Nat} {θ : Nat → Nat} {ρ : Rho}
theorem CapsR.small : ∀ {l : List (Nat × Nat)} {vs : List Value}, l.all (fun (a, _) => Nat.blt a k) = true → CapsR ρ (l.map fun (a, b) => (θ a, b)) vs → CapsR (rho0 k θ ρ) l vs
  | [], _, _, h => h
  | (a, b) :: l, _, hi, ⟨bl, c, vs', h1, h2, h3⟩ => by
    simp only [List.all_cons, Bool.and_eq_true] at hi
    exact ⟨bl, c, vs', by rw [rho0_nm, if_pos (blt_lt hi.1)]; exact h1, CapsR.small hi.2 h2, h3⟩
theorem CR.small {c : Cell} {v : Value} (hi : inC k c = true) (h : CR ρ (renC θ c) v) : CR (rho0 k θ ρ) c v := by
  cases c with
  | ptr nm off => obtain ⟨b, c, h1, h2⟩ := h; exact ⟨b, c, by rw [rho0_nm, if_pos (blt_lt hi)]; exact h1, h2⟩
  | sl nm off len cap => obtain ⟨b, c, h1, h2⟩ := h; exact ⟨b, c, by rw [rho0_nm, if_pos (blt_lt hi)]; exact h1, h2⟩
  | slu nm sz a len => obtain ⟨b, c, off, h1, h2⟩ := h; exact ⟨b, c, off, by rw [rho0_nm, if_pos (blt_lt hi)]; exact h1, h2⟩
  | map nm => obtain ⟨b, c, h1, h2⟩ := h; exact ⟨b, c, by rw [rho0_nm, if_pos (blt_lt hi)]; exact h1, h2⟩
  | yield nm => obtain ⟨b, c, h1, h2⟩ := h; exact ⟨b, c, by rw [rho0_nm, if_pos (blt_lt hi)]; exact h1, h2⟩
  | fn f fs caps =>
    obtain ⟨us, vs, h1, h2, h3⟩ := h
    simp only [inC, Bool.and_eq_true] at hi
    exact ⟨us, vs, CapsR.small hi.1 h1, CapsR.small hi.2 h2, h3⟩
  | _ => exact h
theorem CsR.small : ∀ {l : List Cell} {vs : List Value}, l.all (inC k) = true → CsR ρ (l.map (renC θ)) vs → CsR (rho0 k θ ρ) l vs
  | [], _, _, h => h
  | c :: l, _, hi, ⟨v, vs', h1, h2, h3⟩ => by
    simp only [List.all_cons, Bool.and_eq_true] at hi
    exact ⟨v, vs', h1.small hi.1, CsR.small hi.2 h2, h3⟩
theorem AVR.small {x : AV} {v : Value} (hi : inA k x = true) (h : AVR ρ (renA θ x) v) : AVR (rho0 k θ ρ) x v := by
  cases x with
  | c x => exact CR.small hi h
  | agg l => obtain ⟨vs, h1, h2⟩ := h; exact ⟨vs, CsR.small hi h1, h2⟩
  | ints => exact h
theorem AVsR.small : ∀ {l : List AV} {vs : List Value}, l.all (inA k) = true → AVsR ρ (l.map (renA θ)) vs → AVsR (rho0 k θ ρ) l vs
  | [], _, _, h => h
  | c :: l, _, hi, ⟨v, vs', h1, h2, h3⟩ => by
    simp only [List.all_cons, Bool.and_eq_true] at hi
    exact ⟨v, vs', h1.small hi.1, AVsR.small hi.2 h2, h3⟩
theorem RVR.small {x : RV} {v : Value} (hi : inR k x = true) (h : RVR ρ (renR θ x) v) : RVR (rho0 k θ ρ) x v := by
  cases x with
  | one x => exact AVR.small hi h
  | tup l => obtain ⟨vs, h1, h2⟩ := h; exact ⟨vs, AVsR.small hi h1, h2⟩
  | any => trivial
theorem ArgsR.small : ∀ {l : List RV} {vs : List Value}, l.all (inR k) = true → ArgsR ρ (l.map (renR θ)) vs → ArgsR (rho0 k θ ρ) l vs
  | [], _, _, h => h
  | c :: l, _, hi, ⟨v, vs', h1, h2, h3⟩ => by
    simp only [List.all_cons, Bool.and_eq_true] at hi
    exact ⟨v, vs', h1.small hi.1, ArgsR.small hi.2 h2, h3⟩
end

/-- x, to be read alone, is what y is -/
def RoOf (k : Nat) (θ : Nat → Nat) (x y : Blk) : Prop := x.wr = false ∧ ∀ ρ c o, BlkR ρ c y o → BlkR (rho0 k θ ρ) c x o

theorem RoOf.ints {k : Nat} {θ : Nat → Nat} {t : TypeId} {ro : Bool} {op : Option Nat} {kd : IntKind} {l : List Int} {n : Nat} : RoOf k θ (.row t true op (.ints kd l n)) (.row t ro op (.ints kd l n)) :=
  ⟨rfl, fun ρ c o ⟨vs, tail, fr, h1, h2, _, h4⟩ => ⟨vs, tail, fr, h1, h2, (fun h => by cases h), h4⟩⟩
theorem RoOf.cells {k : Nat} {θ : Nat → Nat} {t : TypeId} {ro : Bool} {op : Option Nat} {l : List Cell} (h : l.all (inC k) = true) : RoOf k θ (.row t true op (.cells l)) (.row t ro op (.cells (l.map (renC θ)))) :=
  ⟨rfl, fun ρ c o ⟨vs, tail, fr, h1, h2, _, h4⟩ => ⟨vs, tail, fr, h1, CsR.small h h2, (fun h => by cases h), h4⟩⟩

/-- a call that reads a few blocks -/
theorem CallInfo.small {f : FuncId} {args : List RV} {v : RV} {k : Nat} {hs : T Blk} {θ : Nat → Nat} {s : S} (ht : Top s) (hfn : ∃ fn, P.funcs[f]? = some fn ∧ fn.body.isNone = false)
    (h0 : ∀ (ρ : Rho) (w : World) (vs : List Value), HRel ρ hs.get w → Fresh ρ k → ArgsR ρ args vs → Calls P f vs.toArray w fun e w' => ∃ V ρ' hp' nx' L, e = .returned V ∧ RVR ρ' v V ∧ Stp ρ hs.get k w ρ' hp' nx' w' L)
    (hin : ∀ nm x, hs.get nm = some x → nm < k ∧ ∃ y, s.hp.get (θ nm) = some y ∧ RoOf k θ x y) (ha : args.all (inR k) = true) (hv : flatR v = true) :
    CallInfo P f (args.map (renR θ)) s v s [] := by
  refine CallInfo.quiet ht hfn fun ρ w vs hr ha' => ?_
  have hr0 : HRel (rho0 k θ ρ) hs.get w := ⟨fun nm x hx => by
      obtain ⟨hlt, y, hy, _, hro⟩ := hin nm x hx
      obtain ⟨b, c, o, e1, e2, e3⟩ := hr.ok _ _ hy
      exact ⟨b, c, o, by rw [rho0_nm, if_pos hlt]; exact e1, e2, hro _ _ _ e3⟩,
    fun nm nm' x y b c c' hx hy hw => by
      obtain ⟨_, y, _, hro, _⟩ := hin nm x hx
      rw [hro] at hw; (cases hw),
    fun b l h => ⟨(hr.fz b l h).1, fun nm x c hx hw => by
      obtain ⟨_, y, _, hro, _⟩ := hin nm x hx
      rw [hro] at hw; cases hw⟩⟩
  have hf0 : Fresh (rho0 k θ ρ) k := fun nm h => by rw [rho0_nm, if_neg (by omega)]
  refine (h0 _ w vs hr0 hf0 (ha'.small ha)).mono fun e w' ⟨V, ρ', hp', nx', L, e1, e2, st⟩ => ⟨V, e1, e2.indep hv, ?_⟩
  refine ⟨st.os, st.tape, st.out, st.size, fun b hb => st.frame b hb fun nm c hm hlt => ?_⟩
  obtain ⟨x, h1, h2⟩ := st.own nm hm hlt
  obtain ⟨_, y, _, hro, _⟩ := hin nm x h1
  rw [hro] at h2; cases h2

/-- .. out of a body's triple -/
theorem Tr.small {g : FuncId} {fn : Func} {c : Code} (hf : P.funcs[g]? = some fn) (hb : fn.body = some c) {args : List RV} {sl : T RV} {v : RV} {k : Nat} {hs : T Blk} (htop : Top ⟨.nil, hs, k, []⟩)
    (hset : setArgs fn.ntmps args 0 .nil some = some sl)
    (h : Tr P fn.ntmps c ⟨sl, hs, k, []⟩ fun x s1 => (x = .normal ∨ x = .ret) ∧ ∃ l, resOf P fn.ntmps s1 fn.results.toList = some l ∧ resRV l = v)
    (ρ : Rho) (w : World) (vs : List Value) (hr : HRel ρ hs.get w) (hfr : Fresh ρ k) (ha : ArgsR ρ args vs) : Calls P g vs.toArray w fun e w' => ∃ V ρ' hp' nx' L, e = .returned V ∧ RVR ρ' v V ∧ Stp ρ hs.get k w ρ' hp' nx' w' L := by
  refine (Tr.calls (s := ⟨.nil, hs, k, []⟩) (Q := fun v' _ => v' = v) hf hb hset htop h ρ w vs hr hfr ha).mono fun e w' hh => ?_
  obtain ⟨v', s', L, V, ρ', rfl, ab, e1, e2, e3, e4, st⟩ := hh
  exact ⟨V, ρ', _, _, L, e1, e2, st⟩
end Go.Sx

namespace Go.Sx
open Go.RowKit
variable {P : Program}
/-! ## Blocks forgotten, so that ways meet again -/
noncomputable def cutT (t : T Blk) : Nat → T Blk → Option (T Blk)
  | 0, r => some r
  | m + 1, r => T.set depth r m (t.get m) fun r => cutT t m r
/-- all blocks from m on are forgotten; the next name is M -/
noncomputable def cut (m M : Nat) (s : S) : S := match s with | ⟨sl, hp, nx, _⟩ => if nx ≤ M ∧ m ≤ M then (match cutT hp m .nil with | some t => ⟨sl, t, M, []⟩ | none => ⟨sl, hp, nx, []⟩) else ⟨sl, hp, nx, []⟩

theorem cutT_ok {t : T Blk} : ∀ {m : Nat} {r r' : T Blk}, cutT t m r = some r' → ∀ j, r'.get j = if j < m then t.get j else r.get j
  | 0, r, r', h, j => by simp only [cutT, Option.some.injEq] at h; subst h; simp
  | m + 1, r, r', h, j => by
    unfold cutT at h
    obtain ⟨t', h1, h2⟩ := T.set_ok _ _ _ _ _ _ h
    rw [cutT_ok h1, h2]
    by_cases e : j < m
    · simp only [if_pos e, if_pos (show j < m + 1 by omega)]
    · by_cases e2 : j = m
      · subst e2; simp only [if_neg e, if_pos (show j < j + 1 by omega)]; rfl
      · simp only [if_neg e, if_neg e2, if_neg (show ¬ j < m + 1 by omega)]

/-! ### names from m on are free again -/
theorem renC_id (c : Cell) : renC id c = c := by
  cases c with
  | fn f fs caps => simp [renC]
  | _ => rfl
theorem renA_id (x : AV) : renA id x = x := by
  cases x with
  | c x => simp [renA, renC_id]
  | agg l => simp only [renA]; congr 1; exact (List.map_congr_left fun c _ => renC_id c).trans (List.map_id l)
  | ints => rfl
theorem renR_id (x : RV) : renR id x = x := by
  cases x with
  | one x => simp [renR, renA_id]
  | tup l => simp only [renR]; congr 1; exact (List.map_congr_left fun c _ => renA_id c).trans (List.map_id l)
  | any => rfl
theorem CsR.low {k : Nat} {ρ : Rho} {l : List Cell} {vs : List Value} (hi : l.all (inC k) = true) (h : CsR ρ l vs) : CsR (rho0 k id ρ) l vs := by
  refine CsR.small hi ?_
  rw [show l.map (renC id) = l from (List.map_congr_left fun c _ => renC_id c).trans (List.map_id l)]
  exact h
theorem AVR.low {k : Nat} {ρ : Rho} {x : AV} {v : Value} (hi : inA k x = true) (h : AVR ρ x v) : AVR (rho0 k id ρ) x v := AVR.small hi (by rw [renA_id]; exact h)
theorem CR.low {k : Nat} {ρ : Rho} {x : Cell} {v : Value} (hi : inC k x = true) (h : CR ρ x v) : CR (rho0 k id ρ) x v := CR.small hi (by rw [renC_id]; exact h)
theorem RVR.low {k : Nat} {ρ : Rho} {x : RV} {v : Value} (hi : inR k x = true) (h : RVR ρ x v) : RVR (rho0 k id ρ) x v := RVR.small hi (by rw [renR_id]; exact h)
theorem EsR.low {k : Nat} {ρ : Rho} : ∀ {l : List (Cell × AV)} {es : List MapEntry}, l.all (fun p => inC k p.1 && inA k p.2) = true → EsR ρ l es → EsR (rho0 k id ρ) l es
  | [], _, _, h => h
  | (c, v) :: l, _, hi, ⟨e, es', h1, h2, h3, h4⟩ => by
    simp only [List.all_cons, Bool.and_eq_true] at hi
    exact ⟨e, es', CR.low hi.1.1 h1, AVR.low hi.1.2 h2, EsR.low hi.2 h3, h4⟩
theorem toEs_low (k : Nat) (vk : Option IntKind) (l : List (Int × Int)) : (toEs vk l).all (fun p => inC k p.1 && inA k p.2) = true := by
  unfold toEs
  rw [List.all_eq_true]
  intro p hp
  rw [List.mem_map] at hp
  obtain ⟨q, _, rfl⟩ := hp
  cases vk <;> rfl
theorem toVs_low (k : Nat) (l : List (Int × List Int)) : (toVs l).all (fun p => inC k p.1 && inA k p.2) = true := by
  unfold toVs
  rw [List.all_eq_true]
  intro p hp
  rw [List.mem_map] at hp
  obtain ⟨q, _, rfl⟩ := hp
  rfl
theorem toSs_low (k : Nat) (l : List ByteArray) : (toSs l).all (fun p => inC k p.1 && inA k p.2) = true := by
  unfold toSs
  rw [List.all_eq_true]
  intro p hp
  rw [List.mem_map] at hp
  obtain ⟨q, _, rfl⟩ := hp
  rfl
def inB (k : Nat) : Blk → Bool
  | .row _ _ _ (.cells l) => l.all (inC k)
  | .row _ _ _ (.ints ..) => true
  | .row _ _ _ (.bools ..) => true
  | .map es => es.all (fun p => inC k p.1 && inA k p.2)
  | .win .. => true
  | .recs .. => true
  | .mapI .. => true
  | .mapR es => es.all (fun p => inC k p.1 && inA k p.2)
  | .loop _ sl _ _ _ => sl.all (inR k)
  | .iter .. => true
  | .mapP es => es.all (fun p => inC k p.1 && inA k p.2)
  | .mapV _ => true
  | .mapS _ => true
theorem BlkR.low {k : Nat} {ρ : Rho} {c : Nat} {x : Blk} {o : Obj} (hi : inB k x = true) (h : BlkR ρ c x o) : BlkR (rho0 k id ρ) c x o := by
  cases x with
  | row t ro opn b =>
    obtain ⟨vs, tail, fr, h1, h2, h3⟩ := h
    refine ⟨vs, tail, fr, h1, ?_, h3⟩
    cases b with
    | cells l => exact CsR.low hi h2
    | ints => exact h2
    | bools => exact h2
  | map es => obtain ⟨ents, cl, h1, h2, h3⟩ := h; exact ⟨ents, cl, h1, EsR.low hi h2, h3⟩
  | win => exact h
  | recs => exact h
  | mapI vk l => obtain ⟨ents, cl, h1, h2, h3⟩ := h; exact ⟨ents, cl, h1, EsR.low (toEs_low k vk l) h2, h3⟩
  | mapR es => obtain ⟨ents, cl, h1, h2, h3⟩ := h; exact ⟨ents, cl, h1, EsR.low hi h2, h3⟩
  | loop => obtain ⟨r, h1, h2, h3⟩ := h; exact ⟨r, h1, ArgsR.small hi (by rw [show List.map (renR id) _ = _ from (List.map_congr_left fun c _ => renR_id c).trans (List.map_id _)]; exact h2), h3⟩
  | iter => exact h
  | mapP es => obtain ⟨ents, cl, es', h1, h2, h3⟩ := h; exact ⟨ents, cl, es', h1, EsR.low hi h2, h3⟩
  | mapV l => obtain ⟨ents, cl, h1, h2, h3⟩ := h; exact ⟨ents, cl, h1, EsR.low (toVs_low k l) h2, h3⟩
  | mapS l => obtain ⟨ents, cl, h1, h2, h3⟩ := h; exact ⟨ents, cl, h1, EsR.low (toSs_low k l) h2, h3⟩

noncomputable def lowOK (n m : Nat) (sl : T RV) (hp : T Blk) : Bool :=
  (List.range n).all (fun t => inR m ((sl.get t).getD und)) && (List.range m).all (fun i => match hp.get i with | some b => inB m b | none => true)
/-- .. all blocks from m on are forgotten, and their names -/
noncomputable def low (n m : Nat) (s : S) : S := match s with | ⟨sl, hp, nx, _⟩ => bif lowOK n m sl hp then (match cutT hp m .nil with | some t => ⟨sl, t, m, []⟩ | none => ⟨sl, hp, nx, []⟩) else ⟨sl, hp, nx, []⟩

theorem Tr.low {n m : Nat} {c : Code} {s : S} {Q : X → S → Prop} (hm : s.nx ≤ m) (h : Tr P n c s fun x s' => s'.nx ≥ m ∧ Q x (Sx.low n m s')) : Tr P n c s Q := fun ht ρ a w R => by
  refine (h ht ρ a w R).mono fun e a w ⟨x, s', L, ⟨hnx, h1⟩, h2, h3, ρ', h4, h5⟩ => ?_
  obtain ⟨sl, hp, nx, lg⟩ := s'
  unfold Sx.low at h1
  simp only at h1
  cases hok : lowOK n m sl hp with
  | false =>
    rw [hok] at h1
    exact ⟨x, _, L, h1, ⟨h2.le, h2.keep, h2.top, h2.lt⟩, h3, ρ', ⟨h4.sz, h4.df, h4.sl, h4.hp, h4.fresh⟩, h5⟩
  | true =>
    rw [hok] at h1
    simp only [cond_true] at h1
    cases hcut : cutT hp m .nil with
    | none => rw [hcut] at h1; exact ⟨x, _, L, h1, ⟨h2.le, h2.keep, h2.top, h2.lt⟩, h3, ρ', ⟨h4.sz, h4.df, h4.sl, h4.hp, h4.fresh⟩, h5⟩
    | some t =>
      rw [hcut] at h1
      have hg := cutT_ok hcut
      have hget : ∀ j x, t.get j = some x → hp.get j = some x ∧ j < m := fun j x hx => by
        rw [hg] at hx
        by_cases e : j < m
        · rw [if_pos e] at hx; exact ⟨hx, e⟩
        · rw [if_neg e, T.get_nil] at hx; cases hx
      simp only [lowOK, Bool.and_eq_true, List.all_eq_true, List.mem_range] at hok
      have hB : ∀ j x, t.get j = some x → inB m x = true := fun j x hx => by
        obtain ⟨g1, g2⟩ := hget j x hx
        have := hok.2 j g2
        rw [g1] at this
        exact this
      refine ⟨x, ⟨sl, t, m, []⟩, L.filter (fun nm => decide (nm < m)), h1, ⟨hm, fun nm a b => ?_, fun nm hn => ?_, fun nm hn => ?_⟩, h3, rho0 m id ρ', ⟨h4.sz, h4.df, fun j => ?_, ⟨fun nm y hy => ?_, fun nm nm' x y b c c' hx hy hw e1 e2 => ?_, fun b l hb => ⟨(h4.hp.fz b l hb).1, fun nm x c hx hw he => ?_⟩⟩, fun nm hn => ?_⟩, ?_⟩
      · show t.get nm = _
        have : nm < m := Nat.lt_of_lt_of_le a hm
        rw [hg, if_pos this]
        exact h2.keep nm a (fun h => b (List.mem_filter.2 ⟨h, by simpa using this⟩))
      · show t.get nm = none
        rw [hg, if_neg (by have : m ≤ nm := hn; omega), T.get_nil]
      · have := (List.mem_filter.1 hn).2
        simpa using this
      · have := h4.sl j
        unfold slot at this ⊢
        by_cases hj : j < n
        · rw [if_pos hj] at this ⊢; exact RVR.low (hok.1 j hj) this
        · rw [if_neg hj] at this ⊢; exact RVR.low (by rfl) this
      · obtain ⟨g1, g2⟩ := hget nm y hy
        obtain ⟨b, c, o, e1, e2, e3⟩ := h4.hp.ok nm y g1
        exact ⟨b, c, o, by rw [rho0_nm, if_pos g2]; exact e1, e2, e3.low (hB nm y hy)⟩
      · rw [rho0_nm, if_pos (hget _ _ hx).2] at e1
        rw [rho0_nm, if_pos (hget _ _ hy).2] at e2
        exact h4.hp.inj nm nm' x y b c c' (hget _ _ hx).1 (hget _ _ hy).1 hw e1 e2
      · rw [rho0_nm, if_pos (hget _ _ hx).2] at he
        exact (h4.hp.fz b l hb).2 nm x c (hget _ _ hx).1 hw he
      · have : m ≤ nm := hn
        rw [rho0_nm, if_neg (by omega)]
      · refine ⟨hm, fun nm a => ?_, fun nm a b => ?_, h5.size, fun b hb hL => h5.frame b hb fun nm c hmem hlt => ?_, fun nm b c hle he => ?_, fun nm hmem hlt => h5.own nm (List.mem_filter.1 hmem).1 hlt, h5.os, h5.tape, h5.out, h5.fzk, fun b l h => (h5.fzn b l h).imp id fun h => h.imp id fun ⟨nm, c, g1, g2, g3⟩ => ⟨nm, c, List.mem_filter.2 ⟨g1, by simpa using Nat.lt_of_lt_of_le g2 hm⟩, g2, g3⟩⟩
        · rw [rho0_nm, if_pos (Nat.lt_of_lt_of_le a hm)]; exact h5.rho nm a
        · have : nm < m := Nat.lt_of_lt_of_le a hm
          show t.get nm = _
          rw [hg, if_pos this]
          exact h5.keep nm a (fun h => b (List.mem_filter.2 ⟨h, by simpa using this⟩))
        · exact hL nm c (List.mem_filter.2 ⟨hmem, by simpa using Nat.lt_of_lt_of_le hlt hm⟩) hlt
        · rw [rho0_nm] at he
          split at he
          · rcases h5.new nm b c hle he with h | ⟨nm0, c0, g1, g2, g3⟩
            · exact .inl h
            · exact .inr ⟨nm0, c0, List.mem_filter.2 ⟨g1, by simpa using Nat.lt_of_lt_of_le g2 hm⟩, g2, g3⟩
          · cases he

/-- a path: slots forgotten, blocks and names from m on too -/
theorem Tr.pathL {Sg : FuncId → Option SumA} (F : Fit P (fun f => (Sg f).map toSum)) {fuel n : Nat} {c : Code} {s : S} {o : List (Nat × Bool)} {keep : List Nat} {m : Nat} {x : X} {s' : S} {ps : List Prop} (hm : s.nx ≤ m)
    (h : execA P Sg fuel n c s ⟨0, o, []⟩ (fun x s α => some (x, Nat.ble m s.nx, Sx.low n m (Sx.fgt keep n s), α.ob)) = some (x, true, s', ps)) (hp : All ps) {Q : X → S → Prop} (hq : Q x s') : Tr P n c s Q := by
  refine Tr.low (m := m) hm (Tr.fgt (Q := fun x s' => s'.nx ≥ m ∧ Q x (Sx.low n m s')) keep ?_)
  intro ht ρ a w R
  obtain ⟨x1, s1, α', h1, h2⟩ := execA_ok Sg fuel _ _ _ _ _ _ h
  simp only [Option.some.injEq, Prod.mk.injEq] at h1
  obtain ⟨rfl, hle, rfl, rfl⟩ := h1
  have h3 := (h2 hp).2 (X × S) (fun x s => some (x, s))
  obtain ⟨x2, s2, L, mm, h4, ab, hw⟩ := exec_sound F.ng F.mixed F.sums fuel _ _ _ _ _ ht h3
  simp only [Option.some.injEq, Prod.mk.injEq] at h4
  obtain ⟨rfl, rfl⟩ := h4
  refine (hw ρ a w R).y.mono fun e a w hh => ⟨_, _, L, ⟨?_, ?_⟩, ab.n, hh⟩
  · rw [(fgt_hp keep n s2).2]; exact Nat.le_of_ble_eq_true hle
  · exact hq

/-- one path over a few blocks, to be read alone -/
theorem small_path {Sg : FuncId → Option SumA} (F : Fit P (fun f => (Sg f).map toSum)) {fuel : Nat} {g : FuncId} {args : List RV} {hs : T Blk} {k : Nat} {o : List (Nat × Bool)} {v : RV} {ps : List Prop} (htop : Top ⟨.nil, hs, k, []⟩)
    (h : runA P Sg fuel g args ⟨.nil, hs, k, []⟩ ⟨0, o, []⟩ (fun v _ α => some (v, α.ob)) = some (v, ps)) (hp : All ps) (ρ : Rho) (w : World) (vs : List Value) (hr : HRel ρ hs.get w) (hf : Fresh ρ k) (ha : ArgsR ρ args vs) :
    Calls P g vs.toArray w fun e w' => ∃ V ρ' hp' nx' L, e = .returned V ∧ RVR ρ' v V ∧ Stp ρ hs.get k w ρ' hp' nx' w' L := by
  obtain ⟨v1, s1, α', h1, h2⟩ := runA_ok h
  simp only [Option.some.injEq, Prod.mk.injEq] at h1
  obtain ⟨rfl, rfl⟩ := h1
  have h3 := (h2 hp).2 (RV × S) (fun v s => some (v, s))
  obtain ⟨v2, s2, L, h4, ci⟩ := runB_info F htop h3
  simp only [Option.some.injEq, Prod.mk.injEq] at h4
  obtain ⟨rfl, rfl⟩ := h4
  exact (ci.run ρ w vs hr hf ha).mono fun e w' ⟨V, ρ', e1, e2, e3, e4, st⟩ => ⟨V, ρ', _, _, L, e1, e2, st⟩
end Go.Sx

namespace Go.Sx
open Go.RowKit
variable {P : Program}
/-! ## What a call does to a few blocks, it does where they bear other names, among other blocks -/
def renE (θ : Nat → Nat) : List (Cell × AV) → List (Cell × AV) := List.map fun p => (renC θ p.1, renA θ p.2)
def renB (θ : Nat → Nat) : Blk → Blk
  | .row t ro o (.cells l) => .row t ro o (.cells (l.map (renC θ)))
  | .row t ro o (.ints k l n) => .row t ro o (.ints k l n)
  | .row t ro o (.bools l n) => .row t ro o (.bools l n)
  | .map es => .map (renE θ es)
  | .win o k l => .win o k l
  | .recs o k l => .recs o k l
  | .mapI vk l => .mapI vk l
  | .mapR es => .mapR (renE θ es)
  | .loop st sl ps as bd => .loop st (sl.map (renR θ)) ps as bd
  | .iter s p => .iter s p
  | .mapP es => .mapP (renE θ es)
  | .mapV l => .mapV l
  | .mapS l => .mapS l
theorem renB_wr (θ : Nat → Nat) (x : Blk) : (renB θ x).wr = x.wr := by
  cases x with
  | row t ro o b => cases b <;> rfl
  | _ => rfl
section up
variable {ρ ρ' : Rho} {θ : Nat → Nat} (h : ∀ nm b, ρ nm = some b → ρ' (θ nm) = some b) (hz : ∀ b l, ρ.fz b = some l → ρ'.fz b = some l)
include h hz
omit hz in
theorem CapsR.up : ∀ {l : List (Nat × Nat)} {vs : List Value}, CapsR ρ l vs → CapsR ρ' (l.map fun (a, b) => (θ a, b)) vs
  | [], _, hr => hr
  | (_, _) :: _, _, ⟨b, c, vs', h1, h2, h3⟩ => ⟨b, c, vs', h _ _ h1, CapsR.up h2, h3⟩
theorem CR.up {c : Cell} {v : Value} (hr : CR ρ c v) : CR ρ' (renC θ c) v := by
  cases c with
  | ptr nm off => obtain ⟨b, c, h1, h2⟩ := hr; exact ⟨b, c, h _ _ h1, h2⟩
  | sl nm off len cap => obtain ⟨b, c, h1, h2⟩ := hr; exact ⟨b, c, h _ _ h1, h2⟩
  | slu nm sz a len => obtain ⟨b, c, off, h1, h2⟩ := hr; exact ⟨b, c, off, h _ _ h1, h2⟩
  | map nm => obtain ⟨b, c, h1, h2⟩ := hr; exact ⟨b, c, h _ _ h1, h2⟩
  | yield nm => obtain ⟨b, c, h1, h2⟩ := hr; exact ⟨b, c, h _ _ h1, h2⟩
  | fn f fs caps => obtain ⟨us, vs, h1, h2, h3⟩ := hr; exact ⟨us, vs, CapsR.up h h1, CapsR.up h h2, h3⟩
  | vsl l =>
    rcases hr with h0 | ⟨h0, b, c, h1, h2⟩
    · exact .inl h0
    · exact .inr ⟨h0, b, c, hz _ _ h1, h2⟩
  | vptr l i => obtain ⟨b, h1, h2⟩ := hr; exact ⟨b, hz _ _ h1, h2⟩
  | _ => exact hr
theorem CsR.up : ∀ {l : List Cell} {vs : List Value}, CsR ρ l vs → CsR ρ' (l.map (renC θ)) vs
  | [], _, hr => hr
  | _ :: _, _, ⟨v, vs', h1, h2, h3⟩ => ⟨v, vs', CR.up h hz h1, CsR.up h2, h3⟩
theorem AVR.up {x : AV} {v : Value} (hr : AVR ρ x v) : AVR ρ' (renA θ x) v := by
  cases x with
  | c x => exact CR.up h hz hr
  | agg l => obtain ⟨vs, h1, h2⟩ := hr; exact ⟨vs, CsR.up h hz h1, h2⟩
  | ints => exact hr
theorem AVsR.up : ∀ {l : List AV} {vs : List Value}, AVsR ρ l vs → AVsR ρ' (l.map (renA θ)) vs
  | [], _, hr => hr
  | _ :: _, _, ⟨v, vs', h1, h2, h3⟩ => ⟨v, vs', AVR.up h hz h1, AVsR.up h2, h3⟩
theorem RVR.up {x : RV} {v : Value} (hr : RVR ρ x v) : RVR ρ' (renR θ x) v := by
  cases x with
  | one x => exact AVR.up h hz hr
  | tup l => obtain ⟨vs, h1, h2⟩ := hr; exact ⟨vs, AVsR.up h hz h1, h2⟩
  | any => trivial
theorem ArgsR.up : ∀ {l : List RV} {vs : List Value}, ArgsR ρ l vs → ArgsR ρ' (l.map (renR θ)) vs
  | [], _, hr => hr
  | _ :: _, _, ⟨v, vs', h1, h2, h3⟩ => ⟨v, vs', RVR.up h hz h1, ArgsR.up h2, h3⟩
theorem EsR.up : ∀ {l : List (Cell × AV)} {es : List MapEntry}, EsR ρ l es → EsR ρ' (renE θ l) es
  | [], _, hr => hr
  | (_, _) :: _, _, ⟨e, es', h1, h2, h3, h4⟩ => ⟨e, es', CR.up h hz h1, AVR.up h hz h2, EsR.up h3, h4⟩
omit h hz in
theorem toEs_ren (vk : Option IntKind) (l : List (Int × Int)) : renE θ (toEs vk l) = toEs vk l := by
  unfold renE toEs
  rw [List.map_map]
  refine List.map_congr_left fun p _ => ?_
  cases vk <;> rfl
omit h hz in
theorem toVs_ren (l : List (Int × List Int)) : renE θ (toVs l) = toVs l := by
  unfold renE toVs
  rw [List.map_map]
  exact List.map_congr_left fun p _ => rfl
omit h hz in
theorem toSs_ren (l : List ByteArray) : renE θ (toSs l) = toSs l := by
  unfold renE toSs
  rw [List.map_map]
  exact List.map_congr_left fun p _ => rfl
theorem BlkR.up {c : Nat} {x : Blk} {o : Obj} (hr : BlkR ρ c x o) : BlkR ρ' c (renB θ x) o := by
  cases x with
  | row t ro opn b =>
    obtain ⟨vs, tail, fr, h1, h2, h3⟩ := hr
    cases b with
    | cells l => exact ⟨vs, tail, fr, h1, CsR.up h hz h2, h3⟩
    | ints => exact ⟨vs, tail, fr, h1, h2, h3⟩
    | bools => exact ⟨vs, tail, fr, h1, h2, h3⟩
  | map es => obtain ⟨ents, cl, h1, h2, h3⟩ := hr; exact ⟨ents, cl, h1, EsR.up h hz h2, h3⟩
  | win => exact hr
  | recs => exact hr
  | mapR es => obtain ⟨ents, cl, h1, h2, h3⟩ := hr; exact ⟨ents, cl, h1, EsR.up h hz h2, h3⟩
  | loop => obtain ⟨r, h1, h2, h3⟩ := hr; exact ⟨r, h1, ArgsR.up h hz h2, h3⟩
  | iter => exact hr
  | mapP es => obtain ⟨ents, cl, es', h1, h2, h3⟩ := hr; exact ⟨ents, cl, es', h1, EsR.up h hz h2, h3⟩
  | mapI vk l =>
    obtain ⟨ents, cl, h1, h2, h3⟩ := hr
    refine ⟨ents, cl, h1, ?_, h3⟩
    have := EsR.up h hz h2
    rw [toEs_ren] at this
    exact this
  | mapV l =>
    obtain ⟨ents, cl, h1, h2, h3⟩ := hr
    refine ⟨ents, cl, h1, ?_, h3⟩
    have := EsR.up h hz h2
    rw [toVs_ren] at this
    exact this
  | mapS l =>
    obtain ⟨ents, cl, h1, h2, h3⟩ := hr
    refine ⟨ents, cl, h1, ?_, h3⟩
    have := EsR.up h hz h2
    rw [toSs_ren] at this
    exact this
end up
section down
variable {k : Nat} {θ : Nat → Nat} {ρ : Rho}
theorem EsR.small : ∀ {l : List (Cell × AV)} {es : List MapEntry}, l.all (fun p => inC k p.1 && inA k p.2) = true → EsR ρ (renE θ l) es → EsR (rho0 k θ ρ) l es
  | [], _, _, h => h
  | (c, v) :: l, _, hi, ⟨e, es', h1, h2, h3, h4⟩ => by
    simp only [List.all_cons, Bool.and_eq_true] at hi
    exact ⟨e, es', CR.small hi.1.1 h1, AVR.small hi.1.2 h2, EsR.small hi.2 h3, h4⟩
theorem BlkR.small {c : Nat} {x : Blk} {o : Obj} (hi : inB k x = true) (h : BlkR ρ c (renB θ x) o) : BlkR (rho0 k θ ρ) c x o := by
  cases x with
  | row t ro opn b =>
    cases b with
    | cells l => obtain ⟨vs, tail, fr, h1, h2, h3⟩ := h; exact ⟨vs, tail, fr, h1, CsR.small hi h2, h3⟩
    | ints => exact h
    | bools => exact h
  | map es => obtain ⟨ents, cl, h1, h2, h3⟩ := h; exact ⟨ents, cl, h1, EsR.small hi h2, h3⟩
  | win => exact h
  | recs => exact h
  | mapR es => obtain ⟨ents, cl, h1, h2, h3⟩ := h; exact ⟨ents, cl, h1, EsR.small hi h2, h3⟩
  | loop => obtain ⟨r, h1, h2, h3⟩ := h; exact ⟨r, h1, ArgsR.small hi h2, h3⟩
  | iter => exact h
  | mapP es => obtain ⟨ents, cl, es', h1, h2, h3⟩ := h; exact ⟨ents, cl, es', h1, EsR.small hi h2, h3⟩
  | mapI vk l =>
    obtain ⟨ents, cl, h1, h2, h3⟩ := h
    refine ⟨ents, cl, h1, EsR.small (toEs_low k vk l) ?_, h3⟩
    rw [toEs_ren]
    exact h2
  | mapV l =>
    obtain ⟨ents, cl, h1, h2, h3⟩ := h
    refine ⟨ents, cl, h1, EsR.small (toVs_low k l) ?_, h3⟩
    rw [toVs_ren]
    exact h2
  | mapS l =>
    obtain ⟨ents, cl, h1, h2, h3⟩ := h
    refine ⟨ents, cl, h1, EsR.small (toSs_low k l) ?_, h3⟩
    rw [toSs_ren]
    exact h2
end down

/-- a contract over a few blocks, names 0 .. k-1: what is there behind -/
def SmallC (P : Program) (f : FuncId) (args : List RV) (k : Nat) (hs hs' : T Blk) (v : RV) : Prop :=
  ∀ (ρ : Rho) (w : World) (vs : List Value), HRel ρ hs.get w → Fresh ρ k → ArgsR ρ args vs → Calls P f vs.toArray w fun e w' =>
    ∃ V ρ' L, e = .returned V ∧ RVR ρ' v V ∧ HRel ρ' hs'.get w' ∧ Fresh ρ' k ∧ Stp ρ hs.get k w ρ' hs'.get k w' L

theorem CallInfo.frame {f : FuncId} {args : List RV} {v : RV} {k : Nat} {hs hs' : T Blk} {θ : Nat → Nat} {s : S} {hp' : T Blk} {Lw : List Nat} (ht : Top s) (hfn : ∃ fn, P.funcs[f]? = some fn ∧ fn.body.isNone = false)
    (hC : SmallC P f args k hs hs' v) (ha : args.all (inR k) = true)
    (hin : ∀ i x, hs.get i = some x → i < k ∧ inB k x = true ∧ x.wr = true ∧ θ i < s.nx ∧ s.hp.get (θ i) = some (renB θ x))
    (hinj : ∀ i j x y, hs.get i = some x → hs.get j = some y → θ i = θ j → i = j)
    (hout : ∀ nm, (∀ i x, hs.get i = some x → θ i ≠ nm) → hp'.get nm = s.hp.get nm)
    (hall : ∀ i x, hs.get i = some x → hp'.get (θ i) = (hs'.get i).map (renB θ))
    (hL : ∀ nm, nm ∈ Lw ↔ ∃ i x, hs.get i = some x ∧ θ i = nm) :
    CallInfo P f (args.map (renR θ)) s (renR θ v) { s with hp := hp', lg := Lw ++ s.lg } Lw := by
  have hlt : ∀ nm, nm ∈ Lw → nm < s.nx := fun nm h => by
    obtain ⟨i, x, h1, rfl⟩ := (hL nm).1 h
    exact (hin i x h1).2.2.2.1
  have hkeep : ∀ nm, nm ∉ Lw → hp'.get nm = s.hp.get nm := fun nm h => hout nm fun i x h1 h2 => h ((hL nm).2 ⟨i, x, h1, h2⟩)
  refine ⟨hfn, rfl, ⟨rfl, Nat.le_refl _, fun nm _ h2 => hkeep nm h2, fun nm hn => ?_, hlt⟩, fun ρ w vs hr hf ha' => ?_⟩
  · have hn' : s.nx ≤ nm := hn
    show hp'.get nm = none
    rw [hkeep nm (fun h => by have := hlt nm h; omega)]
    exact ht nm hn
  have hr0 : HRel (rho0 k θ ρ) hs.get w := ⟨fun i x hx => by
      obtain ⟨g1, g2, _, _, g5⟩ := hin i x hx
      obtain ⟨b, c, o, e1, e2, e3⟩ := hr.ok _ _ g5
      exact ⟨b, c, o, by rw [rho0_nm, if_pos g1]; exact e1, e2, e3.small g2⟩,
    fun i j x y b c c' hx hy hw e1 e2 => by
      obtain ⟨g1, _, _, _, g5⟩ := hin i x hx
      obtain ⟨j1, _, _, _, j5⟩ := hin j y hy
      rw [rho0_nm, if_pos g1] at e1
      rw [rho0_nm, if_pos j1] at e2
      exact hinj i j x y hx hy (hr.inj _ _ _ _ b c c' g5 j5 (by rw [renB_wr]; exact hw) e1 e2),
    fun b l hb => ⟨(hr.fz b l hb).1, fun i x c hx hw he => by
      obtain ⟨g1, _, _, _, g5⟩ := hin i x hx
      rw [rho0_nm, if_pos g1] at he
      exact (hr.fz b l hb).2 _ _ c g5 (by rw [renB_wr]; exact hw) he⟩⟩
  have hf0 : Fresh (rho0 k θ ρ) k := fun nm h => by rw [rho0_nm, if_neg (by omega)]
  refine (hC _ w vs hr0 hf0 (ha'.small ha)).mono fun e w' ⟨V, ρ', L, e1, e2, e3, e4, st⟩ => ?_
  have hup : ∀ nm b, ρ' nm = some b → (⟨ρ.nm, ρ'.fz⟩ : Rho) (θ nm) = some b := fun nm b hb => by
    by_cases hk : nm < k
    · have := st.rho nm hk
      rw [rho0_nm, if_pos hk] at this
      rw [← this]; exact hb
    · rw [e4 nm (by omega)] at hb; cases hb
  have hz : ∀ b l, ρ'.fz b = some l → (⟨ρ.nm, ρ'.fz⟩ : Rho).fz b = some l := fun _ _ h => h
  have hdn : ∀ i x, hs.get i = some x → ∀ b, ρ (θ i) = some b → ρ' i = some b := fun i x hx b hb => by
    obtain ⟨g1, _⟩ := hin i x hx
    rw [st.rho i g1, rho0_nm, if_pos g1]; exact hb
  -- an old block that is none of the few is as it was
  have hold : ∀ nm x, (∀ i x, hs.get i = some x → θ i ≠ nm) → s.hp.get nm = some x → ∀ b c, ρ nm = some (b, c) → ∀ nm0 c0, nm0 ∈ L → nm0 < k → rho0 k θ ρ nm0 ≠ some (b, c0) := fun nm x hno hx b c hb nm0 c0 hm hlt0 he => by
    obtain ⟨x0, o1, o2⟩ := st.own nm0 hm hlt0
    obtain ⟨_, _, _, _, g5⟩ := hin nm0 x0 o1
    rw [rho0_nm, if_pos hlt0] at he
    exact hno nm0 x0 o1 (hr.inj _ _ _ _ b c0 c g5 hx (by rw [renB_wr]; exact o2) he hb)
  refine ⟨V, ⟨ρ.nm, ρ'.fz⟩, e1, RVR.up hup hz e2, ⟨fun nm x hx => ?_, fun nm nm' x y b c c' hx hy hw h1 h2 => ?_, fun b l hb => ⟨(e3.fz b l hb).1, fun nm x c hx hw he => ?_⟩⟩, hf, ⟨Nat.le_refl _, fun _ _ => rfl, fun nm _ h2 => hkeep nm h2, st.size, fun b hb hLb => st.frame b hb fun nm0 c0 hm hlt0 he => ?_, (fun nm b c h1 h2 => by rw [hf nm h1] at h2; cases h2), fun nm h1 _ => ?_, st.os, st.tape, st.out, st.fzk, fun b l h => (st.fzn b l h).imp id fun h => h.imp id fun ⟨nm0, c0, hm, hlt0, he⟩ => ?_⟩⟩
  · by_cases hc : ∃ i x0, hs.get i = some x0 ∧ θ i = nm
    · obtain ⟨i, x0, g1, rfl⟩ := hc
      have hx' : hp'.get (θ i) = some x := hx
      rw [hall i x0 g1] at hx'
      cases hh : hs'.get i with
      | none => rw [hh] at hx'; cases hx'
      | some x1 =>
        rw [hh] at hx'
        cases hx'
        obtain ⟨b, c, o, q1, q2, q3⟩ := e3.ok i x1 hh
        exact ⟨b, c, o, hup _ _ q1, q2, BlkR.up hup hz q3⟩
    · have hno : ∀ i x, hs.get i = some x → θ i ≠ nm := fun i x h1 h2 => hc ⟨i, x, h1, h2⟩
      have hx' : hp'.get nm = some x := hx
      rw [hout nm hno] at hx'
      obtain ⟨b, c, o, q1, q2, q3⟩ := hr.ok nm x hx'
      exact ⟨b, c, o, q1, by rw [st.frame b (lt_of_get q2) (hold nm x hno hx' b c q1)]; exact q2, q3.mono (show Sub ρ ⟨ρ.nm, ρ'.fz⟩ from ⟨fun _ _ h => h, st.fzk⟩)⟩
  · have hx' : hp'.get nm = some x := hx
    have hy' : hp'.get nm' = some y := hy
    by_cases hc : ∃ i x0, hs.get i = some x0 ∧ θ i = nm <;> by_cases hd : ∃ i x0, hs.get i = some x0 ∧ θ i = nm'
    · obtain ⟨i, x0, g1, rfl⟩ := hc
      obtain ⟨j, y0, j1, rfl⟩ := hd
      rw [hall i x0 g1] at hx'
      rw [hall j y0 j1] at hy'
      cases hh : hs'.get i with
      | none => rw [hh] at hx'; cases hx'
      | some x1 =>
        cases hg : hs'.get j with
        | none => rw [hg] at hy'; cases hy'
        | some y1 =>
          rw [hh] at hx'; rw [hg] at hy'
          cases hx'; cases hy'
          rw [e3.inj i j x1 y1 b c c' hh hg (by rw [renB_wr] at hw; exact hw) (hdn i x0 g1 _ h1) (hdn j y0 j1 _ h2)]
    · obtain ⟨i, x0, g1, rfl⟩ := hc
      have hno : ∀ i x, hs.get i = some x → θ i ≠ nm' := fun i x h1 h2 => hd ⟨i, x, h1, h2⟩
      rw [hout nm' hno] at hy'
      obtain ⟨_, _, g3, _, g5⟩ := hin i x0 g1
      exact hr.inj _ _ _ _ b c c' g5 hy' (by rw [renB_wr]; exact g3) h1 h2
    · obtain ⟨j, y0, j1, rfl⟩ := hd
      have hno : ∀ i x, hs.get i = some x → θ i ≠ nm := fun i x h1 h2 => hc ⟨i, x, h1, h2⟩
      rw [hout nm hno] at hx'
      obtain ⟨_, _, _, _, g5⟩ := hin j y0 j1
      exact hr.inj _ _ _ _ b c c' hx' g5 hw h1 h2
    · have hno : ∀ i x, hs.get i = some x → θ i ≠ nm := fun i x h1 h2 => hc ⟨i, x, h1, h2⟩
      have hno' : ∀ i x, hs.get i = some x → θ i ≠ nm' := fun i x h1 h2 => hd ⟨i, x, h1, h2⟩
      rw [hout nm hno] at hx'
      rw [hout nm' hno'] at hy'
      exact hr.inj _ _ _ _ b c c' hx' hy' hw h1 h2
  · have hx' : hp'.get nm = some x := hx
    have he' : ρ nm = some (b, c) := he
    by_cases hc : ∃ i x0, hs.get i = some x0 ∧ θ i = nm
    · obtain ⟨i, x0, g1, rfl⟩ := hc
      rw [hall i x0 g1] at hx'
      cases hh : hs'.get i with
      | none => rw [hh] at hx'; cases hx'
      | some x1 =>
        rw [hh] at hx'
        cases hx'
        exact (e3.fz b l hb).2 i x1 c hh (by rw [renB_wr] at hw; exact hw) (hdn i x0 g1 _ he')
    · have hno : ∀ i x, hs.get i = some x → θ i ≠ nm := fun i x h1 h2 => hc ⟨i, x, h1, h2⟩
      rw [hout nm hno] at hx'
      rcases st.fzn b l hb with h | h | ⟨nm0, c0, m1, m2, m3⟩
      · exact (hr.fz b l h).2 nm x c hx' hw he'
      · obtain ⟨b', c', o, q1, q2, _⟩ := hr.ok nm x hx'
        rw [he'] at q1
        simp only [Option.some.injEq, Prod.mk.injEq] at q1
        obtain ⟨rfl, _⟩ := q1
        have := lt_of_get q2
        omega
      · exact hold nm x hno hx' b c he' nm0 c0 m1 m2 m3
  · obtain ⟨x0, o1, o2⟩ := st.own nm0 hm hlt0
    obtain ⟨_, _, _, g4, _⟩ := hin nm0 x0 o1
    rw [rho0_nm, if_pos hlt0] at he
    exact hLb (θ nm0) c0 ((hL _).2 ⟨nm0, x0, o1, rfl⟩) g4 he
  · obtain ⟨i, x, g1, rfl⟩ := (hL nm).1 h1
    obtain ⟨_, _, g3, _, g5⟩ := hin i x g1
    exact ⟨_, g5, by rw [renB_wr]; exact g3⟩
  · obtain ⟨x0, o1, o2⟩ := st.own nm0 hm hlt0
    obtain ⟨_, _, _, g4, _⟩ := hin nm0 x0 o1
    rw [rho0_nm, if_pos hlt0] at he
    exact ⟨θ nm0, c0, (hL _).2 ⟨nm0, x0, o1, rfl⟩, g4, he⟩

/-- .. out of a body's triple, that ends in one state -/
theorem Tr.smallC {g : FuncId} {fn : Func} {c : Code} (hf : P.funcs[g]? = some fn) (hb : fn.body = some c) {args : List RV} {sl : T RV} {v : RV} {k : Nat} {hs hs' : T Blk} (htop : Top ⟨.nil, hs, k, []⟩)
    (hset : setArgs fn.ntmps args 0 .nil some = some sl)
    (h : Tr P fn.ntmps c ⟨sl, hs, k, []⟩ fun x s1 => (x = .normal ∨ x = .ret) ∧ ∃ l, resOf P fn.ntmps s1 fn.results.toList = some l ∧ (resRV l = v ∧ s1.hp = hs' ∧ s1.nx = k)) : SmallC P g args k hs hs' v := by
  intro ρ w vs hr hfr ha
  refine (Tr.calls (s := ⟨.nil, hs, k, []⟩) (Q := fun v' s1 => v' = v ∧ s1.hp = hs' ∧ s1.nx = k) hf hb hset htop h ρ w vs hr hfr ha).mono fun e w' hh => ?_
  obtain ⟨v', s', L, V, ρ', ⟨rfl, rfl, hk⟩, ab, e1, e2, e3, e4, st⟩ := hh
  refine ⟨V, ρ', L, e1, e2, e3, ?_, ?_⟩
  · rw [← hk]; exact e4
  · have := st
    rw [hk] at this
    exact this
end Go.Sx

namespace Go.Sx
open Go.RowKit
variable {P : Program}
/-! ## Trees: all paths of a piece at once -/
def Okp (o : Option Prop) : Prop := match o with | some p => p | none => False
/-- answers are written into the slots -/
abbrev αT : A := ⟨0, [(2000000000, true)], []⟩
theorem Okp.some' {p : Prop} (h : p) : Okp (some p) := h
theorem Okp.fork {t : Bool} {x y : Option Prop} (h1 : t = true → Okp x) (h2 : t = false → Okp y) : Okp (bif t then x else y) := by cases t <;> simp_all
theorem Okp.chk {t : Bool} {x : Option Prop} (h : t = true) (h1 : Okp x) : Okp (bif t then x else none) := by subst h; exact h1
theorem Okp.yes {t : Bool} {x y : Option Prop} (h : t = true) (h1 : Okp x) : Okp (bif t then x else y) := by subst h; exact h1
theorem Okp.no {t : Bool} {x y : Option Prop} (h : t = false) (h1 : Okp y) : Okp (bif t then x else y) := by subst h; exact h1
theorem Okp.of_eq {x y : Option Prop} (h : x = y) (hy : Okp y) : Okp x := by rw [h]; exact hy

theorem Tr.treeO {Sg : FuncId → Option SumA} (F : Fit P (fun f => (Sg f).map toSum)) {fuel n : Nat} {c : Code} {s : S} {Q : X → S → Prop}
    (hT : Okp (execA P Sg fuel n c s αT (fun x s α => some (All α.ob ∧ Q x s)))) : Tr P n c s Q := by
  intro ht ρ a w R
  cases he : execA P Sg fuel n c s αT (fun x s α => some (All α.ob ∧ Q x s)) with
  | none => rw [he] at hT; exact hT.elim
  | some p =>
    rw [he] at hT
    obtain ⟨x1, s1, α', h1, h2⟩ := execA_ok Sg fuel _ _ _ _ _ _ he
    simp only [Option.some.injEq] at h1
    subst h1
    have hT' : All α'.ob ∧ Q x1 s1 := hT
    have h3 := (h2 hT'.1).2 (X × S) (fun x s => some (x, s))
    obtain ⟨x2, s2, L, m, h4, ab, hw⟩ := exec_sound F.ng F.mixed F.sums fuel _ _ _ _ _ ht h3
    simp only [Option.some.injEq, Prod.mk.injEq] at h4
    obtain ⟨rfl, rfl⟩ := h4
    exact (hw ρ a w R).y.mono fun e a w hh => ⟨_, _, L, hT'.2, ab.n, hh⟩
/-- .. slots forgotten but keep -/
theorem Tr.tree {Sg : FuncId → Option SumA} (F : Fit P (fun f => (Sg f).map toSum)) {fuel n : Nat} {c : Code} {s : S} {keep : List Nat} {Q : X → S → Prop}
    (hT : Okp (execA P Sg fuel n c s αT (fun x s α => some (All α.ob ∧ Q x (Sx.fgt keep n s))))) : Tr P n c s Q :=
  Tr.fgt keep (Tr.treeO F (Q := fun x s => Q x (Sx.fgt keep n s)) hT)
/-- .. and blocks from m on, their names free again -/
theorem Tr.treeL {Sg : FuncId → Option SumA} (F : Fit P (fun f => (Sg f).map toSum)) {fuel n m : Nat} {c : Code} {s : S} {keep : List Nat} {Q : X → S → Prop} (hm : s.nx ≤ m)
    (hT : Okp (execA P Sg fuel n c s αT (fun x s α => some (All α.ob ∧ (Nat.ble m s.nx = true ∧ Q x (Sx.low n m (Sx.fgt keep n s))))))) : Tr P n c s Q := by
  refine Tr.low (m := m) hm (Tr.fgt keep ?_)
  refine (Tr.treeO F (Q := fun x s => Nat.ble m s.nx = true ∧ Q x (Sx.low n m (Sx.fgt keep n s))) hT).mono fun x s' ⟨h1, h2⟩ => ⟨?_, h2⟩
  rw [(fgt_hp keep n s').2]
  exact Nat.le_of_ble_eq_true h1
/-- .. an answer -/
theorem Tr.treeR {Sg : FuncId → Option SumA} (F : Fit P (fun f => (Sg f).map toSum)) {fuel n : Nat} {c : Code} {s : S} {res : List ResultVar} {Q : X → Option (List AV) → Prop}
    (hT : Okp (execA P Sg fuel n c s αT (fun x s α => some (All α.ob ∧ Q x (resOf P n s res))))) : Tr P n c s (fun x s => Q x (resOf P n s res)) :=
  Tr.treeO F (Q := fun x s => Q x (resOf P n s res)) hT

/-- .. whatever is done with the leaves -/
theorem Tr.treeK {Sg : FuncId → Option SumA} (F : Fit P (fun f => (Sg f).map toSum)) {fuel n : Nat} {c : Code} {s : S} {α : A} {K : X → S → A → Option Prop} {Q : X → S → Prop}
    (hK : ∀ x s α', Okp (K x s α') → All α'.ob ∧ Q x s) (hT : Okp (execA P Sg fuel n c s α K)) : All α.ob ∧ Tr P n c s Q := by
  cases he : execA P Sg fuel n c s α K with
  | none => rw [he] at hT; exact hT.elim
  | some p =>
    rw [he] at hT
    obtain ⟨x1, s1, α', h1, h2⟩ := execA_ok Sg fuel _ _ _ _ _ _ he
    have hT' : All α'.ob ∧ Q x1 s1 := hK _ _ _ (by rw [h1]; exact hT)
    refine ⟨(h2 hT'.1).1, fun ht ρ a w R => ?_⟩
    have h3 := (h2 hT'.1).2 (X × S) (fun x s => some (x, s))
    obtain ⟨x2, s2, L, m, h4, ab, hw⟩ := exec_sound F.ng F.mixed F.sums fuel _ _ _ _ _ ht h3
    simp only [Option.some.injEq, Prod.mk.injEq] at h4
    obtain ⟨rfl, rfl⟩ := h4
    exact (hw ρ a w R).y.mono fun e a w hh => ⟨_, _, L, hT'.2, ab.n, hh⟩
/-- the first pieces of a code -/
noncomputable def execN (P : Program) (Sg : FuncId → Option SumA) (fuel n : Nat) : Nat → Code → S → A → (X → S → A → Option Prop) → Option Prop
  | 0, _, s, α, K => K .normal s α
  | m + 1, c, s, α, K => match c with
    | .seq a b => execA P Sg fuel n a s α fun x s α => match x with
      | .normal => execN P Sg fuel n m b s α K
      | x => K x s α
    | _ => none
/-- what is left of it -/
noncomputable def tailN : Nat → Code → Code
  | 0, c => c
  | m + 1, c => match c with
    | .seq _ b => tailN m b
    | c => c
theorem Tr.treeNK {Sg : FuncId → Option SumA} (F : Fit P (fun f => (Sg f).map toSum)) {fuel n : Nat} {K : X → S → A → Option Prop} {Q : X → S → Prop} : ∀ (m : Nat) (c : Code) (s : S) (α : A), Okp (execN P Sg fuel n m c s α K) →
    (∀ x s α', Okp (K x s α') → All α'.ob ∧ Then P n s Q (tailN m c) x s) → All α.ob ∧ Tr P n c s Q
  | 0, c, s, α, hT, hK => hK .normal s α hT
  | m + 1, c, s, α, hT, hK => by
    cases c with
    | seq a b =>
      simp only [execN] at hT
      have := Tr.treeK F (Q := Then P n s Q b) (fun x s1 α' h => by
        cases x with
        | normal =>
          obtain ⟨h1, h2⟩ := Tr.treeNK F m b s1 α' h hK
          exact ⟨h1, h2⟩
        | exit id => exact hK (.exit id) s1 α' h
        | ret => exact hK .ret s1 α' h) hT
      exact ⟨this.1, Tr.seq this.2⟩
    | _ => exact hT.elim
/-- what a body's end says -/
abbrev EndV (P : Program) (n : Nat) (res : List ResultVar) (v : RV) : X → S → Prop := fun x s => (x = .normal ∨ x = .ret) ∧ ∃ L, resOf P n s res = some L ∧ resRV L = v
/-- the first m pieces of a body -/
theorem Tr.pieces {Sg : FuncId → Option SumA} (F : Fit P (fun f => (Sg f).map toSum)) {fuel n m : Nat} {c : Code} {s : S} {keep : List Nat} {res : List ResultVar} {v : RV}
    (hT : Okp (execN P Sg fuel n m c s αT (fun x s α => some (All α.ob ∧ match x with | .normal => Tr P n (tailN m c) (Sx.fgt keep n s) (EndV P n res v) | x => (fun x q => x = X.ret ∧ ∃ L, q = some L ∧ resRV L = v) x (resOf P n s res))))) :
    Tr P n c s (EndV P n res v) :=
  (Tr.treeNK F (Q := EndV P n res v) m c s αT hT fun x s1 α' h => by
    cases x with
    | normal => exact ⟨h.1, Tr.pre keep h.2⟩
    | exit id => exact absurd h.2.1 (by simp)
    | ret => exact ⟨h.1, .inr rfl, h.2.2⟩).2
/-- .. that never returns -/
theorem Tr.treeF {Sg : FuncId → Option SumA} (F : Fit P (fun f => (Sg f).map toSum)) {fuel n : Nat} {c : Code} {s : S} {keep : List Nat} {Q : X → S → Prop}
    (hT : Okp (execA P Sg fuel n c s αT (fun x s α => some (All α.ob ∧ match x with | .ret => False | x => Q x (Sx.fgt keep n s))))) : Tr P n c s Q :=
  Tr.fgt keep ((Tr.treeO F (Q := fun x s => match x with | .ret => False | x => Q x (Sx.fgt keep n s)) hT).mono fun x s' h => by
    cases x with
    | ret => exact h.elim
    | normal => exact h
    | exit id => exact h)
theorem Tr.treeFL {Sg : FuncId → Option SumA} (F : Fit P (fun f => (Sg f).map toSum)) {fuel n m : Nat} {c : Code} {s : S} {keep : List Nat} {Q : X → S → Prop} (hm : s.nx ≤ m)
    (hT : Okp (execA P Sg fuel n c s αT (fun x s α => some (All α.ob ∧ match x with | .ret => False | x => Nat.ble m s.nx = true ∧ Q x (Sx.low n m (Sx.fgt keep n s)))))) : Tr P n c s Q := by
  refine Tr.low (m := m) hm (Tr.fgt keep ?_)
  refine (Tr.treeO F (Q := fun x s => match x with | .ret => False | x => Nat.ble m s.nx = true ∧ Q x (Sx.low n m (Sx.fgt keep n s))) hT).mono fun x s' h => ?_
  have h' : Nat.ble m s'.nx = true ∧ Q x (Sx.low n m (Sx.fgt keep n s')) := by
    cases x with
    | ret => exact h.elim
    | normal => exact h
    | exit id => exact h
  refine ⟨?_, h'.2⟩
  rw [(fgt_hp keep n s').2]
  exact Nat.le_of_ble_eq_true h'.1
/-- the first m pieces, that do not return -/
theorem Tr.prefixQ {Sg : FuncId → Option SumA} (F : Fit P (fun f => (Sg f).map toSum)) {fuel n m : Nat} {c : Code} {s : S} {keep : List Nat} {res : List ResultVar} {Q : X → S → Prop}
    (hT : Okp (execN P Sg fuel n m c s αT (fun x s α => some (All α.ob ∧ match x with | .normal => Tr P n (tailN m c) (Sx.fgt keep n s) Q | x => (fun (_ : X) (_ : Option (List AV)) => False) x (resOf P n s res))))) : Tr P n c s Q :=
  (Tr.treeNK F (Q := Q) m c s αT hT fun x s1 α' h => by
    cases x with
    | normal => exact ⟨h.1, Tr.pre keep h.2⟩
    | exit id => exact h.2.elim
    | ret => exact h.2.elim).2
/-- what a body answers -/
abbrev RetV (v : RV) (x : X) (q : Option (List AV)) : Prop := (x = .normal ∨ x = .ret) ∧ ∃ L, q = some L ∧ resRV L = v
theorem Tr.treeV {Sg : FuncId → Option SumA} (F : Fit P (fun f => (Sg f).map toSum)) {fuel n : Nat} {c : Code} {s : S} {res : List ResultVar} {v : RV}
    (hT : Okp (execA P Sg fuel n c s αT (fun x s α => some (All α.ob ∧ RetV v x (resOf P n s res))))) : Tr P n c s (fun x s => (x = .normal ∨ x = .ret) ∧ ∃ L, resOf P n s res = some L ∧ resRV L = v) :=
  Tr.treeO F (Q := fun x s => RetV v x (resOf P n s res)) hT
/-- a contract at every world, out of a tree -/
theorem pure_tree {Sg : FuncId → Option SumA} (F : Fit P (fun f => (Sg f).map toSum)) {fuel : Nat} {g : FuncId} {args : List RV} {v : RV} (hfa : args.all flatR = true) (hfv : flatR v = true)
    (hT : Okp (runA P Sg fuel g args s0 αT (fun v' _ α => some (All α.ob ∧ v' = v)))) (ρ : Rho) (w : World) (vs : List Value) (ha : ArgsR ρ args vs) :
    Calls P g vs.toArray w fun e w' => ∃ V, e = .returned V ∧ RVR ρ v V ∧ Below w.heap.size w w' := by
  cases he : runA P Sg fuel g args s0 αT (fun v' _ α => some (All α.ob ∧ v' = v)) with
  | none => rw [he] at hT; exact hT.elim
  | some p =>
    rw [he] at hT
    obtain ⟨v1, s1, α', h1, h2⟩ := runA_ok he
    simp only [Option.some.injEq] at h1
    subst h1
    have hT' : All α'.ob ∧ v1 = v := hT
    obtain ⟨hob, rfl⟩ := hT'
    have h3 := (h2 hob).2 (RV × S) (fun v s => some (v, s))
    obtain ⟨v2, s2, L, h4, ci⟩ := runB_info F (fun nm _ => T.get_nil nm) h3
    simp only [Option.some.injEq, Prod.mk.injEq] at h4
    obtain ⟨rfl, rfl⟩ := h4
    refine (ci.run rhoN w vs (HRel.nil _) (fun _ _ => rfl) (ha.indep hfa)).mono fun e w' ⟨V, ρ', e1, e2, e3, e4, st⟩ => ⟨V, e1, e2.indep hfv, ?_⟩
    exact ⟨st.os, st.tape, st.out, st.size, fun k hk => st.frame k hk (fun nm c _ hlt => absurd hlt (Nat.not_lt_zero _))⟩
/-- .. over a few blocks, to be read alone -/
theorem small_tree {Sg : FuncId → Option SumA} (F : Fit P (fun f => (Sg f).map toSum)) {fuel : Nat} {g : FuncId} {args : List RV} {hs : T Blk} {k : Nat} {v : RV} (htop : Top ⟨.nil, hs, k, []⟩)
    (hT : Okp (runA P Sg fuel g args ⟨.nil, hs, k, []⟩ αT (fun v' _ α => some (All α.ob ∧ v' = v)))) (ρ : Rho) (w : World) (vs : List Value) (hr : HRel ρ hs.get w) (hf : Fresh ρ k) (ha : ArgsR ρ args vs) :
    Calls P g vs.toArray w fun e w' => ∃ V ρ' hp' nx' L, e = .returned V ∧ RVR ρ' v V ∧ Stp ρ hs.get k w ρ' hp' nx' w' L := by
  cases he : runA P Sg fuel g args ⟨.nil, hs, k, []⟩ αT (fun v' _ α => some (All α.ob ∧ v' = v)) with
  | none => rw [he] at hT; exact hT.elim
  | some p =>
    rw [he] at hT
    obtain ⟨v1, s1, α', h1, h2⟩ := runA_ok he
    simp only [Option.some.injEq] at h1
    subst h1
    have hT' : All α'.ob ∧ v1 = v := hT
    obtain ⟨hob, rfl⟩ := hT'
    have h3 := (h2 hob).2 (RV × S) (fun v s => some (v, s))
    obtain ⟨v2, s2, L, h4, ci⟩ := runB_info F htop h3
    simp only [Option.some.injEq, Prod.mk.injEq] at h4
    obtain ⟨rfl, rfl⟩ := h4
    exact (ci.run ρ w vs hr hf ha).mono fun e w' ⟨V, ρ', e1, e2, e3, e4, st⟩ => ⟨V, ρ', _, _, L, e1, e2, st⟩
/-- what a call does to a few blocks, out of a tree -/
abbrev EndS (v : RV) (hs' : T Blk) (k : Nat) (x : X) (q : Option (List AV)) (hp : T Blk) (nx : Nat) : Prop := (x = .normal ∨ x = .ret) ∧ (∃ l, q = some l ∧ resRV l = v) ∧ hp = hs' ∧ nx = k
theorem smallC_tree {Sg : FuncId → Option SumA} (F : Fit P (fun f => (Sg f).map toSum)) {fuel : Nat} {g : FuncId} {fn : Func} {c : Code} (hf : P.funcs[g]? = some fn) (hb : fn.body = some c) {n : Nat} (hn : fn.ntmps = n) {args : List RV} {sl : T RV} {v : RV} {k : Nat} {hs hs' : T Blk} {keep : List Nat} (htop : Top ⟨.nil, hs, k, []⟩)
    (hset : setArgs n args 0 .nil some = some sl)
    (hT : Okp (execA P Sg fuel n c ⟨sl, hs, k, []⟩ αT (fun x s α => some (All α.ob ∧ (Nat.ble k s.nx = true ∧ EndS v hs' k x (resOf P n (low n k (fgt keep n s)) fn.results.toList) (low n k (fgt keep n s)).hp (low n k (fgt keep n s)).nx))))) : SmallC P g args k hs hs' v := by
  subst hn
  refine Tr.smallC hf hb htop hset ?_
  refine (Tr.treeL (m := k) (keep := keep) F (Nat.le_refl _) (Q := fun x s => EndS v hs' k x (resOf P fn.ntmps s fn.results.toList) s.hp s.nx) hT).mono fun x s1 h => ?_
  obtain ⟨h1, ⟨l, h2, h3⟩, h4, h5⟩ := h
  exact ⟨h1, l, h2, h3, h4, h5⟩
end Go.Sx

namespace Go.Sx
open Go.RowKit
variable {P : Program}
/-! ## Contracts that turn one block, or lay one -/
/-- what was there is as it was, but for block t -/
structure ChW (w w' : World) (t : Option Nat) : Prop where
  size : w.heap.size ≤ w'.heap.size
  other : ∀ k, k < w.heap.size → t ≠ some k → w'.heap[k]? = w.heap[k]?
  os : w'.os = w.os
  tape : w'.tape = w.tape
  out : w'.output = w.output

theorem Below.chW {w w' : World} (b : Below w.heap.size w w') (t : Option Nat) : ChW w w' t := ⟨b.size, fun k hk _ => b.block k hk, b.os, b.tape, b.output⟩

/-- a new block, above all that was -/
theorem HRel.newCh {ρ : Rho} {hp : Hp} {nx : Nat} {w w' : World} {b c : Nat} {y : Blk} {o : Obj} {v : RV} {V : Value} (hr : HRel ρ hp w) (hf : Fresh ρ nx)
    (hbw : w.heap.size ≤ b) (ho : BlkR (ext ρ nx b c) c y o) (hat : w'.heap[b]? = some o) (hW : ChW w w' Option.none) (hv : RVR (ext ρ nx b c) v V) : Out ρ hp nx w (.new y) v V (ext ρ nx b c) w' := by
  have old : ∀ i b' c', i ≠ nx → ext ρ nx b c i = some (b', c') → ρ i = some (b', c') := by
    intro i b' c' h e; simpa [ext, h] using e
  constructor
  · exact hv
  · constructor
    · intro i z hz
      by_cases h : i = nx
      · subst h
        simp only [Upd.hp, upd_same, Option.some.injEq] at hz
        subst hz
        exact ⟨b, c, o, by simp [ext], hat, ho⟩
      · simp only [Upd.hp, upd_ne _ _ h] at hz
        obtain ⟨b', c', o', h1, h2, h3⟩ := hr.ok i z hz
        exact ⟨b', c', o', by simp [ext, h, h1], (hW.other b' (lt_of_get h2) (by simp)).trans h2, h3.mono (ext_sub hf _ _)⟩
    · intro i j p q b1 c1 c2 hp1 hq1 hpw h1 h2
      by_cases hi : i = nx <;> by_cases hj : j = nx
      · rw [hi, hj]
      · subst hi
        simp only [Upd.hp, upd_ne _ _ hj] at hq1
        obtain ⟨b', c', o', g1, g2, _⟩ := hr.ok j q hq1
        rw [old j _ _ hj h2] at g1
        simp only [Option.some.injEq, Prod.mk.injEq] at g1
        have := lt_of_get g2
        simp [ext] at h1
        omega
      · subst hj
        simp only [Upd.hp, upd_ne _ _ hi] at hp1
        obtain ⟨b', c', o', g1, g2, _⟩ := hr.ok i p hp1
        rw [old i _ _ hi h1] at g1
        simp only [Option.some.injEq, Prod.mk.injEq] at g1
        have := lt_of_get g2
        simp [ext] at h2
        omega
      · simp only [Upd.hp, upd_ne _ _ hi] at hp1
        simp only [Upd.hp, upd_ne _ _ hj] at hq1
        exact hr.inj _ _ _ _ _ _ _ hp1 hq1 hpw (old i _ _ hi h1) (old j _ _ hj h2)
    · refine hr.fz.of (fun _ _ h => h) (fun b' l h => hW.other b' (hr.fz b' l h).1.lt (by simp)) fun i z b' c' hz hzw he => ?_
      by_cases h : i = nx
      · subst h; simp [ext] at he; right; omega
      · simp only [Upd.hp, upd_ne _ _ h] at hz
        exact .inl ⟨i, z, c', hz, hzw, old i _ _ h he⟩
  · intro i hi
    simp only [Upd.nx] at hi
    have : i ≠ nx := by omega
    simp [ext, this, hf i (by omega)]
  · constructor
    · simp [Upd.nx]
    · intro i hi
      have : i ≠ nx := by omega
      simp [ext, this]
    · intro i hi _
      have : i ≠ nx := by omega
      simp [Upd.hp, upd_ne _ _ this]
    · exact hW.size
    · intro i hi _
      exact hW.other i hi (by simp)
    · intro i b' c' hi he
      by_cases h : i = nx
      · subst h; simp [ext] at he; left; omega
      · have he := old i _ _ h he
        rw [hf i (by omega)] at he; cases he
    · intro i hi; cases hi
    · exact hW.os
    · exact hW.tape
    · exact hW.out
    · exact fun _ _ h => h
    · exact fun _ _ h => .inl h

theorem CallInfo.upd {f : FuncId} {args : List RV} {s : S} {v : RV} {u : Upd} {hp' : T Blk} {nx' : Nat} {lg' : List Nat} (ht : Top s) (hfn : ∃ fn, P.funcs[f]? = some fn ∧ fn.body.isNone = false)
    (hlog : ∀ nm, nm ∈ u.log → nm < s.nx) (hh : ∀ i, hp'.get i = u.hp s.hp.get s.nx i) (hnx : nx' = u.nx s.nx) (hlg : lg' = u.log)
    (h : ∀ (ρ : Rho) (w : World) (vs : List Value), HRel ρ s.hp.get w → Fresh ρ s.nx → ArgsR ρ args vs → Calls P f vs.toArray w fun e w' => ∃ V ρ', e = .returned V ∧ Out ρ s.hp.get s.nx w u v V ρ' w') :
    CallInfo P f args s v { s with hp := hp', nx := nx', lg := lg' ++ s.lg } lg' := by
  subst hnx hlg
  have hle : s.nx ≤ u.nx s.nx := by cases u <;> simp [Upd.nx]
  have he : hp'.get = u.hp s.hp.get s.nx := funext hh
  refine ⟨hfn, rfl, ⟨rfl, hle, fun nm h1 h2 => ?_, fun nm hn => ?_, fun nm h => Nat.lt_of_lt_of_le (hlog nm h) hle⟩, fun ρ w vs hr hf ha => ?_⟩
  · show hp'.get nm = s.hp.get nm
    rw [hh]
    cases u with
    | none => rfl
    | new b => exact upd_ne _ _ (by omega)
    | wr n b => exact upd_ne _ _ (by simpa [Upd.log] using h2)
    | mv n b =>
      have : nm ≠ n := by simpa [Upd.log] using h2
      simp only [Upd.hp]
      rw [upd_ne _ _ (show nm ≠ s.nx by omega), upd_ne _ _ this]
  · show hp'.get nm = none
    rw [hh]
    have hn' : u.nx s.nx ≤ nm := hn
    cases u with
    | none => exact ht nm hn'
    | new b =>
      simp only [Upd.nx] at hn'
      simp only [Upd.hp]
      rw [upd_ne _ _ (show nm ≠ s.nx by omega)]; exact ht nm (by omega)
    | wr n b =>
      simp only [Upd.nx] at hn'
      have := hlog n (by simp [Upd.log])
      simp only [Upd.hp]
      rw [upd_ne _ _ (show nm ≠ n by omega)]; exact ht nm hn'
    | mv n b =>
      simp only [Upd.nx] at hn'
      have := hlog n (by simp [Upd.log])
      simp only [Upd.hp]
      rw [upd_ne _ _ (show nm ≠ s.nx by omega), upd_ne _ _ (show nm ≠ n by omega)]; exact ht nm (by omega)
  · refine (h ρ w vs hr hf ha).mono fun e w' ⟨V, ρ', h1, o⟩ => ⟨V, ρ', h1, o.val, ?_, o.fresh, ?_⟩
    · show HRel ρ' hp'.get w'
      rw [he]; exact o.rel
    · show Stp ρ s.hp.get s.nx w ρ' hp'.get _ w' _
      rw [he]; exact o.stp
end Go.Sx
