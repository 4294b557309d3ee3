/-
  Parts of the executor Sx over the model's code (any program), or of this seat's walks: words and proofs that the row's text uses.
-/
import Derived.Test.YtganobhodimjnaaSxI
namespace Go.Sx
/-! The executor once more, by raw recursors with closed arms: the same function, but lighter for the kernel. -/
noncomputable section

def evalF (n : Nat) (sl : T RV) (o : Operand) : Option RV :=
  Operand.rec (motive := fun _ => Nat → T RV → Option RV)
    (fun t n sl => Bool.rec (some und) (Option.rec (some und) (fun v => some v) (sl.get t)) (Nat.blt t n))
    (fun v n sl => eval n sl (.const v)) (fun _ _ _ => none) (fun f _ _ => some (.one (.c (.fn f [] [])))) o n sl

theorem evalF_eq (n : Nat) (sl : T RV) (o : Operand) : evalF n sl o = eval n sl o := by
  cases o with
  | tmp t =>
    show @Bool.rec (fun _ => Option RV) (some und) (@Option.rec RV (fun _ => Option RV) (some und) (fun v => some v) (sl.get t)) (Nat.blt t n) = _
    unfold eval
    simp only
    by_cases h : t < n
    · rw [if_pos h, show Nat.blt t n = true by simpa [Nat.blt_eq] using h]
      cases sl.get t <;> rfl
    · rw [if_neg h, show Nat.blt t n = false by simpa [← Bool.not_eq_true, Nat.blt_eq] using h]
  | const v => rfl
  | global g => rfl
  | func f => rfl
theorem evalF_eq' (n : Nat) (sl : T RV) : evalF n sl = eval n sl := funext fun o => evalF_eq n sl o

def oR {α ρ : Type} (o : Option α) (k : α → Option ρ) : Option ρ := Option.rec none k o
def rvOne (v : RV) : (AV → Option Res) → Option Res := RV.rec (motive := fun _ => (AV → Option Res) → Option Res) (fun a k => k a) (fun _ _ => none) (fun _ => none) v
def avC (v : AV) : (Cell → Option Res) → Option Res := AV.rec (motive := fun _ => (Cell → Option Res) → Option Res) (fun c k => k c) (fun _ _ => none) (fun _ _ _ _ => none) v
def cInt (c : Cell) : (IntKind → Int → Option Res) → Option Res :=
  Cell.rec (motive := fun _ => (IntKind → Int → Option Res) → Option Res) (fun kd n k => k kd n) (fun _ _ => none) (fun _ _ => none) (fun _ => none) (fun _ _ _ => none) (fun _ => none) (fun _ _ _ _ _ => none)
    (fun _ _ _ _ _ => none) (fun _ => none) (fun _ _ => none) (fun _ => none) (fun _ _ _ _ => none) (fun _ => none) (fun _ _ => none) (fun _ _ => none) (fun _ _ _ => none) c
def cPtr (c : Cell) : (Nat → Nat → Option Res) → Option Res :=
  Cell.rec (motive := fun _ => (Nat → Nat → Option Res) → Option Res) (fun _ _ _ => none) (fun _ _ => none) (fun _ _ => none) (fun _ => none) (fun nm off k => k nm off) (fun _ => none) (fun _ _ _ _ _ => none)
    (fun _ _ _ _ _ => none) (fun _ => none) (fun _ _ => none) (fun _ => none) (fun _ _ _ _ => none) (fun _ => none) (fun _ _ => none) (fun _ _ => none) (fun _ _ _ => none) c
def cPtrV (c : Cell) : (Nat → Nat → Option Res) → (List Int → Nat → Option Res) → Option Res :=
  Cell.rec (motive := fun _ => (Nat → Nat → Option Res) → (List Int → Nat → Option Res) → Option Res) (fun _ _ _ _ => none) (fun _ _ _ => none) (fun _ _ _ => none) (fun _ _ => none) (fun nm off k _ => k nm off) (fun _ _ => none) (fun _ _ _ _ _ _ => none)
    (fun _ _ _ _ _ _ => none) (fun _ _ => none) (fun _ _ _ => none) (fun _ _ => none) (fun _ _ _ _ _ => none) (fun _ _ => none) (fun _ _ _ => none) (fun _ _ _ => none) (fun l i _ k => k l i) c
def cBoolV (c : Cell) : (Bool → Option RV) → Option RV :=
  Cell.rec (motive := fun _ => (Bool → Option RV) → Option RV) (fun _ _ _ => none) (fun b k => k b) (fun _ _ => none) (fun _ => none) (fun _ _ _ => none) (fun _ => none) (fun _ _ _ _ _ => none)
    (fun _ _ _ _ _ => none) (fun _ => none) (fun _ _ => none) (fun _ => none) (fun _ _ _ _ => none) (fun _ => none) (fun _ _ => none) (fun _ _ => none) (fun _ _ _ => none) c
def rvBool (v : RV) : (Bool → Option RV) → Option RV :=
  RV.rec (motive := fun _ => (Bool → Option RV) → Option RV) (fun a k => AV.rec (motive := fun _ => (Bool → Option RV) → Option RV) (fun c k => cBoolV c k) (fun _ _ => none) (fun _ _ _ _ => none) a k) (fun _ _ => none) (fun _ => none) v

def stMoveF (ev : Ev) (x : Operand) : Option Res := oR (ev x) fun v => some ⟨v, .none, [], false⟩
theorem stMoveF_eq (ev : Ev) (x : Operand) : stMoveF ev x = stMove ev x := by unfold stMoveF stMove oR; cases ev x <;> rfl
def beqI (a b : Int) : Bool := match a, b with | .ofNat m, .ofNat n => Nat.beq m n | .negSucc m, .negSucc n => Nat.beq m n | _, _ => false
def beqL : List Int → List Int → Bool
  | [], [] => true
  | x :: xs, y :: ys => match beqI x y with | true => beqL xs ys | false => false
  | _, _ => false
theorem nbeq (m n : Nat) : Nat.beq m n = (m == n) := by
  cases h : Nat.beq m n with
  | true => have := Nat.eq_of_beq_eq_true h; subst this; simp
  | false => have := Nat.ne_of_beq_eq_false h; simp [this]
theorem beqI_eq (a b : Int) : beqI a b = (a == b) := by
  cases a <;> cases b <;> simp only [beqI, nbeq] <;> rw [Bool.eq_iff_iff] <;> simp <;> omega
theorem beqL_eq : ∀ a b : List Int, beqL a b = (a == b)
  | [], [] => rfl
  | x :: xs, y :: ys => by
    simp only [beqL, List.cons_beq_cons, beqI_eq, beqL_eq xs ys]
    cases (x == y) <;> rfl
  | [], _ :: _ => rfl
  | _ :: _, [] => rfl
def eqIF (P : Program) (op : BinOp) (t : TypeId) (k k' : IntKind) (l m : List Int) (n n' : Nat) : Option AV :=
  match op with
  | .eql => if k = k' ∧ n = n' ∧ eqInts P t n = true ∧ P.eqGuardType P.depth t = false then some (.c (.bool (beqL l m))) else none
  | .neq => if k = k' ∧ n = n' ∧ eqInts P t n = true ∧ P.eqGuardType P.depth t = false then some (.c (.bool (!beqL l m))) else none
  | _ => none
def binResF (P : Program) (op : BinOp) (t : TypeId) (x y : AV) : Option AV :=
  match x, y with
  | .ints k l n, .ints k' m n' => eqIF P op t k k' l m n n'
  | x, y => binRes P op t x y
theorem binResF_eq (P : Program) (op : BinOp) (t : TypeId) (x y : AV) : binResF P op t x y = binRes P op t x y := by
  unfold binResF
  split
  · unfold eqIF binRes eqRes eqTop
    simp only [beqL_eq]
    cases op <;> try rfl
    all_goals
      simp only
      split <;> rfl
  · rfl
def stBinF (P : Program) (ev : Ev) (op : BinOp) (t : TypeId) (x y : Operand) : Option Res :=
  oR (ev x) fun x => rvOne x fun x => oR (ev y) fun y => rvOne y fun y => qOpt (binResF P op t x y)
theorem stBinF_eq (P : Program) (ev : Ev) (op : BinOp) (t : TypeId) (x y : Operand) : stBinF P ev op t x y = stBin P ev op t x y := by
  unfold stBinF stBin oR
  simp only [binResF_eq]
  rcases ev x with _ | ⟨x⟩ | x <;> try rfl
  rcases ev y with _ | ⟨y⟩ | y <;> rfl
def stConvF (P : Program) (ev : Ev) (src dst : TypeId) (x : Operand) : Option Res :=
  oR (ev x) fun x => rvOne x fun x => avC x fun x => cInt x fun _ n => match P.underlying src with
    | some (.int _) => match P.underlying dst with
      | some (.int k) => quiet (.c (.int k (k.wrap n)))
      | _ => none
    | _ => none
theorem stConvF_eq (P : Program) (ev : Ev) (src dst : TypeId) (x : Operand) : stConvF P ev src dst x = stConv P ev src dst x := by
  unfold stConvF stConv oR
  rcases ev x with _ | ⟨x⟩ | x <;> try rfl
  cases x <;> try rfl
  rename_i c
  cases c <;> rfl
def stConvHF (P : Program) (ev : Ev) (hp : Hp) (nx : Nat) (src dst : TypeId) (x : Operand) : Option Res :=
  Option.rec (stConvS P ev hp nx src dst x) (fun r => some r) (stConvF P ev src dst x)
theorem stConvHF_eq (P : Program) (ev : Ev) (hp : Hp) (nx : Nat) (src dst : TypeId) (x : Operand) : stConvHF P ev hp nx src dst x = stConvH P ev hp nx src dst x := by
  unfold stConvHF stConvH
  rw [stConvF_eq]
  cases stConv P ev src dst x <;> rfl
/-- a block that is read whole -/
def getF (b : Body) (off : Nat) (t : TK) : Option (AV × Bool) :=
  match b, t with
  | .ints k l n, .ints k' m => match Nat.beq off 0 && (Nat.beq m n && Nat.beq l.length n) with
    | true => if k = k' then some (.ints k l m, false) else none
    | false => ((Body.ints k l n).get off (.ints k' m)).map fun v => (v, true)
  | b, t => (b.get off t).map fun v => (v, true)
theorem hidA {α : Type} (x : Option α) : (x.map fun v => (v, true)).map Prod.fst = x := by cases x <;> rfl
theorem getF_eq (b : Body) (off : Nat) (t : TK) : (getF b off t).map Prod.fst = b.get off t := by
  cases b with
  | cells l => exact hidA _
  | bools l n => exact hidA _
  | ints k l n => cases t with
    | sc => exact hidA _
    | agg m => simp only [getF]; exact hidA _
    | ints k' m =>
      simp only [getF]
      cases h : (Nat.beq off 0 && (Nat.beq m n && Nat.beq l.length n)) with
      | false => exact hidA _
      | true =>
        simp only [nbeq, Bool.and_eq_true, beq_iff_eq] at h
        obtain ⟨rfl, rfl, h⟩ := h
        simp only [Body.get, Nat.zero_add, Nat.le_refl, and_true, List.drop_zero]
        by_cases hk : k = k'
        · rw [if_pos hk, if_pos hk, List.take_of_length_le (by omega)]; rfl
        · rw [if_neg hk, if_neg hk]; rfl
def stLoadF (P : Program) (ev : Ev) (hp : Hp) (t : TypeId) (a : Operand) : Option Res :=
  oR (ev a) fun x => rvOne x fun x => avC x fun x => cPtrV x (fun nm off => oR (tk P t) fun k => oR (hp nm) fun b =>
    Blk.rec (motive := fun _ => TK → Nat → Nat → Option Res) (fun _ _ _ b k nm off => oR (getF b off k) fun v => some ⟨.one v.1, .none, [nm], v.2⟩) (fun _ _ _ _ => none) (fun _ _ _ _ _ _ => none) (fun _ _ _ _ _ => none) (fun _ _ _ _ => none) (fun _ _ _ _ _ _ _ _ => none) (fun _ _ _ _ _ => none) (fun _ _ _ _ => none) (fun o ks l k nm off => oR (recGet (some (.recs o ks l)) off k) fun v => some ⟨.one v, .none, [nm], true⟩) (fun _ _ _ _ => none) (fun _ _ _ _ => none) b k nm off) (fun l i => loadV (tk P t) l i)
/-- the same but for the forcing -/
def sameR : Option Res → Option Res → Prop
  | some a, some b => a.v = b.v ∧ a.u = b.u ∧ a.need = b.need
  | none, none => True
  | _, _ => False
theorem stLoadF_same (P : Program) (ev : Ev) (hp : Hp) (t : TypeId) (a : Operand) : sameR (stLoadF P ev hp t a) (stLoadV P ev hp t a) := by
  unfold stLoadF stLoadV stLoad oR
  rcases ev a with _ | ⟨x⟩ | x <;> try exact trivial
  cases x <;> try exact trivial
  rename_i c
  cases c <;> try exact trivial
  rotate_left
  · rename_i l i
    show sameR (loadV (tk P t) l i) (loadV (tk P t) l i)
    cases loadV (tk P t) l i with
    | none => exact trivial
    | some r => exact ⟨rfl, rfl, rfl⟩
  rename_i nm off
  simp only [vptrOf]
  cases tk P t <;> try exact trivial
  rename_i k
  show sameR (@Option.rec Blk (fun _ => Option Res) none _ (hp nm)) _
  simp only [getRow]
  cases hp nm with
  | none => exact trivial
  | some x =>
    cases x with
    | row t ro o b =>
      show sameR (@Option.rec (AV × Bool) (fun _ => Option Res) none _ (getF b off k)) _
      simp only
      rw [← getF_eq]
      cases getF b off k with
      | none => exact trivial
      | some v => exact ⟨rfl, rfl, rfl⟩
    | map es => exact trivial
    | win => exact trivial
    | mapI => exact trivial
    | mapR => exact trivial
    | loop => exact trivial
    | iter => exact trivial
    | mapP => exact trivial
    | mapV => exact trivial
    | mapS => exact trivial
    | recs o ks l =>
      show sameR (@Option.rec AV (fun _ => Option Res) none _ (recGet (some (.recs o ks l)) off k)) _
      simp only
      cases recGet (some (.recs o ks l)) off k with
      | none => exact trivial
      | some v => exact ⟨rfl, rfl, rfl⟩

abbrev Fin := Bool → Nat → Option Tmp → S → (Need → S → Option RV) → Option RV
def putF (n : Nat) (d : Option Tmp) (v : RV) (s : S) (k : S → Option RV) : Option RV :=
  Option.rec (k s) (fun d => Bool.rec none (T.set depth s.sl d (some v) fun sl => k ⟨sl, s.hp, s.nx, s.lg⟩) (Nat.blt d n)) d
theorem putF_eq (n : Nat) (d : Option Tmp) (v : RV) (s : S) (k : S → Option RV) : putF n d v s k = putDst n d v s k := by
  unfold putF putDst
  cases d with
  | none => rfl
  | some d =>
    show @Bool.rec (fun _ => Option RV) none _ (Nat.blt d n) = _
    simp only
    by_cases h : d < n
    · rw [if_pos h, show Nat.blt d n = true by simpa [Nat.blt_eq] using h]
    · rw [if_neg h, show Nat.blt d n = false by simpa [← Bool.not_eq_true, Nat.blt_eq] using h]

def fin (r : Option Res) (z : Bool) (n : Nat) (d : Option Tmp) (s : S) (k : Need → S → Option RV) : Option RV :=
  oR r fun r => sRV (z && r.fz) r.v fun v => applyU z r.u s fun s => putF n d v s (k (some r.need))

def callF (call : CallF RV) (n : Nat) (f : Operand) (args : Array Operand) (d : Option Tmp) (s : S) (k : Need → S → Option RV) : Option RV :=
  match calleeOf n s.sl f with
  | some (f, fs, caps) => match evl (evalF n s.sl) args.toList with
    | some l => call f (fs ++ (l ++ caps)) s fun v s' => putF n d v s' (k none)
    | none => none
  | none => none
theorem callF_eq (call : CallF RV) (n : Nat) (f : Operand) (args : Array Operand) (d : Option Tmp) (s : S) (k : Need → S → Option RV) : callF call n f args d s k = callRun call n f args d s k := by
  unfold callF callRun
  simp only [evalF_eq', putF_eq]
  rfl

abbrev OpK := Program → Bool → CallF RV → Nat → Option Tmp → S → (Need → S → Option RV) → Option RV
/-! spines alone: what is in memory is forced -/
def spI (l : List Int) : (List Int → Option RV) → Option RV := List.rec (motive := fun _ => (List Int → Option RV) → Option RV) (fun k => k []) (fun x _ ih k => ih fun xs => k (x :: xs)) l
theorem spI_eq (l : List Int) : ∀ k : List Int → Option RV, spI l k = k l := by
  induction l with
  | nil => intro k; rfl
  | cons x l ih => intro k; exact ih _
def spRV (v : RV) (k : RV → Option RV) : Option RV :=
  RV.rec (motive := fun _ => (RV → Option RV) → Option RV)
    (fun a k => AV.rec (motive := fun _ => (RV → Option RV) → Option RV) (fun c k => fCell c fun c => k (.one (.c c))) (fun l k => fCells l fun l => k (.one (.agg l))) (fun kd l n k => spI l fun l => k (.one (.ints kd l n))) a k)
    (fun l k => fAVs l fun l => k (.tup l)) (fun k => k .any) v k
theorem spRV_eq (v : RV) (k : RV → Option RV) : spRV v k = k v := by
  rcases v with v | v | _
  · cases v with
    | c c => exact fCell_eq c (fun c => k (.one (.c c)))
    | agg l => exact fCells_eq l (fun l => k (.one (.agg l)))
    | ints kd l n => exact spI_eq l (fun l => k (.one (.ints kd l n)))
  · exact fAVs_eq v (fun l => k (.tup l))
  · rfl
def finL (r : Option Res) (z : Bool) (n : Nat) (d : Option Tmp) (s : S) (k : Need → S → Option RV) : Option RV :=
  oR r fun r => Bool.rec (applyU z r.u s fun s => putF n d r.v s (k (some r.need))) (spRV r.v fun v => applyU z r.u s fun s => putF n d v s (k (some r.need))) (z && r.fz)
/-- a new block, as it is -/
def applyN (u : Upd) (s : S) (k : S → Option RV) : Option RV :=
  match u with
  | .new b => T.set depth s.hp s.nx (some b) fun hp => fNat (s.nx + 1) fun nx => k ⟨s.sl, hp, nx, s.lg⟩
  | u => applyU false u s k
def finN (r : Option Res) (z : Bool) (n : Nat) (d : Option Tmp) (s : S) (k : Need → S → Option RV) : Option RV :=
  oR r fun r => sRV (z && r.fz) r.v fun v => applyN r.u s fun s => putF n d v s (k (some r.need))
def spBlk (b : Blk) (k : Blk → Option RV) : Option RV :=
  match b with
  | .row t ro o (.ints kd l n) => spI l fun l => k (.row t ro o (.ints kd l n))
  | b => fBlk b k
theorem spBlk_eq (b : Blk) (k : Blk → Option RV) : spBlk b k = k b := by
  unfold spBlk
  split
  · exact spI_eq _ _
  · exact fBlk_eq _ _
/-- whole blocks are stored as they are -/
def setFw (b : Body) (off : Nat) (v : AV) : Option (Body × Bool) :=
  match b, v with
  | .ints k l n, .ints k' x m => match Nat.beq off 0 && (Nat.beq m n && (Nat.beq x.length n && Nat.beq l.length n)) with
    | true => if k = k' then some (.ints k x n, false) else none
    | false => ((Body.ints k l n).set off (.ints k' x m)).map fun b => (b, true)
  | b, v => (b.set off v).map fun b => (b, true)
theorem setFw_eq (b : Body) (off : Nat) (v : AV) : (setFw b off v).map Prod.fst = b.set off v := by
  cases b with
  | cells l => exact hidA _
  | bools l n => exact hidA _
  | ints k l n => cases v with
    | c x => exact hidA _
    | agg m => simp only [setFw]; exact hidA _
    | ints k' x m =>
      simp only [setFw]
      cases h : (Nat.beq off 0 && (Nat.beq m n && (Nat.beq x.length n && Nat.beq l.length n))) with
      | false => exact hidA _
      | true =>
        simp only [nbeq, Bool.and_eq_true, beq_iff_eq] at h
        obtain ⟨rfl, rfl, h1, h2⟩ := h
        simp only [Body.set, Nat.zero_add, Nat.le_refl, and_true]
        by_cases hk : k = k'
        · rw [if_pos hk, if_pos hk]
          simp only [over, List.take_zero, List.nil_append, Nat.zero_add]
          rw [List.drop_of_length_le (by omega), List.append_nil]; rfl
        · rw [if_neg hk, if_neg hk]; rfl
def stStoreF (P : Program) (ev : Ev) (hp : Hp) (t : TypeId) (a x : Operand) : Option Res :=
  oR (ev a) fun a => rvOne a fun a => avC a fun a => cPtr a fun nm off => oR (ev x) fun x => rvOne x fun v => oR (P.info? t) fun ti => Bool.rec none
    (oR (getRow hp nm) fun q => Bool.rec (oR (setFw q.2.2.2 off v) fun b => some ⟨und, .wr nm (.row q.1 false q.2.2.1 b.1), [nm], b.2⟩) none q.2.1) (Nat.beq v.size ti.size)
theorem stStoreF_same (P : Program) (ev : Ev) (hp : Hp) (t : TypeId) (a x : Operand) : sameR (stStoreF P ev hp t a x) (stStore P ev hp t a x) := by
  unfold stStoreF stStore oR
  rcases ev a with _ | ⟨c⟩ | c <;> try exact trivial
  cases c <;> try exact trivial
  rename_i c
  cases c <;> try exact trivial
  rename_i nm off
  show sameR (@Option.rec RV (fun _ => Option Res) none _ (ev x)) _
  rcases ev x with _ | ⟨v⟩ | v <;> try exact trivial
  show sameR (@Option.rec TypeInfo (fun _ => Option Res) none _ (P.info? t)) _
  cases P.info? t with
  | none => exact trivial
  | some ti =>
    simp only [nbeq, setAt]
    by_cases hs : v.size = ti.size
    · rw [if_pos hs, show (v.size == ti.size) = true by simp [hs]]
      simp only
      cases getRow hp nm with
      | none => exact trivial
      | some q =>
        obtain ⟨ty, ro, o, b⟩ := q
        cases ro with
        | true => exact trivial
        | false =>
          simp only
          rw [← setFw_eq]
          cases setFw b off v with
          | none => exact trivial
          | some v => exact ⟨rfl, rfl, rfl⟩
    · rw [if_neg hs, show (v.size == ti.size) = false by simp [hs]]
      exact trivial
def finW (r : Option Res) (z : Bool) (n : Nat) (d : Option Tmp) (s : S) (k : Need → S → Option RV) : Option RV :=
  oR r fun r => match r.u with
    | .wr nm b => Bool.rec (applyU z r.u s fun s => putF n d r.v s (k (some r.need)))
        (Bool.rec none (Bool.rec (T.set depth s.hp nm (some b) fun hp => putF n d r.v ⟨s.sl, hp, s.nx, nm :: s.lg⟩ (k (some r.need))) (spBlk b fun b => T.set depth s.hp nm (some b) fun hp => putF n d r.v ⟨s.sl, hp, s.nx, nm :: s.lg⟩ (k (some r.need))) r.fz) (Nat.blt nm s.nx)) z
    | u => sRV (z && r.fz) r.v fun v => applyU z u s fun s => putF n d v s (k (some r.need))
def opGo (o : Op) : OpK :=
  @Op.rec (fun _ => OpK)
    (fun a1 _ z _ n d s k => fin (stMoveF (evalF n s.sl) a1) z n d s k)
    (fun a1 _ z _ n d s k => fin (stMoveF (evalF n s.sl) a1) z n d s k)
    (fun a1 a2 a3 _ z _ n d s k => fin (stPick (evalF n s.sl) a1 a2 a3) z n d s k)
    (fun a1 P z _ n d s k => finN (stAlloc P s.nx a1) z n d s k)
    (fun a1 a2 P z _ n d s k => finN (stBox P (evalF n s.sl) s.nx a1 a2) z n d s k)
    (fun a1 a2 P z _ n d s k => fin (stBuild P (evalF n s.sl) a1 a2) z n d s k)
    (fun a1 a2 a3 P z _ n d s k => fin (stBuildSlice P (evalF n s.sl) s.nx a1 a2 a3) z n d s k)
    (fun a1 a2 a3 a4 P z _ n d s k => fin (stMapUpdate P (evalF n s.sl) s.hp.get a1 a2 a3 a4) z n d s k)
    (fun a1 a2 P z _ n d s k => finL (stLoadF P (evalF n s.sl) s.hp.get a1 a2) z n d s k)
    (fun a1 a2 a3 P z _ n d s k => finW (stStoreF P (evalF n s.sl) s.hp.get a1 a2 a3) z n d s k)
    (fun _ _ z _ n d s k => fin none z n d s k)
    (fun _ _ z _ n d s k => fin none z n d s k)
    (fun a1 _ z _ n d s k => fin (stNil (evalF n s.sl) a1) z n d s k)
    (fun a1 a2 a3 a4 _ P z _ n d s k => fin (stBinF P (evalF n s.sl) a1 a2 a3 a4) z n d s k)
    (fun a1 _ a3 _ z _ n d s k => fin (stUn (evalF n s.sl) a1 a3) z n d s k)
    (fun a1 a2 a3 P z _ n d s k => fin (stConvHF P (evalF n s.sl) s.hp.get s.nx a1 a2 a3) z n d s k)
    (fun a1 a2 P z _ n d s k => fin (stArr P (evalF n s.sl) a1 a2) z n d s k)
    (fun _ _ _ z _ n d s k => fin none z n d s k)
    (fun a1 a2 a3 _ z _ n d s k => fin (stFunc (evalF n s.sl) a1 a2 a3) z n d s k)
    (fun _ a2 _ z _ n d s k => fin (stMakeMap s.nx a2) z n d s k)
    (fun _ _ _ z _ n d s k => fin none z n d s k)
    (fun a1 a2 a3 P z _ n d s k => fin (stMakeSlice P (evalF n s.sl) s.nx a1 a2 a3) z n d s k)
    (fun a1 a2 a3 a4 a5 P z _ n d s k => fin (stSlice P (evalF n s.sl) a1 a2 a3 a4 a5) z n d s k)
    (fun a1 a2 a3 P z _ n d s k => fin (stFieldAddr P (evalF n s.sl) a1 a2 a3) z n d s k)
    (fun a1 a2 a3 P z _ n d s k => fin (stField P (evalF n s.sl) a1 a2 a3) z n d s k)
    (fun a1 a2 a3 P z _ n d s k => fin (stIndexAddr P (evalF n s.sl) a1 a2 a3) z n d s k)
    (fun a1 a2 a3 P z _ n d s k => fin (stIndex P (evalF n s.sl) a1 a2 a3) z n d s k)
    (fun a1 a2 a3 a4 P z _ n d s k => fin (stLookup P (evalF n s.sl) s.hp.get a1 a2 a3 a4) z n d s k)
    (fun a1 a2 a3 a4 P z _ n d s k => fin (stMapUpdate P (evalF n s.sl) s.hp.get a1 a2 a3 a4) z n d s k)
    (fun _ _ _ _ z _ n d s k => fin none z n d s k)
    (fun _ _ _ _ _ z _ n d s k => fin none z n d s k)
    (fun a1 a2 P z _ n d s k => fin (stRange P (evalF n s.sl) s.nx a1 a2) z n d s k)
    (fun a1 a2 _ z _ n d s k => fin (stNext (evalF n s.sl) s.hp.get a1 a2) z n d s k)
    (fun _ _ z _ n d s k => fin none z n d s k)
    (fun _ _ _ _ _ z _ n d s k => fin none z n d s k)
    (fun a1 a2 _ z _ n d s k => fin (stExtract (evalF n s.sl) a1 a2) z n d s k)
    (fun c P z call n d s k => Callee.rec (motive := fun _ => Array Operand → Array TypeId → OpK) (fun f args _ _ _ call n d s k => callF call n f args d s k) (fun _ _ _ _ _ z _ n d s k => fin none z n d s k) (fun b args tys P z _ n d s k => fin (match evl (evalF n s.sl) args.toList with | some l => builtinRes P s.hp.get s.nx b tys l | none => none) z n d s k) c.callee c.args c.argTypes P z call n d s k)
    (fun _ _ z _ n d s k => fin none z n d s k)
    (fun _ _ z _ n d s k => fin none z n d s k)
    (fun _ _ z _ n d s k => fin none z n d s k)
    (fun _ _ _ z _ n d s k => fin none z n d s k)
    (fun _ _ _ _ z _ n d s k => fin none z n d s k)
    (fun _ _ _ z _ n d s k => fin none z n d s k)
    o
theorem fin_eq (r : Option Res) (z : Bool) (n : Nat) (d : Option Tmp) (s : S) (k : Need → S → Option RV) :
    fin r z n d s k = (match r with | some r => sRV (z && r.fz) r.v fun v => applyU z r.u s fun s => putDst n d v s (k (some r.need)) | none => none) := by
  unfold fin oR
  simp only [putF_eq]
  cases r <;> rfl
theorem finL_eq (r r' : Option Res) (hr : sameR r r') (z : Bool) (n : Nat) (d : Option Tmp) (s : S) (k : Need → S → Option RV) : finL r z n d s k = fin r' z n d s k := by
  unfold finL fin oR
  cases r with
  | none => cases r' with
    | none => rfl
    | some _ => exact hr.elim
  | some r => cases r' with
    | none => exact hr.elim
    | some r' =>
      obtain ⟨h1, h2, h3⟩ := hr
      simp only [sRV_eq, ← h1, ← h2, ← h3]
      cases (z && r.fz) with
      | false => rfl
      | true => exact spRV_eq _ _
theorem finN_eq (r : Option Res) (z : Bool) (n : Nat) (d : Option Tmp) (s : S) (k : Need → S → Option RV) : finN r z n d s k = fin r z n d s k := by
  unfold finN fin oR
  cases r with
  | none => rfl
  | some r =>
    obtain ⟨v, u, nd, fz⟩ := r
    simp only [sRV_eq]
    cases u with
    | new b => simp only [applyN, applyU, sBlk_eq]
    | _ => simp only [applyN, applyU, sBlk_eq]
theorem finW_eq (r r' : Option Res) (hr : sameR r r') (z : Bool) (n : Nat) (d : Option Tmp) (s : S) (k : Need → S → Option RV) : finW r z n d s k = fin r' z n d s k := by
  unfold finW fin oR
  cases r with
  | none => cases r' with
    | none => rfl
    | some _ => exact hr.elim
  | some r => cases r' with
    | none => exact hr.elim
    | some r' =>
      obtain ⟨h1, h2, h3⟩ := hr
      simp only [sRV_eq, ← h1, ← h2, ← h3]
      obtain ⟨v, u, nd, fz⟩ := r
      cases u with
      | wr nm b =>
        cases z with
        | false => rfl
        | true =>
          cases fz with
          | false => simp only [applyU, sBlk_eq]
          | true => simp only [spBlk_eq, applyU, sBlk_eq]
      | _ => rfl
theorem opGo_eq (P : Program) (z : Bool) (call : CallF RV) (n : Nat) (o : Oper) (s : S) (k : Need → S → Option RV) :
    opGo o.op P z call n o.dst s k = (match isCall o.op with | some (f, args) => callRun call n f args o.dst s k | none => plainRun P z n o s k) := by
  unfold plainRun
  obtain ⟨d, op, ty, pos, after, guard⟩ := o
  cases op with
  | call c =>
    obtain ⟨callee, args, tys⟩ := c
    cases callee with
    | value f => exact callF_eq call n f args d s k
    | builtin b => exact (fin_eq _ z n d s k).trans (by rw [evalF_eq']; rfl)
    | invoke r m => exact (fin_eq _ z n d s k)
  | load t a => exact (finL_eq _ _ (stLoadF_same ..) z n d s k).trans ((fin_eq _ z n d s k).trans (by simp only [evalF_eq']; rfl))
  | alloc t => exact (finN_eq ..).trans ((fin_eq _ z n d s k).trans rfl)
  | box t x => exact (finN_eq ..).trans ((fin_eq _ z n d s k).trans (by simp only [evalF_eq']; rfl))
  | store t a x => exact (finW_eq _ _ (stStoreF_same ..) z n d s k).trans ((fin_eq _ z n d s k).trans (by simp only [evalF_eq']; rfl))
  | _ => exact (fin_eq _ z n d s k).trans (by simp only [stMoveF_eq, stBinF_eq, stConvHF_eq, evalF_eq']; rfl)

def opRunF (P : Program) (z : Bool) (call : CallF RV) (n : Nat) (ops : List Oper) (o : Oper) (s : S) (k : Need → S → Option RV) : Option RV :=
  Option.rec (opGo o.op P z call n o.dst s k) (fun g => oR (guardOf n ops s.sl o) fun g => Bool.rec (putF n o.dst und s (k (some []))) (opGo o.op P z call n o.dst s k) g) o.guard
theorem opRunF_eq (P : Program) (z : Bool) (call : CallF RV) (n : Nat) (ops : List Oper) (o : Oper) (s : S) (k : Need → S → Option RV) : opRunF P z call n ops o s k = opRun P z call n ops o s k := by
  unfold opRunF opRun
  cases hg : o.guard with
  | none =>
    rw [show guardOf n ops s.sl o = some true by unfold guardOf; rw [hg]]
    exact opGo_eq P z call n o s k
  | some g =>
    show oR (guardOf n ops s.sl o) _ = _
    unfold oR
    cases guardOf n ops s.sl o with
    | none => rfl
    | some b =>
      cases b with
      | true => exact opGo_eq P z call n o s k
      | false => exact putF_eq n o.dst und s _

def opsRunF (P : Program) (z : Bool) (call : CallF RV) (n : Nat) (ops : List Oper) (l : List Oper) (s : S) (k : S → Option RV) : Option RV :=
  List.rec (motive := fun _ => S → Option RV) k (fun o _ ih s => opRunF P z call n ops o s fun _ s => ih s) l s
theorem opsRunF_eq (P : Program) (z : Bool) (call : CallF RV) (n : Nat) (ops : List Oper) : ∀ (l : List Oper) (s : S) (k : S → Option RV), opsRunF P z call n ops l s k = opsRun P z call n ops l s k
  | [], s, k => rfl
  | o :: rest, s, k => by
    show opRunF P z call n ops o s (fun _ s => opsRunF P z call n ops rest s k) = _
    rw [opRunF_eq]
    simp only [opsRun, opsRunF_eq P z call n ops rest]

def drawGoF (P : Program) (z : Bool) (call : CallF RV) (n : Nat) (ops : List Oper) : List Oper → List FP → S → (List FP → S → Option RV) → Option RV
  | [], fps, s, k => k fps s
  | o :: rest, fps, s, k => opRunF P z call n ops o ⟨s.sl, s.hp, s.nx, []⟩ fun need s' =>
      drawGoF P z call n ops rest (fps ++ [⟨need, s'.lg, s.nx, s'.nx⟩]) s' k
theorem drawGoF_eq (P : Program) (z : Bool) (call : CallF RV) (n : Nat) (ops : List Oper) : ∀ (l : List Oper) (fps : List FP) (s : S) (k : List FP → S → Option RV), drawGoF P z call n ops l fps s k = drawGo P z call n ops l fps s k
  | [], fps, s, k => rfl
  | o :: rest, fps, s, k => by simp only [drawGoF, drawGo, opRunF_eq, drawGoF_eq P z call n ops rest]

/-! which pairs of a region's operations must be looked at: once a region -/
def prs1 (ops : List Oper) (m : Nat) (oj : Oper) : List Oper → Nat → Option (List Nat)
  | [], _ => some []
  | oi :: os, i => match Nat.testBit m i with
    | true => prs1 ops m oj os (i + 1)
    | false => match apart ops oi oj with
      | true => (prs1 ops m oj os (i + 1)).map fun l => i :: l
      | false => none
def prsAll (ops : List Oper) : List Oper → List Nat → List Oper → Option (List (Nat × Nat))
  | oj :: os, m :: ms, pre => (prs1 ops m oj pre 0).bind fun l => (prsAll ops os ms (pre ++ [oj])).map fun r => l.map (fun i => (i, pre.length)) ++ r
  | _, _, _ => some []
def chk2 (fps : List FP) (p : Nat × Nat) : Bool := match fps[p.1]?, fps[p.2]? with | some a, some b => indep a b | _, _ => true
def pairsF (ops : List Oper) (fps : List FP) : Bool :=
  match Nat.beq fps.length ops.length with
  | true => Option.rec false (fun l => l.all (chk2 fps)) (prsAll ops ops (befs ops []) [])
  | false => pairsAll ops ops (befs ops []) fps [] []
theorem prs1_ok (ops : List Oper) (m : Nat) (oj : Oper) (fj : FP) : ∀ (pre : List Oper) (pfs : List FP) (b : Nat), pre.length = pfs.length →
    pairs1 ops m oj fj pre pfs b = Option.rec (motive := fun _ => Bool) false (fun l => l.all fun i => match pfs[i - b]? with | some fi => indep fi fj | none => true) (prs1 ops m oj pre b) ∧ (∀ l, prs1 ops m oj pre b = some l → ∀ i ∈ l, b ≤ i ∧ i < b + pre.length)
  | [], [], b, _ => ⟨rfl, fun l h i hi => by cases h; cases hi⟩
  | oi :: os, fi :: fs, b, h => by
    obtain ⟨h1, h2⟩ := prs1_ok ops m oj fj os fs (b + 1) (by simpa using h)
    unfold pairs1 prs1
    rw [h1]
    have hall : ∀ l, prs1 ops m oj os (b + 1) = some l → (l.all fun i => match fs[i - (b + 1)]? with | some fi => indep fi fj | none => true) = (l.all fun i => match (fi :: fs)[i - b]? with | some fi => indep fi fj | none => true) := fun l hl => by
      have := h2 l hl
      clear hl h1 h2
      induction l with
      | nil => rfl
      | cons x l ih =>
        simp only [List.all_cons]
        rw [ih fun i hi => this i (List.mem_cons_of_mem _ hi)]
        have hx := (this x (by simp)).1
        rw [show x - b = (x - (b + 1)) + 1 by omega, List.getElem?_cons_succ]
    cases ht : Nat.testBit m b with
    | true =>
      simp only [Bool.true_or, Bool.true_and]
      refine ⟨?_, fun l hl i hi => by have := h2 l hl i hi; simp only [List.length_cons]; omega⟩
      cases hl : prs1 ops m oj os (b + 1) with
      | none => rfl
      | some l => exact hall l hl
    | false =>
      simp only [Bool.false_or]
      cases ha : apart ops oi oj with
      | false => exact ⟨rfl, fun l hl => by cases hl⟩
      | true =>
        simp only [Bool.true_and]
        cases hl : prs1 ops m oj os (b + 1) with
        | none =>
          refine ⟨?_, fun l hl => by cases hl⟩
          show (indep fi fj && false) = false
          simp
        | some l =>
          refine ⟨?_, fun l' hl' i hi => ?_⟩
          · show (indep fi fj && _) = List.all (b :: l) _
            simp only [List.all_cons, Nat.sub_self, List.getElem?_cons_zero]
            rw [hall l hl]
          · simp only [Option.map_some, Option.some.injEq] at hl'
            subst hl'
            simp only [List.length_cons]
            rcases List.mem_cons.1 hi with rfl | hi
            · omega
            · have := h2 l hl i hi; omega
  | [], _ :: _, _, h => by cases h
  | _ :: _, [], _, h => by cases h
theorem prsAll_ok (ops : List Oper) : ∀ (os : List Oper) (ms : List Nat) (fs : List FP) (pre : List Oper) (pfs : List FP), os.length = fs.length → ms.length = os.length → pre.length = pfs.length →
    pairsAll ops os ms fs pre pfs = Option.rec (motive := fun _ => Bool) false (fun l => l.all (chk2 (pfs ++ fs))) (prsAll ops os ms pre)
  | [], _, _, _, _, _, _, _ => by unfold pairsAll prsAll; rfl
  | oj :: os, [], _, _, _, _, h, _ => by cases h
  | oj :: os, _ :: _, [], _, _, h, _, _ => by cases h
  | oj :: os, m :: ms, fj :: fs, pre, pfs, h1, h2, h3 => by
    have ih := prsAll_ok ops os ms fs (pre ++ [oj]) (pfs ++ [fj]) (by simpa using h1) (by simpa using h2) (by simp [h3])
    obtain ⟨e1, e2⟩ := prs1_ok ops m oj fj pre pfs 0 h3
    unfold pairsAll prsAll
    rw [ih, e1]
    cases hl : prs1 ops m oj pre 0 with
    | none => rfl
    | some l =>
      simp only [Option.bind_some]
      have hal : (l.all fun i => match pfs[i - 0]? with | some fi => indep fi fj | none => true) = (l.map fun i => (i, pre.length)).all (chk2 (pfs ++ fj :: fs)) := by
        have := e2 l hl
        clear hl e1 e2 ih
        induction l with
        | nil => rfl
        | cons x l ih =>
          simp only [List.all_cons, List.map_cons]
          rw [ih fun i hi => this i (List.mem_cons_of_mem _ hi)]
          have hx := (this x (by simp)).2
          congr 1
          simp only [chk2, Nat.sub_zero]
          rw [List.getElem?_append_left (by omega), h3, List.getElem?_append_right (Nat.le_refl _), Nat.sub_self, List.getElem?_cons_zero]
          rw [List.getElem?_eq_getElem (by omega : x < pfs.length)]
      cases hr : prsAll ops os ms (pre ++ [oj]) with
      | none =>
        show (_ && false) = false
        simp
      | some r =>
        show (List.all l _ && List.all r _) = List.all (_ ++ r) _
        rw [List.all_append, ← hal]
        simp
theorem pairsF_eq (ops : List Oper) (fps : List FP) : pairsF ops fps = pairsAll ops ops (befs ops []) fps [] [] := by
  unfold pairsF
  split
  · rename_i h
    have h := Nat.eq_of_beq_eq_true h
    have hb : ∀ (l : List Oper) (acc : List Nat), (befs l acc).length = acc.length + l.length := by
      intro l
      induction l with
      | nil => intro acc; simp [befs]
      | cons o l ih => intro acc; rw [befs, ih]; simp; omega
    rw [prsAll_ok ops ops (befs ops []) fps [] [] h.symm (by rw [hb]; simp) rfl]
    rfl
  · rfl
def drawRunF (P : Program) (z : Bool) (call : CallF RV) (n : Nat) (ops : List Oper) (s : S) (k : S → Option RV) : Option RV :=
  match noRing ops ops 0 with
  | false => none
  | true => drawGoF P z call n ops ops [] s fun fps s' =>
    match pairsF ops fps with
    | true => k { s' with lg := allLogs fps s.lg }
    | false => drawGoI P z call n ops ops [] s fun fps s' =>
      match pairsF ops fps with
      | true => k { s' with lg := allLogs fps s.lg }
      | false => none

def bodyF (P : Program) (ex : ExecF RV) (fn : Func) (c : Code) (args : List RV) (s : S) (k : RV → S → Option RV) : Option RV :=
  setArgs fn.ntmps args 0 .nil fun sl => ex fn.ntmps c ⟨sl, s.hp, s.nx, s.lg⟩ (backRun P fn s k)
def callByF (P : Program) (Sg : FuncId → Option Sum) (ex : ExecF RV) : CallF RV := fun g args s k =>
  Option.rec (Bool.rec none (yieldRun ex (g - YB) args s k) (Nat.ble YB g)) (fun fn => Bool.rec none (oR fn.body fun c => Option.rec (bodyF P ex fn c args s k) (fun sm => Option.rec (bodyF P ex fn c args s k) (fun r => k r.1 ⟨s.sl, r.2.1, r.2.2.1, r.2.2.2 ++ s.lg⟩) (sm args s.hp s.nx)) (Sg g)) (Nat.blt g YB)) P.funcs[g]?
theorem callByF_eq (P : Program) (Sg : FuncId → Option Sum) (ex : ExecF RV) : callByF P Sg ex = callBy P Sg ex := by
  funext g args s k
  unfold callByF callBy oR
  cases P.funcs[g]? with
  | none =>
    simp only
    cases Nat.ble YB g <;> rfl
  | some fn =>
    simp only
    cases Nat.blt g YB with
    | false => rfl
    | true =>
      simp only
      cases fn.body with
      | none => rfl
      | some c =>
        simp only
        cases Sg g with
        | none => rfl
        | some sm =>
          simp only
          cases sm args s.hp s.nx <;> rfl

abbrev CodeK := Program → (FuncId → Option Sum) → Bool → ExecF RV → Nat → S → (X → S → Option RV) → Option RV
def codeF (c : Code) : CodeK :=
  Code.rec (motive := fun _ => CodeK)
    (fun _ _ _ _ _ s k => k .normal s)
    (fun _ ops draw P Sg z ex n s k => Bool.rec (opsRunF P z (callByF P Sg ex) n ops.toList ops.toList s (k .normal)) (drawRunF P z (callByF P Sg ex) n ops.toList s (k .normal)) draw)
    (fun a b _ _ _ _ _ ex n s k => ex n a s (seqK ex n b k))
    (fun c a b _ _ _ _ _ ex n s k => oR (evalF n s.sl c) fun v => rvBool v fun t => Bool.rec (ex n b s k) (ex n a s k) t)
    (fun id c _ _ _ _ ex n s k => ex n c s (blockK id k))
    (fun c _ _ _ _ ex n s k => ex n c s (seqK ex n (.loop c) k))
    (fun g ps a b _ _ P Sg z ex n s k => Bool.rec none (rangeRun (callByF P Sg ex) n g ps a b s k) z)
    (fun id _ _ _ _ _ s k => k (.exit id) s)
    (fun _ _ _ _ _ _ _ _ _ => none)
    (fun _ _ _ _ _ _ _ _ => none)
    (fun _ _ _ _ _ _ _ _ => none)
    (fun _ _ _ _ _ s k => k .ret s)
    (fun _ _ _ _ _ _ _ _ => none) c
theorem codeF_eq (P : Program) (Sg : FuncId → Option Sum) (z : Bool) (ex : ExecF RV) (n : Nat) (c : Code) (s : S) (k : X → S → Option RV) : codeF c P Sg z ex n s k = codeRun P Sg z ex n c s k := by
  cases c with
  | region id ops draw =>
    cases draw with
    | false =>
      show opsRunF P z (callByF P Sg ex) n ops.toList ops.toList s (k .normal) = _
      rw [opsRunF_eq, callByF_eq]; rfl
    | true =>
      show drawRunF P z (callByF P Sg ex) n ops.toList s (k .normal) = _
      unfold drawRunF codeRun regionRun drawRun
      simp only [drawGoF_eq, callByF_eq, pairsF_eq]
      rfl
  | rangeFunc g ps a b =>
    show @Bool.rec (fun _ => Option RV) none (rangeRun (callByF P Sg ex) n g ps a b s k) z = _
    rw [callByF_eq]
    cases z <;> rfl
  | cond c a b =>
    show oR (evalF n s.sl c) _ = condRun ex n c a b s k
    unfold oR condRun
    rw [evalF_eq]
    rcases eval n s.sl c with _ | ⟨v⟩ | v <;> try rfl
    cases v <;> try rfl
    rename_i c
    cases c <;> try rfl
    rename_i t
    cases t <;> rfl
  | _ => rfl

def execF (P : Program) (Sg : FuncId → Option Sum) (z : Bool) (f : Nat) : ExecF RV :=
  Nat.rec (fun _ _ _ _ => none) (fun _ ih n c s k => codeF c P Sg z ih n s k) f
theorem execF_eq (P : Program) (Sg : FuncId → Option Sum) (z : Bool) : ∀ f, execF P Sg z f = exec P Sg z f
  | 0 => rfl
  | f + 1 => by
    funext n c s k
    show codeF c P Sg z (execF P Sg z f) n s k = _
    rw [execF_eq P Sg z f, codeF_eq]
    rfl

/-- as runB, lighter -/
def runF (P : Program) (Sg : FuncId → Option Sum) (z : Bool) (fuel : Nat) (g : FuncId) (args : List RV) (s : S) (k : RV → S → Option RV) : Option RV :=
  oR P.funcs[g]? fun fn => oR fn.body fun c => bodyF P (execF P Sg z fuel) fn c args s k
theorem runF_eq (P : Program) (Sg : FuncId → Option Sum) (z : Bool) (fuel : Nat) (g : FuncId) (args : List RV) (s : S) (k : RV → S → Option RV) : runF P Sg z fuel g args s k = runB P Sg z fuel g args s k := by
  unfold runF runB oR
  rw [execF_eq]
  cases P.funcs[g]? with
  | none => rfl
  | some fn =>
    simp only
    cases fn.body <;> rfl
end
end Go.Sx
