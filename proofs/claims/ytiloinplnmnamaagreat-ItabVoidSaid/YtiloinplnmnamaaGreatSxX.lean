/-
  Parts of the executor Sx over the model's code (any program), or of this seat's walks: words and proofs that the row's text uses.
-/
import Derived.Test.YtiloinplnmnamaaGreatSxI
namespace Go.Sx
/-! The executor once more, by raw recursors with closed arms: the same function, but lighter for the kernel. -/
noncomputable section

def evalF (n : Nat) (sl : T RV) (o : Operand) : Option RV :=
  Operand.rec (motive := fun _ => Nat → T RV → Option RV)
    (fun t n sl => Bool.rec (some und) (Option.rec (some und) (fun v => some v) (sl.get t)) (Nat.blt t n))
    (fun v n sl => eval n sl (.const v)) (fun _ _ _ => none) (fun f _ _ => some (.one (.c (.fn f [] [])))) o n sl

theorem evalF_eq (n : Nat) (sl : T RV) (o : Operand) : evalF n sl o = eval n sl o := by
  cases o with
  | tmp t =>
    show @Bool.rec (fun _ => Option RV) (some und) (@Option.rec RV (fun _ => Option RV) (some und) (fun v => some v) (sl.get t)) (Nat.blt t n) = _
    unfold eval
    simp only
    by_cases h : t < n
    · rw [if_pos h, show Nat.blt t n = true by simpa [Nat.blt_eq] using h]
      cases sl.get t <;> rfl
    · rw [if_neg h, show Nat.blt t n = false by simpa [← Bool.not_eq_true, Nat.blt_eq] using h]
  | const v => rfl
  | global g => rfl
  | func f => rfl
theorem evalF_eq' (n : Nat) (sl : T RV) : evalF n sl = eval n sl := funext fun o => evalF_eq n sl o

def oR {α ρ : Type} (o : Option α) (k : α → Option ρ) : Option ρ := Option.rec none k o
def rvOne (v : RV) : (AV → Option Res) → Option Res := RV.rec (motive := fun _ => (AV → Option Res) → Option Res) (fun a k => k a) (fun _ _ => none) (fun _ => none) v
def avC (v : AV) : (Cell → Option Res) → Option Res := AV.rec (motive := fun _ => (Cell → Option Res) → Option Res) (fun c k => k c) (fun _ _ => none) (fun _ _ _ _ => none) v
def cInt (c : Cell) : (IntKind → Int → Option Res) → Option Res :=
  Cell.rec (motive := fun _ => (IntKind → Int → Option Res) → Option Res) (fun kd n k => k kd n) (fun _ _ => none) (fun _ _ => none) (fun _ => none) (fun _ _ _ => none) (fun _ => none) (fun _ _ _ _ _ => none)
    (fun _ _ _ _ _ => none) (fun _ => none) (fun _ _ => none) (fun _ => none) (fun _ _ _ _ => none) (fun _ => none) c
def cPtr (c : Cell) : (Nat → Nat → Option Res) → Option Res :=
  Cell.rec (motive := fun _ => (Nat → Nat → Option Res) → Option Res) (fun _ _ _ => none) (fun _ _ => none) (fun _ _ => none) (fun _ => none) (fun nm off k => k nm off) (fun _ => none) (fun _ _ _ _ _ => none)
    (fun _ _ _ _ _ => none) (fun _ => none) (fun _ _ => none) (fun _ => none) (fun _ _ _ _ => none) (fun _ => none) c
def cBoolV (c : Cell) : (Bool → Option RV) → Option RV :=
  Cell.rec (motive := fun _ => (Bool → Option RV) → Option RV) (fun _ _ _ => none) (fun b k => k b) (fun _ _ => none) (fun _ => none) (fun _ _ _ => none) (fun _ => none) (fun _ _ _ _ _ => none)
    (fun _ _ _ _ _ => none) (fun _ => none) (fun _ _ => none) (fun _ => none) (fun _ _ _ _ => none) (fun _ => none) c
def rvBool (v : RV) : (Bool → Option RV) → Option RV :=
  RV.rec (motive := fun _ => (Bool → Option RV) → Option RV) (fun a k => AV.rec (motive := fun _ => (Bool → Option RV) → Option RV) (fun c k => cBoolV c k) (fun _ _ => none) (fun _ _ _ _ => none) a k) (fun _ _ => none) (fun _ => none) v

def stMoveF (ev : Ev) (x : Operand) : Option Res := oR (ev x) fun v => some ⟨v, .none, [], false⟩
theorem stMoveF_eq (ev : Ev) (x : Operand) : stMoveF ev x = stMove ev x := by unfold stMoveF stMove oR; cases ev x <;> rfl
def stBinF (P : Program) (ev : Ev) (op : BinOp) (t : TypeId) (x y : Operand) : Option Res :=
  oR (ev x) fun x => rvOne x fun x => oR (ev y) fun y => rvOne y fun y => qOpt (binRes P op t x y)
theorem stBinF_eq (P : Program) (ev : Ev) (op : BinOp) (t : TypeId) (x y : Operand) : stBinF P ev op t x y = stBin P ev op t x y := by
  unfold stBinF stBin oR
  rcases ev x with _ | ⟨x⟩ | x <;> try rfl
  rcases ev y with _ | ⟨y⟩ | y <;> rfl
def stConvF (P : Program) (ev : Ev) (src dst : TypeId) (x : Operand) : Option Res :=
  oR (ev x) fun x => rvOne x fun x => avC x fun x => cInt x fun _ n => match P.underlying src with
    | some (.int _) => match P.underlying dst with
      | some (.int k) => quiet (.c (.int k (k.wrap n)))
      | _ => none
    | _ => none
theorem stConvF_eq (P : Program) (ev : Ev) (src dst : TypeId) (x : Operand) : stConvF P ev src dst x = stConv P ev src dst x := by
  unfold stConvF stConv oR
  rcases ev x with _ | ⟨x⟩ | x <;> try rfl
  cases x <;> try rfl
  rename_i c
  cases c <;> rfl
def stLoadF (P : Program) (ev : Ev) (hp : Hp) (t : TypeId) (a : Operand) : Option Res :=
  oR (ev a) fun x => rvOne x fun x => avC x fun x => cPtr x fun nm off => oR (tk P t) fun k => oR (hp nm) fun b =>
    Blk.rec (motive := fun _ => TK → Nat → Nat → Option Res) (fun _ _ _ b k nm off => oR (b.get off k) fun v => some ⟨.one v, .none, [nm], true⟩) (fun _ _ _ _ => none) (fun _ _ _ _ _ _ => none) (fun _ _ _ _ _ => none) (fun _ _ _ _ => none) b k nm off
theorem stLoadF_eq (P : Program) (ev : Ev) (hp : Hp) (t : TypeId) (a : Operand) : stLoadF P ev hp t a = stLoad P ev hp t a := by
  unfold stLoadF stLoad oR
  rcases ev a with _ | ⟨x⟩ | x <;> try rfl
  cases x <;> try rfl
  rename_i c
  cases c <;> try rfl
  rename_i nm off
  cases tk P t <;> try rfl
  rename_i k
  show @Option.rec Blk (fun _ => Option Res) none _ (hp nm) = _
  simp only [getRow]
  cases hp nm with
  | none => rfl
  | some x =>
    cases x with
    | row t ro o b =>
      show @Option.rec AV (fun _ => Option Res) none _ (b.get off k) = _
      simp only
      cases b.get off k <;> rfl
    | map es => rfl
    | win => rfl
    | mapI => rfl
    | mapR => rfl

abbrev Fin := Bool → Nat → Option Tmp → S → (Need → S → Option RV) → Option RV
def putF (n : Nat) (d : Option Tmp) (v : RV) (s : S) (k : S → Option RV) : Option RV :=
  Option.rec (k s) (fun d => Bool.rec none (T.set depth s.sl d (some v) fun sl => k ⟨sl, s.hp, s.nx, s.lg⟩) (Nat.blt d n)) d
theorem putF_eq (n : Nat) (d : Option Tmp) (v : RV) (s : S) (k : S → Option RV) : putF n d v s k = putDst n d v s k := by
  unfold putF putDst
  cases d with
  | none => rfl
  | some d =>
    show @Bool.rec (fun _ => Option RV) none _ (Nat.blt d n) = _
    simp only
    by_cases h : d < n
    · rw [if_pos h, show Nat.blt d n = true by simpa [Nat.blt_eq] using h]
    · rw [if_neg h, show Nat.blt d n = false by simpa [← Bool.not_eq_true, Nat.blt_eq] using h]

def fin (r : Option Res) (z : Bool) (n : Nat) (d : Option Tmp) (s : S) (k : Need → S → Option RV) : Option RV :=
  oR r fun r => sRV (z && r.fz) r.v fun v => applyU z r.u s fun s => putF n d v s (k (some r.need))

def callF (call : CallF RV) (n : Nat) (f : Operand) (args : Array Operand) (d : Option Tmp) (s : S) (k : Need → S → Option RV) : Option RV :=
  match calleeOf n s.sl f with
  | some (f, fs, caps) => match evl (evalF n s.sl) args.toList with
    | some l => call f (fs ++ (l ++ caps)) s fun v s' => putF n d v s' (k none)
    | none => none
  | none => none
theorem callF_eq (call : CallF RV) (n : Nat) (f : Operand) (args : Array Operand) (d : Option Tmp) (s : S) (k : Need → S → Option RV) : callF call n f args d s k = callRun call n f args d s k := by
  unfold callF callRun
  simp only [evalF_eq', putF_eq]
  rfl

abbrev OpK := Program → Bool → CallF RV → Nat → Option Tmp → S → (Need → S → Option RV) → Option RV
def opGo (o : Op) : OpK :=
  @Op.rec (fun _ => OpK)
    (fun a1 _ z _ n d s k => fin (stMoveF (evalF n s.sl) a1) z n d s k)
    (fun a1 _ z _ n d s k => fin (stMoveF (evalF n s.sl) a1) z n d s k)
    (fun a1 a2 a3 _ z _ n d s k => fin (stPick (evalF n s.sl) a1 a2 a3) z n d s k)
    (fun a1 P z _ n d s k => fin (stAlloc P s.nx a1) z n d s k)
    (fun a1 a2 P z _ n d s k => fin (stBox P (evalF n s.sl) s.nx a1 a2) z n d s k)
    (fun a1 a2 P z _ n d s k => fin (stBuild P (evalF n s.sl) a1 a2) z n d s k)
    (fun a1 a2 a3 P z _ n d s k => fin (stBuildSlice P (evalF n s.sl) s.nx a1 a2 a3) z n d s k)
    (fun a1 a2 a3 a4 P z _ n d s k => fin (stMapUpdate P (evalF n s.sl) s.hp.get a1 a2 a3 a4) z n d s k)
    (fun a1 a2 P z _ n d s k => fin (stLoadF P (evalF n s.sl) s.hp.get a1 a2) z n d s k)
    (fun a1 a2 a3 P z _ n d s k => fin (stStore P (evalF n s.sl) s.hp.get a1 a2 a3) z n d s k)
    (fun _ _ z _ n d s k => fin none z n d s k)
    (fun _ _ z _ n d s k => fin none z n d s k)
    (fun a1 _ z _ n d s k => fin (stNil (evalF n s.sl) a1) z n d s k)
    (fun a1 a2 a3 a4 _ P z _ n d s k => fin (stBinF P (evalF n s.sl) a1 a2 a3 a4) z n d s k)
    (fun a1 _ a3 _ z _ n d s k => fin (stUn (evalF n s.sl) a1 a3) z n d s k)
    (fun a1 a2 a3 P z _ n d s k => fin (stConvF P (evalF n s.sl) a1 a2 a3) z n d s k)
    (fun a1 a2 P z _ n d s k => fin (stArr P (evalF n s.sl) a1 a2) z n d s k)
    (fun _ _ _ z _ n d s k => fin none z n d s k)
    (fun a1 a2 a3 _ z _ n d s k => fin (stFunc (evalF n s.sl) a1 a2 a3) z n d s k)
    (fun _ a2 _ z _ n d s k => fin (stMakeMap s.nx a2) z n d s k)
    (fun _ _ _ z _ n d s k => fin none z n d s k)
    (fun a1 a2 a3 P z _ n d s k => fin (stMakeSlice P (evalF n s.sl) s.nx a1 a2 a3) z n d s k)
    (fun a1 a2 a3 a4 a5 P z _ n d s k => fin (stSlice P (evalF n s.sl) a1 a2 a3 a4 a5) z n d s k)
    (fun a1 a2 a3 P z _ n d s k => fin (stFieldAddr P (evalF n s.sl) a1 a2 a3) z n d s k)
    (fun a1 a2 a3 P z _ n d s k => fin (stField P (evalF n s.sl) a1 a2 a3) z n d s k)
    (fun a1 a2 a3 P z _ n d s k => fin (stIndexAddr P (evalF n s.sl) a1 a2 a3) z n d s k)
    (fun a1 a2 a3 P z _ n d s k => fin (stIndex P (evalF n s.sl) a1 a2 a3) z n d s k)
    (fun a1 a2 a3 a4 P z _ n d s k => fin (stLookup P (evalF n s.sl) s.hp.get a1 a2 a3 a4) z n d s k)
    (fun a1 a2 a3 a4 P z _ n d s k => fin (stMapUpdate P (evalF n s.sl) s.hp.get a1 a2 a3 a4) z n d s k)
    (fun _ _ _ _ z _ n d s k => fin none z n d s k)
    (fun _ _ _ _ _ z _ n d s k => fin none z n d s k)
    (fun _ _ _ z _ n d s k => fin none z n d s k)
    (fun _ _ _ z _ n d s k => fin none z n d s k)
    (fun _ _ z _ n d s k => fin none z n d s k)
    (fun _ _ _ _ _ z _ n d s k => fin none z n d s k)
    (fun a1 a2 _ z _ n d s k => fin (stExtract (evalF n s.sl) a1 a2) z n d s k)
    (fun c P z call n d s k => Callee.rec (motive := fun _ => Array Operand → Array TypeId → OpK) (fun f args _ _ _ call n d s k => callF call n f args d s k) (fun _ _ _ _ _ z _ n d s k => fin none z n d s k) (fun b args tys P z _ n d s k => fin (match evl (evalF n s.sl) args.toList with | some l => builtinRes P s.hp.get s.nx b tys l | none => none) z n d s k) c.callee c.args c.argTypes P z call n d s k)
    (fun _ _ z _ n d s k => fin none z n d s k)
    (fun _ _ z _ n d s k => fin none z n d s k)
    (fun _ _ z _ n d s k => fin none z n d s k)
    (fun _ _ _ z _ n d s k => fin none z n d s k)
    (fun _ _ _ _ z _ n d s k => fin none z n d s k)
    (fun _ _ _ z _ n d s k => fin none z n d s k)
    o
theorem fin_eq (r : Option Res) (z : Bool) (n : Nat) (d : Option Tmp) (s : S) (k : Need → S → Option RV) :
    fin r z n d s k = (match r with | some r => sRV (z && r.fz) r.v fun v => applyU z r.u s fun s => putDst n d v s (k (some r.need)) | none => none) := by
  unfold fin oR
  simp only [putF_eq]
  cases r <;> rfl
theorem opGo_eq (P : Program) (z : Bool) (call : CallF RV) (n : Nat) (o : Oper) (s : S) (k : Need → S → Option RV) :
    opGo o.op P z call n o.dst s k = (match isCall o.op with | some (f, args) => callRun call n f args o.dst s k | none => plainRun P z n o s k) := by
  unfold plainRun
  obtain ⟨d, op, ty, pos, after, guard⟩ := o
  cases op with
  | call c =>
    obtain ⟨callee, args, tys⟩ := c
    cases callee with
    | value f => exact callF_eq call n f args d s k
    | builtin b => exact (fin_eq _ z n d s k).trans (by rw [evalF_eq']; rfl)
    | invoke r m => exact (fin_eq _ z n d s k)
  | _ => exact (fin_eq _ z n d s k).trans (by simp only [stMoveF_eq, stBinF_eq, stConvF_eq, stLoadF_eq, evalF_eq']; rfl)

def opRunF (P : Program) (z : Bool) (call : CallF RV) (n : Nat) (ops : List Oper) (o : Oper) (s : S) (k : Need → S → Option RV) : Option RV :=
  Option.rec (opGo o.op P z call n o.dst s k) (fun g => oR (guardOf n ops s.sl o) fun g => Bool.rec (putF n o.dst und s (k (some []))) (opGo o.op P z call n o.dst s k) g) o.guard
theorem opRunF_eq (P : Program) (z : Bool) (call : CallF RV) (n : Nat) (ops : List Oper) (o : Oper) (s : S) (k : Need → S → Option RV) : opRunF P z call n ops o s k = opRun P z call n ops o s k := by
  unfold opRunF opRun
  cases hg : o.guard with
  | none =>
    rw [show guardOf n ops s.sl o = some true by unfold guardOf; rw [hg]]
    exact opGo_eq P z call n o s k
  | some g =>
    show oR (guardOf n ops s.sl o) _ = _
    unfold oR
    cases guardOf n ops s.sl o with
    | none => rfl
    | some b =>
      cases b with
      | true => exact opGo_eq P z call n o s k
      | false => exact putF_eq n o.dst und s _

def opsRunF (P : Program) (z : Bool) (call : CallF RV) (n : Nat) (ops : List Oper) (l : List Oper) (s : S) (k : S → Option RV) : Option RV :=
  List.rec (motive := fun _ => S → Option RV) k (fun o _ ih s => opRunF P z call n ops o s fun _ s => ih s) l s
theorem opsRunF_eq (P : Program) (z : Bool) (call : CallF RV) (n : Nat) (ops : List Oper) : ∀ (l : List Oper) (s : S) (k : S → Option RV), opsRunF P z call n ops l s k = opsRun P z call n ops l s k
  | [], s, k => rfl
  | o :: rest, s, k => by
    show opRunF P z call n ops o s (fun _ s => opsRunF P z call n ops rest s k) = _
    rw [opRunF_eq]
    simp only [opsRun, opsRunF_eq P z call n ops rest]

def drawGoF (P : Program) (z : Bool) (call : CallF RV) (n : Nat) (ops : List Oper) : List Oper → List FP → S → (List FP → S → Option RV) → Option RV
  | [], fps, s, k => k fps s
  | o :: rest, fps, s, k => opRunF P z call n ops o ⟨s.sl, s.hp, s.nx, []⟩ fun need s' =>
      drawGoF P z call n ops rest (fps ++ [⟨need, s'.lg, s.nx, s'.nx⟩]) s' k
theorem drawGoF_eq (P : Program) (z : Bool) (call : CallF RV) (n : Nat) (ops : List Oper) : ∀ (l : List Oper) (fps : List FP) (s : S) (k : List FP → S → Option RV), drawGoF P z call n ops l fps s k = drawGo P z call n ops l fps s k
  | [], fps, s, k => rfl
  | o :: rest, fps, s, k => by simp only [drawGoF, drawGo, opRunF_eq, drawGoF_eq P z call n ops rest]

def drawRunF (P : Program) (z : Bool) (call : CallF RV) (n : Nat) (ops : List Oper) (s : S) (k : S → Option RV) : Option RV :=
  match noRing ops ops 0 with
  | false => none
  | true => drawGoF P z call n ops ops [] s fun fps s' =>
    match pairsAll ops ops (befs ops []) fps [] [] with
    | true => k { s' with lg := allLogs fps s.lg }
    | false => none

def bodyF (P : Program) (ex : ExecF RV) (fn : Func) (c : Code) (args : List RV) (s : S) (k : RV → S → Option RV) : Option RV :=
  setArgs fn.ntmps args 0 .nil fun sl => ex fn.ntmps c ⟨sl, s.hp, s.nx, s.lg⟩ (backRun P fn s k)
def callByF (P : Program) (Sg : FuncId → Option Sum) (ex : ExecF RV) : CallF RV := fun g args s k =>
  oR P.funcs[g]? fun fn => oR fn.body fun c => Option.rec (bodyF P ex fn c args s k) (fun sm => Option.rec (bodyF P ex fn c args s k) (fun r => k r.1 ⟨s.sl, r.2.1, r.2.2.1, r.2.2.2 ++ s.lg⟩) (sm args s.hp s.nx)) (Sg g)
theorem callByF_eq (P : Program) (Sg : FuncId → Option Sum) (ex : ExecF RV) : callByF P Sg ex = callBy P Sg ex := by
  funext g args s k
  unfold callByF callBy oR
  cases P.funcs[g]? with
  | none => rfl
  | some fn =>
    simp only
    cases fn.body with
    | none => rfl
    | some c =>
      simp only
      cases Sg g with
      | none => rfl
      | some sm =>
        simp only
        cases sm args s.hp s.nx <;> rfl

abbrev CodeK := Program → (FuncId → Option Sum) → Bool → ExecF RV → Nat → S → (X → S → Option RV) → Option RV
def codeF (c : Code) : CodeK :=
  Code.rec (motive := fun _ => CodeK)
    (fun _ _ _ _ _ s k => k .normal s)
    (fun _ ops draw P Sg z ex n s k => Bool.rec (opsRunF P z (callByF P Sg ex) n ops.toList ops.toList s (k .normal)) (drawRunF P z (callByF P Sg ex) n ops.toList s (k .normal)) draw)
    (fun a b _ _ _ _ _ ex n s k => ex n a s (seqK ex n b k))
    (fun c a b _ _ _ _ _ ex n s k => oR (evalF n s.sl c) fun v => rvBool v fun t => Bool.rec (ex n b s k) (ex n a s k) t)
    (fun id c _ _ _ _ ex n s k => ex n c s (blockK id k))
    (fun c _ _ _ _ ex n s k => ex n c s (seqK ex n (.loop c) k))
    (fun _ _ _ _ _ _ _ _ _ _ _ _ _ => none)
    (fun id _ _ _ _ _ s k => k (.exit id) s)
    (fun _ _ _ _ _ _ _ _ _ => none)
    (fun _ _ _ _ _ _ _ _ => none)
    (fun _ _ _ _ _ _ _ _ => none)
    (fun _ _ _ _ _ s k => k .ret s)
    (fun _ _ _ _ _ _ _ _ => none) c
theorem codeF_eq (P : Program) (Sg : FuncId → Option Sum) (z : Bool) (ex : ExecF RV) (n : Nat) (c : Code) (s : S) (k : X → S → Option RV) : codeF c P Sg z ex n s k = codeRun P Sg z ex n c s k := by
  cases c with
  | region id ops draw =>
    cases draw with
    | false =>
      show opsRunF P z (callByF P Sg ex) n ops.toList ops.toList s (k .normal) = _
      rw [opsRunF_eq, callByF_eq]; rfl
    | true =>
      show drawRunF P z (callByF P Sg ex) n ops.toList s (k .normal) = _
      unfold drawRunF codeRun regionRun drawRun
      simp only [drawGoF_eq, callByF_eq]
      rfl
  | cond c a b =>
    show oR (evalF n s.sl c) _ = condRun ex n c a b s k
    unfold oR condRun
    rw [evalF_eq]
    rcases eval n s.sl c with _ | ⟨v⟩ | v <;> try rfl
    cases v <;> try rfl
    rename_i c
    cases c <;> try rfl
    rename_i t
    cases t <;> rfl
  | _ => rfl

def execF (P : Program) (Sg : FuncId → Option Sum) (z : Bool) (f : Nat) : ExecF RV :=
  Nat.rec (fun _ _ _ _ => none) (fun _ ih n c s k => codeF c P Sg z ih n s k) f
theorem execF_eq (P : Program) (Sg : FuncId → Option Sum) (z : Bool) : ∀ f, execF P Sg z f = exec P Sg z f
  | 0 => rfl
  | f + 1 => by
    funext n c s k
    show codeF c P Sg z (execF P Sg z f) n s k = _
    rw [execF_eq P Sg z f, codeF_eq]
    rfl

/-- as runB, lighter -/
def runF (P : Program) (Sg : FuncId → Option Sum) (z : Bool) (fuel : Nat) (g : FuncId) (args : List RV) (s : S) (k : RV → S → Option RV) : Option RV :=
  oR P.funcs[g]? fun fn => oR fn.body fun c => bodyF P (execF P Sg z fuel) fn c args s k
theorem runF_eq (P : Program) (Sg : FuncId → Option Sum) (z : Bool) (fuel : Nat) (g : FuncId) (args : List RV) (s : S) (k : RV → S → Option RV) : runF P Sg z fuel g args s k = runB P Sg z fuel g args s k := by
  unfold runF runB oR
  rw [execF_eq]
  cases P.funcs[g]? with
  | none => rfl
  | some fn =>
    simp only
    cases fn.body <;> rfl
end
end Go.Sx
