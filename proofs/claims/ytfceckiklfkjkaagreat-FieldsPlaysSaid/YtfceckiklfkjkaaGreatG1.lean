/-
  Parts of the executor Sx over the model's code (any program), or of this seat's walks: words and proofs that the row's text uses.
-/
import Derived.Test.YtfceckiklfkjkaaGreatSxY
import Derived.Test.YtfceckiklfkjkaaGreatQ1
namespace Go.Sx
open Go.Proofs Go.RowKit
set_option maxRecDepth 100000
noncomputable def gR : Code → Code | .seq _ b => b | .block _ c => c | .loop c => c | .cond _ _ e => e | c => c
noncomputable def gL : Code → Code | .seq a _ => a | .block _ c => c | .loop c => c | .cond _ t _ => t | c => c
noncomputable def gB (f : Nat) : Code := match Tryz.prog.funcs[f]? with | some fn => (match fn.body with | some c => c | none => .skip) | none => .skip
/-- eight steps of the register -/
noncomputable def stepI (n : Nat) (x : Int) : Int := ((iter stp n x.toNat : Nat) : Int)
noncomputable def fStep (args : List RV) : Option (RV × List Prop) := match args with
  | [.one (.c (.int .u32 x)), .one (.c (.int .i64 n))] => some (.one (.c (.int .u32 (stepI n.toNat x))), [0 ≤ x ∧ x < 4294967296, 0 ≤ n ∧ n ≤ 1000000000000])
  | _ => none
theorem ArgsR.two' {ρ : Rho} {x y : RV} {vs : List Value} (h : ArgsR ρ [x, y] vs) : ∃ V W, RVR ρ x V ∧ RVR ρ y W ∧ vs = [V, W] := by
  obtain ⟨V, vs', h1, ⟨W, vs2, h2, h3, rfl⟩, rfl⟩ := h
  cases h3
  exact ⟨V, W, h1, h2, rfl⟩
theorem fStep_ok (f : FuncId) (hc : ∀ (r n : Nat) (_ : r < 4294967296) (_ : n ≤ 1000000000000) (w : World), Calls Tryz.prog f #[.int .u32 r, .int .i64 n] w fun e w' => e = .returned (.int .u32 (iter stp n r)) ∧ w' = w) : PureOK Tryz.prog f fStep := by
  intro args v ps h hp ρ w vs ha
  unfold fStep at h
  split at h <;> try (cases h; done)
  rename_i x n
  simp only [Option.some.injEq, Prod.mk.injEq] at h
  obtain ⟨rfl, rfl⟩ := h
  obtain ⟨⟨h1, h2⟩, ⟨h3, h4⟩, _⟩ := hp
  obtain ⟨V, W, e1, e2, rfl⟩ := ha.two'
  cases e1; cases e2
  obtain ⟨r, rfl⟩ := Int.eq_ofNat_of_zero_le h1
  obtain ⟨m, rfl⟩ := Int.eq_ofNat_of_zero_le h3
  exact (hc r m (by omega) (by omega) w).mono fun e w' ⟨q1, q2⟩ => ⟨_, q1, rfl, by rw [q2]; exact Below.refl _ _⟩
noncomputable def sgC : FuncId → Option SumA := fun f => match f with | 302 => some (pureSum fStep) | 277 => some (pureSum fStep) | _ => none
theorem fitC : Fit Tryz.prog (fun f => (sgC f).map toSum) := ⟨fit_ng, fit_mixed, SumAOK.sum fun f sm h => by
  unfold sgC at h
  split at h
  · cases h; exact (fStep_ok 302 stepped_any).sum ⟨_, Tryz.func302, rfl⟩
  · cases h; exact (fStep_ok 277 step_any).sum ⟨_, Tryz.func277, rfl⟩
  · cases h⟩
noncomputable def c118 : Code := gB 279
noncomputable def l118 : Code := gL (gL (gR (gL (gR c118))))
noncomputable def hp118 (t : TypeId) (op : Option Nat) (l : List Int) (N : Nat) (r m : Int) (x y : Int) : T Blk := ofL [(0, .row t true op (.ints .u8 l N)), (1, .row 336 false none (.cells [.int .u32 r, .int .i64 m])), (2, .row 336 false none (.cells [.int .u32 x, .int .i64 y]))]
abbrev K118 : List Nat := [1, 2, 4, 7, 8, 9]
noncomputable def st118 (t : TypeId) (op : Option Nat) (l : List Int) (N off n cap : Nat) (r m i : Int) : S := fgt K118 28 ⟨ofL [(1, .one (.c (.sl 0 off n cap))), (2, .one (.c (.ptr 1 0))), (4, .one (.c (.ptr 2 0))), (7, .one (.c (.sl 0 off n cap))), (8, .one (.c (.int .i64 (n : Int)))), (9, .one (.c (.int .i64 i)))], hp118 t op l N r m 0 0, 3, []⟩
end Go.Sx

namespace Go.Sx
open Go.Proofs Go.RowKit
set_option maxRecDepth 100000
noncomputable def xor32 (r x : Int) : Int := IntKind.u32.wrap ((BitVec.ofInt 32 r ^^^ BitVec.ofInt 32 (IntKind.u32.wrap x)).toNat : Int)
/-- a byte enters the register -/
noncomputable def crc1 (r x : Int) : Int := stepI 8 (xor32 r x)
noncomputable def crcL (r : Int) (l : List Int) : Int := l.foldl crc1 r
abbrev U32 (x : Int) : Prop := 0 ≤ x ∧ x < 4294967296
theorem wrap_u32_b (x : Int) : U32 (IntKind.u32.wrap x) := by
  unfold IntKind.wrap
  simp only [IntKind.bits, IntKind.signed]
  constructor <;> (simp; try omega)
theorem iter_lt {f : Nat → Nat} (hf : ∀ r, r < 4294967296 → f r < 4294967296) : ∀ n r, r < 4294967296 → iter f n r < 4294967296
  | 0, r, h => h
  | n + 1, r, h => by unfold iter; exact hf _ (iter_lt hf n r h)
theorem stepI_b {n : Nat} {x : Int} (h : U32 x) : U32 (stepI n x) := by
  have := iter_lt (f := stp) (fun r h => stp_lt h) n x.toNat (by have := h.2; omega)
  exact ⟨by unfold stepI; omega, by unfold stepI; omega⟩
theorem crc1_b (r x : Int) : U32 (crc1 r x) := stepI_b (wrap_u32_b _)
theorem crcL_b {r : Int} (h : U32 r) : ∀ l, U32 (crcL r l)
  | [] => h
  | x :: l => crcL_b (crc1_b r x) l
theorem it118 (t : TypeId) (op : Option Nat) (l : List Int) (N off n cap : Nat) (r m i : Int) : execA Tryz.prog sgC 300 28 l118 (st118 t op l N off n cap r m i) ⟨0, [(0, true), (1, true), (2, true)], []⟩ (fun x s α => some (x, fgt K118 28 s, α.ob))
  = some (.normal, st118 t op l N off n cap (crc1 r (l.getD (off + i.toNat * 1) 0)) m (IntKind.i64.wrap (i + 1)), [0 ≤ xor32 r (l.getD (off + i.toNat * 1) 0) ∧ xor32 r (l.getD (off + i.toNat * 1) 0) < 4294967296, (0 : Int) ≤ 8 ∧ (8 : Int) ≤ 1000000000000,
    decide (off + i.toNat * 1 < N) = true, decide (0 ≤ i ∧ i < (n : Int)) = true, decide (i < (n : Int)) = true]) := by kernel_rfl
theorem ex118 (t : TypeId) (op : Option Nat) (l : List Int) (N off n cap : Nat) (r m i : Int) : execA Tryz.prog sgC 300 28 l118 (st118 t op l N off n cap r m i) ⟨0, [(0, false)], []⟩ (fun x s α => some (x, fgt K118 28 s, α.ob))
  = some (.exit 0, st118 t op l N off n cap r m i, [decide (i < (n : Int)) = false]) := by kernel_rfl
theorem lp118 (t : TypeId) (op : Option Nat) (l : List Int) (N off n cap : Nat) (m : Int) (hl : l.length = N) (hN : off + n ≤ N) (hn : n ≤ 1000000000000) {Q : X → S → Prop} : ∀ (k i : Nat) (r : Int), i + k = n →
    Q (.exit 0) (st118 t op l N off n cap (crcL r ((l.drop (off + i)).take k)) m n) → Tr Tryz.prog 28 (.loop l118) (st118 t op l N off n cap r m i) Q
  | 0, i, r, hi, hq => by
    obtain rfl : i = n := by omega
    refine Tr.loop (Tr.path fitC (ex118 t op l N off i cap r m i) ⟨by simp, trivial⟩ ?_)
    exact hq
  | k + 1, i, r, hi, hq => by
    have hw : IntKind.i64.wrap ((i : Int) + 1) = ((i + 1 : Nat) : Int) := by rw [IntWalk.i64_in _ (by omega)]; simp
    have hseg : (l.drop (off + i)).take (k + 1) = l.getD (off + i) 0 :: (l.drop (off + (i + 1))).take k := by
      have hlt : off + i < l.length := by omega
      rw [List.drop_eq_getElem_cons hlt, List.take_succ_cons]
      simp [List.getD, List.getElem?_eq_getElem hlt, Nat.add_assoc]
    rw [hseg] at hq
    have h := it118 t op l N off n cap r m i
    rw [hw, Int.toNat_natCast, Nat.mul_one] at h
    refine Tr.loop (Tr.path fitC h ⟨wrap_u32_b _, by omega, by simp; omega, by simp; omega, by simp; omega, trivial⟩ ?_)
    exact lp118 t op l N off n cap m hl hN hn k (i + 1) _ (by omega) hq
noncomputable def args118 (off n cap : Nat) (r m : Int) : List RV := [.one (.agg [.int .u32 r, .int .i64 m]), .one (.c (.sl 0 off n cap))]
noncomputable def sl118 (off n cap : Nat) (r m : Int) : T RV := match setArgs 28 (args118 off n cap r m) 0 .nil some with | some t => t | none => .nil
noncomputable def hs118 (t : TypeId) (op : Option Nat) (l : List Int) (N : Nat) : T Blk := ofL [(0, .row t true op (.ints .u8 l N))]
theorem sl118_ok (off n cap : Nat) (r m : Int) : setArgs 28 (args118 off n cap r m) 0 .nil some = some (sl118 off n cap r m) := by kernel_rfl
theorem p118a (t : TypeId) (op : Option Nat) (l : List Int) (N off n cap : Nat) (r m : Int) : execA Tryz.prog sgC 300 28 (gL c118) ⟨sl118 off n cap r m, hs118 t op l N, 1, []⟩ ⟨0, [], []⟩ (fun x s α => some (x, fgt [1, 2, 4] 28 s, α.ob))
  = some (.normal, fgt [1, 2, 4] 28 ⟨ofL [(1, .one (.c (.sl 0 off n cap))), (2, .one (.c (.ptr 1 0))), (4, .one (.c (.ptr 2 0)))], hp118 t op l N r m 0 0, 3, []⟩, []) := by kernel_rfl
theorem p118b (t : TypeId) (op : Option Nat) (l : List Int) (N off n cap : Nat) (r m : Int) : execA Tryz.prog sgC 300 28 (gL (gL (gR c118))) (fgt [1, 2, 4] 28 ⟨ofL [(1, .one (.c (.sl 0 off n cap))), (2, .one (.c (.ptr 1 0))), (4, .one (.c (.ptr 2 0)))], hp118 t op l N r m 0 0, 3, []⟩) ⟨0, [], []⟩ (fun x s α => some (x, fgt K118 28 s, α.ob))
  = some (.normal, st118 t op l N off n cap r m 0, []) := by kernel_rfl
noncomputable def e118 (t : TypeId) (op : Option Nat) (l : List Int) (N : Nat) (r m x y : Int) : S := fgt [4] 28 ⟨ofL [(4, .one (.c (.ptr 2 0)))], hp118 t op l N r m x y, 3, []⟩
theorem p118c (t : TypeId) (op : Option Nat) (l : List Int) (N off n cap : Nat) (r m i : Int) : execA Tryz.prog sgC 300 28 (gR (gR c118)) (st118 t op l N off n cap r m i) ⟨0, [], []⟩ (fun x s α => some (x, fgt [4] 28 s, α.ob))
  = some (.ret, e118 t op l N r (IntKind.i64.wrap (m + n)) r (IntKind.i64.wrap (m + n)), []) := by kernel_rfl
theorem p118r (t : TypeId) (op : Option Nat) (l : List Int) (N : Nat) (r m x y : Int) : resOf Tryz.prog 28 (e118 t op l N r m x y) Tryz.f279.results.toList = some [.agg [.int .u32 x, .int .i64 y]] := by kernel_rfl
theorem body118_eq : Tryz.f279.body = some c118 := by kernel_rfl
theorem body118 (t : TypeId) (op : Option Nat) (l : List Int) (N off n cap : Nat) (r m : Int) (hl : l.length = N) (hN : off + n ≤ N) (hn : n ≤ 1000000000000) :
    Tr Tryz.prog 28 c118 ⟨sl118 off n cap r m, hs118 t op l N, 1, []⟩ fun x s1 => (x = .normal ∨ x = .ret) ∧ ∃ L, resOf Tryz.prog 28 s1 Tryz.f279.results.toList = some L ∧ resRV L = .one (.agg [.int .u32 (crcL r ((l.drop off).take n)), .int .i64 (IntKind.i64.wrap (m + n))]) := by
  refine Tr.seq (c := gL c118) (d := gR c118) (Tr.path fitC (p118a t op l N off n cap r m) trivial ?_)
  refine Tr.seq (c := gL (gR c118)) (d := gR (gR c118)) ?_
  refine Tr.seq (c := gL (gL (gR c118))) (d := .block 0 (.loop l118)) (Tr.path fitC (p118b t op l N off n cap r m) trivial ?_)
  refine Tr.block (lp118 t op l N off n cap m hl hN hn n 0 r (by omega) ?_)
  refine Tr.path fitC (p118c t op l N off n cap _ m n) trivial ⟨.inr rfl, _, p118r _ _ _ _ _ _ _ _, rfl⟩
/-- bytes enter a sum -/
noncomputable def sumAdd : SumA := fun args hp nx => match args with
  | [.one (.agg [.int .u32 r, .int .i64 m]), .one (.c (.sl nm off n cap))] => match getRow hp.get nm with
    | some (_, _, _, .ints .u8 l N) => some (.one (.agg [.int .u32 (crcL r ((l.drop off).take n)), .int .i64 (IntKind.i64.wrap (m + n))]), hp, nx, [], [l.length = N, off + n ≤ N, n ≤ 1000000000000])
    | _ => none
  | _ => none
theorem sumAdd_ok : SumAOK Tryz.prog 279 sumAdd := by
  intro args s v hp nx lg ps ht h hps
  unfold sumAdd at h
  split at h <;> try (cases h; done)
  rename_i r m nm off n cap
  split at h <;> try (cases h; done)
  rename_i t ro op l N hrow
  simp only [Option.some.injEq, Prod.mk.injEq] at h
  obtain ⟨rfl, rfl, rfl, rfl, rfl⟩ := h
  obtain ⟨h1, h2, h3, _⟩ := hps
  have hh : s.hp.get nm = some (.row t ro op (.ints .u8 l N)) := by
    unfold getRow at hrow
    split at hrow <;> try (cases hrow; done)
    rename_i e; cases hrow; exact e
  have ci := CallInfo.small (P := Tryz.prog) (f := 279) (args := args118 off n cap r m) (v := .one (.agg [.int .u32 (crcL r ((l.drop off).take n)), .int .i64 (IntKind.i64.wrap (m + n))])) (k := 1) (hs := hs118 t op l N) (θ := fun _ => nm) (s := s) ht ⟨_, Tryz.func279, rfl⟩
    (Tr.small (fn := Tryz.f279) (c := c118) Tryz.func279 body118_eq (fun nm h => by
      have : ∀ nm, 1 ≤ nm → (hs118 t op l N).get nm = none := fun nm h => by
        show (T.node .nil (some _) .nil : T Blk).get nm = none
        rw [T.get_node, if_neg (by omega)]; split <;> rfl
      exact this nm h) (sl118_ok off n cap r m) (body118 t op l N off n cap r m h1 h2 h3))
    (fun nm' x hx => by
      have hx' : (T.node .nil (some (.row t true op (.ints .u8 l N))) .nil : T Blk).get nm' = some x := hx
      rw [T.get_node] at hx'
      by_cases e : nm' = 0
      · subst e
        rw [if_pos rfl] at hx'
        cases hx'
        exact ⟨by omega, _, hh, RoOf.ints⟩
      · rw [if_neg e] at hx'; split at hx' <;> cases hx')
    (by rfl) (by rfl)
  exact ci
end Go.Sx

namespace Go.Sx
open Go.Proofs Go.RowKit
set_option maxRecDepth 100000
/-! ### numbers as bytes; seals -/
def put32 (x : Int) : List Int := [IntKind.u8.wrap (x.fdiv (2 ^ 0)), IntKind.u8.wrap (x.fdiv (2 ^ 8)), IntKind.u8.wrap (x.fdiv (2 ^ 16)), IntKind.u8.wrap (x.fdiv (2 ^ 24))]
def sg00 : FuncId → Option SumA := fun _ => none
theorem fit00 : Fit Tryz.prog (fun f => (sg00 f).map toSum) := ⟨fit_ng, fit_mixed, SumAOK.sum fun f sm h => by cases h⟩
theorem put32_run (x : Int) : runA Tryz.prog sg00 300 223 [.one (.c (.int .u32 x))] s0 ⟨0, [], []⟩ (fun v _ α => some (v, α.ob)) = some (.one (.ints .u8 (put32 x) 4), []) := by kernel_rfl
def fPut32 (args : List RV) : Option (RV × List Prop) := match args with
  | [.one (.c (.int .u32 x))] => some (.one (.ints .u8 (put32 x) 4), [])
  | _ => none
theorem fPut32_ok : PureOK Tryz.prog 223 fPut32 := by
  intro args v ps h hp ρ w vs ha
  unfold fPut32 at h
  split at h <;> try (cases h; done)
  simp only [Option.some.injEq, Prod.mk.injEq] at h
  obtain ⟨rfl, rfl⟩ := h
  exact pure_path fit00 (by rfl) (by rfl) (put32_run _) trivial ρ w vs ha
noncomputable def crcOf (l : List Int) : Int := IntKind.u32.wrap ((BitVec.ofInt 32 4294967295 ^^^ BitVec.ofInt 32 (crcL 4294967295 l)).toNat : Int)
noncomputable def sgP : FuncId → Option SumA := fun f => match f with | 279 => some sumAdd | 223 => some (pureSum fPut32) | _ => none
theorem fitP : Fit Tryz.prog (fun f => (sgP f).map toSum) := ⟨fit_ng, fit_mixed, SumAOK.sum fun f sm h => by
  unfold sgP at h
  split at h
  · cases h; exact sumAdd_ok
  · cases h; exact fPut32_ok.sum ⟨_, Tryz.func223, rfl⟩
  · cases h⟩
def z64 : List Int := [0, 0, 0, 0, 0, 0, 0, 0, 0, 0, 0, 0, 0, 0, 0, 0, 0, 0, 0, 0, 0, 0, 0, 0, 0, 0, 0, 0, 0, 0, 0, 0, 0, 0, 0, 0, 0, 0, 0, 0, 0, 0, 0, 0, 0, 0, 0, 0, 0, 0, 0, 0, 0, 0, 0, 0, 0, 0, 0, 0, 0, 0, 0, 0]
/-- a sector while it is sealed, as the code lays it -/
def lay3 (kind turn : Int) (p : List Int) : List Int := over (((over z64 0 ((p.drop 0).take 54)).set 54 (IntKind.u8.wrap kind)).set 55 (IntKind.u8.wrap (IntKind.i64.wrap (255 - kind)))) 56 (((put32 turn).drop 0).take 4)
end Go.Sx

namespace Go.Sx
open Go.Proofs Go.RowKit
set_option maxRecDepth 100000
theorem over_zero (l x : List Int) : over l 0 x = x ++ l.drop x.length := by simp [over]
theorem over_at (a b x : List Int) (h : x.length ≤ b.length) : over (a ++ b) a.length x = a ++ (x ++ b.drop x.length) := by
  simp [over, List.drop_append]
theorem set_at (a b : List Int) (x : Int) (i : Nat) : (a ++ b).set (a.length + i) x = a ++ b.set i x := by
  rw [List.set_append, if_neg (by omega)]; simp
theorem take_all {l : List Int} {n : Nat} (h : l.length = n) : (l.drop 0).take n = l := by simp [← h]
theorem put32_len (x : Int) : (put32 x).length = 4 := rfl
def mayK (kind : Int) : Bool := decide (1 ≤ kind) && decide (kind ≤ 6)
/-- what is sealed: kind, turn, load -/
def sealH (kind turn : Int) (p : List Int) : List Int := p ++ ([kind, 255 - kind] ++ put32 turn)
noncomputable def sealB (kind turn : Int) (p : List Int) : List Int := p ++ ([kind, 255 - kind] ++ put32 turn ++ put32 (crcOf (sealH kind turn p)))
theorem kind_u8 {k : Int} (h : mayK k = true) : IntKind.u8.wrap k = k ∧ IntKind.u8.wrap (IntKind.i64.wrap (255 - k)) = 255 - k := by
  simp only [mayK, Bool.and_eq_true, decide_eq_true_eq] at h
  obtain ⟨h1, h2⟩ := h
  rw [IntWalk.i64_in _ (by omega)]
  unfold IntKind.wrap
  simp only [IntKind.bits, IntKind.signed]
  constructor <;> (simp; omega)
theorem lay3_eq {kind turn : Int} {p : List Int} (hp : p.length = 54) (hk : mayK kind = true) : lay3 kind turn p = p ++ ([kind, 255 - kind] ++ put32 turn ++ [0, 0, 0, 0]) := by
  unfold lay3
  rw [(kind_u8 hk).1, (kind_u8 hk).2, take_all hp, over_zero, hp]
  have h1 : (p ++ List.drop 54 z64).set 54 kind = p ++ (List.drop 54 z64).set 0 kind := by have := set_at p (List.drop 54 z64) kind 0; rw [hp] at this; exact this
  have h2 : (p ++ (List.drop 54 z64).set 0 kind).set 55 (255 - kind) = p ++ ((List.drop 54 z64).set 0 kind).set 1 (255 - kind) := by have := set_at p ((List.drop 54 z64).set 0 kind) (255 - kind) 1; rw [hp] at this; exact this
  rw [h1, h2, take_all (put32_len turn)]
  rw [show ((List.drop 54 z64).set 0 kind).set 1 (255 - kind) = [kind, 255 - kind] ++ [0, 0, 0, 0, 0, 0, 0, 0] from rfl, ← List.append_assoc]
  have h3 := over_at (p ++ [kind, 255 - kind]) [0, 0, 0, 0, 0, 0, 0, 0] (put32 turn) (by rw [put32_len]; decide)
  rw [show (p ++ [kind, 255 - kind]).length = 56 by simp [hp]] at h3
  rw [h3, put32_len]
  simp
/-- the sector as the code leaves it -/
noncomputable def lay4 (kind turn : Int) (p : List Int) : List Int := over (lay3 kind turn p) 60 (((put32 (crcOf (((lay3 kind turn p).drop 0).take 60))).drop 0).take 4)
theorem sealB_len {kind turn : Int} {p : List Int} (hp : p.length = 54) : (sealB kind turn p).length = 64 := by simp [sealB, hp, put32_len]
theorem lay4_eq {kind turn : Int} {p : List Int} (hp : p.length = 54) (hk : mayK kind = true) : lay4 kind turn p = sealB kind turn p := by
  unfold lay4
  rw [lay3_eq hp hk]
  have h1 : (List.drop 0 (p ++ ([kind, 255 - kind] ++ put32 turn ++ [0, 0, 0, 0]))).take 60 = sealH kind turn p := by
    rw [List.drop_zero, ← List.append_assoc, ← List.append_assoc, List.take_left' (by simp [hp, put32_len])]
    simp [sealH]
  rw [h1, take_all (put32_len _)]
  have h2 := over_at (p ++ ([kind, 255 - kind] ++ put32 turn)) [0, 0, 0, 0] (put32 (crcOf (sealH kind turn p))) (by rw [put32_len]; decide)
  rw [show (p ++ ([kind, 255 - kind] ++ put32 turn)).length = 60 by simp [hp, put32_len]] at h2
  rw [show p ++ ([kind, 255 - kind] ++ put32 turn ++ [0, 0, 0, 0]) = p ++ ([kind, 255 - kind] ++ put32 turn) ++ [0, 0, 0, 0] by simp, h2, put32_len]
  simp [sealB]
theorem put_run (kind turn : Int) (p : List Int) : runA Tryz.prog sgP 300 219 [.one (.c (.int .i64 kind)), .one (.c (.int .u32 turn)), .one (.ints .u8 p 54)] s0 ⟨0, [(0, true), (1, true), (2, true), (3, false)], []⟩ (fun v _ α => some (v, α.ob))
  = some (.tup [.ints .u8 (((over z64 0 (((lay4 kind turn p).drop 0).take 64)).drop 0).take 64) 64, .c (.int .i64 0)], [(lay3 kind turn p).length = 64, 0 + (60 - 0) ≤ 64, 60 - 0 ≤ 1000000000000, (!if true = true then decide (kind ≤ 6) else false) = false, decide (kind ≥ 1) = true, decide (kind ≥ 1) = true, decide (kind ≥ 1) = true]) := by kernel_rfl
theorem put_run1 (kind turn : Int) (p : List Int) : runA Tryz.prog sgP 300 219 [.one (.c (.int .i64 kind)), .one (.c (.int .u32 turn)), .one (.ints .u8 p 54)] s0 ⟨0, [(0, true), (1, true), (2, true), (3, true)], []⟩ (fun v _ α => some (v, α.ob))
  = some (.tup [.ints .u8 z64 64, .c (.int .i64 2)], [(!if true = true then decide (kind ≤ 6) else false) = true, decide (kind ≥ 1) = true, decide (kind ≥ 1) = true, decide (kind ≥ 1) = true]) := by kernel_rfl
theorem put_run2 (kind turn : Int) (p : List Int) : runA Tryz.prog sgP 300 219 [.one (.c (.int .i64 kind)), .one (.c (.int .u32 turn)), .one (.ints .u8 p 54)] s0 ⟨0, [(0, false), (1, false), (2, false)], []⟩ (fun v _ α => some (v, α.ob))
  = some (.tup [.ints .u8 z64 64, .c (.int .i64 2)], [decide (kind ≥ 1) = false, decide (kind ≥ 1) = false, decide (kind ≥ 1) = false]) := by kernel_rfl
noncomputable def putB (kind turn : Int) (p : List Int) : List Int := if mayK kind then sealB kind turn p else z64
def putE (kind : Int) : Int := if mayK kind then 0 else 2
noncomputable def fPut (args : List RV) : Option (RV × List Prop) := match args with
  | [.one (.c (.int .i64 kind)), .one (.c (.int .u32 turn)), .one (.ints .u8 p 54)] => some (.tup [.ints .u8 (putB kind turn p) 64, .c (.int .i64 (putE kind))], [])
  | _ => none
theorem fPut_ok : PureOK Tryz.prog 219 fPut := by
  intro args v ps h hp ρ w vs ha
  unfold fPut at h
  split at h <;> try (cases h; done)
  rename_i kind turn p
  simp only [Option.some.injEq, Prod.mk.injEq] at h
  obtain ⟨rfl, rfl⟩ := h
  have hlen : p.length = 54 := by
    obtain ⟨_, _, _, ⟨_, _, _, ⟨_, _, h3, _⟩, _⟩, _⟩ := ha
    exact h3.1
  cases hk : mayK kind with
  | true =>
    have hk' := hk
    simp only [mayK, Bool.and_eq_true, decide_eq_true_eq] at hk'
    have hr := put_run kind turn p
    rw [lay4_eq hlen hk, take_all (sealB_len hlen), over_zero, sealB_len hlen] at hr
    rw [show z64.drop 64 = [] from rfl, List.append_nil, take_all (sealB_len hlen)] at hr
    rw [show putB kind turn p = sealB kind turn p by rw [putB, hk]; rfl, show putE kind = 0 by rw [putE, hk]; rfl]
    refine pure_path fitP (by rfl) (by rfl) hr ?_ ρ w vs ha
    have h3 : (lay3 kind turn p).length = 64 := by rw [lay3_eq hlen hk]; simp [hlen, put32_len]
    have h1 : decide (kind ≥ 1) = true := by simp; exact hk'.1
    have h2 : decide (kind ≤ 6) = true := by simp; exact hk'.2
    simp only [All, h1, h2, h3]; simp
  | false =>
    rw [show putB kind turn p = z64 by rw [putB, hk]; rfl, show putE kind = 2 by rw [putE, hk]; rfl]
    cases h1 : decide (kind ≥ 1) with
    | true =>
      have h2 : decide (kind ≤ 6) = false := by
        simp only [mayK, Bool.and_eq_false_iff, decide_eq_false_iff_not] at hk
        simp at h1 ⊢; omega
      exact pure_path fitP (by rfl) (by rfl) (put_run1 kind turn p) (by simp only [All, h1, h2]; simp) ρ w vs ha
    | false => exact pure_path fitP (by rfl) (by rfl) (put_run2 kind turn p) (by simp only [All, h1]; simp) ρ w vs ha
end Go.Sx

namespace Go.Sx
open Go.Proofs Go.RowKit
set_option maxRecDepth 100000
def or32 (x y : Int) : Int := IntKind.u32.wrap ((BitVec.ofInt 32 x ||| BitVec.ofInt 32 y).toNat : Int)
def shl32 (x : Int) (n : Nat) : Int := IntKind.u32.wrap (IntKind.u32.wrap x * 2 ^ n)
def le32 (x0 x1 x2 x3 : Int) : Int := or32 (or32 (or32 (or32 0 (shl32 x0 0)) (shl32 x1 8)) (shl32 x2 16)) (shl32 x3 24)
def turnB (b : List Int) : Int := le32 (b.getD (0 + 56 * 1) 0) (b.getD (0 + 57 * 1) 0) (b.getD (0 + 58 * 1) 0) (b.getD (0 + 59 * 1) 0)
theorem turn_run (b : List Int) : runA Tryz.prog sg00 300 183 [.one (.ints .u8 b 64)] s0 ⟨0, [], []⟩ (fun v _ α => some (v, α.ob)) = some (.one (.c (.int .u32 (turnB b))), []) := by kernel_rfl
def fTurn (args : List RV) : Option (RV × List Prop) := match args with
  | [.one (.ints .u8 b 64)] => some (.one (.c (.int .u32 (turnB b))), [])
  | _ => none
theorem fTurn_ok : PureOK Tryz.prog 183 fTurn := by
  intro args v ps h hp ρ w vs ha
  unfold fTurn at h
  split at h <;> try (cases h; done)
  simp only [Option.some.injEq, Prod.mk.injEq] at h
  obtain ⟨rfl, rfl⟩ := h
  exact pure_path fit00 (by rfl) (by rfl) (turn_run _) trivial ρ w vs ha
noncomputable def sgQ : FuncId → Option SumA := fun f => match f with | 219 => some (pureSum fPut) | 183 => some (pureSum fTurn) | _ => none
theorem fitQ : Fit Tryz.prog (fun f => (sgQ f).map toSum) := ⟨fit_ng, fit_mixed, SumAOK.sum fun f sm h => by
  unfold sgQ at h
  split at h
  · cases h; exact fPut_ok.sum ⟨_, Tryz.func219, rfl⟩
  · cases h; exact fTurn_ok.sum ⟨_, Tryz.func183, rfl⟩
  · cases h⟩
end Go.Sx

namespace Go.Sx
open Go.Proofs Go.RowKit
set_option maxRecDepth 100000
abbrev b54 (b : List Int) : Int := IntKind.i64.wrap (b.getD (0 + 54 * 1) 0)
abbrev t64 (b : List Int) : List Int := (b.drop 0).take 64
abbrev t54 (b : List Int) : List Int := (b.drop 0).take 54
/-- right of the kind that it names -/
noncomputable def rightB (b : List Int) : Bool := (putE (b54 b) == 0) && (putB (b54 b) (turnB b) (t54 b) == b)
theorem right_run1 (b : List Int) : runA Tryz.prog sgQ 300 182 [.one (.ints .u8 b 64)] s0 ⟨0, [(6, true), (8, true), (10, true), (11, true)], []⟩ (fun v _ α => some (v, α.ob))
  = some (.one (.c (.bool (if true = true then t64 (over z64 0 (putB (b54 b) (turnB (t64 b)) (t54 b))) == t64 b else false))), [(putE (b54 b) == 0) = true, (putE (b54 b) == 0) = true, (putE (b54 b) == 0) = true, (putE (b54 b) == 0) = true]) := by kernel_rfl
theorem right_run2 (b : List Int) : runA Tryz.prog sgQ 300 182 [.one (.ints .u8 b 64)] s0 ⟨0, [(6, false), (7, false), (8, false), (9, false)], []⟩ (fun v _ α => some (v, α.ob))
  = some (.one (.c (.bool false)), [(putE (b54 b) == 0) = false, (putE (b54 b) == 0) = false, (putE (b54 b) == 0) = false, (putE (b54 b) == 0) = false]) := by kernel_rfl
noncomputable def fRight (args : List RV) : Option (RV × List Prop) := match args with
  | [.one (.ints .u8 b 64)] => some (.one (.c (.bool (rightB b))), [])
  | _ => none
theorem putB_len {kind turn : Int} {p : List Int} (hp : p.length = 54) : (putB kind turn p).length = 64 := by
  unfold putB
  split
  · exact sealB_len hp
  · rfl
theorem t54_len {b : List Int} (h : b.length = 64) : (t54 b).length = 54 := by simp [h]
theorem over_z64 {x : List Int} (h : x.length = 64) : over z64 0 x = x := by
  rw [over_zero, h, show z64.drop 64 = [] from rfl, List.append_nil]
theorem args1_len {ρ : Rho} {k : IntKind} {b : List Int} {n : Nat} {vs : List Value} (h : ArgsR ρ [.one (.ints k b n)] vs) : b.length = n := by
  obtain ⟨_, _, h, _⟩ := h; exact h.1
theorem fRight_ok : PureOK Tryz.prog 182 fRight := by
  intro args v ps h hp ρ w vs ha
  unfold fRight at h
  split at h <;> try (cases h; done)
  rename_i b
  simp only [Option.some.injEq, Prod.mk.injEq] at h
  obtain ⟨rfl, rfl⟩ := h
  have hb : b.length = 64 := args1_len ha
  unfold rightB
  cases hk : (putE (b54 b) == 0) with
  | true =>
    have hr := right_run1 b
    rw [show t64 b = b from take_all hb, over_z64 (putB_len (t54_len hb)), show t64 (putB (b54 b) (turnB b) (t54 b)) = _ from take_all (putB_len (t54_len hb))] at hr
    simp only [if_true] at hr
    rw [Bool.true_and]
    exact pure_path fitQ (by rfl) (by rfl) hr (by simp only [All, hk]; simp) ρ w vs ha
  | false =>
    rw [Bool.false_and]
    exact pure_path fitQ (by rfl) (by rfl) (right_run2 b) (by simp only [All, hk]; simp) ρ w vs ha
noncomputable def sgR : FuncId → Option SumA := fun f => match f with | 219 => some (pureSum fPut) | 183 => some (pureSum fTurn) | 182 => some (pureSum fRight) | _ => none
theorem fitR : Fit Tryz.prog (fun f => (sgR f).map toSum) := ⟨fit_ng, fit_mixed, SumAOK.sum fun f sm h => by
  unfold sgR at h
  split at h
  · cases h; exact fPut_ok.sum ⟨_, Tryz.func219, rfl⟩
  · cases h; exact fTurn_ok.sum ⟨_, Tryz.func183, rfl⟩
  · cases h; exact fRight_ok.sum ⟨_, Tryz.func182, rfl⟩
  · cases h⟩
/-! ### Get -/
def z54 : List Int := [0, 0, 0, 0, 0, 0, 0, 0, 0, 0, 0, 0, 0, 0, 0, 0, 0, 0, 0, 0, 0, 0, 0, 0, 0, 0, 0, 0, 0, 0, 0, 0, 0, 0, 0, 0, 0, 0, 0, 0, 0, 0, 0, 0, 0, 0, 0, 0, 0, 0, 0, 0, 0, 0]
noncomputable def rGet (kind : Int) (b : List Int) (o : List (Nat × Bool)) : Option (RV × List Prop) := runA Tryz.prog sgR 300 118 [.one (.c (.int .i64 kind)), .one (.ints .u8 b 64)] s0 ⟨0, o, []⟩ fun v _ α => some (v, α.ob)
theorem get_r1 (kind : Int) (b : List Int) : rGet kind b [(0, true), (1, true), (2, true), (3, false), (6, true), (7, true), (8, true), (9, true)] = some (.tup [.ints .u8 z54 54, .c (.int .u32 0), .c (.int .i64 21)],
  [(b54 b != kind) = true, (b54 b != kind) = true, (b54 b != kind) = true, (b54 b != kind) = true, (!if true = true then decide (kind ≤ 6) else false) = false, decide (kind ≥ 1) = true, decide (kind ≥ 1) = true, decide (kind ≥ 1) = true]) := by kernel_rfl
theorem get_r2 (kind : Int) (b : List Int) : rGet kind b [(0, true), (1, true), (2, true), (3, false), (6, false), (8, false), (9, false), (10, false), (11, false)] = some (.tup [.ints .u8 (t54 (over z54 0 (t54 b))) 54, .c (.int .u32 (turnB (t64 b))), .c (.int .i64 0)],
  [(if false = true then true else !rightB (t64 b)) = false, (b54 b != kind) = false, (b54 b != kind) = false, (b54 b != kind) = false, (b54 b != kind) = false, (!if true = true then decide (kind ≤ 6) else false) = false, decide (kind ≥ 1) = true, decide (kind ≥ 1) = true, decide (kind ≥ 1) = true]) := by kernel_rfl
theorem get_r3 (kind : Int) (b : List Int) : rGet kind b [(0, true), (1, true), (2, true), (3, false), (6, false), (8, false), (9, false), (10, false), (11, true)] = some (.tup [.ints .u8 z54 54, .c (.int .u32 0), .c (.int .i64 21)],
  [(if false = true then true else !rightB (t64 b)) = true, (b54 b != kind) = false, (b54 b != kind) = false, (b54 b != kind) = false, (b54 b != kind) = false, (!if true = true then decide (kind ≤ 6) else false) = false, decide (kind ≥ 1) = true, decide (kind ≥ 1) = true, decide (kind ≥ 1) = true]) := by kernel_rfl
theorem get_r4 (kind : Int) (b : List Int) : rGet kind b [(0, true), (1, true), (2, true), (3, true)] = some (.tup [.ints .u8 z54 54, .c (.int .u32 0), .c (.int .i64 2)],
  [(!if true = true then decide (kind ≤ 6) else false) = true, decide (kind ≥ 1) = true, decide (kind ≥ 1) = true, decide (kind ≥ 1) = true]) := by kernel_rfl
theorem get_r5 (kind : Int) (b : List Int) : rGet kind b [(0, false), (1, false), (2, false)] = some (.tup [.ints .u8 z54 54, .c (.int .u32 0), .c (.int .i64 2)],
  [decide (kind ≥ 1) = false, decide (kind ≥ 1) = false, decide (kind ≥ 1) = false]) := by kernel_rfl
/-- is it a right sector of that kind? -/
noncomputable def isB (kind : Int) (b : List Int) : Bool := mayK kind && (b54 b == kind && rightB b)
noncomputable def getP (kind : Int) (b : List Int) : List Int := if isB kind b then t54 b else z54
noncomputable def getT (kind : Int) (b : List Int) : Int := if isB kind b then turnB b else 0
noncomputable def getE (kind : Int) (b : List Int) : Int := if mayK kind then (if isB kind b then 0 else 21) else 2
noncomputable def fGet (args : List RV) : Option (RV × List Prop) := match args with
  | [.one (.c (.int .i64 kind)), .one (.ints .u8 b 64)] => some (.tup [.ints .u8 (getP kind b) 54, .c (.int .u32 (getT kind b)), .c (.int .i64 (getE kind b))], [])
  | _ => none
theorem over_z54 {x : List Int} (h : x.length = 54) : over z54 0 x = x := by
  rw [over_zero, h, show z54.drop 54 = [] from rfl, List.append_nil]
theorem fGet_ok : PureOK Tryz.prog 118 fGet := by
  intro args v ps h hp ρ w vs ha
  unfold fGet at h
  split at h <;> try (cases h; done)
  rename_i kind b
  simp only [Option.some.injEq, Prod.mk.injEq] at h
  obtain ⟨rfl, rfl⟩ := h
  have hb : b.length = 64 := by obtain ⟨_, _, _, ⟨_, _, h, _⟩, _⟩ := ha; exact h.1
  have e64 : t64 b = b := take_all hb
  unfold getP getT getE isB
  cases hk : mayK kind with
  | false =>
    simp only [Bool.false_and, Bool.false_eq_true, if_false]
    cases h1 : decide (kind ≥ 1) with
    | true =>
      have h2 : decide (kind ≤ 6) = false := by
        simp only [mayK, Bool.and_eq_false_iff, decide_eq_false_iff_not] at hk
        simp at h1 ⊢; omega
      exact pure_path fitR (by rfl) (by rfl) (get_r4 kind b) (by simp only [All, h1, h2]; simp) ρ w vs ha
    | false => exact pure_path fitR (by rfl) (by rfl) (get_r5 kind b) (by simp only [All, h1]; simp) ρ w vs ha
  | true =>
    have hk' := hk
    simp only [mayK, Bool.and_eq_true, decide_eq_true_eq] at hk'
    have h1 : decide (kind ≥ 1) = true := by simp; exact hk'.1
    have h2 : decide (kind ≤ 6) = true := by simp; exact hk'.2
    cases h3 : (b54 b == kind) with
    | false =>
      have h3' : (b54 b != kind) = true := by simp [bne, h3]
      simp only [Bool.false_and, Bool.and_false, Bool.false_eq_true, if_false, if_true]
      exact pure_path fitR (by rfl) (by rfl) (get_r1 kind b) (by simp only [All, h1, h2, h3']; simp) ρ w vs ha
    | true =>
      have h3' : (b54 b != kind) = false := by simp [bne, h3]
      cases h4 : rightB b with
      | false =>
        simp only [Bool.and_false, Bool.false_eq_true, if_false, if_true]
        exact pure_path fitR (by rfl) (by rfl) (get_r3 kind b) (by simp only [All, h1, h2, h3', e64, h4]; simp) ρ w vs ha
      | true =>
        simp only [Bool.and_true, if_true]
        have hr := get_r2 kind b
        rw [over_z54 (t54_len hb), show t54 (t54 b) = t54 b from take_all (t54_len hb), e64] at hr
        exact pure_path fitR (by rfl) (by rfl) hr (by simp only [All, h1, h2, h3', h4]; simp) ρ w vs ha
end Go.Sx
