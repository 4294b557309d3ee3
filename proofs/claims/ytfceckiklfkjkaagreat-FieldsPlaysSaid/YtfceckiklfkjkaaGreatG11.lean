/-
  Parts of the executor Sx over the model's code (any program), or of this seat's walks: words and proofs that the row's text uses.
-/
import Derived.Test.YtfceckiklfkjkaaGreatG7
namespace Go.Sx
open Go.Proofs Go.RowKit
set_option maxRecDepth 100000
def blkAt (L : List Int) (o : Nat) : List Int := (L.drop o).take 64
/-- does a sector tell the shape of a disk of n sectors? -/
noncomputable def isK (L : List Int) (n o : Nat) : Bool := (getE 1 (blkAt L o) == 0) && (supOk (getP 1 (blkAt L o)) && (tot (g16 (getP 1 (blkAt L o)) 4) (g16 (getP 1 (blkAt L o)) 6) (g16 (getP 1 (blkAt L o)) 8) == (n : Int)))
noncomputable def fndOk (L : List Int) (n : Nat) : Bool := decide (2 ≤ n) && (isK L n 0 || isK L n 64)
noncomputable def fndP (L : List Int) (n : Nat) : List Int := if isK L n 0 then getP 1 (blkAt L 0) else getP 1 (blkAt L 64)
noncomputable def fndG (L : List Int) (n i : Nat) : Int := sel (fndOk L n) (g16 (fndP L n) i)
noncomputable def fndK (L : List Int) (n : Nat) : Int := if fndOk L n && !isK L n 0 then 1 else 0
noncomputable def fndE (L : List Int) (n : Nat) : Int := if fndOk L n then 0 else 22
theorem getP_len {kind : Int} {b : List Int} (h : b.length = 64) : (getP kind b).length = 54 := by
  unfold getP
  split
  · exact t54_len h
  · rfl
theorem blkAt_len {L : List Int} {o : Nat} (h : o + 64 ≤ L.length) : (blkAt L o).length = 64 := by simp [blkAt]; omega
theorem bRaw_eq {L : List Int} {o : Nat} (h : o + 64 ≤ L.length) : bRaw L o = blkAt L o := by
  have hl := blkAt_len h
  rw [bRaw, show (L.drop o).take 64 = blkAt L o from rfl, over_z64 hl, t64, take_all hl]
theorem pRaw_eq {L : List Int} {o : Nat} (h : o + 64 ≤ L.length) : pRaw L o = getP 1 (blkAt L o) := by
  have hl := getP_len (kind := 1) (blkAt_len h)
  rw [pRaw, bRaw_eq h, over_z54 hl, t54, take_all hl]
abbrev Ret43 (L : List Int) (n : Nat) : X → S → Prop := fun x s1 => (x = .normal ∨ x = .ret) ∧ ∃ l, resOf Tryz.prog 51 s1 Tryz.f73.results.toList = some l ∧ resRV l = .tup [.agg [.int .i64 (fndG L n 4), .int .i64 (fndG L n 6), .int .i64 (fndG L n 8)], .c (.int .i64 (fndK L n)), .c (.int .i64 (fndE L n))]
theorem nx43 (t : TypeId) (L : List Int) (N n : Nat) (i : Int) : (s43 t L N n i).nx ≤ 2 := by
  have : (s43 t L N n i).nx = 2 := by kernel_rfl
  omega
theorem errP_z (p : List Int) : (errP p == 0) = supOk p := by unfold errP; cases supOk p <;> rfl
theorem ret_none {t : TypeId} {L : List Int} {N n : Nat} (h : fndOk L n = false) : Ret43 L n .ret (r43 t L N 0 22 0 0 0) := by
  refine ⟨.inr rfl, _, res43 t L N 0 22 0 0 0, ?_⟩
  unfold fndG fndK fndE
  rw [h]; rfl
section
variable {t : TypeId} {L : List Int} {N n : Nat}
theorem go_one (hl : L.length = N) (hN : N = 64 * n) (h2 : 2 ≤ n) (h0 : isK L n 0 = false) : Tr Tryz.prog 51 (.loop l43) (s43 t L N n 1) (fun x s' => match x with | .exit j => if j = 0 then Then Tryz.prog 51 (s43 t L N n 1) (Ret43 L n) (gR (gR (gR c43))) .normal s' else Ret43 L n (.exit j) s' | .normal => Then Tryz.prog 51 (s43 t L N n 1) (Ret43 L n) (gR (gR (gR c43))) .normal s' | x => Ret43 L n x s') := by
  have hd : decide (64 + 64 ≤ N) = true := by simp; omega
  have eb := bRaw_eq (L := L) (o := 64) (by omega)
  have ep := pRaw_eq (L := L) (o := 64) (by omega)
  have fin : isK L n 64 = false → Tr Tryz.prog 51 (.loop l43) (s43 t L N n 2) (fun x s' => match x with | .exit j => if j = 0 then Then Tryz.prog 51 (s43 t L N n 1) (Ret43 L n) (gR (gR (gR c43))) .normal s' else Ret43 L n (.exit j) s' | .normal => Then Tryz.prog 51 (s43 t L N n 1) (Ret43 L n) (gR (gR (gR c43))) .normal s' | x => Ret43 L n x s') := fun h1 => by
    refine Tr.loop (Tr.pathL fitV (nx43 t L N n 2) (i2x t L N n) trivial ?_)
    exact Tr.pathL fitV (nx43 t L N n 2) (end43 t L N n) trivial (ret_none (by unfold fndOk; rw [h0, h1]; simp))
  cases hg : (getE 1 (blkAt L 64) == 0) with
  | false =>
    refine Tr.loop (Tr.pathL fitV (nx43 t L N n 1) (i1a t L N n) ⟨by rw [eb, bne, hg]; rfl, hd, trivial⟩ ?_)
    exact fin (by unfold isK; rw [hg]; rfl)
  | true =>
    have hg' : (getE 1 (bRaw L 64) != 0) = false := by rw [eb, bne, hg]; rfl
    cases hs : supOk (getP 1 (blkAt L 64)) with
    | false =>
      refine Tr.loop (Tr.pathL fitV (nx43 t L N n 1) (i1d t L N n) (by simp only [All, errP_z, ep, hs, hg', hd]; simp) ?_)
      exact fin (by unfold isK; rw [hs]; simp)
    | true =>
      cases ht : (tot (g16 (getP 1 (blkAt L 64)) 4) (g16 (getP 1 (blkAt L 64)) 6) (g16 (getP 1 (blkAt L 64)) 8) == (n : Int)) with
      | false =>
        refine Tr.loop (Tr.pathL fitV (nx43 t L N n 1) (i1c t L N n) (by simp only [All, errP_z, ep, hs, hg', hd, totP, sel, if_true, ht]; simp) ?_)
        exact fin (by unfold isK; rw [ht]; simp)
      | true =>
        have hk : isK L n 64 = true := by unfold isK; rw [hg, hs, ht]; rfl
        refine Tr.loop (Tr.pathL fitV (nx43 t L N n 1) (i1b t L N n) (by simp only [All, errP_z, ep, hs, hg', hd, totP, sel, if_true, ht]; simp) ?_)
        refine ⟨.inr rfl, _, res43 _ _ _ _ _ _ _ _, ?_⟩
        have hok : fndOk L n = true := by unfold fndOk; rw [hk]; simp; omega
        unfold fndG fndK fndE fndP
        rw [hok, h0, ep, hs]
        simp [sel, errP, hs, resRV]
theorem go_zero (hl : L.length = N) (hN : N = 64 * n) (h2 : 2 ≤ n) {s0 : S} : Tr Tryz.prog 51 (.block 0 (.loop l43)) (s43 t L N n 0) (Then Tryz.prog 51 s0 (Ret43 L n) (gR (gR (gR c43)))) := by
  have hd : decide (64 ≤ N) = true := by simp; omega
  have eb := bRaw_eq (L := L) (o := 0) (by omega)
  have ep := pRaw_eq (L := L) (o := 0) (by omega)
  refine Tr.block ?_
  have fin : isK L n 0 = false → Tr Tryz.prog 51 (.loop l43) (s43 t L N n 1) (fun x s' => match x with | .exit j => if j = 0 then Then Tryz.prog 51 s0 (Ret43 L n) (gR (gR (gR c43))) .normal s' else Then Tryz.prog 51 s0 (Ret43 L n) (gR (gR (gR c43))) (.exit j) s' | x => Then Tryz.prog 51 s0 (Ret43 L n) (gR (gR (gR c43))) x s') := fun h0 =>
    (go_one hl hN h2 h0).mono fun x s' h => by
      cases x with
      | normal => exact h
      | ret => exact h
      | exit j =>
        simp only at h ⊢
        by_cases hj : j = 0
        · rw [if_pos hj] at h ⊢; exact h
        · rw [if_neg hj] at h ⊢; exact h
  cases hg : (getE 1 (blkAt L 0) == 0) with
  | false =>
    refine Tr.loop (Tr.pathL fitV (nx43 t L N n 0) (i0a t L N n) ⟨by rw [eb, bne, hg]; rfl, hd, trivial⟩ ?_)
    exact fin (by unfold isK; rw [hg]; rfl)
  | true =>
    have hg' : (getE 1 (bRaw L 0) != 0) = false := by rw [eb, bne, hg]; rfl
    cases hs : supOk (getP 1 (blkAt L 0)) with
    | false =>
      refine Tr.loop (Tr.pathL fitV (nx43 t L N n 0) (i0d t L N n) (by simp only [All, errP_z, ep, hs, hg', hd]; simp) ?_)
      exact fin (by unfold isK; rw [hs]; simp)
    | true =>
      cases ht : (tot (g16 (getP 1 (blkAt L 0)) 4) (g16 (getP 1 (blkAt L 0)) 6) (g16 (getP 1 (blkAt L 0)) 8) == (n : Int)) with
      | false =>
        refine Tr.loop (Tr.pathL fitV (nx43 t L N n 0) (i0c t L N n) (by simp only [All, errP_z, ep, hs, hg', hd, totP, sel, if_true, ht]; simp) ?_)
        exact fin (by unfold isK; rw [ht]; simp)
      | true =>
        have hk : isK L n 0 = true := by unfold isK; rw [hg, hs, ht]; rfl
        refine Tr.loop (Tr.pathL fitV (nx43 t L N n 0) (i0b t L N n) (by simp only [All, errP_z, ep, hs, hg', hd, totP, sel, if_true, ht]; simp) ?_)
        refine ⟨.inr rfl, _, res43 _ _ _ _ _ _ _ _, ?_⟩
        have hok : fndOk L n = true := by unfold fndOk; rw [hk]; simp; omega
        unfold fndG fndK fndE fndP
        rw [hok, hk, ep, hs]
        simp [sel, errP, hs, resRV]
theorem body43 (hl : L.length = N) (hN : N = 64 * n) : Tr Tryz.prog 51 c43 ⟨sl43 n, hs43 t L N, 1, []⟩ (Ret43 L n) := by
  refine Tr.seq (c := gL c43) (d := gR c43) (Tr.path fitV (st43a t L N n) trivial ?_)
  refine Tr.seq (c := gL (gR c43)) (d := gR (gR c43)) ?_
  have hnx : (a43 t L N n).nx ≤ 2 := by
    have : (a43 t L N n).nx = 2 := by kernel_rfl
    omega
  by_cases h2 : 2 ≤ n
  · refine Tr.path fitV (st43c t L N n) ⟨by simp; omega, trivial⟩ ?_
    refine Tr.seq (c := .seq (gL (gL (gR (gR c43)))) (.block 0 (.loop l43))) (d := gR (gR (gR c43))) ?_
    refine Tr.seq (c := gL (gL (gR (gR c43)))) (d := .block 0 (.loop l43)) (Tr.pathL fitV hnx (st43d t L N n) ⟨by simp; omega, trivial⟩ ?_)
    exact go_zero (t := t) hl hN h2
  · exact Tr.pathL fitV hnx (st43b t L N n) ⟨by simp; omega, trivial⟩ (ret_none (by unfold fndOk; simp; omega))
end
end Go.Sx

namespace Go.Sx
open Go.Proofs Go.RowKit
set_option maxRecDepth 100000
theorem get_one {x : Blk} {nm : Nat} {y : Blk} (h : (T.node .nil (some x) .nil : T Blk).get nm = some y) : nm = 0 ∧ y = x := by
  rw [T.get_node] at h
  by_cases e : nm = 0
  · rw [if_pos e] at h; cases h; exact ⟨e, rfl⟩
  · rw [if_neg e] at h; split at h <;> cases h
theorem top_one {x : Blk} : Top ⟨.nil, (T.node .nil (some x) .nil : T Blk), 1, []⟩ := fun nm h => by
  cases hh : (T.node .nil (some x) .nil : T Blk).get nm with
  | none => rfl
  | some y => have := (get_one hh).1; have : 1 ≤ nm := h; omega
theorem getRow_some {hp : T Blk} {nm : Nat} {t : TypeId} {ro : Bool} {op : Option Nat} {b : Body} (h : getRow hp.get nm = some (t, ro, op, b)) : hp.get nm = some (.row t ro op b) := by
  unfold getRow at h
  split at h <;> try (cases h; done)
  rename_i e; cases h; exact e
/-- the shape of a disk, of a slice of sectors -/
noncomputable def sumFind : SumA := fun args hp nx => match args with
  | [.one (.c (.slu nm 64 0 n))] => match getRow hp.get nm with
    | some (_, _, some 64, .ints .u8 L N) => some (.tup [.agg [.int .i64 (fndG L n 4), .int .i64 (fndG L n 6), .int .i64 (fndG L n 8)], .c (.int .i64 (fndK L n)), .c (.int .i64 (fndE L n))], hp, nx, [], [L.length = N, N = 64 * n])
    | _ => none
  | _ => none
theorem body43_eq : Tryz.f73.body = some c43 := by kernel_rfl
theorem sumFind_ok : SumAOK Tryz.prog 73 sumFind := by
  intro args s v hp nx lg ps ht h hps
  unfold sumFind at h
  split at h <;> try (cases h; done)
  rename_i nm n
  split at h <;> try (cases h; done)
  rename_i t ro L N hrow
  simp only [Option.some.injEq, Prod.mk.injEq] at h
  obtain ⟨rfl, rfl, rfl, rfl, rfl⟩ := h
  have hh := getRow_some hrow
  exact CallInfo.small (P := Tryz.prog) (f := 73) (args := args43 n) (k := 1) (hs := hs43 t L N) (θ := fun _ => nm) (s := s) ht ⟨_, Tryz.func73, rfl⟩
    (Tr.small (fn := Tryz.f73) (c := c43) Tryz.func73 body43_eq top_one (sl43_ok n) (body43 hps.1 hps.2.1))
    (fun nm' x hx => by
      obtain ⟨rfl, rfl⟩ := get_one hx
      exact ⟨by omega, _, hh, RoOf.ints⟩) (by rfl) (by rfl)
end Go.Sx

namespace Go.Sx
open Go.Proofs Go.RowKit
set_option maxRecDepth 100000
/-! ### the image: 0 the struct, 1 its sectors, 2 the map of what was written -/
def imgC (a b c : Int) (n : Nat) (sc out : Int) : List Cell := [.int .i64 a, .int .i64 b, .int .i64 c, .slu 1 64 0 n, .int .u32 sc, .map 2, .int .i64 out]
end Go.Sx

namespace Go.Sx
open Go.Proofs Go.RowKit
set_option maxRecDepth 100000
noncomputable def imgS (t0 : TypeId) (op : Option Nat) (t1 : TypeId) (a b c : Int) (L : List Int) (N n : Nat) (sc out : Int) : T Blk := ofL [(0, .row t0 true op (.cells (imgC a b c n sc out))), (1, .row t1 true (some 64) (.ints .u8 L N))]
theorem get_two {x y z : Blk} {nm : Nat} (h : (T.node (T.node .nil (some y) .nil) (some x) .nil : T Blk).get nm = some z) : (nm = 0 ∧ z = x) ∨ (nm = 1 ∧ z = y) := by
  rw [T.get_node] at h
  by_cases e : nm = 0
  · rw [if_pos e] at h; cases h; exact .inl ⟨e, rfl⟩
  · rw [if_neg e] at h
    by_cases e2 : nm % 2 = 1
    · rw [if_pos e2] at h
      obtain ⟨h1, h2⟩ := get_one h
      exact .inr ⟨by omega, h2⟩
    · rw [if_neg e2] at h; cases h
theorem top_two {x y : Blk} : Top ⟨.nil, (T.node (T.node .nil (some y) .nil) (some x) .nil : T Blk), 3, []⟩ := fun nm h => by
  cases hh : (T.node (T.node .nil (some y) .nil) (some x) .nil : T Blk).get nm with
  | none => rfl
  | some z =>
    have h' : 3 ≤ nm := h
    rcases get_two hh with ⟨h1, _⟩ | ⟨h1, _⟩ <;> omega
/-- a function of an image and of numbers, that reads alone -/
def imgArg (hp : Hp) (nm : Nat) : Option (Int × Int × Int × List Int × Nat × Nat × Int × Int × TypeId × Option Nat × TypeId) :=
  match getRow hp nm with
  | some (t0, _, op, .cells [.int .i64 a, .int .i64 b, .int .i64 c, .slu nl 64 0 n, .int .u32 sc, .map _, .int .i64 out]) => match getRow hp nl with
    | some (t1, _, some 64, .ints .u8 L N) => some (a, b, c, L, N, n, sc, out, t0, op, t1)
    | _ => none
  | _ => none
theorem imgArg_ok {s : S} {nm : Nat} {a b c : Int} {L : List Int} {N n : Nat} {sc out : Int} {t0 : TypeId} {op : Option Nat} {t1 : TypeId} (h : imgArg s.hp.get nm = some (a, b, c, L, N, n, sc, out, t0, op, t1)) :
    ∃ θ : Nat → Nat, θ 0 = nm ∧ ∀ nm' x, (imgS t0 op t1 a b c L N n sc out).get nm' = some x → nm' < 3 ∧ ∃ y, s.hp.get (θ nm') = some y ∧ RoOf 3 θ x y := by
  unfold imgArg at h
  split at h <;> try (cases h; done)
  rename_i t0' ro0 op' a' b' c' nl n' sc' nw out' h0
  split at h <;> try (cases h; done)
  rename_i t1' ro1 L' N' h1
  cases h
  refine ⟨fun i => if i = 0 then nm else if i = 1 then nl else nw, rfl, fun nm' x hx => ?_⟩
  rcases get_two hx with ⟨rfl, rfl⟩ | ⟨rfl, rfl⟩
  · exact ⟨by omega, _, getRow_some h0, RoOf.cells (by rfl)⟩
  · exact ⟨by omega, _, getRow_some h1, RoOf.ints⟩
/-! ### In -/
def inS (a sc g : Int) : Bool := decide (g ≥ 0) && (decide (g < a) && (IntKind.u32.wrap ((BitVec.ofInt 32 (sc.fdiv (2 ^ (min g.toNat 32))) &&& BitVec.ofInt 32 1).toNat : Int) == 1))
abbrev rep (n : Nat) (p : Prop) : List Prop := List.replicate n p
noncomputable def sgI : FuncId → Option SumA := fun f => match f with | 118 => some (pureSum fGet) | _ => none
theorem fitI : Fit Tryz.prog (fun f => (sgI f).map toSum) := ⟨fit_ng, fit_mixed, SumAOK.sum fun f sm h => by
  unfold sgI at h
  split at h
  · cases h; exact fGet_ok.sum ⟨_, Tryz.func118, rfl⟩
  · cases h⟩
def tT (l : List Nat) : List (Nat × Bool) := l.map fun i => (i, true)
def fF (l : List Nat) : List (Nat × Bool) := l.map fun i => (i, false)
section
variable (t0 : TypeId) (op : Option Nat) (t1 : TypeId) (a b c : Int) (L : List Int) (N n : Nat) (sc out g k : Int)
noncomputable def rIn (o : List (Nat × Bool)) : Option (RV × List Prop) := runA Tryz.prog sgI 300 44 [.one (.c (.ptr 0 0)), .one (.c (.int .i64 g))] ⟨.nil, imgS t0 op t1 a b c L N n sc out, 3, []⟩ ⟨0, o, []⟩ fun v _ α => some (v, α.ob)
abbrev g0 : Bool := if true = true then decide (g ≥ 0) else false
abbrev g1 : Bool := if true = true then decide (g < a) else false
theorem in_1 : rIn t0 op t1 a b c L N n sc out g (tT [3, 4, 5, 6, 7, 8, 9, 10, 11, 12, 13, 14, 15, 16, 17, 18, 19, 20]) = some (.one (.c (.bool (if true = true then (IntKind.u32.wrap ((BitVec.ofInt 32 (sc.fdiv (2 ^ (min g.toNat 32))) &&& BitVec.ofInt 32 1).toNat : Int) == 1) else false))),
  rep 3 (g1 a g = true) ++ ([decide (¬ g < 0) = true] ++ (rep 6 (g1 a g = true) ++ rep 8 (g0 g = true)))) := by kernel_rfl
theorem in_2 : rIn t0 op t1 a b c L N n sc out g (tT [3, 4, 5, 6, 7, 8, 9, 10] ++ fF [11, 12, 13, 14, 15, 16, 17, 18, 19]) = some (.one (.c (.bool false)), rep 9 (g1 a g = false) ++ rep 8 (g0 g = true)) := by kernel_rfl
theorem in_3 : rIn t0 op t1 a b c L N n sc out g (fF [3, 4, 5, 6, 7, 8, 9, 10]) = some (.one (.c (.bool false)), rep 8 (g0 g = false)) := by kernel_rfl
end
noncomputable def sumIn : SumA := fun args hp nx => match args with
  | [.one (.c (.ptr nm 0)), .one (.c (.int .i64 g))] => match imgArg hp.get nm with
    | some (a, _, _, _, _, _, sc, _, _, _, _) => some (.one (.c (.bool (inS a sc g))), hp, nx, [], [])
    | none => none
  | _ => none
theorem sumIn_ok : SumAOK Tryz.prog 44 sumIn := by
  intro args s v hp nx lg ps ht h hps
  unfold sumIn at h
  split at h <;> try (cases h; done)
  rename_i nm g
  split at h <;> try (cases h; done)
  rename_i a b c L N n sc out t0 op t1 hi
  simp only [Option.some.injEq, Prod.mk.injEq] at h
  obtain ⟨rfl, rfl, rfl, rfl, rfl⟩ := h
  obtain ⟨θ, e0, hin⟩ := imgArg_ok hi
  have fin := fun (v : RV) (hv : flatR v = true) h0 => CallInfo.small (P := Tryz.prog) (f := 44) (args := [.one (.c (.ptr 0 0)), .one (.c (.int .i64 g))]) (v := v) (k := 3) (hs := imgS t0 op t1 a b c L N n sc out) (θ := θ) (s := s) ht ⟨_, Tryz.func44, rfl⟩ h0 hin (by rfl) hv
  have ea : ([.one (.c (.ptr 0 0)), .one (.c (.int .i64 g))] : List RV).map (renR θ) = [.one (.c (.ptr nm 0)), .one (.c (.int .i64 g))] := by simp [renR, renA, renC, e0]
  rw [ea] at fin
  have e1 : g0 g = decide (g ≥ 0) := by simp [g0]
  have e2 : g1 a g = decide (g < a) := by simp [g1]
  cases h0 : decide (g ≥ 0) with
  | false =>
    rw [show inS a sc g = false by unfold inS; rw [h0]; rfl]
    exact fin _ (by rfl) (small_path fitI top_two (in_3 t0 op t1 a b c L N n sc out g) (All_rep (by rw [e1, h0]) 8))
  | true =>
    cases h1 : decide (g < a) with
    | false =>
      rw [show inS a sc g = false by unfold inS; rw [h0, h1]; rfl]
      exact fin _ (by rfl) (small_path fitI top_two (in_2 t0 op t1 a b c L N n sc out g) ((All_append _ _).2 ⟨All_rep (by rw [e2, h1]) 9, All_rep (by rw [e1, h0]) 8⟩))
    | true =>
      have hr := in_1 t0 op t1 a b c L N n sc out g
      rw [if_pos rfl] at hr
      rw [show inS a sc g = _ by unfold inS; rw [h0, h1, Bool.true_and, Bool.true_and]]
      refine fin _ (by rfl) (small_path fitI top_two hr ?_)
      exact (All_append _ _).2 ⟨All_rep (by rw [e2, h1]) 3, (All_append _ _).2 ⟨⟨by simp at h0 ⊢; omega, trivial⟩, (All_append _ _).2 ⟨All_rep (by rw [e2, h1]) 6, All_rep (by rw [e1, h0]) 8⟩⟩⟩
end Go.Sx

namespace Go.Sx
open Go.Proofs Go.RowKit
set_option maxRecDepth 100000
/-! ### a sector of an image, and its load -/
def hasS (n : Nat) (g : Int) : Bool := decide (g ≥ 0) && decide (g < (n : Int))
def blkS (L : List Int) (n : Nat) (g : Int) : List Int := if hasS n g then blkAt L (g.toNat * 64) else z64
noncomputable def ldP (L : List Int) (n : Nat) (g k : Int) : List Int := if hasS n g then getP k (blkAt L (g.toNat * 64)) else z54
noncomputable def ldOk (L : List Int) (n : Nat) (g k : Int) : Bool := hasS n g && (getE k (blkAt L (g.toNat * 64)) == 0)
abbrev gn (n : Nat) (g : Int) : Bool := if true = true then decide (g < (n : Int)) else false
abbrev rawB1 (L : List Int) (g : Int) : List Int := (L.drop (0 + g.toNat * 64)).take 64
section
variable (t0 : TypeId) (op : Option Nat) (t1 : TypeId) (a b c : Int) (L : List Int) (N n : Nat) (sc out g k : Int)
noncomputable def rBlk (o : List (Nat × Bool)) : Option (RV × List Prop) := runA Tryz.prog sgI 300 162 [.one (.c (.ptr 0 0)), .one (.c (.int .i64 g))] ⟨.nil, imgS t0 op t1 a b c L N n sc out, 3, []⟩ ⟨0, o, []⟩ fun v _ α => some (v, α.ob)
theorem blk_1 : rBlk t0 op t1 a b c L N n sc out g (tT [3, 4, 5, 6, 7, 8, 9, 10] ++ ((11, false) :: tT [12, 13, 14])) = some (.one (.ints .u8 (t64 (over z64 0 (rawB1 L g))) 64),
  [decide (0 + g.toNat * 64 + 64 ≤ N) = true, decide (0 ≤ g ∧ g < (n : Int)) = true, decide (n ≠ 0) = true, (!gn n g) = false] ++ rep 8 (g0 g = true)) := by kernel_rfl
theorem blk_2 : rBlk t0 op t1 a b c L N n sc out g (tT [3, 4, 5, 6, 7, 8, 9, 10, 11]) = some (.one (.ints .u8 z64 64), [(!gn n g) = true] ++ rep 8 (g0 g = true)) := by kernel_rfl
theorem blk_3 : rBlk t0 op t1 a b c L N n sc out g (fF [3, 4, 5, 6, 7, 8, 9, 10]) = some (.one (.ints .u8 z64 64), rep 8 (g0 g = false)) := by kernel_rfl
noncomputable def rLd (o : List (Nat × Bool)) : Option (RV × List Prop) := runA Tryz.prog sgI 300 47 [.one (.c (.ptr 0 0)), .one (.c (.int .i64 g)), .one (.c (.int .i64 k))] ⟨.nil, imgS t0 op t1 a b c L N n sc out, 3, []⟩ ⟨0, o, []⟩ fun v _ α => some (v, α.ob)
theorem ld_1 : rLd t0 op t1 a b c L N n sc out g k (tT [3, 4, 5, 6, 7, 8, 9, 10] ++ ((11, false) :: tT [12, 13, 14])) = some (.tup [.ints .u8 (t54 (over z54 0 (t54 (over z54 0 (getP k (rawB1 L g)))))) 54, .c (.bool (getE k (rawB1 L g) == 0))],
  [decide (0 + g.toNat * 64 + 64 ≤ N) = true, decide (0 ≤ g ∧ g < (n : Int)) = true, decide (n ≠ 0) = true, (!gn n g) = false] ++ rep 8 (g0 g = true)) := by kernel_rfl
theorem ld_2 : rLd t0 op t1 a b c L N n sc out g k (tT [3, 4, 5, 6, 7, 8, 9, 10, 11]) = some (.tup [.ints .u8 z54 54, .c (.bool false)], [(!gn n g) = true] ++ rep 8 (g0 g = true)) := by kernel_rfl
theorem ld_3 : rLd t0 op t1 a b c L N n sc out g k (fF [3, 4, 5, 6, 7, 8, 9, 10]) = some (.tup [.ints .u8 z54 54, .c (.bool false)], rep 8 (g0 g = false)) := by kernel_rfl
end
noncomputable def sumBlk : SumA := fun args hp nx => match args with
  | [.one (.c (.ptr nm 0)), .one (.c (.int .i64 g))] => match imgArg hp.get nm with
    | some (_, _, _, L, N, n, _, _, _, _, _) => some (.one (.ints .u8 (blkS L n g) 64), hp, nx, [], [L.length = N, N = 64 * n])
    | none => none
  | _ => none
noncomputable def sumLd : SumA := fun args hp nx => match args with
  | [.one (.c (.ptr nm 0)), .one (.c (.int .i64 g)), .one (.c (.int .i64 k))] => match imgArg hp.get nm with
    | some (_, _, _, L, N, n, _, _, _, _, _) => some (.tup [.ints .u8 (ldP L n g k) 54, .c (.bool (ldOk L n g k))], hp, nx, [], [L.length = N, N = 64 * n])
    | none => none
  | _ => none
theorem has_facts {L : List Int} {N n : Nat} {g : Int} (hl : L.length = N) (hN : N = 64 * n) (h0 : decide (g ≥ 0) = true) (h1 : decide (g < (n : Int)) = true) :
    g.toNat * 64 + 64 ≤ L.length ∧ All ([decide (0 + g.toNat * 64 + 64 ≤ N) = true, decide (0 ≤ g ∧ g < (n : Int)) = true, decide (n ≠ 0) = true, (!gn n g) = false] ++ rep 8 (g0 g = true)) := by
  have e0 : g ≥ 0 := of_decide_eq_true h0
  have e1 : g < (n : Int) := of_decide_eq_true h1
  have e2 : gn n g = true := by simp [gn]; exact e1
  have e3 : g0 g = true := by simp [g0]; exact e0
  have : g.toNat < n := by omega
  refine ⟨by omega, (All_append _ _).2 ⟨⟨decide_eq_true (by omega), decide_eq_true ⟨e0, e1⟩, decide_eq_true (by omega), by rw [e2]; rfl, trivial⟩, All_rep e3 8⟩⟩
theorem sumBlk_ok : SumAOK Tryz.prog 162 sumBlk := by
  intro args s v hp nx lg ps ht h hps
  unfold sumBlk at h
  split at h <;> try (cases h; done)
  rename_i nm g
  split at h <;> try (cases h; done)
  rename_i a b c L N n sc out t0 op t1 hi
  simp only [Option.some.injEq, Prod.mk.injEq] at h
  obtain ⟨rfl, rfl, rfl, rfl, rfl⟩ := h
  obtain ⟨hl, hN, _⟩ := hps
  obtain ⟨θ, e0, hin⟩ := imgArg_ok hi
  have fin := fun (v : RV) (hv : flatR v = true) h0 => CallInfo.small (P := Tryz.prog) (f := 162) (args := [.one (.c (.ptr 0 0)), .one (.c (.int .i64 g))]) (v := v) (k := 3) (hs := imgS t0 op t1 a b c L N n sc out) (θ := θ) (s := s) ht ⟨_, Tryz.func162, rfl⟩ h0 hin (by rfl) hv
  have ea : ([.one (.c (.ptr 0 0)), .one (.c (.int .i64 g))] : List RV).map (renR θ) = [.one (.c (.ptr nm 0)), .one (.c (.int .i64 g))] := by simp [renR, renA, renC, e0]
  rw [ea] at fin
  have e1 : g0 g = decide (g ≥ 0) := by simp [g0]
  have e2 : gn n g = decide (g < (n : Int)) := by simp [gn]
  cases h0 : decide (g ≥ 0) with
  | false =>
    rw [show blkS L n g = z64 by unfold blkS hasS; rw [h0]; rfl]
    exact fin _ (by rfl) (small_path fitI top_two (blk_3 t0 op t1 a b c L N n sc out g) (All_rep (by rw [e1, h0]) 8))
  | true =>
    cases h1 : decide (g < (n : Int)) with
    | false =>
      rw [show blkS L n g = z64 by unfold blkS hasS; rw [h0, h1]; rfl]
      exact fin _ (by rfl) (small_path fitI top_two (blk_2 t0 op t1 a b c L N n sc out g) ((All_append _ _).2 ⟨⟨by rw [e2, h1]; rfl, trivial⟩, All_rep (by rw [e1, h0]) 8⟩))
    | true =>
      obtain ⟨f1, f2⟩ := has_facts hl hN h0 h1
      have hr := blk_1 t0 op t1 a b c L N n sc out g
      have hb := blkAt_len f1
      rw [show rawB1 L g = blkAt L (g.toNat * 64) by rw [rawB1, Nat.zero_add]; rfl, over_z64 hb, t64, take_all hb] at hr
      rw [show blkS L n g = blkAt L (g.toNat * 64) by unfold blkS hasS; rw [h0, h1]; rfl]
      exact fin _ (by rfl) (small_path fitI top_two hr f2)
theorem sumLd_ok : SumAOK Tryz.prog 47 sumLd := by
  intro args s v hp nx lg ps ht h hps
  unfold sumLd at h
  split at h <;> try (cases h; done)
  rename_i nm g k
  split at h <;> try (cases h; done)
  rename_i a b c L N n sc out t0 op t1 hi
  simp only [Option.some.injEq, Prod.mk.injEq] at h
  obtain ⟨rfl, rfl, rfl, rfl, rfl⟩ := h
  obtain ⟨hl, hN, _⟩ := hps
  obtain ⟨θ, e0, hin⟩ := imgArg_ok hi
  have fin := fun (v : RV) (hv : flatR v = true) h0 => CallInfo.small (P := Tryz.prog) (f := 47) (args := [.one (.c (.ptr 0 0)), .one (.c (.int .i64 g)), .one (.c (.int .i64 k))]) (v := v) (k := 3) (hs := imgS t0 op t1 a b c L N n sc out) (θ := θ) (s := s) ht ⟨_, Tryz.func47, rfl⟩ h0 hin (by rfl) hv
  have ea : ([.one (.c (.ptr 0 0)), .one (.c (.int .i64 g)), .one (.c (.int .i64 k))] : List RV).map (renR θ) = [.one (.c (.ptr nm 0)), .one (.c (.int .i64 g)), .one (.c (.int .i64 k))] := by simp [renR, renA, renC, e0]
  rw [ea] at fin
  have e1 : g0 g = decide (g ≥ 0) := by simp [g0]
  have e2 : gn n g = decide (g < (n : Int)) := by simp [gn]
  cases h0 : decide (g ≥ 0) with
  | false =>
    rw [show ldP L n g k = z54 by unfold ldP hasS; rw [h0]; rfl, show ldOk L n g k = false by unfold ldOk hasS; rw [h0]; rfl]
    exact fin _ (by rfl) (small_path fitI top_two (ld_3 t0 op t1 a b c L N n sc out g k) (All_rep (by rw [e1, h0]) 8))
  | true =>
    cases h1 : decide (g < (n : Int)) with
    | false =>
      rw [show ldP L n g k = z54 by unfold ldP hasS; rw [h0, h1]; rfl, show ldOk L n g k = false by unfold ldOk hasS; rw [h0, h1]; rfl]
      exact fin _ (by rfl) (small_path fitI top_two (ld_2 t0 op t1 a b c L N n sc out g k) ((All_append _ _).2 ⟨⟨by rw [e2, h1]; rfl, trivial⟩, All_rep (by rw [e1, h0]) 8⟩))
    | true =>
      obtain ⟨f1, f2⟩ := has_facts hl hN h0 h1
      have hr := ld_1 t0 op t1 a b c L N n sc out g k
      have hb := getP_len (kind := k) (blkAt_len f1)
      rw [show rawB1 L g = blkAt L (g.toNat * 64) by rw [rawB1, Nat.zero_add]; rfl, over_z54 hb, show t54 (getP k (blkAt L (g.toNat * 64))) = _ from take_all hb, over_z54 hb, show t54 (getP k (blkAt L (g.toNat * 64))) = _ from take_all hb] at hr
      rw [show ldP L n g k = getP k (blkAt L (g.toNat * 64)) by unfold ldP hasS; rw [h0, h1]; rfl, show ldOk L n g k = (getE k (blkAt L (g.toNat * 64)) == 0) by unfold ldOk hasS; rw [h0, h1]; rfl]
      exact fin _ (by rfl) (small_path fitI top_two hr f2)
noncomputable def sgW : FuncId → Option SumA := fun f => match f with
  | 44 => some sumIn | 162 => some sumBlk | 47 => some sumLd | 150 => some (pureSum fNext) | 151 => some (pureSum fWhere) | 82 => some (pureSum fWhere) | 73 => some sumFind | _ => none
theorem fitW : Fit Tryz.prog (fun f => (sgW f).map toSum) := ⟨fit_ng, fit_mixed, SumAOK.sum fun f sm h => by
  unfold sgW at h
  split at h
  · cases h; exact sumIn_ok
  · cases h; exact sumBlk_ok
  · cases h; exact sumLd_ok
  · cases h; exact fNext_ok.sum ⟨_, Tryz.func150, rfl⟩
  · cases h; exact (fWhere_ok 151 whereAny).sum ⟨_, Tryz.func151, rfl⟩
  · cases h; exact (fWhere_ok 82 refWhere).sum ⟨_, Tryz.func82, rfl⟩
  · cases h; exact sumFind_ok
  · cases h⟩
end Go.Sx
