/-
  Parts of the executor Sx over the model's code (any program), or of this seat's walks: words and proofs that the row's text uses.
-/
import Derived.Test.YtfceckiklfkjkaaGreatR6
namespace Go.Sx
open Go.Proofs Go.RowKit
set_option maxRecDepth 100000
noncomputable def sumInR : SumA := sumRef fun xs a _ _ _ sc st => match xs with
  | [.one (.c (.int .i64 g))] => some (.one (.c (.bool (inS a sc g))), st, [a < 9223372036854775808, U32 sc])
  | _ => none
theorem sumInR_ok : SumAOK Tryz.prog 83 sumInR := by
  refine sumRef_ok ⟨_, Tryz.func83, rfl⟩ (fun xs a b c n sc st v st' ps h hp _ _ => ?_) (fun xs a b c n sc st v st' ps h => ?_)
  · split at h <;> try (cases h; done)
    simp only [Option.some.injEq, Prod.mk.injEq] at h
    obtain ⟨rfl, rfl, rfl⟩ := h
    exact small32 hp.1 hp.2.1
  · split at h <;> try (cases h; done)
    simp only [Option.some.injEq, Prod.mk.injEq] at h
    obtain ⟨rfl, rfl, rfl⟩ := h
    exact ⟨rfl, rfl⟩
/-! ### readers of the reference's image -/
noncomputable def refS (t0 : TypeId) (op : Option Nat) (t1 : TypeId) (a b c : Int) (L : List Int) (N n : Nat) (sc out : Int) (m1 m2 : Nat) : T Blk := ofL [(0, .row t0 true op (.cells [.int .i64 a, .int .i64 b, .int .i64 c, .slu 1 64 0 n, .int .u32 sc, .sl 2 0 m1 m2, .int .i64 out])), (1, .row t1 true (some 64) (.ints .u8 L N))]
def refArg (hp : Hp) (nm : Nat) : Option (Int × Int × Int × List Int × Nat × Nat × Int × Int × TypeId × Option Nat × TypeId × Nat × Nat) :=
  match getRow hp nm with
  | some (t0, _, op, .cells [.int .i64 a, .int .i64 b, .int .i64 c, .slu nl 64 0 n, .int .u32 sc, .sl _ 0 m1 m2, .int .i64 out]) => match getRow hp nl with
    | some (t1, _, some 64, .ints .u8 L N) => some (a, b, c, L, N, n, sc, out, t0, op, t1, m1, m2)
    | _ => none
  | _ => none
theorem refArg_ok {s : S} {nm : Nat} {a b c : Int} {L : List Int} {N n : Nat} {sc out : Int} {t0 : TypeId} {op : Option Nat} {t1 : TypeId} {m1 m2 : Nat} (h : refArg s.hp.get nm = some (a, b, c, L, N, n, sc, out, t0, op, t1, m1, m2)) :
    ∃ θ : Nat → Nat, θ 0 = nm ∧ ∀ nm' x, (refS t0 op t1 a b c L N n sc out m1 m2).get nm' = some x → nm' < 3 ∧ ∃ y, s.hp.get (θ nm') = some y ∧ RoOf 3 θ x y := by
  unfold refArg at h
  split at h <;> try (cases h; done)
  rename_i t0' ro0 op' a' b' c' nl n' sc' nw m1' m2' out' h0
  split at h <;> try (cases h; done)
  rename_i t1' ro1 L' N' h1
  cases h
  refine ⟨fun i => if i = 0 then nm else if i = 1 then nl else nw, rfl, fun nm' x hx => ?_⟩
  rcases get_two hx with ⟨rfl, rfl⟩ | ⟨rfl, rfl⟩
  · exact ⟨by omega, _, getRow_some h0, RoOf.cells (by rfl)⟩
  · exact ⟨by omega, _, getRow_some h1, RoOf.ints⟩
noncomputable def sumRdR (G : List RV → Int → Int → Int → List Int → Nat → Int → Option (RV × List Prop)) : SumA := fun args hp nx => match args with
  | .one (.c (.ptr nm 0)) :: xs => match refArg hp.get nm with
    | some (a, b, c, L, N, n, sc, _, _, _, _, _, _) => match G xs a b c L n sc with
      | some (v, ps) => some (v, hp, nx, [], (L.length = N) :: (N = 64 * n) :: ps)
      | none => none
    | none => none
  | _ => none
theorem sumRdR_ok {f : FuncId} (hfn : ∃ fn, Tryz.prog.funcs[f]? = some fn ∧ fn.body.isNone = false) {G : List RV → Int → Int → Int → List Int → Nat → Int → Option (RV × List Prop)}
    (hx : ∀ xs a b c L n sc v ps, G xs a b c L n sc = some (v, ps) → xs.all flatR = true ∧ flatR v = true)
    (hG : ∀ xs a b c L n sc v ps, G xs a b c L n sc = some (v, ps) → All ps → L.length = 64 * n → ∀ (t0 : TypeId) (op : Option Nat) (t1 : TypeId) (out : Int) (m1 m2 : Nat) (ρ : Rho) (w : World) (vs : List Value), HRel ρ (refS t0 op t1 a b c L (64 * n) n sc out m1 m2).get w → Fresh ρ 3 → ArgsR ρ (.one (.c (.ptr 0 0)) :: xs) vs →
      Calls Tryz.prog f vs.toArray w fun e w' => ∃ V ρ' hp' nx' L', e = .returned V ∧ RVR ρ' v V ∧ Stp ρ (refS t0 op t1 a b c L (64 * n) n sc out m1 m2).get 3 w ρ' hp' nx' w' L') : SumAOK Tryz.prog f (sumRdR G) := by
  intro args s v hp nx lg ps ht h hps
  unfold sumRdR at h
  split at h <;> try (cases h; done)
  rename_i nm xs
  split at h <;> try (cases h; done)
  rename_i a b c L N n sc out t0 op t1 m1 m2 hi
  split at h <;> try (cases h; done)
  rename_i v1 ps1 hg
  simp only [Option.some.injEq, Prod.mk.injEq] at h
  obtain ⟨rfl, rfl, rfl, rfl, rfl⟩ := h
  obtain ⟨hl, hN, hps⟩ := hps
  subst hN
  obtain ⟨hfx, hfv⟩ := hx _ _ _ _ _ _ _ _ _ hg
  obtain ⟨θ, e0, hin⟩ := refArg_ok hi
  have ex : xs.map (renR θ) = xs := (List.map_congr_left fun c hc => renR_flat (List.all_eq_true.1 hfx c hc)).trans (List.map_id xs)
  have ea : ((.one (.c (.ptr 0 0)) : RV) :: xs).map (renR θ) = .one (.c (.ptr nm 0)) :: xs := by
    rw [List.map_cons, ex]; simp [renR, renA, renC, e0]
  have := CallInfo.small (P := Tryz.prog) (f := f) (args := .one (.c (.ptr 0 0)) :: xs) (v := v1) (k := 3) (hs := refS t0 op t1 a b c L (64 * n) n sc out m1 m2) (θ := θ) (s := s) ht hfn (hG _ _ _ _ _ _ _ _ _ hg hps hl t0 op t1 out m1 m2) hin
    (List.all_eq_true.2 fun c hc => by
      rcases List.mem_cons.1 hc with rfl | hc
      · rfl
      · exact inR_flat (List.all_eq_true.1 hfx c hc)) hfv
  rw [ea] at this
  exact this
/-! ### Load f28 -/
noncomputable def r28 (t0 : TypeId) (op : Option Nat) (t1 : TypeId) (a b c : Int) (L : List Int) (N n : Nat) (sc out : Int) (m1 m2 : Nat) (g k : Int) (Q : RV → Prop) : Option Prop := runA Tryz.prog sgL8 300 85 [.one (.c (.ptr 0 0)), .one (.c (.int .i64 g)), .one (.c (.int .i64 k))] ⟨.nil, refS t0 op t1 a b c L N n sc out m1 m2, 3, []⟩ αT fun v _ α => some (All α.ob ∧ Q v)
end Go.Sx

namespace Go.Sx
open Go.Proofs Go.RowKit
set_option maxRecDepth 100000
noncomputable abbrev r28_x0 (g : Int) : Nat := 0 + g.toNat * 64
noncomputable abbrev r28_x1 (g : Int) : Nat := (r28_x0 g) + 64
noncomputable abbrev r28_x2 (L : List Int) (g : Int) : List Int := List.take 64 (List.drop (r28_x0 g) L)
noncomputable def r28_t (t0 : TypeId) (op : Option Nat) (t1 : TypeId) (a b c : Int) (L : List Int) (N n : Nat) (sc out : Int) (m1 m2 : Nat) (g k : Int) (Q : RV → Prop) : Option Prop := (bif decide (g < 0) then ( some ((All [] ∧ Q (RV.tup [AV.ints IntKind.u8 z54 54, AV.c (Cell.bool false)]))) ) else ( (bif decide (g ≥ (↑n : Int)) then ( some ((All [] ∧ Q (RV.tup [AV.ints IntKind.u8 z54 54, AV.c (Cell.bool false)]))) ) else ( (bif decide (n ≠ 0) then ( (bif decide (0 ≤ g ∧ g < (↑n : Int)) then ( (bif decide ((r28_x1 g) ≤ N) then ( some ((All [Bytes (r28_x2 L g)] ∧ Q (RV.tup [AV.ints IntKind.u8 (List.take 54 (List.drop 0 (over z54 0 (List.take 54 (List.drop 0 (over z54 0 (getP k (r28_x2 L g)))))))) 54, AV.c (Cell.bool (getE k (r28_x2 L g) == 0))]))) ) else none) ) else none) ) else none) )) ))
theorem r28_tree (t0 : TypeId) (op : Option Nat) (t1 : TypeId) (a b c : Int) (L : List Int) (N n : Nat) (sc out : Int) (m1 m2 : Nat) (g k : Int) (Q : RV → Prop) : r28 t0 op t1 a b c L N n sc out m1 m2 g k Q = r28_t t0 op t1 a b c L N n sc out m1 m2 g k Q := by kernel_rfl
noncomputable def g28 : List RV → Int → Int → Int → List Int → Nat → Int → Option (RV × List Prop) := fun xs _ _ _ L n _ => match xs with
  | [.one (.c (.int .i64 g)), .one (.c (.int .i64 k))] => some (.tup [.ints .u8 (ldP L n g k) 54, .c (.bool (ldOk L n g k))], [Bytes L])
  | _ => none
theorem hasS_no {n : Nat} {g : Int} (h : ¬ (0 ≤ g ∧ g < (n : Int))) : hasS n g = false := by
  cases h1 : hasS n g with
  | false => rfl
  | true => exact absurd (hasS_iff.1 h1) h
theorem sum28 : SumAOK Tryz.prog 85 (sumRdR g28) := by
  refine sumRdR_ok ⟨_, Tryz.func85, rfl⟩ (fun xs a b c L n sc v ps h => ?_) fun xs a b c L n sc v ps h hps hl t0 op t1 out m1 m2 => ?_
  · unfold g28 at h
    split at h <;> try (cases h; done)
    simp only [Option.some.injEq, Prod.mk.injEq] at h
    obtain ⟨rfl, rfl⟩ := h
    exact ⟨rfl, rfl⟩
  · unfold g28 at h
    split at h <;> try (cases h; done)
    rename_i g k
    simp only [Option.some.injEq, Prod.mk.injEq] at h
    obtain ⟨rfl, rfl⟩ := h
    obtain ⟨hy, _⟩ := hps
    refine small_tree fitL8 top_two (.of_eq (r28_tree t0 op t1 a b c L (64 * n) n sc out m1 m2 g k _) ?_)
    unfold r28_t r28_x2 r28_x1 r28_x0
    have no : hasS n g = false → RV.tup [AV.ints IntKind.u8 z54 54, AV.c (Cell.bool false)] = .tup [.ints .u8 (ldP L n g k) 54, .c (.bool (ldOk L n g k))] := fun e => by unfold ldP ldOk; rw [e]; rfl
    refine .fork (fun h => ⟨trivial, no (hasS_no (by simp at h; omega))⟩) (fun h => .fork (fun h1 => ⟨trivial, no (hasS_no (by simp at h1; omega))⟩) (fun h1 => ?_))
    have g0 : 0 ≤ g := by simpa using h
    have g1 : g < n := by simpa using h1
    refine .chk (by simp; omega) ?_
    refine .chk (by simp; omega) ?_
    refine .chk (by simp; omega) ⟨⟨?_, trivial⟩, ?_⟩
    · rw [Nat.zero_add]; exact hy.blk _
    · rw [Nat.zero_add, show List.take 64 (List.drop (g.toNat * 64) L) = blkAt L (g.toNat * 64) from rfl]
      have hs : hasS n g = true := hasS_iff.2 ⟨g0, g1⟩
      have hp : (getP k (blkAt L (g.toNat * 64))).length = 54 := getP_len (blkAt_len (by omega))
      have e : List.take 54 (List.drop 0 (getP k (blkAt L (g.toNat * 64)))) = getP k (blkAt L (g.toNat * 64)) := take_all hp
      unfold ldP ldOk
      rw [hs, over_z54 hp, e, over_z54 hp, e]
      rfl
/-! ### Write f29 -/
noncomputable def sgW9 : FuncId → Option SumA := fun f => match f with | 83 => some sumInR | 155 => some (pureSum fNextR) | 82 => some (pureSum fWhere) | 85 => some (sumRdR g28) | _ => none
theorem fitW9 : Fit Tryz.prog (fun f => (sgW9 f).map toSum) := ⟨fit_ng, fit_mixed, SumAOK.sum fun f sm h => by
  unfold sgW9 at h
  split at h
  · cases h; exact sumInR_ok
  · cases h; exact fNextR_ok.sum ⟨_, Tryz.func155, rfl⟩
  · cases h; exact (fWhere_ok 82 refWhere).sum ⟨_, Tryz.func82, rfl⟩
  · cases h; exact sum28
  · cases h⟩
noncomputable def c29 : Code := gB 81
noncomputable def args29 (g k : Int) (p : List Int) : List RV := [.one (.c (.ptr 0 0)), .one (.c (.int .i64 g)), .one (.c (.int .i64 k)), .one (.ints .u8 p 54)]
noncomputable def sl29 (g k : Int) (p : List Int) : T RV := match setArgs 98 (args29 g k p) 0 .nil some with | some t => t | none => .nil
theorem sl29_ok (g k : Int) (p : List Int) : setArgs 98 (args29 g k p) 0 .nil some = some (sl29 g k p) := by kernel_rfl
theorem body29_eq : Tryz.f81.body = some c29 := by kernel_rfl
noncomputable def r29 (a b c : Int) (n : Nat) (sc : Int) (L : List Int) (W : List Bool) (out g k : Int) (p : List Int) (Q : X → Option (List AV) → T Blk → Nat → Prop) : Option Prop :=
  execA Tryz.prog sgW9 300 98 c29 ⟨sl29 g k p, rImg a b c n sc (L, W, out), 3, []⟩ αT (fun x s α => some (All α.ob ∧ (Nat.ble 3 s.nx = true ∧ Q x (resOf Tryz.prog 98 (low 98 3 (fgt [8] 98 s)) Tryz.f81.results.toList) (low 98 3 (fgt [8] 98 s)).hp (low 98 3 (fgt [8] 98 s)).nx)))
end Go.Sx

namespace Go.Sx
open Go.Proofs Go.RowKit
set_option maxRecDepth 100000
noncomputable abbrev r29_x0 (n : Nat) : Nat := 64 * n
noncomputable abbrev r29_x1 (g : Int) : Bool := decide (g > 1)
noncomputable abbrev r29_x2 (a b : Int) (c sc g : Int) : Bool := !inS a sc (pl a b c g).snd.fst
noncomputable abbrev r29_x3 (n : Nat) : Bool := decide (n ≠ 0)
noncomputable abbrev r29_x4 (n : Nat) (g : Int) : Bool := decide ((0 : Int) ≤ g ∧ g < (↑n : Int))
noncomputable abbrev r29_x5 (g : Int) : Nat := 0 + g.toNat * 64
noncomputable abbrev r29_x6 (g : Int) : Nat := (r29_x5 g) + 64
noncomputable abbrev r29_x7 (n : Nat) (g : Int) : Bool := decide ((r29_x6 g) ≤ (r29_x0 n))
noncomputable abbrev r29_x8 (g : Int) : Nat := 0 + g.toNat * 1
noncomputable abbrev r29_x9 (n : Nat) (g : Int) : Bool := decide ((r29_x8 g) < n)
noncomputable abbrev r29_x10 (L : List Int) (g : Int) : List Int := List.take 64 (List.drop (r29_x5 g) L)
noncomputable def r29_t (a b c : Int) (n : Nat) (sc : Int) (L : List Int) (W : List Bool) (out g k : Int) (p : List Int) (Q : X → Option (List AV) → T Blk → Nat → Prop) : Option Prop := (bif decide (g < 0) then ( some ((All [] ∧ ((true = true) ∧ Q (X.ret) (some [AV.c (Cell.bool false)]) (ofL [(0, Blk.row 65 false none (Body.cells [Cell.int IntKind.i64 a, Cell.int IntKind.i64 b, Cell.int IntKind.i64 c, Cell.slu 1 64 0 n, Cell.int IntKind.u32 sc, Cell.sl 2 0 n n, Cell.int IntKind.i64 out])), (1, Blk.row 95 false (some 64) (Body.ints IntKind.u8 L (r29_x0 n))), (2, Blk.row 4 false none (Body.bools W n))]) (3)))) ) else ( (bif decide (g ≥ (↑n : Int)) then ( some ((All [] ∧ ((true = true) ∧ Q (X.ret) (some [AV.c (Cell.bool false)]) (ofL [(0, Blk.row 65 false none (Body.cells [Cell.int IntKind.i64 a, Cell.int IntKind.i64 b, Cell.int IntKind.i64 c, Cell.slu 1 64 0 n, Cell.int IntKind.u32 sc, Cell.sl 2 0 n n, Cell.int IntKind.i64 out])), (1, Blk.row 95 false (some 64) (Body.ints IntKind.u8 L (r29_x0 n))), (2, Blk.row 4 false none (Body.bools W n))]) (3)))) ) else ( (bif decide (k < 1) then ( some ((All [] ∧ ((true = true) ∧ Q (X.ret) (some [AV.c (Cell.bool false)]) (ofL [(0, Blk.row 65 false none (Body.cells [Cell.int IntKind.i64 a, Cell.int IntKind.i64 b, Cell.int IntKind.i64 c, Cell.slu 1 64 0 n, Cell.int IntKind.u32 sc, Cell.sl 2 0 n n, Cell.int IntKind.i64 out])), (1, Blk.row 95 false (some 64) (Body.ints IntKind.u8 L (r29_x0 n))), (2, Blk.row 4 false none (Body.bools W n))]) (3)))) ) else ( (bif decide (k > 6) then ( some ((All [] ∧ ((true = true) ∧ Q (X.ret) (some [AV.c (Cell.bool false)]) (ofL [(0, Blk.row 65 false none (Body.cells [Cell.int IntKind.i64 a, Cell.int IntKind.i64 b, Cell.int IntKind.i64 c, Cell.slu 1 64 0 n, Cell.int IntKind.u32 sc, Cell.sl 2 0 n n, Cell.int IntKind.i64 out])), (1, Blk.row 95 false (some 64) (Body.ints IntKind.u8 L (r29_x0 n))), (2, Blk.row 4 false none (Body.bools W n))]) (3)))) ) else ( (bif ldOk L n g k then ( (bif List.take 54 (List.drop 0 (over z54 0 (ldP L n g k))) == List.take 54 (List.drop 0 p) then ( some ((All [L.length = (r29_x0 n), (r29_x0 n) = (r29_x0 n), Bytes L] ∧ ((true = true) ∧ Q (X.ret) (some [AV.c (Cell.bool true)]) (ofL [(0, Blk.row 65 false none (Body.cells [Cell.int IntKind.i64 a, Cell.int IntKind.i64 b, Cell.int IntKind.i64 c, Cell.slu 1 64 0 n, Cell.int IntKind.u32 sc, Cell.sl 2 0 n n, Cell.int IntKind.i64 out])), (1, Blk.row 95 false (some 64) (Body.ints IntKind.u8 L (r29_x0 n))), (2, Blk.row 4 false none (Body.bools W n))]) (3)))) ) else ( (bif (r29_x1 g) then ( (bif (r29_x2 a b c sc g) then ( some ((All [L.length = (r29_x0 n), (r29_x0 n) = (r29_x0 n), n = n, n = n, n = n, W.length = n, a < 9223372036854775808, U32 sc, L.length = (r29_x0 n), (r29_x0 n) = (r29_x0 n), Bytes L] ∧ ((true = true) ∧ Q (X.ret) (some [AV.c (Cell.bool false)]) (ofL [(0, Blk.row 65 false none (Body.cells [Cell.int IntKind.i64 a, Cell.int IntKind.i64 b, Cell.int IntKind.i64 c, Cell.slu 1 64 0 n, Cell.int IntKind.u32 sc, Cell.sl 2 0 n n, Cell.int IntKind.i64 (IntKind.i64.wrap (out + 1))])), (1, Blk.row 95 false (some 64) (Body.ints IntKind.u8 L (r29_x0 n))), (2, Blk.row 4 false none (Body.bools W n))]) (3)))) ) else ( (bif (r29_x3 n) then ( (bif (r29_x4 n g) then ( (bif (r29_x7 n g) then ( (bif (r29_x3 n) then ( (bif (r29_x4 n g) then ( (bif (r29_x7 n g) then ( (bif (r29_x4 n g) then ( (bif (r29_x9 n g) then ( some ((All [Bytes (r29_x10 L g), L.length = (r29_x0 n), (r29_x0 n) = (r29_x0 n), n = n, n = n, n = n, W.length = n, a < 9223372036854775808, U32 sc, L.length = (r29_x0 n), (r29_x0 n) = (r29_x0 n), Bytes L] ∧ ((true = true) ∧ Q (X.ret) (some [AV.c (Cell.bool true)]) (ofL [(0, Blk.row 65 false none (Body.cells [Cell.int IntKind.i64 a, Cell.int IntKind.i64 b, Cell.int IntKind.i64 c, Cell.slu 1 64 0 n, Cell.int IntKind.u32 sc, Cell.sl 2 0 n n, Cell.int IntKind.i64 out])), (1, Blk.row 95 false (some 64) (Body.ints IntKind.u8 (over L (r29_x5 g) (List.take 64 (List.drop 0 (over z64 0 (nextB k (r29_x10 L g) (List.take 54 (List.drop 0 p))))))) (r29_x0 n))), (2, Blk.row 4 false none (Body.bools (W.set (r29_x8 g) true) n))]) (3)))) ) else none) ) else none) ) else none) ) else none) ) else none) ) else none) ) else none) ) else none) )) ) else ( (bif (r29_x3 n) then ( (bif (r29_x4 n g) then ( (bif (r29_x7 n g) then ( (bif (r29_x3 n) then ( (bif (r29_x4 n g) then ( (bif (r29_x7 n g) then ( (bif (r29_x4 n g) then ( (bif (r29_x9 n g) then ( some ((All [Bytes (r29_x10 L g), L.length = (r29_x0 n), (r29_x0 n) = (r29_x0 n), Bytes L] ∧ ((true = true) ∧ Q (X.ret) (some [AV.c (Cell.bool true)]) (ofL [(0, Blk.row 65 false none (Body.cells [Cell.int IntKind.i64 a, Cell.int IntKind.i64 b, Cell.int IntKind.i64 c, Cell.slu 1 64 0 n, Cell.int IntKind.u32 sc, Cell.sl 2 0 n n, Cell.int IntKind.i64 out])), (1, Blk.row 95 false (some 64) (Body.ints IntKind.u8 (over L (r29_x5 g) (List.take 64 (List.drop 0 (over z64 0 (nextB k (r29_x10 L g) (List.take 54 (List.drop 0 p))))))) (r29_x0 n))), (2, Blk.row 4 false none (Body.bools (W.set (r29_x8 g) true) n))]) (3)))) ) else none) ) else none) ) else none) ) else none) ) else none) ) else none) ) else none) ) else none) )) )) ) else ( (bif (r29_x1 g) then ( (bif (r29_x2 a b c sc g) then ( some ((All [L.length = (r29_x0 n), (r29_x0 n) = (r29_x0 n), n = n, n = n, n = n, W.length = n, a < 9223372036854775808, U32 sc, L.length = (r29_x0 n), (r29_x0 n) = (r29_x0 n), Bytes L] ∧ ((true = true) ∧ Q (X.ret) (some [AV.c (Cell.bool false)]) (ofL [(0, Blk.row 65 false none (Body.cells [Cell.int IntKind.i64 a, Cell.int IntKind.i64 b, Cell.int IntKind.i64 c, Cell.slu 1 64 0 n, Cell.int IntKind.u32 sc, Cell.sl 2 0 n n, Cell.int IntKind.i64 (IntKind.i64.wrap (out + 1))])), (1, Blk.row 95 false (some 64) (Body.ints IntKind.u8 L (r29_x0 n))), (2, Blk.row 4 false none (Body.bools W n))]) (3)))) ) else ( (bif (r29_x3 n) then ( (bif (r29_x4 n g) then ( (bif (r29_x7 n g) then ( (bif (r29_x3 n) then ( (bif (r29_x4 n g) then ( (bif (r29_x7 n g) then ( (bif (r29_x4 n g) then ( (bif (r29_x9 n g) then ( some ((All [Bytes (r29_x10 L g), L.length = (r29_x0 n), (r29_x0 n) = (r29_x0 n), n = n, n = n, n = n, W.length = n, a < 9223372036854775808, U32 sc, L.length = (r29_x0 n), (r29_x0 n) = (r29_x0 n), Bytes L] ∧ ((true = true) ∧ Q (X.ret) (some [AV.c (Cell.bool true)]) (ofL [(0, Blk.row 65 false none (Body.cells [Cell.int IntKind.i64 a, Cell.int IntKind.i64 b, Cell.int IntKind.i64 c, Cell.slu 1 64 0 n, Cell.int IntKind.u32 sc, Cell.sl 2 0 n n, Cell.int IntKind.i64 out])), (1, Blk.row 95 false (some 64) (Body.ints IntKind.u8 (over L (r29_x5 g) (List.take 64 (List.drop 0 (over z64 0 (nextB k (r29_x10 L g) (List.take 54 (List.drop 0 p))))))) (r29_x0 n))), (2, Blk.row 4 false none (Body.bools (W.set (r29_x8 g) true) n))]) (3)))) ) else none) ) else none) ) else none) ) else none) ) else none) ) else none) ) else none) ) else none) )) ) else ( (bif (r29_x3 n) then ( (bif (r29_x4 n g) then ( (bif (r29_x7 n g) then ( (bif (r29_x3 n) then ( (bif (r29_x4 n g) then ( (bif (r29_x7 n g) then ( (bif (r29_x4 n g) then ( (bif (r29_x9 n g) then ( some ((All [Bytes (r29_x10 L g), L.length = (r29_x0 n), (r29_x0 n) = (r29_x0 n), Bytes L] ∧ ((true = true) ∧ Q (X.ret) (some [AV.c (Cell.bool true)]) (ofL [(0, Blk.row 65 false none (Body.cells [Cell.int IntKind.i64 a, Cell.int IntKind.i64 b, Cell.int IntKind.i64 c, Cell.slu 1 64 0 n, Cell.int IntKind.u32 sc, Cell.sl 2 0 n n, Cell.int IntKind.i64 out])), (1, Blk.row 95 false (some 64) (Body.ints IntKind.u8 (over L (r29_x5 g) (List.take 64 (List.drop 0 (over z64 0 (nextB k (r29_x10 L g) (List.take 54 (List.drop 0 p))))))) (r29_x0 n))), (2, Blk.row 4 false none (Body.bools (W.set (r29_x8 g) true) n))]) (3)))) ) else none) ) else none) ) else none) ) else none) ) else none) ) else none) ) else none) ) else none) )) )) )) )) )) ))
theorem r29_tree (a b c : Int) (n : Nat) (sc : Int) (L : List Int) (W : List Bool) (out g k : Int) (p : List Int) (Q : X → Option (List AV) → T Blk → Nat → Prop) : r29 a b c n sc L W out g k p Q = r29_t a b c n sc L W out g k p Q := by kernel_rfl
theorem ldP_lenR {L : List Int} {n : Nat} {s k : Int} (hl : L.length = 64 * n) : (ldP L n s k).length = 54 := by
  unfold ldP
  cases hs : hasS n s with
  | false => rfl
  | true =>
    have := hasS_iff.1 hs
    exact getP_len (blkAt_len (by omega))
/-- what the reference's Write does -/
noncomputable def wrF (a b c : Int) (n : Nat) (sc : Int) (st : StR) (g k : Int) (p : List Int) : Bool × StR :=
  if hasS n g && mayK k then
    if ldOk st.1 n g k && (ldP st.1 n g k == p) then (true, st)
    else if decide (g ≥ 2) && !inS a sc (pl a b c g).2.1 then (false, (st.1, st.2.1, IntKind.i64.wrap (st.2.2 + 1)))
    else (true, (over st.1 (g.toNat * 64) (nextB k (blkAt st.1 (g.toNat * 64)) p), st.2.1.set g.toNat true, st.2.2))
  else (false, st)
theorem small29 {a b c : Int} {n : Nat} {sc : Int} {L : List Int} {W : List Bool} {out g k : Int} {p : List Int} (hl : L.length = 64 * n) (hW : W.length = n) (hy : Bytes L) (ha : a < 9223372036854775808) (hsc : U32 sc) (hp : p.length = 54) :
    SmallC Tryz.prog 81 (args29 g k p) 3 (rImg a b c n sc (L, W, out)) (rImg a b c n sc (wrF a b c n sc (L, W, out) g k p).2) (.one (.c (.bool (wrF a b c n sc (L, W, out) g k p).1))) := by
  refine smallC_tree (fn := Tryz.f81) (keep := [8]) fitW9 Tryz.func81 body29_eq rfl (by rw [rImg_eq]; exact top_three) (sl29_ok ..) (.of_eq (r29_tree a b c n sc L W out g k p _) ?_)
  have fin : ∀ (v : Bool) (st : StR), wrF a b c n sc (L, W, out) g k p = (v, st) → EndS (.one (.c (.bool (wrF a b c n sc (L, W, out) g k p).1))) (rImg a b c n sc (wrF a b c n sc (L, W, out) g k p).2) 3 .ret (some [AV.c (Cell.bool v)]) (rImg a b c n sc st) 3 := fun v st h => by
    rw [h]; exact ⟨.inr rfl, ⟨_, rfl, rfl⟩, rfl, rfl⟩
  unfold r29_t r29_x10 r29_x9 r29_x8 r29_x7 r29_x6 r29_x5 r29_x4 r29_x3 r29_x2 r29_x1 r29_x0
  have e1 : List.take 54 (List.drop 0 p) = p := take_all hp
  have e2 : List.take 54 (List.drop 0 (over z54 0 (ldP L n g k))) = ldP L n g k := by
    have := ldP_lenR (s := g) (k := k) hl
    rw [over_z54 this]; exact take_all this
  have e3 : ∀ B, List.take 64 (List.drop 0 (over z64 0 (nextB k B p))) = nextB k B p := fun B => by
    have := nextB_len (k := k) (b := B) hp
    rw [over_z64 this]; exact take_all this
  rw [e1, e2, e3, Nat.zero_add, Nat.zero_add, Nat.mul_one, show List.take 64 (List.drop (g.toNat * 64) L) = blkAt L (g.toNat * 64) from rfl]
  have hb : Bytes (blkAt L (g.toNat * 64)) := hy.blk _
  refine .fork (fun h => ⟨trivial, rfl, fin false (L, W, out) ?_⟩) (fun h => .fork (fun h1 => ⟨trivial, rfl, fin false (L, W, out) ?_⟩) (fun h1 => .fork (fun h2 => ⟨trivial, rfl, fin false (L, W, out) ?_⟩) (fun h2 => .fork (fun h3 => ⟨trivial, rfl, fin false (L, W, out) ?_⟩) (fun h3 => ?_))))
  · unfold wrF; rw [hasS_no (by simp at h; omega)]; rfl
  · unfold wrF; rw [hasS_no (by simp at h1; omega)]; rfl
  · unfold wrF; rw [show mayK k = false by unfold mayK; simp at h2 ⊢; omega, Bool.and_false]; rfl
  · unfold wrF; rw [show mayK k = false by unfold mayK; simp at h3 ⊢; omega, Bool.and_false]; rfl
  have g0 : 0 ≤ g := by simpa using h
  have g1 : g < n := by simpa using h1
  have hs : (hasS n g && mayK k) = true := by
    rw [hasS_iff.2 ⟨g0, g1⟩, show mayK k = true by unfold mayK; simp at h2 h3 ⊢; omega]; rfl
  have t3 : decide (n ≠ 0) = true := by simp; omega
  have t4 : decide ((0 : Int) ≤ g ∧ g < (n : Int)) = true := by simp; omega
  have t7 : decide (g.toNat * 64 + 64 ≤ 64 * n) = true := by simp; omega
  have t9 : decide (g.toNat < n) = true := by simp; omega
  rw [t3, t4, t7, t9]
  have h12 : decide (g > 1) = decide (g ≥ 2) := by rw [decide_eq_decide]; omega
  have way : wrF a b c n sc (L, W, out) g k p = if ldOk L n g k && (ldP L n g k == p) then (true, (L, W, out)) else if decide (g > 1) && !inS a sc (pl a b c g).2.1 then (false, (L, W, IntKind.i64.wrap (out + 1))) else (true, (over L (g.toNat * 64) (nextB k (blkAt L (g.toNat * 64)) p), W.set g.toNat true, out)) := by
    unfold wrF; rw [hs, h12]; rfl
  have f1 := fin true (L, W, out)
  have f2 := fin false (L, W, IntKind.i64.wrap (out + 1))
  have f3 := fin true (over L (g.toNat * 64) (nextB k (blkAt L (g.toNat * 64)) p), W.set g.toNat true, out)
  rw [way] at f1 f2 f3 ⊢
  refine .fork (fun h4 => .fork (fun h5 => ⟨⟨hl, rfl, hy, trivial⟩, rfl, f1 (by rw [h4, h5]; rfl)⟩) (fun h5 => ?_)) (fun h4 => ?_)
  · refine .fork (fun h6 => .fork (fun h7 => ⟨⟨hl, rfl, rfl, rfl, rfl, hW, ha, hsc, hl, rfl, hy, trivial⟩, rfl, f2 (by rw [h4, h5, h6, h7]; rfl)⟩) (fun h7 => ⟨⟨hb, hl, rfl, rfl, rfl, rfl, hW, ha, hsc, hl, rfl, hy, trivial⟩, rfl, f3 (by rw [h4, h5, h6, h7]; rfl)⟩)) (fun h6 => ⟨⟨hb, hl, rfl, hy, trivial⟩, rfl, f3 (by rw [h4, h5, h6]; rfl)⟩)
  · refine .fork (fun h6 => .fork (fun h7 => ⟨⟨hl, rfl, rfl, rfl, rfl, hW, ha, hsc, hl, rfl, hy, trivial⟩, rfl, f2 (by rw [h4, h6, h7]; rfl)⟩) (fun h7 => ⟨⟨hb, hl, rfl, rfl, rfl, rfl, hW, ha, hsc, hl, rfl, hy, trivial⟩, rfl, f3 (by rw [h4, h6, h7]; rfl)⟩)) (fun h6 => ⟨⟨hb, hl, rfl, hy, trivial⟩, rfl, f3 (by rw [h4, h6]; rfl)⟩)
noncomputable def sumWrF : SumA := sumRef fun xs a b c n sc st => match xs with
  | [.one (.c (.int .i64 g)), .one (.c (.int .i64 k)), .one (.ints .u8 p 54)] => some (.one (.c (.bool (wrF a b c n sc st g k p).1)), (wrF a b c n sc st g k p).2, [Bytes st.1, a < 9223372036854775808, U32 sc, p.length = 54])
  | _ => none
theorem sumWrF_ok : SumAOK Tryz.prog 81 sumWrF := by
  refine sumRef_ok ⟨_, Tryz.func81, rfl⟩ (fun xs a b c n sc st v st' ps h hp hl hW => ?_) (fun xs a b c n sc st v st' ps h => ?_)
  · split at h <;> try (cases h; done)
    simp only [Option.some.injEq, Prod.mk.injEq] at h
    obtain ⟨rfl, rfl, rfl⟩ := h
    exact small29 hl hW hp.1 hp.2.1 hp.2.2.1 hp.2.2.2.1
  · split at h <;> try (cases h; done)
    simp only [Option.some.injEq, Prod.mk.injEq] at h
    obtain ⟨rfl, rfl, rfl⟩ := h
    exact ⟨rfl, rfl⟩
end Go.Sx

namespace Go.Sx
open Go.Proofs Go.RowKit
set_option maxRecDepth 100000
/-! ### the reference's Run f31 -/
noncomputable def sgRR : FuncId → Option SumA := fun f => match f with | 80 => some (pureSum fSup) | 84 => some (pureSum fHead) | 82 => some (pureSum fWhere) | 85 => some (sumRdR g28) | 81 => some sumWrF | 83 => some sumInR | _ => none
theorem fitRR : Fit Tryz.prog (fun f => (sgRR f).map toSum) := ⟨fit_ng, fit_mixed, SumAOK.sum fun f sm h => by
  unfold sgRR at h
  split at h
  · cases h; exact fSupR_ok.sum ⟨_, Tryz.func80, rfl⟩
  · cases h; exact fHeadR_ok.sum ⟨_, Tryz.func84, rfl⟩
  · cases h; exact (fWhere_ok 82 refWhere).sum ⟨_, Tryz.func82, rfl⟩
  · cases h; exact sum28
  · cases h; exact sumWrF_ok
  · cases h; exact sumInR_ok
  · cases h⟩
noncomputable def c31 : Code := gB 20
noncomputable def l31 : Code := match gR (tailN 3 c31) with | .block _ (.loop c) => c | _ => .skip
noncomputable def sl31 : T RV := match setArgs 82 [.one (.c (.ptr 0 0))] 0 .nil some with | some t => t | none => .nil
section
variable (a b c : Int) (n : Nat) (sc : Int) (L : List Int) (W : List Bool) (out i : Int)
noncomputable def s31 : S := low 82 3 (fgt [0, 4] 82 ⟨ofL [(0, .one (.c (.ptr 0 0))), (4, .one (.c (.int .i64 i)))], rImg a b c n sc (L, W, out), 3, []⟩)
noncomputable def p31a (Q : X → S → Prop) : Option Prop := execA Tryz.prog sgRR 300 82 (gL c31) ⟨sl31, rImg a b c n sc (L, W, out), 3, []⟩ αT (fun x s α => some (All α.ob ∧ match x with | .ret => False | x => Q x (fgt [0, 2] 82 s)))
noncomputable def s31p (P : List Int) : S := fgt [0, 2] 82 ⟨ofL [(0, .one (.c (.ptr 0 0))), (2, .one (.c (.ptr 3 0)))], ofL [(0, .row 65 false none (.cells [.int .i64 a, .int .i64 b, .int .i64 c, .slu 1 64 0 n, .int .u32 sc, .sl 2 0 n n, .int .i64 out])), (1, .row 95 false (some 64) (.ints .u8 L (64 * n))), (2, .row 4 false none (.bools W n)), (3, .row 59 false none (.ints .u8 P 54))], 4, []⟩
noncomputable def p31b (P : List Int) (Q : X → S → Prop) : Option Prop := execA Tryz.prog sgRR 300 82 (gL (gR c31)) (s31p a b c n sc L W out P) αT (fun x s α => some (All α.ob ∧ match x with | .ret => False | x => Q x (fgt [0, 2] 82 s)))
noncomputable def p31c (P : List Int) (Q : X → S → Prop) : Option Prop := execA Tryz.prog sgRR 300 82 (gL (gR (gR c31))) (s31p a b c n sc L W out P) αT (fun x s α => some (All α.ob ∧ match x with | .ret => False | x => Q x (fgt [0, 2] 82 s)))
noncomputable def p31d (P : List Int) (Q : X → S → Prop) : Option Prop := execA Tryz.prog sgRR 300 82 (gL (tailN 3 c31)) (s31p a b c n sc L W out P) αT (gcQ 3 [] [] [0, 4] 82 [] Q)
theorem p31d_run (P : List Int) (Q : X → S → Prop) : p31d a b c n sc L W out P Q = some (All [] ∧ (true = true ∧ Q .normal (s31 a b c n sc L W out 2))) := by kernel_rfl
noncomputable def t31 (Q : X → S → Prop) : Option Prop := execA Tryz.prog sgRR 300 82 l31 (s31 a b c n sc L W out i) αT (fun x s α => some (All α.ob ∧ match x with | .ret => False | x => Nat.ble 3 s.nx = true ∧ Q x (low 82 3 (fgt [0, 4] 82 s))))
end
end Go.Sx

namespace Go.Sx
open Go.Proofs Go.RowKit
set_option maxRecDepth 100000
noncomputable def p31a_t (a b c : Int) (n : Nat) (sc : Int) (L : List Int) (W : List Bool) (out : Int) (Q : X → S → Prop) : Option Prop := some ((All [] ∧ Q (X.normal) (s31p a b c n sc L W out (over z54 0 (sup a b c)))))
theorem p31a_tree (a b c : Int) (n : Nat) (sc : Int) (L : List Int) (W : List Bool) (out : Int) (Q : X → S → Prop) : p31a a b c n sc L W out Q = p31a_t a b c n sc L W out Q := by kernel_rfl
noncomputable abbrev p31b_x0 (n : Nat) : Nat := 64 * n
noncomputable def p31b_t (a b c : Int) (n : Nat) (sc : Int) (L : List Int) (W : List Bool) (out : Int) (P : List Int) (Q : X → S → Prop) : Option Prop := some ((All [L.length = (p31b_x0 n), (p31b_x0 n) = (p31b_x0 n), n = n, n = n, n = n, W.length = n, Bytes L, a < 9223372036854775808, U32 sc, (List.take 54 (List.drop 0 P)).length = 54] ∧ Q (X.normal) (s31p a b c n sc (wrF a b c n sc (L, W, out) 0 1 (List.take 54 (List.drop 0 P))).2.1 (wrF a b c n sc (L, W, out) 0 1 (List.take 54 (List.drop 0 P))).2.2.1 (wrF a b c n sc (L, W, out) 0 1 (List.take 54 (List.drop 0 P))).2.2.2 P)))
theorem p31b_tree (a b c : Int) (n : Nat) (sc : Int) (L : List Int) (W : List Bool) (out : Int) (P : List Int) (Q : X → S → Prop) : p31b a b c n sc L W out P Q = p31b_t a b c n sc L W out P Q := by kernel_rfl
noncomputable abbrev p31c_x0 (n : Nat) : Nat := 64 * n
noncomputable def p31c_t (a b c : Int) (n : Nat) (sc : Int) (L : List Int) (W : List Bool) (out : Int) (P : List Int) (Q : X → S → Prop) : Option Prop := some ((All [L.length = (p31c_x0 n), (p31c_x0 n) = (p31c_x0 n), n = n, n = n, n = n, W.length = n, Bytes L, a < 9223372036854775808, U32 sc, (List.take 54 (List.drop 0 P)).length = 54] ∧ Q (X.normal) (s31p a b c n sc (wrF a b c n sc (L, W, out) 1 1 (List.take 54 (List.drop 0 P))).2.1 (wrF a b c n sc (L, W, out) 1 1 (List.take 54 (List.drop 0 P))).2.2.1 (wrF a b c n sc (L, W, out) 1 1 (List.take 54 (List.drop 0 P))).2.2.2 P)))
theorem p31c_tree (a b c : Int) (n : Nat) (sc : Int) (L : List Int) (W : List Bool) (out : Int) (P : List Int) (Q : X → S → Prop) : p31c a b c n sc L W out P Q = p31c_t a b c n sc L W out P Q := by kernel_rfl
noncomputable abbrev t31_x0 (a b : Int) (c i : Int) : Int := (pl a b c i).snd.fst
noncomputable abbrev t31_x1 (n : Nat) : Nat := 64 * n
noncomputable abbrev t31_x2 (a b : Int) (c i : Int) : Int := (pl a b c i).fst
noncomputable abbrev t31_x3 (a b : Int) (c i : Int) : List Int := over z54 0 (headB (t31_x0 a b c i))
noncomputable abbrev t31_x4 (a b : Int) (c i : Int) : List Int := List.take 54 (List.drop 0 (t31_x3 a b c i))
noncomputable def t31_t (a b c : Int) (n : Nat) (sc : Int) (L : List Int) (W : List Bool) (out i : Int) (Q : X → S → Prop) : Option Prop := (bif decide (i < (↑n : Int)) then ( (bif !inS a sc (t31_x0 a b c i) then ( some ((All [L.length = (t31_x1 n), (t31_x1 n) = (t31_x1 n), n = n, n = n, n = n, W.length = n, a < 9223372036854775808, U32 sc] ∧ ((true = true) ∧ Q (X.normal) (s31 a b c n sc L W out (IntKind.i64.wrap (i + 1)))))) ) else ( (bif (t31_x2 a b c i) == 0 then ( some ((All [L.length = (t31_x1 n), (t31_x1 n) = (t31_x1 n), n = n, n = n, n = n, W.length = n, a < 9223372036854775808, U32 sc] ∧ ((true = true) ∧ Q (X.normal) (s31 a b c n sc L W out (IntKind.i64.wrap (i + 1)))))) ) else ( (bif (t31_x2 a b c i) == 2 then ( some ((All [L.length = (t31_x1 n), (t31_x1 n) = (t31_x1 n), n = n, n = n, n = n, W.length = n, Bytes L, a < 9223372036854775808, U32 sc, (t31_x4 a b c i).length = 54, L.length = (t31_x1 n), (t31_x1 n) = (t31_x1 n), n = n, n = n, n = n, W.length = n, a < 9223372036854775808, U32 sc] ∧ ((true = true) ∧ Q (X.normal) (s31 a b c n sc (wrF a b c n sc (L, W, out) i 2 (t31_x4 a b c i)).2.1 (wrF a b c n sc (L, W, out) i 2 (t31_x4 a b c i)).2.2.1 (wrF a b c n sc (L, W, out) i 2 (t31_x4 a b c i)).2.2.2 (IntKind.i64.wrap (i + 1)))))) ) else ( (bif !ldOk L n i (t31_x2 a b c i) then ( some ((All [L.length = (t31_x1 n), (t31_x1 n) = (t31_x1 n), n = n, n = n, n = n, W.length = n, Bytes L, a < 9223372036854775808, U32 sc, 54 = 54, L.length = (t31_x1 n), (t31_x1 n) = (t31_x1 n), Bytes L, L.length = (t31_x1 n), (t31_x1 n) = (t31_x1 n), n = n, n = n, n = n, W.length = n, a < 9223372036854775808, U32 sc] ∧ ((true = true) ∧ Q (X.normal) (s31 a b c n sc (wrF a b c n sc (L, W, out) i (t31_x2 a b c i) z54).2.1 (wrF a b c n sc (L, W, out) i (t31_x2 a b c i) z54).2.2.1 (wrF a b c n sc (L, W, out) i (t31_x2 a b c i) z54).2.2.2 (IntKind.i64.wrap (i + 1)))))) ) else ( some ((All [L.length = (t31_x1 n), (t31_x1 n) = (t31_x1 n), Bytes L, L.length = (t31_x1 n), (t31_x1 n) = (t31_x1 n), n = n, n = n, n = n, W.length = n, a < 9223372036854775808, U32 sc] ∧ ((true = true) ∧ Q (X.normal) (s31 a b c n sc L W out (IntKind.i64.wrap (i + 1)))))) )) )) )) )) ) else ( some ((All [] ∧ ((true = true) ∧ Q (X.exit 0) (s31 a b c n sc L W out i)))) ))
theorem t31_tree (a b c : Int) (n : Nat) (sc : Int) (L : List Int) (W : List Bool) (out i : Int) (Q : X → S → Prop) : t31 a b c n sc L W out i Q = t31_t a b c n sc L W out i Q := by kernel_rfl
theorem u8_bytes (x : Int) : 0 ≤ IntKind.u8.wrap x ∧ IntKind.u8.wrap x < 256 := by rw [u8_mod]; omega
theorem Bytes.put32 (t : Int) : Bytes (put32 t) := by
  intro x hx
  unfold Sx.put32 at hx
  simp only [List.mem_cons, List.not_mem_nil, or_false] at hx
  rcases hx with rfl | rfl | rfl | rfl <;> exact u8_bytes _
theorem Bytes.append {x y : List Int} (h : Bytes x) (g : Bytes y) : Bytes (x ++ y) := fun a ha => by
  rcases List.mem_append.1 ha with h1 | h1
  · exact h a h1
  · exact g a h1
theorem Bytes.next {k : Int} {b p : List Int} (hk : mayK k = true) (hp : Bytes p) : Bytes (nextB k b p) := by
  have hk' : 1 ≤ k ∧ k ≤ 6 := by simpa [mayK] using hk
  unfold nextB putB
  rw [hk]
  show Bytes (sealB _ _ _)
  unfold sealB
  refine hp.append (Bytes.append (Bytes.append ?_ (Bytes.put32 _)) (Bytes.put32 _))
  intro x hx
  simp only [List.mem_cons, List.not_mem_nil, or_false] at hx
  rcases hx with rfl | rfl <;> omega
theorem Bytes.over {l x : List Int} (o : Nat) (h : Bytes l) (g : Bytes x) : Bytes (over l o x) := by
  unfold Sx.over
  refine Bytes.append (Bytes.append ?_ g) ?_
  · intro y hy; exact h y (List.mem_of_mem_take hy)
  · intro y hy; exact h y (List.mem_of_mem_drop hy)
/-- what is kept of the reference's image -/
structure RKeep (n : Nat) (st : StR) : Prop where
  len : st.1.length = 64 * n
  wro : st.2.1.length = n
  byt : Bytes st.1
theorem RKeep.wr {a b c : Int} {n : Nat} {sc : Int} {st : StR} {g k : Int} {p : List Int} (h : RKeep n st) (hp : p.length = 54) (hb : Bytes p) : RKeep n (wrF a b c n sc st g k p).2 := by
  unfold wrF
  split
  · rename_i hs
    simp only [Bool.and_eq_true] at hs
    have hh := hasS_iff.1 hs.1
    split
    · exact h
    · split
      · exact ⟨h.len, h.wro, h.byt⟩
      · refine ⟨?_, by simp [h.wro], h.byt.over _ (Bytes.next hs.2 hb)⟩
        show (over st.1 _ _).length = _
        rw [over_len (by rw [nextB_len hp, h.len]; omega)]
        exact h.len
  · exact h
theorem z54_bytes : Bytes z54 := by
  have : ∀ x ∈ z54, (0 : Int) ≤ x ∧ x < 256 := by decide
  exact this
theorem headB_bytes (g : Int) : Bytes (headB g) := by
  unfold headB
  split
  · rename_i h
    unfold inG at h
    simp only [Bool.and_eq_true, decide_eq_true_eq] at h
    intro x hx
    rcases List.mem_cons.1 hx with rfl | hx
    · omega
    · have : ∀ x ∈ (0 :: z52 : List Int), (0 : Int) ≤ x ∧ x < 256 := by decide
      exact this x hx
  · exact z54_bytes
theorem sup_bytes (a b c : Int) : Bytes (sup a b c) := by
  unfold sup
  split
  · rename_i h
    obtain ⟨h1, h2, h3, h4, h5, h6⟩ := geoB_iff.1 h
    intro x hx
    have hz : ∀ x ∈ z44, (0 : Int) ≤ x ∧ x < 256 := by decide
    simp only [List.mem_cons] at hx
    rcases hx with rfl | rfl | rfl | rfl | rfl | rfl | rfl | rfl | rfl | rfl | hx <;> first | exact hz x hx | omega
  · exact z54_bytes
theorem headB_lenR (g : Int) : (headB g).length = 54 := by unfold headB; split <;> rfl
section
variable (a b c : Int) (n : Nat) (sc : Int)
/-- one sector, as the reference sees to it -/
noncomputable def secF (st : StR) (i : Int) : StR :=
  if inS a sc (pl a b c i).2.1 then
    if (pl a b c i).1 == 0 then st
    else if (pl a b c i).1 == 2 then (wrF a b c n sc st i 2 (headB (pl a b c i).2.1)).2
    else if ldOk st.1 n i (pl a b c i).1 then st
    else (wrF a b c n sc st i (pl a b c i).1 z54).2
  else st
noncomputable def secsF : Nat → StR → Int → StR
  | 0, st, _ => st
  | m + 1, st, i => secsF m (secF a b c n sc st i) (i + 1)
noncomputable def runR (st : StR) : StR := secsF a b c n sc (n - 2) (wrF a b c n sc (wrF a b c n sc st 0 1 (sup a b c)).2 1 1 (sup a b c)).2 2
end
section
variable {a b c : Int} {n : Nat} {sc : Int}
theorem RKeep.sec {st : StR} (h : RKeep n st) (i : Int) : RKeep n (secF a b c n sc st i) := by
  unfold secF
  split
  · split
    · exact h
    · split
      · exact h.wr (headB_lenR _) (headB_bytes _)
      · split
        · exact h
        · exact h.wr rfl z54_bytes
  · exact h
theorem nx31 {L : List Int} {W : List Bool} {out i : Int} : (s31 a b c n sc L W out i).nx ≤ 3 := by
  have : (s31 a b c n sc L W out i).nx = 3 := by kernel_rfl
  omega
theorem lp31 (ha : a < 9223372036854775808) (hsc : U32 sc) (hn : n < 9223372036854775807) {Q : X → S → Prop} : ∀ (m : Nat) (i : Int) (st : StR), 0 ≤ i → i + m = n → RKeep n st →
    Q (.exit 0) (s31 a b c n sc (secsF a b c n sc m st i).1 (secsF a b c n sc m st i).2.1 (secsF a b c n sc m st i).2.2 n) → Tr Tryz.prog 82 (.loop l31) (s31 a b c n sc st.1 st.2.1 st.2.2 i) Q
  | 0, i, (L, W, out), h0, hi, hk, hq => by
    obtain rfl : i = n := by simpa using hi
    exact Tr.loop (Tr.treeFL fitRR nx31 (.of_eq (t31_tree ..) (.no (by simp) ⟨trivial, rfl, hq⟩)))
  | m + 1, i, (L, W, out), h0, hi, hk, hq => by
    push_cast at hi
    have hw : IntKind.i64.wrap (i + 1) = i + 1 := IntWalk.i64_in _ (by omega)
    have hl := hk.len
    have hW := hk.wro
    have hy := hk.byt
    have next : ∀ st' : StR, secF a b c n sc (L, W, out) i = st' → Tr Tryz.prog 82 (.loop l31) (s31 a b c n sc st'.1 st'.2.1 st'.2.2 (i + 1)) Q := fun st' e => by
      subst e
      exact lp31 ha hsc hn m (i + 1) _ (by omega) (by omega) (hk.sec i) hq
    refine Tr.loop (Tr.treeFL fitRR nx31 (.of_eq (t31_tree ..) (.yes (by simp; omega) ?_)))
    have e4 : t31_x4 a b c i = headB (pl a b c i).2.1 := by
      show List.take 54 (List.drop 0 (over z54 0 (headB _))) = _
      rw [over_z54 (headB_lenR _)]; exact take_all (headB_lenR _)
    rw [e4, hw]
    refine .fork (fun h1 => ⟨⟨hl, rfl, rfl, rfl, rfl, hW, ha, hsc, trivial⟩, rfl, next (L, W, out) ?_⟩) (fun h1 => .fork (fun h2 => ⟨⟨hl, rfl, rfl, rfl, rfl, hW, ha, hsc, trivial⟩, rfl, next (L, W, out) ?_⟩) (fun h2 => .fork (fun h3 => ⟨⟨hl, rfl, rfl, rfl, rfl, hW, hy, ha, hsc, headB_lenR _, hl, rfl, rfl, rfl, rfl, hW, ha, hsc, trivial⟩, rfl, next (wrF a b c n sc (L, W, out) i 2 (headB (pl a b c i).2.1)).2 ?_⟩)
      (fun h3 => .fork (fun h4 => ⟨⟨hl, rfl, rfl, rfl, rfl, hW, hy, ha, hsc, rfl, hl, rfl, hy, hl, rfl, rfl, rfl, rfl, hW, ha, hsc, trivial⟩, rfl, next (wrF a b c n sc (L, W, out) i (pl a b c i).1 z54).2 ?_⟩) (fun h4 => ⟨⟨hl, rfl, hy, hl, rfl, rfl, rfl, rfl, hW, ha, hsc, trivial⟩, rfl, next (L, W, out) ?_⟩))))
    · unfold secF; rw [show inS a sc (pl a b c i).2.1 = false by simpa using h1]; rfl
    · unfold secF; rw [show inS a sc (pl a b c i).2.1 = true by simpa using h1, h2]; rfl
    · unfold secF; rw [show inS a sc (pl a b c i).2.1 = true by simpa using h1, h2, h3]; rfl
    · unfold secF; rw [show inS a sc (pl a b c i).2.1 = true by simpa using h1, h2, h3, show ldOk (L, W, out).1 n i (pl a b c i).1 = false by simpa using h4]; rfl
    · unfold secF; rw [show inS a sc (pl a b c i).2.1 = true by simpa using h1, h2, h3, show ldOk (L, W, out).1 n i (pl a b c i).1 = true by simpa using h4]; rfl
theorem body31_eq : Tryz.f20.body = some c31 := by kernel_rfl
theorem sl31_ok : setArgs 82 [.one (.c (.ptr 0 0))] 0 .nil some = some sl31 := by kernel_rfl
theorem s31_end {L : List Int} {W : List Bool} {out i : Int} : resOf Tryz.prog 82 (s31 a b c n sc L W out i) Tryz.f20.results.toList = some [] ∧ (s31 a b c n sc L W out i).hp = rImg a b c n sc (L, W, out) ∧ (s31 a b c n sc L W out i).nx = 3 := ⟨by kernel_rfl, by kernel_rfl, by kernel_rfl⟩
theorem small31 {st : StR} (ha : a < 9223372036854775808) (hsc : U32 sc) (h2 : 2 ≤ n) (hn : n < 9223372036854775807) (hk : RKeep n st) :
    SmallC Tryz.prog 20 [.one (.c (.ptr 0 0))] 3 (rImg a b c n sc st) (rImg a b c n sc (runR a b c n sc st)) (.tup []) := by
  obtain ⟨L, W, out⟩ := st
  refine Tr.smallC (fn := Tryz.f20) (c := c31) Tryz.func20 body31_eq (by rw [rImg_eq]; exact top_three) sl31_ok ?_
  have es : List.take 54 (List.drop 0 (over z54 0 (sup a b c))) = sup a b c := by
    rw [over_z54 (sup_len _ _ _)]; exact take_all (sup_len _ _ _)
  have k1 : RKeep n (wrF a b c n sc (L, W, out) 0 1 (sup a b c)).2 := hk.wr (sup_len _ _ _) (sup_bytes _ _ _)
  have k2 : RKeep n (wrF a b c n sc (wrF a b c n sc (L, W, out) 0 1 (sup a b c)).2 1 1 (sup a b c)).2 := k1.wr (sup_len _ _ _) (sup_bytes _ _ _)
  refine Tr.ofTO ?_
  refine TO.seq (c := gL c31) (d := gR c31) (TO.ofTr (Tr.treeF fitRR (.of_eq (p31a_tree ..) (.some' ⟨trivial, ?_⟩))))
  refine TO.seq (c := gL (gR c31)) (d := gR (gR c31)) (TO.ofTr (Tr.treeF fitRR (.of_eq (p31b_tree ..) (.some' ⟨⟨hk.len, rfl, rfl, rfl, rfl, hk.wro, hk.byt, ha, hsc, by rw [es]; exact sup_len _ _ _, trivial⟩, ?_⟩))))
  rw [es]
  refine TO.seq (c := gL (gR (gR c31))) (d := tailN 3 c31) (TO.ofTr (Tr.treeF fitRR (.of_eq (p31c_tree ..) (.some' ⟨⟨k1.len, rfl, rfl, rfl, rfl, k1.wro, k1.byt, ha, hsc, by rw [es]; exact sup_len _ _ _, trivial⟩, ?_⟩))))
  rw [es]
  refine TO.seq (c := gL (tailN 3 c31)) (d := .block 0 (.loop l31)) (TO.tree fitRR (k0 := 3) (keep := [0, 4]) (ord := []) rfl (.of_eq (p31d_run ..) (.some' ⟨trivial, rfl, ?_⟩)))
  refine TO.ofTr (Tr.block (lp31 ha hsc hn (n - 2) 2 _ (by omega) (by omega) k2 ?_))
  exact ⟨.inl rfl, _, s31_end.1, rfl, s31_end.2.1, s31_end.2.2⟩
end
end Go.Sx
