/-
  Parts of the executor Sx over the model's code (any program), or of this seat's walks: words and proofs that the row's text uses.
-/
import Derived.Test.YtfceckiklfkjkaaGreatSxY
import Derived.Test.YtfceckiklfkjkaaGreatG21
namespace Go.Sx
open Go.Proofs Go.RowKit
set_option maxRecDepth 100000
/-! ### the reference's sum: Add f95, Of f76 -/
noncomputable def c95 : Code := gB 254
noncomputable def l95 : Code := gL (gL (gR (gL (gR c95))))
abbrev n95 : Nat := 21
noncomputable def st95 (t : TypeId) (op : Option Nat) (l : List Int) (N off n cap : Nat) (r i : Int) : S := fgt [0, 1, 5] n95 ⟨ofL [(0, .one (.c (.int .u32 r))), (1, .one (.c (.sl 0 off n cap))), (5, .one (.c (.int .i64 i)))], hs118 t op l N, 1, []⟩
noncomputable def it95 (t : TypeId) (op : Option Nat) (l : List Int) (N off n cap : Nat) (r i : Int) (Q : X → S → Prop) : Option Prop := execA Tryz.prog sgC 300 n95 l95 (st95 t op l N off n cap r i) αT fun x s α => some (All α.ob ∧ Q x (fgt [0, 1, 5] n95 s))
theorem it95_tree (t : TypeId) (op : Option Nat) (l : List Int) (N off n cap : Nat) (r i : Int) (Q : X → S → Prop) : it95 t op l N off n cap r i Q =
 (bif decide (i < ↑n) then (bif decide (0 ≤ i ∧ i < ↑n) then (bif decide (off + i.toNat * 1 < N) then
    some ((All [U32 (xor32 r (l.getD (off + i.toNat * 1) 0)), (0 : Int) ≤ 8 ∧ (8 : Int) ≤ 1000000000000] ∧ Q .normal (st95 t op l N off n cap (crc1 r (l.getD (off + i.toNat * 1) 0)) (IntKind.i64.wrap (i + 1)))))
   else none) else none) else some ((All [] ∧ Q (.exit 0) (st95 t op l N off n cap r i)))) := by kernel_rfl
theorem lp95 (t : TypeId) (op : Option Nat) (l : List Int) (N off n cap : Nat) (hl : l.length = N) (hN : off + n ≤ N) (hn : n ≤ 1000000000000) {Q : X → S → Prop} : ∀ (k i : Nat) (r : Int), i + k = n →
    Q (.exit 0) (st95 t op l N off n cap (crcL r ((l.drop (off + i)).take k)) n) → Tr Tryz.prog n95 (.loop l95) (st95 t op l N off n cap r i) Q
  | 0, i, r, hi, hq => by
    obtain rfl : i = n := by omega
    refine Tr.loop (Tr.tree fitC (.of_eq (it95_tree t op l N off i cap r i _) (.no (by simp) ?_)))
    exact ⟨trivial, hq⟩
  | k + 1, i, r, hi, hq => by
    have hw : IntKind.i64.wrap ((i : Int) + 1) = ((i + 1 : Nat) : Int) := by rw [IntWalk.i64_in _ (by omega)]; simp
    have hseg : (l.drop (off + i)).take (k + 1) = l.getD (off + i) 0 :: (l.drop (off + (i + 1))).take k := by
      have hlt : off + i < l.length := by omega
      rw [List.drop_eq_getElem_cons hlt, List.take_succ_cons]
      simp [List.getD, List.getElem?_eq_getElem hlt, Nat.add_assoc]
    rw [hseg] at hq
    refine Tr.loop (Tr.tree fitC (.of_eq (it95_tree t op l N off n cap r i _) (.yes (by simp; omega) (.chk (by simp; omega) (.chk (by simp; omega) ?_)))))
    rw [hw, Int.toNat_natCast, Nat.mul_one]
    exact ⟨⟨wrap_u32_b _, by omega, trivial⟩, lp95 t op l N off n cap hl hN hn k (i + 1) _ (by omega) hq⟩
noncomputable def args95 (off n cap : Nat) (r : Int) : List RV := [.one (.c (.int .u32 r)), .one (.c (.sl 0 off n cap))]
noncomputable def sl95 (off n cap : Nat) (r : Int) : T RV := match setArgs n95 (args95 off n cap r) 0 .nil some with | some t => t | none => .nil
theorem sl95_ok (off n cap : Nat) (r : Int) : setArgs n95 (args95 off n cap r) 0 .nil some = some (sl95 off n cap r) := by kernel_rfl
theorem p95a (t : TypeId) (op : Option Nat) (l : List Int) (N off n cap : Nat) (r : Int) : execA Tryz.prog sgC 300 n95 (gL c95) ⟨sl95 off n cap r, hs118 t op l N, 1, []⟩ ⟨0, [], []⟩ (fun x s α => some (x, fgt [0, 1] n95 s, α.ob))
  = some (.normal, fgt [0, 1] n95 ⟨sl95 off n cap r, hs118 t op l N, 1, []⟩, []) := by kernel_rfl
theorem p95b (t : TypeId) (op : Option Nat) (l : List Int) (N off n cap : Nat) (r : Int) : execA Tryz.prog sgC 300 n95 (gL (gL (gR c95))) (fgt [0, 1] n95 ⟨sl95 off n cap r, hs118 t op l N, 1, []⟩) ⟨0, [], []⟩ (fun x s α => some (x, fgt [0, 1, 5] n95 s, α.ob))
  = some (.normal, st95 t op l N off n cap r 0, []) := by kernel_rfl
theorem p95c (t : TypeId) (op : Option Nat) (l : List Int) (N off n cap : Nat) (r i : Int) (Q : X → Option (List AV) → Prop) : execA Tryz.prog sgC 300 n95 (gR (gR c95)) (st95 t op l N off n cap r i) αT (fun x s α => some (All α.ob ∧ Q x (resOf Tryz.prog n95 s Tryz.f254.results.toList)))
  = some (All [] ∧ Q .ret (some [.c (.int .u32 r)])) := by kernel_rfl
theorem body95_eq : Tryz.f254.body = some c95 := by kernel_rfl
theorem body95 (t : TypeId) (op : Option Nat) (l : List Int) (N off n cap : Nat) (r : Int) (hl : l.length = N) (hN : off + n ≤ N) (hn : n ≤ 1000000000000) :
    Tr Tryz.prog n95 c95 ⟨sl95 off n cap r, hs118 t op l N, 1, []⟩ fun x s1 => (x = .normal ∨ x = .ret) ∧ ∃ L, resOf Tryz.prog n95 s1 Tryz.f254.results.toList = some L ∧ resRV L = .one (.c (.int .u32 (crcL r ((l.drop off).take n)))) := by
  refine Tr.seq (c := gL c95) (d := gR c95) (Tr.path fitC (p95a t op l N off n cap r) trivial ?_)
  refine Tr.seq (c := gL (gR c95)) (d := gR (gR c95)) ?_
  refine Tr.seq (c := gL (gL (gR c95))) (d := .block 0 (.loop l95)) (Tr.path fitC (p95b t op l N off n cap r) trivial ?_)
  refine Tr.block (lp95 t op l N off n cap hl hN hn n 0 r (by omega) ?_)
  exact Tr.treeV fitC (.of_eq (p95c t op l N off n cap _ n (RetV (.one (.c (.int .u32 (crcL r ((l.drop off).take n))))))) (.some' ⟨trivial, .inr rfl, _, rfl, rfl⟩))
/-- a body over one row, to be read alone -/
theorem row_info {f : FuncId} {fn : Func} {c : Code} (hf : Tryz.prog.funcs[f]? = some fn) (hb : fn.body = some c) {args : List RV} {sl : T RV} {v : RV} {t : TypeId} {ro : Bool} {op : Option Nat} {l : List Int} {N nm : Nat} {s : S} (ht : Top s)
    (hh : s.hp.get nm = some (.row t ro op (.ints .u8 l N))) (hi : args.all (inR 1) = true) (hv : flatR v = true)
    (hset : setArgs fn.ntmps args 0 .nil some = some sl)
    (h : Tr Tryz.prog fn.ntmps c ⟨sl, hs118 t op l N, 1, []⟩ fun x s1 => (x = .normal ∨ x = .ret) ∧ ∃ L, resOf Tryz.prog fn.ntmps s1 fn.results.toList = some L ∧ resRV L = v) :
    CallInfo Tryz.prog f (args.map (renR fun _ => nm)) s v s [] :=
  CallInfo.small (P := Tryz.prog) (f := f) (args := args) (v := v) (k := 1) (hs := hs118 t op l N) (θ := fun _ => nm) (s := s) ht ⟨fn, hf, by rw [hb]; rfl⟩
    (Tr.small (fn := fn) (c := c) hf hb (fun nm h => by
      have : ∀ nm, 1 ≤ nm → (hs118 t op l N).get nm = none := fun nm h => by
        show (T.node .nil (some _) .nil : T Blk).get nm = none
        rw [T.get_node, if_neg (by omega)]; split <;> rfl
      exact this nm h) hset h)
    (fun nm' x hx => by
      have hx' : (T.node .nil (some (.row t true op (.ints .u8 l N))) .nil : T Blk).get nm' = some x := hx
      rw [T.get_node] at hx'
      by_cases e : nm' = 0
      · subst e
        rw [if_pos rfl] at hx'
        cases hx'
        exact ⟨by omega, _, hh, RoOf.ints⟩
      · rw [if_neg e] at hx'; split at hx' <;> cases hx')
    hi hv
noncomputable def sumAddR : SumA := fun args hp nx => match args with
  | [.one (.c (.int .u32 r)), .one (.c (.sl nm off n cap))] => match getRow hp.get nm with
    | some (_, _, _, .ints .u8 l N) => some (.one (.c (.int .u32 (crcL r ((l.drop off).take n)))), hp, nx, [], [l.length = N, off + n ≤ N, n ≤ 1000000000000])
    | _ => none
  | _ => none
theorem sumAddR_ok : SumAOK Tryz.prog 254 sumAddR := by
  intro args s v hp nx lg ps ht h hps
  unfold sumAddR at h
  split at h <;> try (cases h; done)
  rename_i r nm off n cap
  split at h <;> try (cases h; done)
  rename_i t ro op l N hrow
  simp only [Option.some.injEq, Prod.mk.injEq] at h
  obtain ⟨rfl, rfl, rfl, rfl, rfl⟩ := h
  obtain ⟨h1, h2, h3, _⟩ := hps
  exact row_info (fn := Tryz.f254) Tryz.func254 body95_eq (args := args95 off n cap r) ht (getRow_some hrow) (by rfl) (by rfl) (sl95_ok off n cap r) (body95 t op l N off n cap r h1 h2 h3)
noncomputable def sgCR : FuncId → Option SumA := fun f => match f with | 254 => some sumAddR | _ => none
theorem fitCR : Fit Tryz.prog (fun f => (sgCR f).map toSum) := ⟨fit_ng, fit_mixed, SumAOK.sum fun f sm h => by
  unfold sgCR at h
  split at h
  · cases h; exact sumAddR_ok
  · cases h⟩
noncomputable def rOf (t : TypeId) (op : Option Nat) (l : List Int) (N off n cap : Nat) : Option (RV × List Prop) := runA Tryz.prog sgCR 300 218 [.one (.c (.sl 0 off n cap))] ⟨.nil, hs118 t op l N, 1, []⟩ ⟨0, [], []⟩ fun v _ α => some (v, α.ob)
theorem of_1 (t : TypeId) (op : Option Nat) (l : List Int) (N off n cap : Nat) : rOf t op l N off n cap = some (.one (.c (.int .u32 (IntKind.u32.wrap (4294967295 - crcL 4294967295 ((l.drop off).take n))))), [l.length = N, off + n ≤ N, n ≤ 1000000000000]) := by kernel_rfl
noncomputable def crcR (l : List Int) : Int := IntKind.u32.wrap (4294967295 - crcL 4294967295 l)
noncomputable def sumOf : SumA := fun args hp nx => match args with
  | [.one (.c (.sl nm off n cap))] => match getRow hp.get nm with
    | some (_, _, _, .ints .u8 l N) => some (.one (.c (.int .u32 (crcR ((l.drop off).take n)))), hp, nx, [], [l.length = N, off + n ≤ N, n ≤ 1000000000000])
    | _ => none
  | _ => none
theorem top_row (t : TypeId) (op : Option Nat) (l : List Int) (N : Nat) : Top ⟨.nil, hs118 t op l N, 1, []⟩ := fun nm h => by
  have : ∀ nm, 1 ≤ nm → (hs118 t op l N).get nm = none := fun nm h => by
    show (T.node .nil (some _) .nil : T Blk).get nm = none
    rw [T.get_node, if_neg (by omega)]; split <;> rfl
  exact this nm h
theorem row_get {t : TypeId} {op : Option Nat} {l : List Int} {N nm' : Nat} {x : Blk} (hx : (hs118 t op l N).get nm' = some x) : nm' = 0 ∧ x = .row t true op (.ints .u8 l N) := by
  have hx' : (T.node .nil (some (.row t true op (.ints .u8 l N))) .nil : T Blk).get nm' = some x := hx
  exact get_one hx'
theorem sumOf_ok : SumAOK Tryz.prog 218 sumOf := by
  intro args s v hp nx lg ps ht h hps
  unfold sumOf at h
  split at h <;> try (cases h; done)
  rename_i nm off n cap
  split at h <;> try (cases h; done)
  rename_i t ro op l N hrow
  simp only [Option.some.injEq, Prod.mk.injEq] at h
  obtain ⟨rfl, rfl, rfl, rfl, rfl⟩ := h
  obtain ⟨h1, h2, h3, _⟩ := hps
  exact CallInfo.small (P := Tryz.prog) (f := 218) (args := [.one (.c (.sl 0 off n cap))]) (k := 1) (hs := hs118 t op l N) (θ := fun _ => nm) (s := s) ht ⟨_, Tryz.func218, rfl⟩
    (small_path fitCR (top_row t op l N) (of_1 t op l N off n cap) ⟨h1, h2, h3, trivial⟩)
    (fun nm' x hx => by obtain ⟨rfl, rfl⟩ := row_get hx; exact ⟨by omega, _, getRow_some hrow, RoOf.ints⟩) (by rfl) (by rfl)
end Go.Sx

namespace Go.Sx
open Go.Proofs Go.RowKit
set_option maxRecDepth 100000
/-! ### the reference's Get f49, Kind f21 -/
noncomputable def sgGR : FuncId → Option SumA := fun f => match f with | 218 => some sumOf | _ => none
theorem fitGR : Fit Tryz.prog (fun f => (sgGR f).map toSum) := ⟨fit_ng, fit_mixed, SumAOK.sum fun f sm h => by
  unfold sgGR at h
  split at h
  · cases h; exact sumOf_ok
  · cases h⟩
noncomputable def rGetR (k : Int) (b : List Int) (Q : RV → Prop) : Option Prop := runA Tryz.prog sgGR 300 156 [.one (.c (.int .i64 k)), .one (.ints .u8 b 64)] s0 αT fun v _ α => some (All α.ob ∧ Q v)
theorem rGetR_tree (k : Int) (b : List Int) (Q : RV → Prop) : rGetR k b Q =
 (bif decide (k ≥ 1) then (
  (bif !decide (k ≤ 6) then (
   some ((All [] ∧ Q (RV.tup [AV.ints IntKind.u8 z54 54, AV.c (Cell.int IntKind.u32 0), AV.c (Cell.int IntKind.i64 2)])))
   ) else (
   (bif IntKind.i64.wrap (b.getD 54 0) != k then (
    some ((All [] ∧ Q (RV.tup [AV.ints IntKind.u8 z54 54, AV.c (Cell.int IntKind.u32 0), AV.c (Cell.int IntKind.i64 21)])))
    ) else (
    (bif IntKind.i64.wrap (b.getD 55 0) != IntKind.i64.wrap (255 - k) then (
     some ((All [] ∧ Q (RV.tup [AV.ints IntKind.u8 z54 54, AV.c (Cell.int IntKind.u32 0), AV.c (Cell.int IntKind.i64 21)])))
     ) else (
     (bif IntKind.u32.wrap
    (IntKind.u64.wrap
      (IntKind.u64.wrap
          (256 *
            IntKind.u64.wrap
              (IntKind.u64.wrap
                  (256 *
                    IntKind.u64.wrap
                      (IntKind.u64.wrap (256 * IntKind.u64.wrap (0 + IntKind.u64.wrap (b.getD 63 0))) +
                        IntKind.u64.wrap (b.getD 62 0))) +
                IntKind.u64.wrap (b.getD 61 0))) +
        IntKind.u64.wrap (b.getD 60 0))) !=
  crcR (List.take 60 (List.drop 0 b)) then (
      some ((All [b.length = 64, 60 ≤ 64, 60 ≤ 1000000000000] ∧ Q (RV.tup [AV.ints IntKind.u8 z54 54, AV.c (Cell.int IntKind.u32 0), AV.c (Cell.int IntKind.i64 21)])))
      ) else (
      some ((All [b.length = 64, 60 ≤ 64, 60 ≤ 1000000000000] ∧ Q (RV.tup
  [AV.ints IntKind.u8
      [b.getD 0 0, b.getD 1 0, b.getD 2 0, b.getD 3 0, b.getD 4 0, b.getD 5 0, b.getD 6 0, b.getD 7 0, b.getD 8 0,
        b.getD 9 0, b.getD 10 0, b.getD 11 0, b.getD 12 0, b.getD 13 0, b.getD 14 0, b.getD 15 0, b.getD 16 0,
        b.getD 17 0, b.getD 18 0, b.getD 19 0, b.getD 20 0, b.getD 21 0, b.getD 22 0, b.getD 23 0, b.getD 24 0,
        b.getD 25 0, b.getD 26 0, b.getD 27 0, b.getD 28 0, b.getD 29 0, b.getD 30 0, b.getD 31 0, b.getD 32 0,
        b.getD 33 0, b.getD 34 0, b.getD 35 0, b.getD 36 0, b.getD 37 0, b.getD 38 0, b.getD 39 0, b.getD 40 0,
        b.getD 41 0, b.getD 42 0, b.getD 43 0, b.getD 44 0, b.getD 45 0, b.getD 46 0, b.getD 47 0, b.getD 48 0,
        b.getD 49 0, b.getD 50 0, b.getD 51 0, b.getD 52 0, b.getD 53 0]
      54,
    AV.c
      (Cell.int IntKind.u32
        (IntKind.u32.wrap
          (IntKind.u64.wrap
            (IntKind.u64.wrap
                (256 *
                  IntKind.u64.wrap
                    (IntKind.u64.wrap
                        (256 *
                          IntKind.u64.wrap
                            (IntKind.u64.wrap (256 * IntKind.u64.wrap (0 + IntKind.u64.wrap (b.getD 59 0))) +
                              IntKind.u64.wrap (b.getD 58 0))) +
                      IntKind.u64.wrap (b.getD 57 0))) +
              IntKind.u64.wrap (b.getD 56 0))))),
    AV.c (Cell.int IntKind.i64 0)])))
      ))
     ))
    ))
   ))
  ) else (
  some ((All [] ∧ Q (RV.tup [AV.ints IntKind.u8 z54 54, AV.c (Cell.int IntKind.u32 0), AV.c (Cell.int IntKind.i64 2)])))
  ))
 := by kernel_rfl

/-- numbers of a byte each -/
def Bytes (b : List Int) : Prop := ∀ x ∈ b, 0 ≤ x ∧ x < 256
theorem wrap_u64 (x : Int) : IntKind.u64.wrap x = x % 18446744073709551616 := by unfold IntKind.wrap; simp [IntKind.bits, IntKind.signed]
theorem Bytes.getD {b : List Int} (h : Bytes b) (i : Nat) : 0 ≤ b.getD i 0 ∧ b.getD i 0 < 256 := by
  by_cases hi : i < b.length
  · rw [show b.getD i 0 = b[i] by simp [List.getD, List.getElem?_eq_getElem hi]]; exact h _ (List.getElem_mem hi)
  · rw [show b.getD i 0 = 0 by simp [List.getD, List.getElem?_eq_none (show b.length ≤ i by omega)]]; decide
/-- four bytes, the least first -/
def num4 (a b c d : Int) : Int := a + 256 * b + 65536 * c + 16777216 * d
theorem ref32 {a b c d : Int} (ha : 0 ≤ a ∧ a < 256) (hb : 0 ≤ b ∧ b < 256) (hc : 0 ≤ c ∧ c < 256) (hd : 0 ≤ d ∧ d < 256) :
    IntKind.u32.wrap (IntKind.u64.wrap (IntKind.u64.wrap (256 * IntKind.u64.wrap (IntKind.u64.wrap (256 * IntKind.u64.wrap (IntKind.u64.wrap (256 * IntKind.u64.wrap (0 + IntKind.u64.wrap d)) + IntKind.u64.wrap c)) + IntKind.u64.wrap b)) + IntKind.u64.wrap a)) = num4 a b c d := by
  simp only [wrap_u64, wrap_u32, num4]; omega
theorem le32_num {a b c d : Int} (ha : 0 ≤ a ∧ a < 256) (hb : 0 ≤ b ∧ b < 256) (hc : 0 ≤ c ∧ c < 256) (hd : 0 ≤ d ∧ d < 256) : le32 a b c d = num4 a b c d := by
  unfold le32 num4
  rw [(shl_eq ha).1, (shl_eq hb).2.1, (shl_eq hc).2.2.1, (shl_eq hd).2.2.2]
  exact or4 ha hb hc hd
theorem num4_u32 {a b c d : Int} (ha : 0 ≤ a ∧ a < 256) (hb : 0 ≤ b ∧ b < 256) (hc : 0 ≤ c ∧ c < 256) (hd : 0 ≤ d ∧ d < 256) : U32 (num4 a b c d) := by unfold num4; constructor <;> omega
theorem put32_eq {t : Int} (h : U32 t) : put32 t = [t % 256, t / 256 % 256, t / 65536 % 256, t / 16777216 % 256] := by
  obtain ⟨h0, h1, h2, h3⟩ := put_bytes h
  unfold put32; rw [h0, h1, h2, h3]
theorem put32_num {a b c d : Int} (ha : 0 ≤ a ∧ a < 256) (hb : 0 ≤ b ∧ b < 256) (hc : 0 ≤ c ∧ c < 256) (hd : 0 ≤ d ∧ d < 256) : put32 (num4 a b c d) = [a, b, c, d] := by
  rw [put32_eq (num4_u32 ha hb hc hd)]
  unfold num4
  refine congr (congrArg _ ?_) (congr (congrArg _ ?_) (congr (congrArg _ ?_) (congr (congrArg _ ?_) rfl))) <;> omega
theorem put32_inj {t a b c d : Int} (h : U32 t) : put32 t = [a, b, c, d] → t = num4 a b c d := by
  rw [put32_eq h]
  intro e
  injection e with e0 e
  injection e with e1 e
  injection e with e2 e
  injection e with e3 e
  obtain ⟨h1, h2⟩ := h
  unfold num4
  omega
theorem crc_same (l : List Int) : crcOf l = crcR l := by
  have h : U32 (crcL 4294967295 l) := crcL_b ⟨by decide, by decide⟩ l
  unfold crcOf crcR
  revert h
  generalize crcL 4294967295 l = x
  intro h
  have e : (BitVec.ofInt 32 4294967295 ^^^ BitVec.ofInt 32 x).toNat = 4294967295 - x.toNat := by
    have : (BitVec.ofInt 32 4294967295 : BitVec 32) = BitVec.allOnes 32 := by decide
    rw [this, BitVec.allOnes_xor, BitVec.toNat_not, bv_nat h]
  rw [e, wrap_u32, wrap_u32]
  obtain ⟨h1, h2⟩ := h
  omega
theorem ten {b : List Int} (hb : b.length = 64) : ∃ p x0 x1 x2 x3 x4 x5 x6 x7 x8 x9, p.length = 54 ∧ b = p ++ [x0, x1, x2, x3, x4, x5, x6, x7, x8, x9] := by
  have h : (b.drop 54).length = 10 := by simp [hb]
  match hd : b.drop 54, h with
  | [x0, x1, x2, x3, x4, x5, x6, x7, x8, x9], _ => exact ⟨b.take 54, x0, x1, x2, x3, x4, x5, x6, x7, x8, x9, by simp [hb], by rw [← hd, List.take_append_drop]⟩
/-- right, as the document says it -/
noncomputable def isR (k : Int) (b : List Int) : Bool := mayK k && (b.getD 54 0 == k && (b.getD 55 0 == 255 - k && num4 (b.getD 60 0) (b.getD 61 0) (b.getD 62 0) (b.getD 63 0) == crcR (b.take 60)))
theorem isR_isB {k : Int} {b : List Int} (hb : b.length = 64) (hy : Bytes b) : isR k b = isB k b := by
  unfold isR isB
  cases hk : mayK k with
  | false => rfl
  | true =>
    simp only [Bool.true_and]
    have e54 : b54 b = b.getD 54 0 := by
      have := hy.getD 54
      show IntKind.i64.wrap (b.getD 54 0) = _
      exact IntWalk.i64_in _ (by omega)
    rw [e54]
    cases h0 : (b.getD 54 0 == k) with
    | false => rfl
    | true =>
      have hk' := hk
      simp only [mayK, Bool.and_eq_true, decide_eq_true_eq] at hk'
      simp only [Bool.true_and]
      have h0' : b.getD 54 0 = k := by simpa using h0
      unfold rightB
      rw [e54, h0', show putE k = 0 by unfold putE; rw [hk]; rfl, show ((0 : Int) == 0) = true from rfl, Bool.true_and]
      rw [show putB k (turnB b) (t54 b) = sealB k (turnB b) (t54 b) by unfold putB; rw [hk]; rfl]
      obtain ⟨p, x0, x1, x2, x3, x4, x5, x6, x7, x8, x9, hp, rfl⟩ := ten hb
      have g : ∀ i, (p ++ [x0, x1, x2, x3, x4, x5, x6, x7, x8, x9]).getD (54 + i) 0 = [x0, x1, x2, x3, x4, x5, x6, x7, x8, x9].getD i 0 := fun i => getD_app hp
      have y0 := g 0; have y1 := g 1; have y2 := g 2; have y3 := g 3; have y4 := g 4; have y5 := g 5; have y6 := g 6; have y7 := g 7; have y8 := g 8; have y9 := g 9
      simp only [Nat.add_zero, List.getD_cons_zero, List.getD_cons_succ, Nat.reduceAdd] at y0 y1 y2 y3 y4 y5 y6 y7 y8 y9
      have B0 := hy.getD 54; have B1 := hy.getD 55; have B2 := hy.getD 56; have B3 := hy.getD 57; have B4 := hy.getD 58; have B5 := hy.getD 59; have B6 := hy.getD 60; have B7 := hy.getD 61; have B8 := hy.getD 62; have B9 := hy.getD 63
      rw [y0] at B0 h0'; rw [y1] at B1; rw [y2] at B2; rw [y3] at B3; rw [y4] at B4; rw [y5] at B5; rw [y6] at B6; rw [y7] at B7; rw [y8] at B8; rw [y9] at B9
      subst h0'
      have ht : turnB (p ++ [x0, x1, x2, x3, x4, x5, x6, x7, x8, x9]) = num4 x2 x3 x4 x5 := by
        unfold turnB
        simp only [Nat.zero_add, Nat.mul_one]
        rw [y2, y3, y4, y5]
        exact le32_num B2 B3 B4 B5
      have h5 : t54 (p ++ [x0, x1, x2, x3, x4, x5, x6, x7, x8, x9]) = p := by
        show ((p ++ _).drop 0).take 54 = p
        rw [List.drop_zero, List.take_left' hp]
      have h6 : (p ++ [x0, x1, x2, x3, x4, x5, x6, x7, x8, x9]).take 60 = p ++ [x0, x1, x2, x3, x4, x5] := by
        rw [show (p ++ [x0, x1, x2, x3, x4, x5, x6, x7, x8, x9]) = (p ++ [x0, x1, x2, x3, x4, x5]) ++ [x6, x7, x8, x9] by simp, List.take_left' (by simp [hp])]
      rw [ht, h5, h6, y1, y6, y7, y8, y9]
      unfold sealB sealH
      rw [put32_num B2 B3 B4 B5, crc_same]
      rw [Bool.eq_iff_iff]
      simp only [Bool.and_eq_true, beq_iff_eq, List.append_cancel_left_eq]
      have hu : U32 (crcR (p ++ [x0, x1, x2, x3, x4, x5])) := by unfold crcR; exact wrap_u32_b _
      constructor
      · rintro ⟨e1, e2⟩
        subst e1
        show [x0, 255 - x0] ++ [x2, x3, x4, x5] ++ put32 (crcR (p ++ ([x0, 255 - x0] ++ [x2, x3, x4, x5]))) = _
        have e3 : crcR (p ++ ([x0, 255 - x0] ++ [x2, x3, x4, x5])) = num4 x6 x7 x8 x9 := e2.symm
        rw [e3, put32_num B6 B7 B8 B9]
        rfl
      · intro e
        have e' : x0 :: (255 - x0) :: x2 :: x3 :: x4 :: x5 :: put32 (crcR (p ++ ([x0, 255 - x0] ++ [x2, x3, x4, x5]))) = [x0, x1, x2, x3, x4, x5, x6, x7, x8, x9] := e
        injection e' with _ e'
        injection e' with e1 e'
        injection e' with _ e'
        injection e' with _ e'
        injection e' with _ e'
        injection e' with _ e'
        subst e1
        exact ⟨rfl, (put32_inj hu e').symm⟩
theorem b54_list {b : List Int} (hb : b.length = 64) : [b.getD 0 0, b.getD 1 0, b.getD 2 0, b.getD 3 0, b.getD 4 0, b.getD 5 0, b.getD 6 0, b.getD 7 0, b.getD 8 0, b.getD 9 0, b.getD 10 0, b.getD 11 0, b.getD 12 0, b.getD 13 0, b.getD 14 0, b.getD 15 0, b.getD 16 0, b.getD 17 0, b.getD 18 0, b.getD 19 0, b.getD 20 0, b.getD 21 0, b.getD 22 0, b.getD 23 0, b.getD 24 0, b.getD 25 0, b.getD 26 0, b.getD 27 0, b.getD 28 0, b.getD 29 0, b.getD 30 0, b.getD 31 0, b.getD 32 0, b.getD 33 0, b.getD 34 0, b.getD 35 0, b.getD 36 0, b.getD 37 0, b.getD 38 0, b.getD 39 0, b.getD 40 0, b.getD 41 0, b.getD 42 0, b.getD 43 0, b.getD 44 0, b.getD 45 0, b.getD 46 0, b.getD 47 0, b.getD 48 0, b.getD 49 0, b.getD 50 0, b.getD 51 0, b.getD 52 0, b.getD 53 0] = t54 b := by
  have h : (List.range 54).map (fun i => b.getD i 0) = t54 b := by
    apply List.ext_getElem
    · simp [hb]
    · intro i h1 h2
      have hi : i < 54 := by simpa using h1
      simp [List.getD, List.getElem?_eq_getElem (show i < b.length by omega)]
  exact h
noncomputable def fGetR (args : List RV) : Option (RV × List Prop) := match args with
  | [.one (.c (.int .i64 kind)), .one (.ints .u8 b 64)] => some (.tup [.ints .u8 (getP kind b) 54, .c (.int .u32 (getT kind b)), .c (.int .i64 (getE kind b))], [Bytes b])
  | _ => none
theorem fGetR_ok : PureOK Tryz.prog 156 fGetR := by
  intro args v ps h hp ρ w vs ha
  unfold fGetR at h
  split at h <;> try (cases h; done)
  rename_i k b
  simp only [Option.some.injEq, Prod.mk.injEq] at h
  obtain ⟨rfl, rfl⟩ := h
  obtain ⟨hy, _⟩ := hp
  have hb : b.length = 64 := by obtain ⟨_, _, _, ⟨_, _, h, _⟩, _⟩ := ha; exact h.1
  refine pure_tree fitGR (by rfl) (by rfl) (.of_eq (rGetR_tree k b _) ?_) ρ w vs ha
  have e54 : IntKind.i64.wrap (b.getD 54 0) = b.getD 54 0 := by
    have := hy.getD 54
    exact IntWalk.i64_in _ (by omega)
  have e55 : IntKind.i64.wrap (b.getD 55 0) = b.getD 55 0 := by
    have := hy.getD 55
    exact IntWalk.i64_in _ (by omega)
  have he := isR_isB (k := k) hb hy
  unfold isR at he
  have hA : All [b.length = 64, 60 ≤ 64, 60 ≤ 1000000000000] := ⟨hb, by decide, by decide, trivial⟩
  refine .fork (fun h1 => ?_) (fun h1 => ?_)
  · refine .fork (fun h2 => ?_) (fun h2 => ?_)
    · have hk : mayK k = false := by simp [mayK] at h1 h2 ⊢; omega
      refine ⟨trivial, ?_⟩
      unfold getP getT getE isB; rw [hk]; rfl
    · have hk : mayK k = true := by simp [mayK] at h1 h2 ⊢; omega
      have hk' : 1 ≤ k ∧ k ≤ 6 := by simpa [mayK] using hk
      rw [hk, Bool.true_and] at he
      have e255 : IntKind.i64.wrap (255 - k) = 255 - k := IntWalk.i64_in _ (by omega)
      have no : ∀ {q : Bool}, isB k b = false → (RV.tup [AV.ints IntKind.u8 z54 54, AV.c (Cell.int IntKind.u32 0), AV.c (Cell.int IntKind.i64 21)]) = .tup [.ints .u8 (getP k b) 54, .c (.int .u32 (getT k b)), .c (.int .i64 (getE k b))] := fun hn => by
        unfold getP getT getE; rw [hk, hn]; rfl
      refine .fork (fun h3 => ⟨trivial, no (q := true) ?_⟩) (fun h3 => ?_)
      · rw [← he]; rw [e54] at h3; simp at h3 ⊢; intro h; exact absurd h h3
      · rw [e54] at h3
        refine .fork (fun h4 => ⟨trivial, no (q := true) ?_⟩) (fun h4 => ?_)
        · rw [← he]; rw [e55, e255] at h4; simp at h4 ⊢; intro _ h; exact absurd h h4
        · rw [e55, e255] at h4
          rw [ref32 (hy.getD 60) (hy.getD 61) (hy.getD 62) (hy.getD 63), List.drop_zero]
          refine .fork (fun h5 => ⟨hA, no (q := true) ?_⟩) (fun h5 => ⟨hA, ?_⟩)
          · rw [← he]; simp at h5 ⊢; intro _ _ h; exact absurd h h5
          · have hi : isB k b = true := by
              rw [← he]; simp at h3 h4 h5 ⊢; exact ⟨h3, h4, h5⟩
            rw [b54_list hb, ref32 (hy.getD 56) (hy.getD 57) (hy.getD 58) (hy.getD 59)]
            unfold getP getT getE; rw [hk, hi]
            have : turnB b = num4 (b.getD 56 0) (b.getD 57 0) (b.getD 58 0) (b.getD 59 0) := le32_num (hy.getD 56) (hy.getD 57) (hy.getD 58) (hy.getD 59)
            rw [this]; rfl
  · have hk : mayK k = false := by simp [mayK] at h1 ⊢; omega
    refine ⟨trivial, ?_⟩
    unfold getP getT getE isB; rw [hk]; rfl
noncomputable def sgKd : FuncId → Option SumA := fun f => match f with | 156 => some (pureSum fGetR) | _ => none
theorem fitKd : Fit Tryz.prog (fun f => (sgKd f).map toSum) := ⟨fit_ng, fit_mixed, SumAOK.sum fun f sm h => by
  unfold sgKd at h
  split at h
  · cases h; exact fGetR_ok.sum ⟨_, Tryz.func156, rfl⟩
  · cases h⟩
noncomputable def rKind (b : List Int) (Q : RV → Prop) : Option Prop := runA Tryz.prog sgKd 300 220 [.one (.ints .u8 b 64)] s0 αT fun v _ α => some (All α.ob ∧ Q v)
theorem rKind_tree (b : List Int) (Q : RV → Prop) : rKind b Q =
 (bif getE 1 (List.take 64 (List.drop 0 b)) == 0 then (
  some ((All [Bytes (List.take 64 (List.drop 0 b))] ∧ Q (RV.one (AV.c (Cell.int IntKind.i64 1)))))
  ) else (
  (bif getE 2 (List.take 64 (List.drop 0 b)) == 0 then (
   some ((All [Bytes (List.take 64 (List.drop 0 b)), Bytes (List.take 64 (List.drop 0 b))] ∧ Q (RV.one (AV.c (Cell.int IntKind.i64 2)))))
   ) else (
   (bif getE 3 (List.take 64 (List.drop 0 b)) == 0 then (
    some ((All [Bytes (List.take 64 (List.drop 0 b)), Bytes (List.take 64 (List.drop 0 b)), Bytes (List.take 64 (List.drop 0 b))] ∧ Q (RV.one (AV.c (Cell.int IntKind.i64 3)))))
    ) else (
    (bif getE 4 (List.take 64 (List.drop 0 b)) == 0 then (
     some ((All [Bytes (List.take 64 (List.drop 0 b)), Bytes (List.take 64 (List.drop 0 b)), Bytes (List.take 64 (List.drop 0 b)), Bytes (List.take 64 (List.drop 0 b))] ∧ Q (RV.one (AV.c (Cell.int IntKind.i64 4)))))
     ) else (
     (bif getE 5 (List.take 64 (List.drop 0 b)) == 0 then (
      some ((All [Bytes (List.take 64 (List.drop 0 b)), Bytes (List.take 64 (List.drop 0 b)), Bytes (List.take 64 (List.drop 0 b)), Bytes (List.take 64 (List.drop 0 b)), Bytes (List.take 64 (List.drop 0 b))] ∧ Q (RV.one (AV.c (Cell.int IntKind.i64 5)))))
      ) else (
      (bif getE 6 (List.take 64 (List.drop 0 b)) == 0 then (
       some ((All [Bytes (List.take 64 (List.drop 0 b)), Bytes (List.take 64 (List.drop 0 b)), Bytes (List.take 64 (List.drop 0 b)), Bytes (List.take 64 (List.drop 0 b)), Bytes (List.take 64 (List.drop 0 b)), Bytes (List.take 64 (List.drop 0 b))] ∧ Q (RV.one (AV.c (Cell.int IntKind.i64 6)))))
       ) else (
       some ((All [Bytes (List.take 64 (List.drop 0 b)), Bytes (List.take 64 (List.drop 0 b)), Bytes (List.take 64 (List.drop 0 b)), Bytes (List.take 64 (List.drop 0 b)), Bytes (List.take 64 (List.drop 0 b)), Bytes (List.take 64 (List.drop 0 b))] ∧ Q (RV.one (AV.c (Cell.int IntKind.i64 0)))))
       ))
      ))
     ))
    ))
   ))
  ))
 := by kernel_rfl

/-- of which kind it is right; 0: of none -/
noncomputable def kindB (b : List Int) : Int := if rightB b then b54 b else 0
theorem getE_is {k : Int} {b : List Int} (hk : mayK k = true) : (getE k b == 0) = isB k b := by
  unfold getE; rw [hk]; cases isB k b <;> rfl
theorem right_may {b : List Int} (h : rightB b = true) : mayK (b54 b) = true := by
  unfold rightB at h
  simp only [Bool.and_eq_true] at h
  unfold putE at h
  cases hk : mayK (b54 b) with
  | true => rfl
  | false => rw [hk] at h; simp at h
theorem isB_kind {k : Int} {b : List Int} (hk : mayK k = true) : isB k b = (kindB b == k) := by
  have hk' : 1 ≤ k ∧ k ≤ 6 := by simpa [mayK] using hk
  unfold isB kindB
  rw [hk, Bool.true_and]
  cases rightB b with
  | true => simp
  | false => simp; omega
theorem kindB_range (b : List Int) : 0 ≤ kindB b ∧ kindB b ≤ 6 := by
  unfold kindB
  split
  · rename_i h
    have := right_may h
    simp [mayK] at this
    omega
  · omega
noncomputable def fKind (args : List RV) : Option (RV × List Prop) := match args with
  | [.one (.ints .u8 b 64)] => some (.one (.c (.int .i64 (kindB b))), [Bytes b])
  | _ => none
theorem fKind_ok : PureOK Tryz.prog 220 fKind := by
  intro args v ps h hp ρ w vs ha
  unfold fKind at h
  split at h <;> try (cases h; done)
  rename_i b
  simp only [Option.some.injEq, Prod.mk.injEq] at h
  obtain ⟨rfl, rfl⟩ := h
  obtain ⟨hy, _⟩ := hp
  have hb : b.length = 64 := args1_len ha
  refine pure_tree fitKd (by rfl) (by rfl) (.of_eq (rKind_tree b _) ?_) ρ w vs ha
  rw [take_all hb]
  have k1 : ∀ k, mayK k = true → (getE k b == 0) = (kindB b == k) := fun k hk => by rw [getE_is hk, isB_kind hk]
  rw [k1 1 rfl, k1 2 rfl, k1 3 rfl, k1 4 rfl, k1 5 rfl, k1 6 rfl]
  have yes : ∀ {k : Int}, (kindB b == k) = true → RV.one (AV.c (Cell.int IntKind.i64 k)) = RV.one (AV.c (Cell.int IntKind.i64 (kindB b))) := fun h => by
    have := eq_of_beq h
    rw [this]
  refine .fork (fun h => ⟨⟨hy, trivial⟩, yes h⟩) (fun h1 => ?_)
  refine .fork (fun h => ⟨⟨hy, hy, trivial⟩, yes h⟩) (fun h2 => ?_)
  refine .fork (fun h => ⟨⟨hy, hy, hy, trivial⟩, yes h⟩) (fun h3 => ?_)
  refine .fork (fun h => ⟨⟨hy, hy, hy, hy, trivial⟩, yes h⟩) (fun h4 => ?_)
  refine .fork (fun h => ⟨⟨hy, hy, hy, hy, hy, trivial⟩, yes h⟩) (fun h5 => ?_)
  refine .fork (fun h => ⟨⟨hy, hy, hy, hy, hy, hy, trivial⟩, yes h⟩) (fun h6 => ⟨⟨hy, hy, hy, hy, hy, hy, trivial⟩, yes ?_⟩)
  have := kindB_range b
  simp at h1 h2 h3 h4 h5 h6 ⊢
  omega
end Go.Sx

namespace Go.Sx
open Go.Proofs Go.RowKit
set_option maxRecDepth 100000
/-! ### what changes an image, as a summary -/
noncomputable def sumImg (G : List RV → Int → Int → Int → Nat → Int → St → Option (RV × St × List Prop)) : SumA := fun args hp nx => match args with
  | .one (.c (.ptr nm 0)) :: xs => match imgWr hp.get nm with
    | some (a, b, c, L, N, n, sc, out, l, nl, nw) =>
      match Nat.blt nm nx, Nat.blt nl nx, Nat.blt nw nx with
      | true, true, true => match G xs a b c n sc (L, l, out) with
        | some (v, st, ps) =>
          T.set depth hp nw (some (.mapI none l)) fun hp =>
          T.set depth hp nm (some (.row 113 false none (.cells [.int .i64 a, .int .i64 b, .int .i64 c, .slu nl 64 0 n, .int .u32 sc, .map nw, .int .i64 st.2.2]))) fun hp =>
          T.set depth hp nl (some (.row 95 false (some 64) (.ints .u8 st.1 N))) fun hp =>
          T.set depth hp nw (some (.mapI none st.2.1)) fun hp =>
          some (v, hp, nx, [nm, nl, nw], (L.length = N) :: (N = 64 * n) :: ps)
        | none => none
      | _, _, _ => none
    | none => none
  | _ => none
theorem renA_flat {θ : Nat → Nat} {x : AV} (h : flatA x = true) : renA θ x = x := by
  cases x with
  | c x => cases x <;> first | (cases h; done) | rfl
  | agg l =>
    simp only [renA]
    congr 1
    refine (List.map_congr_left fun c hc => ?_).trans (List.map_id l)
    have := List.all_eq_true.1 h c hc
    cases c <;> first | (cases this; done) | rfl
  | ints => rfl
theorem renR_flat {θ : Nat → Nat} {x : RV} (h : flatR x = true) : renR θ x = x := by
  cases x with
  | one x => simp only [renR]; rw [renA_flat h]
  | tup l =>
    simp only [renR]
    congr 1
    exact (List.map_congr_left fun c hc => renA_flat (List.all_eq_true.1 h c hc)).trans (List.map_id l)
  | any => rfl
theorem inA_flat {k : Nat} {x : AV} (h : flatA x = true) : inA k x = true := by
  cases x with
  | c x => cases x <;> first | (cases h; done) | rfl
  | agg l =>
    refine List.all_eq_true.2 fun c hc => ?_
    have := List.all_eq_true.1 h c hc
    cases c <;> first | (cases this; done) | rfl
  | ints => rfl
theorem inR_flat {k : Nat} {x : RV} (h : flatR x = true) : inR k x = true := by
  cases x with
  | one x => exact inA_flat h
  | tup l => exact List.all_eq_true.2 fun c hc => inA_flat (List.all_eq_true.1 h c hc)
  | any => rfl
theorem sumImg_ok {f : FuncId} (hfn : ∃ fn, Tryz.prog.funcs[f]? = some fn ∧ fn.body.isNone = false) {G : List RV → Int → Int → Int → Nat → Int → St → Option (RV × St × List Prop)}
    (hG : ∀ xs a b c n sc st v st' ps, G xs a b c n sc st = some (v, st', ps) → All ps → st.1.length = 64 * n → SmallC Tryz.prog f (.one (.c (.ptr 0 0)) :: xs) 3 (imgT a b c n sc st) (imgT a b c n sc st') v)
    (hx : ∀ xs a b c n sc st v st' ps, G xs a b c n sc st = some (v, st', ps) → xs.all flatR = true ∧ flatR v = true) : SumAOK Tryz.prog f (sumImg G) := by
  intro args s v hp nx lg ps ht h hps
  unfold sumImg at h
  split at h <;> try (cases h; done)
  rename_i nm xs
  split at h <;> try (cases h; done)
  rename_i a b c L N n sc out l nl nw hi
  split at h <;> try (cases h; done)
  rename_i b1 b2 b3
  split at h <;> try (cases h; done)
  rename_i v1 st ps1 hg
  obtain ⟨h1, h2, h3⟩ := imgWr_ok hi
  have n1 : nm < s.nx := blt_lt b1
  have n2 : nl < s.nx := blt_lt b2
  have n3 : nw < s.nx := blt_lt b3
  have d1 : nm ≠ nl := fun e => by subst e; rw [h1] at h2; cases h2
  have d2 : nm ≠ nw := fun e => by subst e; rw [h1] at h3; rcases h3 with h3 | ⟨_, h3⟩ <;> cases h3
  have d3 : nl ≠ nw := fun e => by subst e; rw [h2] at h3; rcases h3 with h3 | ⟨_, h3⟩ <;> cases h3
  obtain ⟨t0, h, q0⟩ := T.set_ok _ _ _ _ _ _ h
  obtain ⟨t1, h, q1⟩ := T.set_ok _ _ _ _ _ _ h
  obtain ⟨t2, h, q2⟩ := T.set_ok _ _ _ _ _ _ h
  obtain ⟨t3, h, q3⟩ := T.set_ok _ _ _ _ _ _ h
  simp only [Option.some.injEq, Prod.mk.injEq] at h
  obtain ⟨rfl, rfl, rfl, rfl, rfl⟩ := h
  obtain ⟨hl, hN, hps⟩ := hps
  subst hN
  obtain ⟨hfx, hfv⟩ := hx _ _ _ _ _ _ _ _ _ _ hg
  have ht0 : Top { s with hp := t0 } := fun j hj => by
    show t0.get j = none
    have : s.nx ≤ j := hj
    rw [q0 j, if_neg (by omega)]
    exact ht j hj
  have g1 : t0.get nm = _ := (q0 nm).trans ((if_neg d2).trans h1)
  have g2 : t0.get nl = _ := (q0 nl).trans ((if_neg d3).trans h2)
  have g3 : t0.get nw = some (.mapI none l) := (q0 nw).trans (if_pos rfl)
  have hget : ∀ j, t3.get j = if j = nw then some (.mapI none st.2.1) else if j = nl then some (.row 95 false (some 64) (.ints .u8 st.1 (64 * n))) else if j = nm then some (.row 113 false none (.cells [.int .i64 a, .int .i64 b, .int .i64 c, .slu nl 64 0 n, .int .u32 sc, .map nw, .int .i64 st.2.2])) else t0.get j := fun j => by
    rw [q3 j, q2 j, q1 j]
  let θ : Nat → Nat := fun i => if i = 0 then nm else if i = 1 then nl else nw
  have ex : xs.map (renR θ) = xs := (List.map_congr_left fun c hc => renR_flat (List.all_eq_true.1 hfx c hc)).trans (List.map_id xs)
  have ea : ((.one (.c (.ptr 0 0)) : RV) :: xs).map (renR θ) = .one (.c (.ptr nm 0)) :: xs := by
    rw [List.map_cons, ex]; rfl
  have hC : SmallC Tryz.prog f (.one (.c (.ptr 0 0)) :: xs) 3 (imgT a b c n sc (L, l, out)) (imgT a b c n sc st) v1 := hG _ _ _ _ _ _ _ _ _ _ hg hps hl
  have := CallInfo.frame (P := Tryz.prog) (f := f) (θ := θ) (s := { s with hp := t0 }) (hp' := t3) (Lw := [nm, nl, nw]) ht0 hfn hC
    (List.all_eq_true.2 fun c hc => by
      rcases List.mem_cons.1 hc with rfl | hc
      · rfl
      · exact inR_flat (List.all_eq_true.1 hfx c hc))
    (fun i x hx => by
      rw [imgT, imgW_eq] at hx
      rcases get_three hx with ⟨rfl, rfl⟩ | ⟨rfl, rfl⟩ | ⟨rfl, rfl⟩
      · exact ⟨by omega, rfl, rfl, n1, g1⟩
      · exact ⟨by omega, rfl, rfl, n2, g2⟩
      · exact ⟨by omega, rfl, rfl, n3, g3⟩)
    (fun i j x y hx hy he => by
      rw [imgT, imgW_eq] at hx hy
      rcases get_three hx with ⟨rfl, _⟩ | ⟨rfl, _⟩ | ⟨rfl, _⟩ <;> rcases get_three hy with ⟨rfl, _⟩ | ⟨rfl, _⟩ | ⟨rfl, _⟩ <;> first | rfl | exact absurd he d1 | exact absurd he d2 | exact absurd he d3 | exact absurd he.symm d1 | exact absurd he.symm d2 | exact absurd he.symm d3)
    (fun j hj => by
      have j0 := hj 0 _ (by rw [imgT, imgW_eq]; rfl)
      have j1 := hj 1 _ (by rw [imgT, imgW_eq]; rfl)
      have j2 := hj 2 _ (by rw [imgT, imgW_eq]; rfl)
      rw [hget, if_neg (fun e => j2 e.symm), if_neg (fun e => j1 e.symm), if_neg (fun e => j0 e.symm)])
    (fun i x hx => by
      rw [imgT, imgW_eq] at hx
      rw [hget, imgT, imgW_eq]
      rcases get_three hx with ⟨rfl, rfl⟩ | ⟨rfl, rfl⟩ | ⟨rfl, rfl⟩
      · rw [if_neg (show θ 0 ≠ nw from d2), if_neg (show θ 0 ≠ nl from d1), if_pos (show θ 0 = nm from rfl)]; rfl
      · rw [if_neg (show θ 1 ≠ nw from d3), if_pos (show θ 1 = nl from rfl)]; rfl
      · rw [if_pos (show θ 2 = nw from rfl)]; rfl)
    (fun j => by
      constructor
      · intro hj
        rcases List.mem_cons.1 hj with rfl | hj
        · exact ⟨0, _, by rw [imgT, imgW_eq]; rfl, rfl⟩
        · rcases List.mem_cons.1 hj with rfl | hj
          · exact ⟨1, _, by rw [imgT, imgW_eq]; rfl, rfl⟩
          · rcases List.mem_cons.1 hj with rfl | hj
            · exact ⟨2, _, by rw [imgT, imgW_eq]; rfl, rfl⟩
            · cases hj
      · rintro ⟨i, x, hx, rfl⟩
        rw [imgT, imgW_eq] at hx
        rcases get_three hx with ⟨rfl, _⟩ | ⟨rfl, _⟩ | ⟨rfl, _⟩ <;> simp [θ])
  rw [ea, renR_flat hfv] at this
  exact this.asI (by simp) h3 q0
end Go.Sx

namespace Go.Sx
open Go.Proofs Go.RowKit Go.Maps Go.Shelf
set_option maxRecDepth 100000
/-! ### the keys of an empty map; the sort of none -/
noncomputable def sumCollE : SumA := fun args hp nx =>
  match args with
  | [.one (.c (.fn 188 [] [(bx, 0)]))] => match getRow hp.get bx with
    | some (_, _, _, .cells [.map nm]) => match hp.get nm with
      | some (.map []) => some (.one (.c .sl0), hp, nx, [], [])
      | some (.mapI none l) => some (.one (.c .sl0), hp, nx, [], [l = []])
      | _ => none
    | _ => none
  | _ => none
theorem sumCollE_ok : SumAOK Tryz.prog 186 sumCollE := by
  intro args s v hp nx lg ps ht h hps
  unfold sumCollE at h
  split at h <;> try (cases h; done)
  rename_i bx
  split at h <;> try (cases h; done)
  rename_i t ro o nm hrow
  have hne : ∃ x, s.hp.get nm = some x ∧ (∀ (ρ : Rho) c ob, BlkR ρ c x ob → ∃ (ents : Array MapEntry) (cl : Nat), ob = .map ents cl ∧ ents.toList = []) ∧ v = .one (.c .sl0) ∧ hp = s.hp ∧ nx = s.nx ∧ lg = [] := by
    split at h <;> try (cases h; done)
    · rename_i hmap
      simp only [Option.some.injEq, Prod.mk.injEq] at h
      obtain ⟨rfl, rfl, rfl, rfl, rfl⟩ := h
      exact ⟨_, hmap, fun ρ c ob hb => by obtain ⟨ents, clock, rfl, hes, _⟩ := hb; exact ⟨ents, clock, rfl, hes⟩, rfl, rfl, rfl, rfl⟩
    · rename_i l hmap
      simp only [Option.some.injEq, Prod.mk.injEq] at h
      obtain ⟨rfl, rfl, rfl, rfl, rfl⟩ := h
      obtain ⟨rfl, _⟩ := hps
      exact ⟨_, hmap, fun ρ c ob hb => by obtain ⟨ents, clock, rfl, hes, _⟩ := hb; exact ⟨ents, clock, rfl, hes⟩, rfl, rfl, rfl, rfl⟩
  obtain ⟨x, hmap, hx, rfl, rfl, rfl, rfl⟩ := hne
  refine CallInfo.quiet ht ⟨_, Tryz.func186, rfl⟩ fun ρ w vs hr ha => ?_
  obtain ⟨V, vs1, hV, h3, rfl⟩ := ha
  cases h3
  obtain ⟨us, cs, h0, ⟨b, c, vs2, hb, h4, rfl⟩, rfl⟩ := hV
  cases h4; cases h0
  unfold getRow at hrow
  split at hrow <;> try (cases hrow; done)
  rename_i h5
  cases hrow
  obtain ⟨b', c', ob, e1, e2, e3⟩ := hr.ok _ _ h5
  rw [hb] at e1
  cases e1
  obtain ⟨vs, tail, fr, rfl, ⟨mv, _, ⟨mb, mc, m1, rfl⟩, rfl, rfl⟩, _, _⟩ := e3
  obtain ⟨mb', mc', om, g1, g2, g3⟩ := hr.ok _ _ hmap
  rw [m1] at g1
  cases g1
  obtain ⟨ents, clock, rfl, hes⟩ := hx _ _ _ g3
  have hcell : w.cell? ⟨b, 0, none⟩ = some (.map (some mb)) := by simp [World.cell?, e2]
  exact (collect_nil hcell g2 hes).mono fun e w' ⟨q1, q2⟩ => ⟨_, q1, rfl, q2⟩
noncomputable def sumLenA : SumA := fun args hp nx => match sumLen args hp nx with | some (v, hp, nx, lg) => some (v, hp, nx, lg, []) | none => none
theorem sumLenA_ok : SumAOK Tryz.prog 271 sumLenA := by
  intro args s v hp nx lg ps ht h hps
  unfold sumLenA at h
  split at h <;> try (cases h; done)
  rename_i h1
  simp only [Option.some.injEq, Prod.mk.injEq] at h
  obtain ⟨rfl, rfl, rfl, rfl, rfl⟩ := h
  exact sumLen_ok _ _ _ _ _ _ ht h1
end Go.Sx
