/-
  Parts of the executor Sx over the model's code (any program), or of this seat's walks: words and proofs that the row's text uses.
-/
import Derived.Test.YtganobhodimjnaaF24
import Derived.Test.YtganobhodimjnaaQ4
namespace Go.Sx
open Go.Proofs Go.RowKit
set_option maxRecDepth 100000
structure Ino9 where
  k : Int
  l : Int
  s : Int
  d0 : Int
  d1 : Int
  d2 : Int
  d3 : Int
  sg : Int
  db : Int
def Ino9.L (y : Ino9) : List Cell := inoL y.k y.l y.s y.d0 y.d1 y.d2 y.d3 y.sg y.db
def Ino9.zero : Ino9 := ⟨0, 0, 0, 0, 0, 0, 0, 0, 0⟩
def Ino9.chk (y : Ino9) : Bool := Sx.chk y.k y.l y.s y.d0 y.d1 y.d2 y.d3 y.sg y.db
def finI (n : Int) (y : Ino9) : Ino9 := if n = 1 ∧ y.k ≠ 2 then ⟨2, 1, 0, 0, 0, 0, 0, 0, 0⟩ else y
def kpI (a b c : Int) (y : Ino9) : Ino9 := ⟨y.k, y.l, y.s, kp a b c (decide (blk y.s > 0)) y.d0, kp a b c (decide (blk y.s > 1)) y.d1, kp a b c (decide (blk y.s > 2)) y.d2, kp a b c (decide (blk y.s > 3)) y.d3, kp a b c (decide (blk y.s > 4)) y.sg, kp a b c (decide (blk y.s > 31)) y.db⟩
def sh (a b c n : Int) (y : Ino9) : Ino9 := finI n (kpI a b c (if y.chk then y else .zero))
structure Ino9.Ok (y : Ino9) : Prop where
  k : 0 ≤ y.k
  s : 0 ≤ y.s
  s1 : y.s < 4294967296
  d0 : U16 y.d0
  d1 : U16 y.d1
  d2 : U16 y.d2
  d3 : U16 y.d3
  sg : U16 y.sg
  db : U16 y.db
theorem finI_L (n : Int) (y : Ino9) : fin9 n y.k y.l y.s y.d0 y.d1 y.d2 y.d3 y.sg y.db = (finI n y).L := by
  unfold fin9 finI
  split <;> rfl
theorem mid_L (a b c n : Int) (y : Ino9) : mid9 a b c n y.k y.l y.s y.d0 y.d1 y.d2 y.d3 y.sg y.db = (finI n (kpI a b c y)).L := finI_L n (kpI a b c y)
theorem sh_L (a b c n : Int) (y : Ino9) : should a b c n y.k y.l y.s y.d0 y.d1 y.d2 y.d3 y.sg y.db = (sh a b c n y).L := by
  unfold should sh
  show (if y.chk = true then _ else _) = _
  cases h : y.chk with
  | true => rw [if_pos rfl, if_pos rfl]; exact mid_L a b c n y
  | false => rw [if_neg (by simp), if_neg (by simp)]; exact mid_L a b c n .zero
theorem kp_zero (a b c : Int) (b' : Bool) : kp a b c b' 0 = 0 := by unfold kp; split <;> rfl
theorem chk_zero {y : Ino9} (h : y.chk = true) (h0 : y.k = 0) : y = .zero := by
  unfold Ino9.chk Sx.chk at h
  rw [if_pos h0] at h
  unfold zeroIno at h
  simp only [Bool.and_eq_true, beq_iff_eq] at h
  obtain ⟨⟨⟨⟨⟨⟨⟨⟨a1, a2⟩, a3⟩, a4⟩, a5⟩, a6⟩, a7⟩, a8⟩, a9⟩ := h
  cases y
  simp_all [Ino9.zero]
theorem kpI_zero (a b c : Int) : kpI a b c .zero = .zero := by simp [kpI, Ino9.zero, kp_zero]
theorem mid10_eq (a b c n : Int) (y : Ino9) (h : y.chk = true) : mid10 a b c n y.k y.l y.s y.d0 y.d1 y.d2 y.d3 y.sg y.db = (finI n (kpI a b c y)).L := by
  unfold mid10
  split
  · rename_i h0
    rw [finI_L, chk_zero h h0, kpI_zero]
  · exact mid_L a b c n y
theorem zero_chk : Ino9.zero.chk = true := by unfold Ino9.chk Sx.chk Ino9.zero zeroIno; rfl
theorem sh10_L (a b c n : Int) (y : Ino9) : should10 a b c n y.k y.l y.s y.d0 y.d1 y.d2 y.d3 y.sg y.db = (sh a b c n y).L := by
  unfold should10 sh
  show (if y.chk = true then _ else _) = _
  cases h : y.chk with
  | true => rw [if_pos rfl, if_pos rfl]; exact mid10_eq a b c n y h
  | false => rw [if_neg (by simp), if_neg (by simp)]; exact mid10_eq a b c n .zero zero_chk
/-! what should be is as it should be -/
theorem kp_twice (a b c : Int) (p : Bool) (d : Int) : kp a b c p (kp a b c p d) = kp a b c p d := by
  unfold kp
  cases p with
  | false => rfl
  | true => cases h : rawB a b c d <;> simp [h]
theorem kpI_twice (a b c : Int) (y : Ino9) : kpI a b c (kpI a b c y) = kpI a b c y := by simp [kpI, kp_twice]
theorem kpI_chk {a b c : Int} {y : Ino9} (h : y.chk = true) : (kpI a b c y).chk = true := by
  by_cases h0 : y.k = 0
  · rw [chk_zero h h0, kpI_zero]; exact zero_chk
  · unfold Ino9.chk Sx.chk at h ⊢
    rw [if_neg h0] at h
    rw [if_neg (show ¬ (kpI a b c y).k = 0 from h0)]
    exact h
theorem root_chk : (Ino9.mk 2 1 0 0 0 0 0 0 0).chk = true := by unfold Ino9.chk Sx.chk; rfl
theorem sel_chk (y : Ino9) : (if y.chk then y else Ino9.zero).chk = true := by
  split
  · assumption
  · exact zero_chk
def Ino9.root : Ino9 := ⟨2, 1, 0, 0, 0, 0, 0, 0, 0⟩
theorem finI_ind {Q : Ino9 → Prop} {n : Int} {z : Ino9} (h1 : n = 1 ∧ z.k ≠ 2 → Q .root) (h2 : ¬ (n = 1 ∧ z.k ≠ 2) → Q z) : Q (finI n z) := by
  by_cases h : n = 1 ∧ z.k ≠ 2
  · rw [show finI n z = .root from if_pos h]; exact h1 h
  · rw [show finI n z = z from if_neg h]; exact h2 h
theorem sh_chk (a b c n : Int) (y : Ino9) : (sh a b c n y).chk = true := finI_ind (Q := fun z => z.chk = true) (fun _ => root_chk) (fun _ => kpI_chk (sel_chk y))
theorem kpI_root (a b c : Int) : kpI a b c .root = .root := by simp [kpI, Ino9.root, kp_zero]
theorem finI_root (n : Int) : finI n .root = .root := finI_ind (Q := fun z => z = .root) (fun _ => rfl) (fun _ => rfl)
theorem sh_twice (a b c n : Int) (y : Ino9) : sh a b c n (sh a b c n y) = sh a b c n y := by
  rw [show sh a b c n (sh a b c n y) = finI n (kpI a b c (sh a b c n y)) by rw [sh, if_pos (sh_chk a b c n y)]]
  refine finI_ind (Q := fun z => finI n (kpI a b c z) = z) (fun _ => ?_) (fun h => ?_)
  · rw [kpI_root, finI_root]
  · rw [kpI_twice]; exact if_neg h
theorem kp_u16 {a b c : Int} {p : Bool} {d : Int} (h : U16 d) : U16 (kp a b c p d) := by
  unfold kp
  split
  · exact h
  · exact u0
theorem sh_ok {a b c n : Int} {y : Ino9} (h : y.Ok) : (sh a b c n y).Ok := by
  have z : Ino9.zero.Ok := ⟨by simp [Ino9.zero], by simp [Ino9.zero], by simp [Ino9.zero], u0, u0, u0, u0, u0, u0⟩
  have h1 : (if y.chk then y else Ino9.zero).Ok := by split <;> assumption
  exact finI_ind (Q := Ino9.Ok) (fun _ => ⟨by simp [Ino9.root], by simp [Ino9.root], by simp [Ino9.root], u0, u0, u0, u0, u0, u0⟩)
    (fun _ => ⟨h1.k, h1.s, h1.s1, kp_u16 h1.d0, kp_u16 h1.d1, kp_u16 h1.d2, kp_u16 h1.d3, kp_u16 h1.sg, kp_u16 h1.db⟩)

/-! the two, as summaries -/
def fSh (args : List RV) : Option (RV × List Prop) := match args with
  | [.one (.agg [.int .i64 a, .int .i64 b, .int .i64 c]), .one (.c (.int .i64 n)), .one (.agg [.int .u8 k, .int .u8 l, .int .u32 s, .int .u16 d0, .int .u16 d1, .int .u16 d2, .int .u16 d3, .int .u16 sg, .int .u16 db])] =>
    some (.one (.agg (sh a b c n ⟨k, l, s, d0, d1, d2, d3, sg, db⟩).L), [(Ino9.mk k l s d0 d1 d2 d3 sg db).Ok])
  | _ => none
theorem body9_eq : Try.f9.body = some c9 := by kernel_rfl
theorem body10_eq : Try.f10.body = some c10 := by kernel_rfl
theorem fSh9_ok : PureOK Try.prog 9 fSh := by
  intro args v ps h hp ρ w vs ha
  unfold fSh at h
  split at h <;> try (cases h; done)
  rename_i a b c n k l s d0 d1 d2 d3 sg db
  simp only [Option.some.injEq, Prod.mk.injEq] at h
  obtain ⟨rfl, rfl⟩ := h
  obtain ⟨⟨h1, h2, h3, h4, h5, h6, h7, h8, h9⟩, _⟩ := hp
  have hb := body9 a b c n k l s d0 d1 d2 d3 sg db h1 h2 h3 h4 h5 h6 h7 h8 h9
  have hL := sh_L a b c n ⟨k, l, s, d0, d1, d2, d3, sg, db⟩
  simp only at hL
  rw [hL] at hb
  exact Tr.pure (c := c9) (fn := Try.f9) Try.func9 body9_eq (args := arg9 a b c n k l s d0 d1 d2 d3 sg db) (by rfl) (by rfl) (sl9_ok a b c n k l s d0 d1 d2 d3 sg db) hb ρ w vs ha
theorem fSh10_ok : PureOK Try.prog 10 fSh := by
  intro args v ps h hp ρ w vs ha
  unfold fSh at h
  split at h <;> try (cases h; done)
  rename_i a b c n k l s d0 d1 d2 d3 sg db
  simp only [Option.some.injEq, Prod.mk.injEq] at h
  obtain ⟨rfl, rfl⟩ := h
  obtain ⟨⟨h1, h2, h3, h4, h5, h6, h7, h8, h9⟩, _⟩ := hp
  have hb := body10 a b c n k l s d0 d1 d2 d3 sg db h1 h2 h3 h4 h5 h6 h7 h8 h9
  have hL := sh10_L a b c n ⟨k, l, s, d0, d1, d2, d3, sg, db⟩
  simp only at hL
  rw [hL] at hb
  exact Tr.pure (c := c10) (fn := Try.f10) Try.func10 body10_eq (args := arg9 a b c n k l s d0 d1 d2 d3 sg db) (by rfl) (by rfl) (sl10_ok a b c n k l s d0 d1 d2 d3 sg db) hb ρ w vs ha
def fTrue (args : List RV) : Option (RV × List Prop) := match args with | [] => some (.one (.c (.bool true)), []) | _ => none
theorem fTrue_ok {P : Program} {f : FuncId} (hc : ∀ {s : S}, Top s → CallInfo P f [] s (.one (.c (.bool true))) s []) : SumAOK P f (pureSum fTrue) := by
  intro args s v hp nx lg ps ht h hp'
  unfold pureSum fTrue at h
  split at h <;> try (cases h; done)
  rename_i h1
  split at h1 <;> try (cases h1; done)
  cases h1
  simp only [Option.some.injEq, Prod.mk.injEq] at h
  obtain ⟨rfl, rfl, rfl, rfl, rfl⟩ := h
  exact hc ht
def sgS : FuncId → Option SumA := fun f => match f with
  | 9 => some (pureSum fSh) | 10 => some (pureSum fSh) | 11 => some (pureSum fChk) | 12 => some (pureSum fTrue) | _ => none
theorem fitS : Fit Try.prog (fun f => (sgS f).map toSum) := ⟨fit_ng, fit_mixed, SumAOK.sum fun f sm h => by
  unfold sgS at h
  split at h
  · cases h; exact fSh9_ok.sum ⟨_, Try.func9, rfl⟩
  · cases h; exact fSh10_ok.sum ⟨_, Try.func10, rfl⟩
  · cases h; exact (fChk_ok 11 refCheck).sum ⟨_, Try.func11, rfl⟩
  · cases h; exact fTrue_ok works28
  · cases h⟩
end Go.Sx

namespace Go.Sx
open Go.Proofs Go.RowKit
set_option maxRecDepth 100000
def eqI (x y : Ino9) : Bool := x.k == y.k && (x.l == y.l && (x.s == y.s && ((x.d0 == y.d0 && (x.d1 == y.d1 && (x.d2 == y.d2 && (x.d3 == y.d3 && true)))) && (x.sg == y.sg && (x.db == y.db && true)))))
theorem eqI_self (x : Ino9) : eqI x x = true := by simp [eqI]
theorem law3_run (a b c n : Int) (x : Ino9) : runA Try.prog sgS 300 3 (arg9 a b c n x.k x.l x.s x.d0 x.d1 x.d2 x.d3 x.sg x.db) s0 ⟨0, [(0, true), (1, true), (2, true), (3, true), (4, true), (5, true), (6, true), (7, true), (8, true), (9, true), (10, true), (11, true), (12, true)], []⟩ (fun v _ α => some (v, α.ob))
  = some (.one (.c (.bool true)), [(if true = true then errI (sh a b c n x).chk == 0 else false) = true, (if true = true then errI (sh a b c n x).chk == 0 else false) = true,
    (if true = true then eqI (sh a b c n (sh a b c n x)) (sh a b c n x) else false) = true, (if true = true then eqI (sh a b c n (sh a b c n x)) (sh a b c n x) else false) = true, 0 ≤ (sh a b c n x).k, 0 ≤ (sh a b c n x).s,
    (if true = true then eqI (sh a b c n (sh a b c n x)) (sh a b c n x) else false) = true, (if true = true then eqI (sh a b c n (sh a b c n x)) (sh a b c n x) else false) = true,
    eqI (sh a b c n x) (sh a b c n x) = true, eqI (sh a b c n x) (sh a b c n x) = true, eqI (sh a b c n x) (sh a b c n x) = true, (sh a b c n x).Ok,
    eqI (sh a b c n x) (sh a b c n x) = true, eqI (sh a b c n x) (sh a b c n x) = true, eqI (sh a b c n x) (sh a b c n x) = true, eqI (sh a b c n x) (sh a b c n x) = true, x.Ok, x.Ok]) := by kernel_rfl
theorem law3_calls (a b c n : Int) (x : Ino9) (hx : x.Ok) (w : World) : Calls Try.prog 3 #[.agg #[.int .i64 a, .int .i64 b, .int .i64 c], .int .i64 n, .agg #[.int .u8 x.k, .int .u8 x.l, .int .u32 x.s, .int .u16 x.d0, .int .u16 x.d1, .int .u16 x.d2, .int .u16 x.d3, .int .u16 x.sg, .int .u16 x.db]] w
    fun e w' => e = .returned (.bool true) ∧ Below w.heap.size w w' := by
  have hy := sh_ok (a := a) (b := b) (c := c) (n := n) hx
  have hps : All [(if true = true then errI (sh a b c n x).chk == 0 else false) = true, (if true = true then errI (sh a b c n x).chk == 0 else false) = true,
    (if true = true then eqI (sh a b c n (sh a b c n x)) (sh a b c n x) else false) = true, (if true = true then eqI (sh a b c n (sh a b c n x)) (sh a b c n x) else false) = true, 0 ≤ (sh a b c n x).k, 0 ≤ (sh a b c n x).s,
    (if true = true then eqI (sh a b c n (sh a b c n x)) (sh a b c n x) else false) = true, (if true = true then eqI (sh a b c n (sh a b c n x)) (sh a b c n x) else false) = true,
    eqI (sh a b c n x) (sh a b c n x) = true, eqI (sh a b c n x) (sh a b c n x) = true, eqI (sh a b c n x) (sh a b c n x) = true, (sh a b c n x).Ok,
    eqI (sh a b c n x) (sh a b c n x) = true, eqI (sh a b c n x) (sh a b c n x) = true, eqI (sh a b c n x) (sh a b c n x) = true, eqI (sh a b c n x) (sh a b c n x) = true, x.Ok, x.Ok] := by
    simp only [All, sh_twice, sh_chk, errI_true, eqI_self]
    exact ⟨rfl, rfl, rfl, rfl, hy.k, hy.s, rfl, rfl, trivial, trivial, trivial, hy, trivial, trivial, trivial, trivial, hx, hx, trivial⟩
  refine (pure_path fitS (by rfl) (by rfl) (law3_run a b c n x) hps (fun _ => none) w [.agg #[.int .i64 a, .int .i64 b, .int .i64 c], .int .i64 n, .agg #[.int .u8 x.k, .int .u8 x.l, .int .u32 x.s, .int .u16 x.d0, .int .u16 x.d1, .int .u16 x.d2, .int .u16 x.d3, .int .u16 x.sg, .int .u16 x.db]] ?_).mono fun e w' ⟨V, e1, e2, e3⟩ => ⟨by cases e2; exact e1, e3⟩
  refine ⟨_, _, ⟨_, ⟨_, _, rfl, ⟨_, _, rfl, ⟨_, _, rfl, rfl, rfl⟩, rfl⟩, rfl⟩, rfl⟩, ⟨_, _, rfl, ⟨_, _, ⟨_, ?_, rfl⟩, rfl, rfl⟩, rfl⟩, rfl⟩
  exact ⟨_, _, rfl, ⟨_, _, rfl, ⟨_, _, rfl, ⟨_, _, rfl, ⟨_, _, rfl, ⟨_, _, rfl, ⟨_, _, rfl, ⟨_, _, rfl, ⟨_, _, rfl, rfl, rfl⟩, rfl⟩, rfl⟩, rfl⟩, rfl⟩, rfl⟩, rfl⟩, rfl⟩, rfl⟩
#print axioms law3_calls
end Go.Sx
