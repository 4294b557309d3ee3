/-
  Parts of the executor Sx over the model's code (any program), or of this seat's walks: words and proofs that the row's text uses.
-/
import Derived.Test.YtfceckiklfkjkaaGreatProg
import Derived.KernelRfl
import Derived.WalkKit
import Derived.Handy
import Derived.LoopTactic
import Derived.Below
import Derived.Lib.Hide
import Derived.Laws.StructEq
import Derived.Laws.Cover2
namespace Go.Sx
open Go.Proofs Go.RowKit
def zeroIno (k l s d0 d1 d2 d3 sg db : Int) : Bool := k == 0 && l == 0 && s == 0 && d0 == 0 && d1 == 0 && d2 == 0 && d3 == 0 && sg == 0 && db == 0
theorem guard28 (op : BinOp) (x y : Operand) (xs ys : Array Value) (w : World) : (eqGuard op 27 x y (.agg xs) (.agg ys)).run Tryz.prog w = .ok () w := run_eqGuard_agg w op 27 x y xs ys (by kernel_rfl)
theorem eq26 (a b c d : Int) (w : World) : (Op.equalIn 9999 25 (.agg #[.int .u16 a, .int .u16 b, .int .u16 c, .int .u16 d]) (.agg #[.int .u16 0, .int .u16 0, .int .u16 0, .int .u16 0])).run Tryz.prog w = .ok (a == 0 && b == 0 && c == 0 && d == 0) w := by
  have u3 := Tryz.underlying24
  have a3 := Tryz.isAgg24
  have z3 := Tryz.sizeOf24
  rw [show (9999 : Nat) = 9998 + 1 from rfl, Op.equalIn]
  simp only [Sem.run_bind, run_underlying Tryz.underlying25, Result.andThen_ok]
  simp only [Std.Legacy.Range.forIn_eq_forIn_range', Std.Legacy.Range.size, Nat.sub_zero, Nat.add_sub_cancel, Nat.div_one, List.range'_succ, List.range'_zero, List.forIn_cons, List.forIn_nil]
  go_simp
  by_cases h1 : a = 0 <;> by_cases h2 : b = 0 <;> by_cases h3 : c = 0 <;> by_cases h4 : d = 0 <;> simp [h1, h2, h3, h4]
theorem neq28 (k l s d0 d1 d2 d3 sg db : Int) (w : World) : (binOp .neq 27 (.agg #[.int .u8 k, .int .u8 l, .int .u32 s, .int .u16 d0, .int .u16 d1, .int .u16 d2, .int .u16 d3, .int .u16 sg, .int .u16 db]) (.agg #[.int .u8 0, .int .u8 0, .int .u32 0, .int .u16 0, .int .u16 0, .int .u16 0, .int .u16 0, .int .u16 0, .int .u16 0])).run Tryz.prog w = .ok (.bool (!(zeroIno k l s d0 d1 d2 d3 sg db))) w := by
  have e26 := eq26 d0 d1 d2 d3 w
  go_simp
  by_cases h1 : k = 0
  · by_cases h2 : l = 0
    · by_cases h3 : s = 0
      · by_cases h4 : d0 = 0 ∧ d1 = 0 ∧ d2 = 0 ∧ d3 = 0
        · obtain ⟨a1, a2, a3, a4⟩ := h4
          by_cases h5 : sg = 0
          · by_cases h6 : db = 0
            · simp [zeroIno, h1, h2, h3, a1, a2, a3, a4, h5, h6]
            · simp [zeroIno, h1, h2, h3, a1, a2, a3, a4, h5, h6]
          · simp [zeroIno, h1, h2, h3, a1, a2, a3, a4, h5]
        · have h4' : d0 = 0 → d1 = 0 → d2 = 0 → ¬ d3 = 0 := fun a b c d => h4 ⟨a, b, c, d⟩
          have hz : zeroIno k l s d0 d1 d2 d3 sg db = false := by
            rw [← Bool.not_eq_true]
            intro hz
            simp only [zeroIno, Bool.and_eq_true, beq_iff_eq] at hz
            obtain ⟨⟨⟨⟨⟨⟨⟨⟨_, _⟩, _⟩, a1⟩, a2⟩, a3⟩, a4⟩, _⟩, _⟩ := hz
            exact h4 ⟨a1, a2, a3, a4⟩
          rw [hz, if_pos h1, if_pos h2, if_pos h3, if_pos h4']
          rfl
      · simp [zeroIno, h1, h2, h3]
    · simp [zeroIno, h1, h2]
  · simp [zeroIno, h1]
def chk (k l s d0 d1 d2 d3 sg db : Int) : Bool :=
  if k = 0 then zeroIno k l s d0 d1 d2 d3 sg db else decide (k ≤ 2 ∧ l ≤ 200 ∧ s ≤ 48640 ∧ (k = 2 → s % 64 = 0))
def errI (b : Bool) : Int := if b then 0 else 2
theorem errI_true : errI true = 0 := rfl
theorem errI_false : errI false = 2 := rfl
attribute [irreducible] errI
theorem zeroIno_bound {l s d0 d1 d2 d3 sg db : Int} (h : zeroIno 0 l s d0 d1 d2 d3 sg db = true) : ¬ 200 < l ∧ ¬ 48640 < s := by
  simp only [zeroIno, Bool.and_eq_true, beq_iff_eq] at h
  obtain ⟨⟨⟨⟨⟨⟨⟨⟨_, h1⟩, h2⟩, _⟩, _⟩, _⟩, _⟩, _⟩, _⟩ := h
  omega
attribute [go_sem] guard28
attribute [go_sem high] neq28
attribute [irreducible] zeroIno
/-- what a call of a function of one inode answers -/
def Chk (f : FuncId) (k l s d0 d1 d2 d3 sg db : Int) (w : World) (r : Int) : Prop :=
  Calls Tryz.prog f #[.agg #[.int .u8 k, .int .u8 l, .int .u32 s, .int .u16 d0, .int .u16 d1, .int .u16 d2, .int .u16 d3, .int .u16 sg, .int .u16 db]] w fun e w' => e = .returned (.int .i64 r) ∧ Below w.heap.size w w'
set_option maxHeartbeats 2000000 in
set_option maxRecDepth 100000 in
theorem refCheck (k l s d0 d1 d2 d3 sg db : Int) (hk : 0 ≤ k) (hs : 0 ≤ s) (w : World) : Chk 164 k l s d0 d1 d2 d3 sg db w (errI (chk k l s d0 d1 d2 d3 sg db)) := by
  by_cases h0 : k = 0
  · subst h0
    have h5 : ((0 : Int) == 0) = true := rfl
    by_cases hz : zeroIno 0 l s d0 d1 d2 d3 sg db = true
    · obtain ⟨hl, hs'⟩ := zeroIno_bound hz
      rw [show chk 0 l s d0 d1 d2 d3 sg db = true by unfold chk; rw [if_pos rfl]; exact hz, errI_true]
      unfold Chk
      go_enter Tryz.func164, Tryz.ntmps164
      go_wp2
      go_ret
      exact ⟨rfl, (Below.refl _ _).alloc (Nat.le_refl _) _⟩
    · have hz' : zeroIno 0 l s d0 d1 d2 d3 sg db = false := by simpa using hz
      rw [show chk 0 l s d0 d1 d2 d3 sg db = false by unfold chk; rw [if_pos rfl]; exact hz', errI_false]
      clear hz
      unfold Chk
      go_enter Tryz.func164, Tryz.ntmps164
      go_wp2
      go_ret
      exact ⟨rfl, (Below.refl _ _).alloc (Nat.le_refl _) _⟩
  · have h0' : (k == 0) = false := by simp [h0]
    by_cases h1 : 2 < k
    · have h12 : (k == 2) = false := by simp; omega
      have h11 : (k == 1) = false := by simp; omega
      rw [show chk _ l s d0 d1 d2 d3 sg db = false by unfold chk; rw [if_neg h0]; simp; omega, errI_false]
      unfold Chk
      go_enter Tryz.func164, Tryz.ntmps164
      go_wp2
      go_ret
      exact ⟨rfl, (Below.refl _ _).alloc (Nat.le_refl _) _⟩
    · by_cases h4 : k = 2
      · subst h4
        have h5 : ((2 : Int) == 2) = true := rfl
        by_cases h6 : s % 64 = 0
        · have h6p : s.tmod 64 = 0 := by rw [Int.tmod_eq_emod_of_nonneg hs]; exact h6
          have h6' : (s.tmod 64 != 0) = false := by simp [h6p]
          by_cases h2 : 200 < l
          · rw [show chk _ l s d0 d1 d2 d3 sg db = false by unfold chk; rw [if_neg h0]; simp; omega, errI_false]
            unfold Chk
            go_enter Tryz.func164, Tryz.ntmps164
            go_wp2
            go_ret
            exact ⟨rfl, (Below.refl _ _).alloc (Nat.le_refl _) _⟩
          · by_cases h3 : 48640 < s
            · rw [show chk _ l s d0 d1 d2 d3 sg db = false by unfold chk; rw [if_neg h0]; simp; omega, errI_false]
              unfold Chk
              go_enter Tryz.func164, Tryz.ntmps164
              go_wp2
              go_ret
              exact ⟨rfl, (Below.refl _ _).alloc (Nat.le_refl _) _⟩
            · rw [show chk _ l s d0 d1 d2 d3 sg db = true by unfold chk; rw [if_neg h0]; simp; omega, errI_true]
              unfold Chk
              go_enter Tryz.func164, Tryz.ntmps164
              go_wp2
              go_ret
              exact ⟨rfl, (Below.refl _ _).alloc (Nat.le_refl _) _⟩
        · have h6p : ¬ s.tmod 64 = 0 := by rw [Int.tmod_eq_emod_of_nonneg hs]; exact h6
          have h6' : (s.tmod 64 != 0) = true := by simp [h6p]
          by_cases h2 : 200 < l
          · rw [show chk _ l s d0 d1 d2 d3 sg db = false by unfold chk; rw [if_neg h0]; simp; omega, errI_false]
            unfold Chk
            go_enter Tryz.func164, Tryz.ntmps164
            go_wp2
            go_ret
            exact ⟨rfl, (Below.refl _ _).alloc (Nat.le_refl _) _⟩
          · by_cases h3 : 48640 < s
            · rw [show chk _ l s d0 d1 d2 d3 sg db = false by unfold chk; rw [if_neg h0]; simp; omega, errI_false]
              unfold Chk
              go_enter Tryz.func164, Tryz.ntmps164
              go_wp2
              go_ret
              exact ⟨rfl, (Below.refl _ _).alloc (Nat.le_refl _) _⟩
            · rw [show chk _ l s d0 d1 d2 d3 sg db = false by unfold chk; rw [if_neg h0]; simp; omega, errI_false]
              unfold Chk
              go_enter Tryz.func164, Tryz.ntmps164
              go_wp2
              go_ret
              exact ⟨rfl, (Below.refl _ _).alloc (Nat.le_refl _) _⟩
      · have h4' : (k == 2) = false := by simp [h4]
        have h7 : k = 1 := by omega
        subst h7
        have h7' : ((1 : Int) == 1) = true := rfl
        by_cases h2 : 200 < l
        · rw [show chk _ l s d0 d1 d2 d3 sg db = false by unfold chk; rw [if_neg h0]; simp; omega, errI_false]
          unfold Chk
          go_enter Tryz.func164, Tryz.ntmps164
          go_wp2
          go_ret
          exact ⟨rfl, (Below.refl _ _).alloc (Nat.le_refl _) _⟩
        · by_cases h3 : 48640 < s
          · rw [show chk _ l s d0 d1 d2 d3 sg db = false by unfold chk; rw [if_neg h0]; simp; omega, errI_false]
            unfold Chk
            go_enter Tryz.func164, Tryz.ntmps164
            go_wp2
            go_ret
            exact ⟨rfl, (Below.refl _ _).alloc (Nat.le_refl _) _⟩
          · rw [show chk _ l s d0 d1 d2 d3 sg db = true by unfold chk; rw [if_neg h0]; simp; omega, errI_true]
            unfold Chk
            go_enter Tryz.func164, Tryz.ntmps164
            go_wp2
            go_ret
            exact ⟨rfl, (Below.refl _ _).alloc (Nat.le_refl _) _⟩
set_option maxHeartbeats 2000000 in
set_option maxRecDepth 100000 in
theorem inoCheck (k l s d0 d1 d2 d3 sg db : Int) (hk : 0 ≤ k) (hs : 0 ≤ s) (w : World) : Chk 144 k l s d0 d1 d2 d3 sg db w (errI (chk k l s d0 d1 d2 d3 sg db)) := by
  by_cases h0 : k = 0
  · subst h0
    have h5 : ((0 : Int) == 0) = true := rfl
    by_cases hz : zeroIno 0 l s d0 d1 d2 d3 sg db = true
    · obtain ⟨hl, hs'⟩ := zeroIno_bound hz
      rw [show chk 0 l s d0 d1 d2 d3 sg db = true by unfold chk; rw [if_pos rfl]; exact hz, errI_true]
      unfold Chk
      go_enter Tryz.func144, Tryz.ntmps144
      go_wp2
      go_ret
      exact ⟨rfl, (Below.refl _ _).alloc (Nat.le_refl _) _⟩
    · have hz' : zeroIno 0 l s d0 d1 d2 d3 sg db = false := by simpa using hz
      rw [show chk 0 l s d0 d1 d2 d3 sg db = false by unfold chk; rw [if_pos rfl]; exact hz', errI_false]
      clear hz
      unfold Chk
      go_enter Tryz.func144, Tryz.ntmps144
      go_wp2
      go_ret
      exact ⟨rfl, (Below.refl _ _).alloc (Nat.le_refl _) _⟩
  · have h0' : (k == 0) = false := by simp [h0]
    by_cases h1 : 2 < k
    · have h12 : (k == 2) = false := by simp; omega
      have h11 : (k == 1) = false := by simp; omega
      rw [show chk _ l s d0 d1 d2 d3 sg db = false by unfold chk; rw [if_neg h0]; simp; omega, errI_false]
      unfold Chk
      go_enter Tryz.func144, Tryz.ntmps144
      go_wp2
      go_ret
      exact ⟨rfl, (Below.refl _ _).alloc (Nat.le_refl _) _⟩
    · by_cases h4 : k = 2
      · subst h4
        have h5 : ((2 : Int) == 2) = true := rfl
        by_cases h6 : s % 64 = 0
        · have h6p : s.tmod 64 = 0 := by rw [Int.tmod_eq_emod_of_nonneg hs]; exact h6
          have h6' : (s.tmod 64 != 0) = false := by simp [h6p]
          by_cases h2 : 200 < l
          · rw [show chk _ l s d0 d1 d2 d3 sg db = false by unfold chk; rw [if_neg h0]; simp; omega, errI_false]
            unfold Chk
            go_enter Tryz.func144, Tryz.ntmps144
            go_wp2
            go_ret
            exact ⟨rfl, (Below.refl _ _).alloc (Nat.le_refl _) _⟩
          · by_cases h3 : 48640 < s
            · rw [show chk _ l s d0 d1 d2 d3 sg db = false by unfold chk; rw [if_neg h0]; simp; omega, errI_false]
              unfold Chk
              go_enter Tryz.func144, Tryz.ntmps144
              go_wp2
              go_ret
              exact ⟨rfl, (Below.refl _ _).alloc (Nat.le_refl _) _⟩
            · rw [show chk _ l s d0 d1 d2 d3 sg db = true by unfold chk; rw [if_neg h0]; simp; omega, errI_true]
              unfold Chk
              go_enter Tryz.func144, Tryz.ntmps144
              go_wp2
              go_ret
              exact ⟨rfl, (Below.refl _ _).alloc (Nat.le_refl _) _⟩
        · have h6p : ¬ s.tmod 64 = 0 := by rw [Int.tmod_eq_emod_of_nonneg hs]; exact h6
          have h6' : (s.tmod 64 != 0) = true := by simp [h6p]
          by_cases h2 : 200 < l
          · rw [show chk _ l s d0 d1 d2 d3 sg db = false by unfold chk; rw [if_neg h0]; simp; omega, errI_false]
            unfold Chk
            go_enter Tryz.func144, Tryz.ntmps144
            go_wp2
            go_ret
            exact ⟨rfl, (Below.refl _ _).alloc (Nat.le_refl _) _⟩
          · by_cases h3 : 48640 < s
            · rw [show chk _ l s d0 d1 d2 d3 sg db = false by unfold chk; rw [if_neg h0]; simp; omega, errI_false]
              unfold Chk
              go_enter Tryz.func144, Tryz.ntmps144
              go_wp2
              go_ret
              exact ⟨rfl, (Below.refl _ _).alloc (Nat.le_refl _) _⟩
            · rw [show chk _ l s d0 d1 d2 d3 sg db = false by unfold chk; rw [if_neg h0]; simp; omega, errI_false]
              unfold Chk
              go_enter Tryz.func144, Tryz.ntmps144
              go_wp2
              go_ret
              exact ⟨rfl, (Below.refl _ _).alloc (Nat.le_refl _) _⟩
      · have h4' : (k == 2) = false := by simp [h4]
        have h7 : k = 1 := by omega
        subst h7
        have h7' : ((1 : Int) == 1) = true := rfl
        by_cases h2 : 200 < l
        · rw [show chk _ l s d0 d1 d2 d3 sg db = false by unfold chk; rw [if_neg h0]; simp; omega, errI_false]
          unfold Chk
          go_enter Tryz.func144, Tryz.ntmps144
          go_wp2
          go_ret
          exact ⟨rfl, (Below.refl _ _).alloc (Nat.le_refl _) _⟩
        · by_cases h3 : 48640 < s
          · rw [show chk _ l s d0 d1 d2 d3 sg db = false by unfold chk; rw [if_neg h0]; simp; omega, errI_false]
            unfold Chk
            go_enter Tryz.func144, Tryz.ntmps144
            go_wp2
            go_ret
            exact ⟨rfl, (Below.refl _ _).alloc (Nat.le_refl _) _⟩
          · rw [show chk _ l s d0 d1 d2 d3 sg db = true by unfold chk; rw [if_neg h0]; simp; omega, errI_true]
            unfold Chk
            go_enter Tryz.func144, Tryz.ntmps144
            go_wp2
            go_ret
            exact ⟨rfl, (Below.refl _ _).alloc (Nat.le_refl _) _⟩
end Go.Sx

namespace Go.Sx
open Go.Proofs Go.RowKit
def blk (n : Int) : Int := if n ≤ 0 then 0 else (n - 1) / 64 + 1
set_option maxHeartbeats 2000000 in
theorem blocks_any (n : Int) (h0 : 0 ≤ n) (h1 : n < 4294967296) (w : World) : Calls Tryz.prog 145 #[.int .i64 n] w fun e w' => e = .returned (.int .i64 (blk n)) ∧ w' = w := by
  by_cases h : n ≤ 0
  · rw [show blk n = 0 by unfold blk; rw [if_pos h]]
    go_enter Tryz.func145, Tryz.ntmps145
    go_wp2
    go_ret
    exact ⟨rfl, rfl⟩
  · rw [show blk n = (n - 1) / 64 + 1 by unfold blk; rw [if_neg h]]
    go_enter Tryz.func145, Tryz.ntmps145
    go_wp2
    go_ret
    exact ⟨rfl, rfl⟩
set_option maxHeartbeats 2000000 in
theorem refBlocks_any (n : Int) (h0 : 0 ≤ n) (h1 : n < 4294967296) (w : World) : Calls Tryz.prog 59 #[.int .i64 n] w fun e w' => e = .returned (.int .i64 (blk n)) ∧ w' = w := by
  by_cases h : n ≤ 0
  · rw [show blk n = 0 by unfold blk; rw [if_pos h]]
    go_enter Tryz.func59, Tryz.ntmps59
    go_wp2
    go_ret
    exact ⟨rfl, rfl⟩
  · rw [show blk n = (n - 1) / 64 + 1 by unfold blk; rw [if_neg h]]
    go_enter Tryz.func59, Tryz.ntmps59
    go_wp2
    go_ret
    exact ⟨rfl, rfl⟩
def geoB (a b c : Int) : Bool := decide (1 ≤ a ∧ a ≤ 8 ∧ 1 ≤ b ∧ b ≤ 8 ∧ 4 ≤ c ∧ c ≤ 128)
set_option maxHeartbeats 2000000 in
theorem refGeoCheck (a b c : Int) (w : World) : Calls Tryz.prog 111 #[.agg #[.int .i64 a, .int .i64 b, .int .i64 c]] w fun e w' => e = .returned (.int .i64 (errI (geoB a b c))) ∧ Below w.heap.size w w' := by
  by_cases h1 : a < 1
  · rw [show geoB a b c = false by unfold geoB; simp; omega, errI_false]
    go_enter Tryz.func111, Tryz.ntmps111
    go_wp2
    go_ret
    exact ⟨rfl, (Below.refl _ _).alloc (Nat.le_refl _) _⟩
  by_cases h2 : 8 < a
  · rw [show geoB a b c = false by unfold geoB; simp; omega, errI_false]
    go_enter Tryz.func111, Tryz.ntmps111
    go_wp2
    go_ret
    exact ⟨rfl, (Below.refl _ _).alloc (Nat.le_refl _) _⟩
  by_cases h3 : b < 1
  · rw [show geoB a b c = false by unfold geoB; simp; omega, errI_false]
    go_enter Tryz.func111, Tryz.ntmps111
    go_wp2
    go_ret
    exact ⟨rfl, (Below.refl _ _).alloc (Nat.le_refl _) _⟩
  by_cases h4 : 8 < b
  · rw [show geoB a b c = false by unfold geoB; simp; omega, errI_false]
    go_enter Tryz.func111, Tryz.ntmps111
    go_wp2
    go_ret
    exact ⟨rfl, (Below.refl _ _).alloc (Nat.le_refl _) _⟩
  by_cases h5 : c < 4
  · rw [show geoB a b c = false by unfold geoB; simp; omega, errI_false]
    go_enter Tryz.func111, Tryz.ntmps111
    go_wp2
    go_ret
    exact ⟨rfl, (Below.refl _ _).alloc (Nat.le_refl _) _⟩
  by_cases h6 : 128 < c
  · rw [show geoB a b c = false by unfold geoB; simp; omega, errI_false]
    go_enter Tryz.func111, Tryz.ntmps111
    go_wp2
    go_ret
    exact ⟨rfl, (Below.refl _ _).alloc (Nat.le_refl _) _⟩
  · rw [show geoB a b c = true by unfold geoB; simp; omega, errI_true]
    go_enter Tryz.func111, Tryz.ntmps111
    go_wp2
    go_ret
    exact ⟨rfl, (Below.refl _ _).alloc (Nat.le_refl _) _⟩
theorem inRange (n lo hi : Int) (w : World) : Calls Tryz.prog 175 #[.int .i64 n, .int .i64 lo, .int .i64 hi] w fun e w' => e = .returned (.bool (decide (lo ≤ n) && decide (n ≤ hi))) ∧ w' = w := by
  by_cases h : lo ≤ n
  · by_cases h' : n ≤ hi
    · go_enter Tryz.func175, Tryz.ntmps175
      go_wp2
      go_ret
      exact ⟨by simp [h, h'], rfl⟩
    · go_enter Tryz.func175, Tryz.ntmps175
      go_wp2
      go_ret
      exact ⟨by simp [h, h'], rfl⟩
  · go_enter Tryz.func175, Tryz.ntmps175
    go_wp2
    go_ret
    exact ⟨by simp; omega, rfl⟩
end Go.Sx

namespace Go.Sx
open Go.Proofs Go.RowKit
theorem inYes (n lo hi : Int) (h : lo ≤ n ∧ n ≤ hi) (w : World) : Calls Tryz.prog 175 #[.int .i64 n, .int .i64 lo, .int .i64 hi] w fun e w' => e = .returned (.bool true) ∧ w' = w :=
  (inRange n lo hi w).mono fun e w' ⟨h1, h2⟩ => ⟨by rw [h1]; simp [h.1, h.2], h2⟩
theorem inNo (n lo hi : Int) (h : ¬ (lo ≤ n ∧ n ≤ hi)) (w : World) : Calls Tryz.prog 175 #[.int .i64 n, .int .i64 lo, .int .i64 hi] w fun e w' => e = .returned (.bool false) ∧ w' = w :=
  (inRange n lo hi w).mono fun e w' ⟨h1, h2⟩ => ⟨by rw [h1]; congr 2; simp; omega, h2⟩
def zeroG (a b c : Int) : Bool := a == 0 && b == 0 && c == 0
theorem zeroG_out {a b c : Int} (h : zeroG a b c = true) : geoB a b c = false := by
  simp only [zeroG, Bool.and_eq_true, beq_iff_eq] at h
  unfold geoB; simp; omega
theorem guard23 (op : BinOp) (x y : Operand) (xs ys : Array Value) (w : World) : (eqGuard op 62 x y (.agg xs) (.agg ys)).run Tryz.prog w = .ok () w := run_eqGuard_agg w op 62 x y xs ys (by kernel_rfl)
theorem eql23 (a b c : Int) (w : World) : (binOp .eql 62 (.agg #[.int .i64 a, .int .i64 b, .int .i64 c]) (.agg #[.int .i64 0, .int .i64 0, .int .i64 0])).run Tryz.prog w = .ok (.bool (zeroG a b c)) w := by
  go_simp
  by_cases h1 : a = 0
  · by_cases h2 : b = 0
    · by_cases h3 : c = 0
      · simp [zeroG, h1, h2, h3]
      · simp [zeroG, h1, h2, h3]
    · simp [zeroG, h1, h2]
  · simp [zeroG, h1]
attribute [irreducible] zeroG
attribute [go_sem] guard23
attribute [go_sem high] eql23
set_option maxRecDepth 100000 in
set_option maxHeartbeats 2000000 in
theorem geoCheck (a b c : Int) (w : World) : Calls Tryz.prog 108 #[.agg #[.int .i64 a, .int .i64 b, .int .i64 c]] w fun e w' => e = .returned (.int .i64 (errI (geoB a b c))) ∧ Below w.heap.size w w' := by
  by_cases h0 : zeroG a b c = true
  · rw [zeroG_out h0, errI_false]
    go_enter Tryz.func108, Tryz.ntmps108
    go_wp2
    go_ret
    exact ⟨rfl, (Below.refl _ _).alloc (Nat.le_refl _) _⟩
  have h0' : zeroG a b c = false := by simpa using h0
  clear h0
  by_cases h1 : 1 ≤ a ∧ a ≤ 8
  · by_cases h2 : 1 ≤ b ∧ b ≤ 8
    · by_cases h3 : 4 ≤ c ∧ c ≤ 128
      · rw [show geoB a b c = true by unfold geoB; simp; omega, errI_true]
        go_enter Tryz.func108, Tryz.ntmps108
        go_wp2_with (go_at_call 175; refine (inYes _ _ _ (by omega) _).mono ?_; rintro e w' ⟨rfl, rfl⟩)
        go_ret
        exact ⟨rfl, (Below.refl _ _).alloc (Nat.le_refl _) _⟩
      · rw [show geoB a b c = false by unfold geoB; simp; omega, errI_false]
        go_enter Tryz.func108, Tryz.ntmps108
        go_wp2_with (go_at_call 175; (first | refine (inYes _ _ _ (by omega) _).mono ?_ | refine (inNo _ _ _ (by omega) _).mono ?_); rintro e w' ⟨rfl, rfl⟩)
        go_ret
        exact ⟨rfl, (Below.refl _ _).alloc (Nat.le_refl _) _⟩
    · rw [show geoB a b c = false by unfold geoB; simp; omega, errI_false]
      go_enter Tryz.func108, Tryz.ntmps108
      go_wp2_with (go_at_call 175; (first | refine (inYes _ _ _ (by omega) _).mono ?_ | refine (inNo _ _ _ (by omega) _).mono ?_); rintro e w' ⟨rfl, rfl⟩)
      go_ret
      exact ⟨rfl, (Below.refl _ _).alloc (Nat.le_refl _) _⟩
  · rw [show geoB a b c = false by unfold geoB; simp; omega, errI_false]
    go_enter Tryz.func108, Tryz.ntmps108
    go_wp2_with (go_at_call 175; (first | refine (inYes _ _ _ (by omega) _).mono ?_ | refine (inNo _ _ _ (by omega) _).mono ?_); rintro e w' ⟨rfl, rfl⟩)
    go_ret
    exact ⟨rfl, (Below.refl _ _).alloc (Nat.le_refl _) _⟩
end Go.Sx
