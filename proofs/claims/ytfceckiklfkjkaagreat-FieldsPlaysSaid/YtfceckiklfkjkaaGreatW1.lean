/-
  Parts of the executor Sx over the model's code (any program), or of this seat's walks: words and proofs that the row's text uses.
-/
import Derived.Test.YtfceckiklfkjkaaGreatSxI
import Derived.Test.YtfceckiklfkjkaaGreatProg
import Derived.KernelRfl
import Derived.WalkKit
import Derived.Handy
import Derived.LoopTactic
import Derived.Laws.BitsAllLaws
import Derived.Lib.Hide
namespace Go.Sx
open Go.Proofs Go.RowKit
noncomputable def stp (r : Nat) : Nat := Bool.rec (Nat.div r 2) (Nat.xor (Nat.div r 2) 2197175160) (Nat.beq (Nat.mod r 2) 1)
def iter (f : Nat → Nat) : Nat → Nat → Nat
  | 0, r => r
  | n + 1, r => f (iter f n r)
theorem stp_odd {r : Nat} (h : r % 2 = 1) : stp r = (r / 2) ^^^ 2197175160 := by
  have : Nat.beq (Nat.mod r 2) 1 = true := by rw [show Nat.mod r 2 = 1 from h]; rfl
  unfold stp; rw [this]; rfl
theorem stp_even {r : Nat} (h : ¬ r % 2 = 1) : stp r = r / 2 := by
  have : Nat.beq (Nat.mod r 2) 1 = false := by rw [show Nat.mod r 2 = 0 from (by show r % 2 = 0; omega)]; rfl
  unfold stp; rw [this]; rfl
theorem stp_lt {r : Nat} (h : r < 4294967296) : stp r < 4294967296 := by
  by_cases e : r % 2 = 1
  · rw [stp_odd e]; exact Nat.xor_lt_two_pow (n := 32) (by omega) (by omega)
  · rw [stp_even e]; omega
set_option maxHeartbeats 1000000 in
theorem step_any (r n : Nat) (hr : r < 4294967296) (hn : n ≤ 1000000000000) (w : World) :
    Calls Tryz.prog 277 #[.int .u32 r, .int .i64 n] w fun e w' => e = .returned (.int .u32 (iter stp n r)) ∧ w' = w := by
  go_enter Tryz.func277, Tryz.ntmps277
  go_wp2
  go_loop [0, 5] (fun v i => ∃ k x : Nat, k ≤ n ∧ x < 4294967296 ∧ Hid (x = iter stp k r) ∧ i = .int .i64 k ∧ v = .int .u32 x) (fun _ i => n - (intOf i).toNat)
  case atStart => exact ⟨0, r, Nat.zero_le _, hr, Lib.hid rfl, rfl, rfl⟩
  case round =>
    obtain ⟨k, x, hk, hx, HX, rfl, rfl⟩ := hrel
    by_cases hlt : k < n
    · by_cases ho : x % 2 = 1
      · have hI : ((x : Int) % 2 == 1) = true := by simp; omega
        go_wp2
        go_round
        case rel =>
          refine ⟨k + 1, stp x, by omega, stp_lt hx, Lib.hid (by rw [HX.out]; rfl), by go_num, ?_⟩
          rw [stp_odd ho]
          exact congrArg _ (u32_xor_nat (x / 2) 2197175160 (by omega) (by omega))
        case measure => simp [intOf]; omega
      · have hI : ((x : Int) % 2 == 1) = false := by simp; omega
        go_wp2
        go_round
        case rel =>
          refine ⟨k + 1, stp x, by omega, stp_lt hx, Lib.hid (by rw [HX.out]; rfl), by go_num, ?_⟩
          rw [stp_even ho]
          exact congrArg _ (by omega)
        case measure => simp [intOf]; omega
    · go_wp2
      go_ret
      obtain rfl : k = n := by omega
      exact ⟨congrArg (fun x : Nat => Ending.returned (.int .u32 x)) HX.out, rfl⟩
set_option maxHeartbeats 1000000 in
theorem stepped_any (r n : Nat) (hr : r < 4294967296) (hn : n ≤ 1000000000000) (w : World) :
    Calls Tryz.prog 302 #[.int .u32 r, .int .i64 n] w fun e w' => e = .returned (.int .u32 (iter stp n r)) ∧ w' = w := by
  go_enter Tryz.func302, Tryz.ntmps302
  go_wp2
  go_loop [0, 7] (fun v i => ∃ k x : Nat, k ≤ n ∧ x < 4294967296 ∧ Hid (x = iter stp k r) ∧ i = .int .i64 k ∧ v = .int .u32 x) (fun _ i => n - (intOf i).toNat)
  case atStart => exact ⟨0, r, Nat.zero_le _, hr, Lib.hid rfl, rfl, rfl⟩
  case round =>
    obtain ⟨k, x, hk, hx, HX, rfl, rfl⟩ := hrel
    by_cases hlt : k < n
    · go_wp2
      go_round
      case rel =>
        refine ⟨k + 1, stp x, by omega, stp_lt hx, Lib.hid (by rw [HX.out]; rfl), by go_num, ?_⟩
        have h1 : bits .and .u32 (x : Int) 1 = ((x % 2 : Nat) : Int) := (u32_and_nat x 1 (by omega) (by omega)).trans (by rw [Nat.and_one_is_mod])
        rw [h1]
        by_cases ho : x % 2 = 1
        · rw [stp_odd ho, ho]
          have h2 : bits .and .u32 2197175160 (-((1 : Nat) : Int) % 4294967296) = 2197175160 := (u32_and_nat 2197175160 4294967295 (by omega) (by omega)).trans (by decide)
          rw [h2]
          exact congrArg _ (u32_xor_nat (x / 2) 2197175160 (by omega) (by omega))
        · rw [stp_even ho, show x % 2 = 0 by omega]
          have h2 : bits .and .u32 2197175160 (-((0 : Nat) : Int) % 4294967296) = 0 := (u32_and_nat 2197175160 0 (by omega) (by omega)).trans (by decide)
          rw [h2]
          exact congrArg _ ((u32_xor_nat (x / 2) 0 (by omega) (by omega)).trans (by rw [Nat.xor_zero]))
      case measure => simp [intOf]; omega
    · go_wp2
      go_ret
      obtain rfl : k = n := by omega
      exact ⟨congrArg (fun x : Nat => Ending.returned (.int .u32 x)) HX.out, rfl⟩
end Go.Sx
