/-
  Parts of the executor Sx over the model's code (any program), or of this seat's walks: words and proofs that the row's text uses.
-/
import Derived.Test.YtfceckiklfkjkaaGreatH1
namespace Go.Sx
open Go.Proofs Go.RowKit
set_option maxRecDepth 100000
/-! ### what the first phase leaves, sector by sector -/
noncomputable abbrev bk (L : List Int) (s : Int) : List Int := blkAt L (s.toNat * 64)
noncomputable def wrB (k : Int) (p B : List Int) : List Int := if isB k B && (t54 B == p) then B else nextB k B p
section
variable (a b c sc : Int)
end
section
variable {a b c sc : Int} {m : Nat} {st0 st : St} {X : Int}
/-- the sectors of a group -/
theorem pl_at (hg : geoB a b c = true) {g j : Int} (h0 : 0 ≤ g) (h1 : g < a) (j0 : 0 ≤ j) (j1 : j < 2 + b + c) :
    pl a b c (2 + g * (2 + b + c) + j) = if j = 0 then (2, g, 0, 0) else if j = 1 then (3, g, 0, 0) else if j < 2 + b then (4, g, j - 2, 0) else (0, g, j - 2 - b, 0) := by
  obtain ⟨g1, g2, g3, g4, g5, g6⟩ := geoB_iff.1 hg
  have m0 : 0 ≤ g * (2 + b + c) := Int.mul_nonneg h0 (by omega)
  have m1 : (g + 1) * (2 + b + c) ≤ a * (2 + b + c) := Int.mul_le_mul_of_nonneg_right (by omega) (by omega)
  have m2 : (g + 1) * (2 + b + c) = g * (2 + b + c) + (2 + b + c) := by rw [Int.add_mul, Int.one_mul]
  have e : 2 + g * (2 + b + c) + j - 2 = j + (2 + b + c) * g := by rw [Int.mul_comm]; omega
  have hmod : (2 + g * (2 + b + c) + j - 2) % (2 + b + c) = j := by
    rw [e, Int.add_mul_emod_self_left]; exact Int.emod_eq_of_lt j0 j1
  have hdiv : (2 + g * (2 + b + c) + j - 2) / (2 + b + c) = g := by
    rw [e, Int.add_mul_ediv_left _ _ (by omega), Int.ediv_eq_zero_of_lt j0 j1, Int.zero_add]
  unfold pl
  rw [if_pos ⟨hg, by omega, by omega⟩, if_neg (by omega), hmod, hdiv]
end
end Go.Sx

namespace Go.Sx
open Go.Proofs Go.RowKit
set_option maxRecDepth 100000
section
variable {a b c sc : Int} {m : Nat} {F : List Int}
/-! bytes stay bytes -/
theorem bytes_app {x y : List Int} (hx : Bytes x) (hy : Bytes y) : Bytes (x ++ y) := fun z hz => (List.mem_append.1 hz).elim (hx z) (hy z)
theorem bytes_put (t : Int) : Bytes (put32 t) := fun x hx => by
  unfold put32 at hx
  simp only [List.mem_cons, List.not_mem_nil, or_false, wrap_u8] at hx
  rcases hx with rfl | rfl | rfl | rfl <;> omega
theorem bytes_next {k : Int} {B p : List Int} (hk : mayK k = true) (hp : Bytes p) : Bytes (nextB k B p) := by
  unfold nextB putB
  rw [if_pos hk]
  have hk' : 1 ≤ k ∧ k ≤ 6 := by simpa [mayK] using hk
  unfold sealB
  refine bytes_app hp (bytes_app (bytes_app ?_ (bytes_put _)) (bytes_put _))
  intro x hx
  simp only [List.mem_cons, List.not_mem_nil, or_false] at hx
  rcases hx with rfl | rfl <;> omega
theorem bytes_wr {k : Int} {p B : List Int} (hk : mayK k = true) (hp : Bytes p) (hB : Bytes B) : Bytes (wrB k p B) := by
  unfold wrB
  split
  · exact hB
  · exact bytes_next hk hp
/-! the shape is found again -/
theorem find_geo (h : fndOk F m = true) : geoB (fndG F m 4) (fndG F m 6) (fndG F m 8) = true := by
  have h' := h
  unfold fndOk at h
  simp only [Bool.and_eq_true, Bool.or_eq_true] at h
  unfold fndG sel fndP
  rw [h']
  simp only [if_true]
  by_cases h0 : isK F m 0 = true
  · rw [if_pos h0]
    unfold isK supOk gOk at h0
    simp only [Bool.and_eq_true] at h0
    exact h0.2.1.1
  · rw [if_neg h0]
    have h1 := h.2.resolve_left h0
    unfold isK supOk gOk at h1
    simp only [Bool.and_eq_true] at h1
    exact h1.2.1.1
end
end Go.Sx
