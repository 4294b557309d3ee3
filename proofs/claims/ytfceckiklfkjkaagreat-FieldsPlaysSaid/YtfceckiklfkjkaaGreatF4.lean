/-
  Parts of the executor Sx over the model's code (any program), or of this seat's walks: words and proofs that the row's text uses.
-/
import Derived.Test.YtfceckiklfkjkaaGreatF1
import Derived.RegionTactic
import Derived.Deep.RegionWith
import Derived.IntWalk
namespace Go.Sx
open Go.Proofs Go.RowKit
theorem geoB_iff {a b c : Int} : geoB a b c = true ↔ 1 ≤ a ∧ a ≤ 8 ∧ 1 ≤ b ∧ b ≤ 8 ∧ 4 ≤ c ∧ c ≤ 128 := by unfold geoB; simp
theorem mul_bd {a b c : Int} (h : geoB a b c = true) : 7 ≤ a * (2 + b + c) ∧ a * (2 + b + c) ≤ 1104 := by
  obtain ⟨h1, h2, h3, h4, h5, h6⟩ := geoB_iff.1 h
  constructor
  · have := Int.mul_le_mul h1 (show 7 ≤ 2 + b + c by omega) (by omega) (by omega); omega
  · have := Int.mul_le_mul h2 (show 2 + b + c ≤ 138 by omega) (by omega) (by omega); omega
def tot (a b c : Int) : Int := if geoB a b c = true then 2 + a * (2 + b + c) else 0
set_option maxHeartbeats 2000000 in
theorem size_any (a b c : Int) (h : geoB a b c = true) (w : World) : Calls Tryz.prog 215 #[.agg #[.int .i64 a, .int .i64 b, .int .i64 c]] w fun e w' => e = .returned (.int .i64 (2 + b + c)) ∧ Below w.heap.size w w' := by
  obtain ⟨h1, h2, h3, h4, h5, h6⟩ := geoB_iff.1 h
  clear h
  go_enter Tryz.func215, Tryz.ntmps215
  go_wp2
  go_ret
  exact ⟨rfl, (Below.refl _ _).alloc (Nat.le_refl _) _⟩
theorem heap_new (w : World) (o : Obj) : (w.alloc o).heap[w.heap.size]? = some o := by
  show (w.heap.push o)[w.heap.size]? = some o
  simp
theorem cell_new {w : World} {cs : Array Value} {t : TypeId} {i : Nat} {v : Value} (h : cs[i]? = some v) : (w.alloc (.cells cs t)).cell? ⟨w.heap.size, i, none⟩ = some v := by
  unfold World.cell?
  rw [show (w.alloc (.cells cs t)).heap[(⟨w.heap.size, i, none⟩ : Addr).block]? = some (.cells cs t) from heap_new w _]
  simpa using h
theorem kept3 {w w2 : World} {x y z : Value} {t : TypeId} (hb : Below (w.alloc (.cells #[x, y, z] t)).heap.size (w.alloc (.cells #[x, y, z] t)) w2) :
    w2.cell? ⟨w.heap.size, 0, none⟩ = some x ∧ w2.cell? ⟨w.heap.size, 1, none⟩ = some y ∧ w2.cell? ⟨w.heap.size, 2, none⟩ = some z ∧ Below w.heap.size w w2 ∧ w.heap.size < w2.heap.size := by
  refine ⟨(hb.cell (by simp)).trans ?_, (hb.cell (by simp)).trans ?_, (hb.cell (by simp)).trans ?_, ((Below.refl _ w).alloc (Nat.le_refl _) _).trans (hb.mono (by simp)), by have := hb.size; simp at this; omega⟩ <;> exact cell_new rfl
set_option maxHeartbeats 2000000 in
theorem refTotal (a b c : Int) (w : World) : Calls Tryz.prog 147 #[.agg #[.int .i64 a, .int .i64 b, .int .i64 c]] w fun e w' => e = .returned (.int .i64 (tot a b c)) ∧ Below w.heap.size w w' := by
  by_cases h : geoB a b c = true
  · obtain ⟨h1, h2, h3, h4, h5, h6⟩ := geoB_iff.1 h
    obtain ⟨m1, m2⟩ := mul_bd h
    have hC : ∀ W, Calls Tryz.prog 111 #[.agg #[.int .i64 a, .int .i64 b, .int .i64 c]] W fun e w' => e = .returned (.int .i64 0) ∧ Below W.heap.size W w' := fun W => by have := refGeoCheck a b c W; rwa [h, errI_true] at this
    rw [show tot a b c = 2 + a * (2 + b + c) by unfold tot; rw [if_pos h]]
    clear h
    go_enter Tryz.func147, Tryz.ntmps147
    go_wp2_with (go_at_call 111; refine (hC _).mono ?_; rintro e w2 ⟨rfl, hb⟩; obtain ⟨c0, c1, c2, hb0, hlt⟩ := kept3 hb; clear hb)
    go_ret
    exact ⟨rfl, hb0⟩
  · have h' : geoB a b c = false := by simpa using h
    have hC : ∀ W, Calls Tryz.prog 111 #[.agg #[.int .i64 a, .int .i64 b, .int .i64 c]] W fun e w' => e = .returned (.int .i64 2) ∧ Below W.heap.size W w' := fun W => by have := refGeoCheck a b c W; rwa [h', errI_false] at this
    rw [show tot a b c = 0 by unfold tot; rw [if_neg h]]
    clear h h'
    go_enter Tryz.func147, Tryz.ntmps147
    go_wp2_with (go_at_call 111; refine (hC _).mono ?_; rintro e w2 ⟨rfl, hb⟩; obtain ⟨c0, c1, c2, hb0, hlt⟩ := kept3 hb; clear hb)
    go_ret
    exact ⟨rfl, hb0⟩
end Go.Sx

namespace Go.Sx
open Go.Proofs Go.RowKit
set_option maxHeartbeats 2000000 in
theorem total_any (a b c : Int) (w : World) : Calls Tryz.prog 143 #[.agg #[.int .i64 a, .int .i64 b, .int .i64 c]] w fun e w' => e = .returned (.int .i64 (tot a b c)) ∧ Below w.heap.size w w' := by
  by_cases h : geoB a b c = true
  · obtain ⟨h1, h2, h3, h4, h5, h6⟩ := geoB_iff.1 h
    obtain ⟨m1, m2⟩ := mul_bd h
    have hC : ∀ W, Calls Tryz.prog 108 #[.agg #[.int .i64 a, .int .i64 b, .int .i64 c]] W fun e w' => e = .returned (.int .i64 0) ∧ Below W.heap.size W w' := fun W => by have := geoCheck a b c W; rwa [h, errI_true] at this
    have hS : ∀ W, Calls Tryz.prog 215 #[.agg #[.int .i64 a, .int .i64 b, .int .i64 c]] W fun e w' => e = .returned (.int .i64 (2 + b + c)) ∧ Below W.heap.size W w' := fun W => size_any a b c h W
    rw [show tot a b c = 2 + a * (2 + b + c) by unfold tot; rw [if_pos h]]
    clear h
    go_enter Tryz.func143, Tryz.ntmps143
    go_wp2_with (go_at_call 108; refine (hC _).mono ?_; rintro e w2 ⟨rfl, hb⟩; obtain ⟨c0, c1, c2, hb0, hlt⟩ := kept3 hb; clear hb)
    have i1 : IntKind.i64.wrap (a * (2 + b + c)) = a * (2 + b + c) := IntWalk.i64_in _ (by omega)
    have i2 : IntKind.i64.wrap (2 + a * (2 + b + c)) = 2 + a * (2 + b + c) := IntWalk.i64_in _ (by omega)
    go_region_with (go_at_call 215; refine (hS _).mono ?_; rintro e w3 ⟨rfl, hb⟩; have d0 := (hb.cell (p := ⟨w.heap.size, 0, none⟩) (by simpa using hlt)).trans (by simpa using c0); have hb1 := hb.mono (B' := w.heap.size) (by simp; omega))
    all_goals (go_wp2; go_ret; exact ⟨rfl, (hb0.drew).trans hb1⟩)
  · have h' : geoB a b c = false := by simpa using h
    have hC : ∀ W, Calls Tryz.prog 108 #[.agg #[.int .i64 a, .int .i64 b, .int .i64 c]] W fun e w' => e = .returned (.int .i64 2) ∧ Below W.heap.size W w' := fun W => by have := geoCheck a b c W; rwa [h', errI_false] at this
    rw [show tot a b c = 0 by unfold tot; rw [if_neg h]]
    clear h h'
    go_enter Tryz.func143, Tryz.ntmps143
    go_wp2_with (go_at_call 108; refine (hC _).mono ?_; rintro e w2 ⟨rfl, hb⟩; obtain ⟨c0, c1, c2, hb0, hlt⟩ := kept3 hb; clear hb)
    go_ret
    exact ⟨rfl, hb0⟩
end Go.Sx

namespace Go.Sx
open Go.Proofs Go.RowKit
/-- what lies at a sector: kind, group, index; and the errno -/
def pl (a b c s : Int) : Int × Int × Int × Int :=
  if geoB a b c = true ∧ 0 ≤ s ∧ s < 2 + a * (2 + b + c) then
    if s < 2 then (1, 0, s, 0)
    else if (s - 2) % (2 + b + c) = 0 then (2, (s - 2) / (2 + b + c), 0, 0)
    else if (s - 2) % (2 + b + c) = 1 then (3, (s - 2) / (2 + b + c), 0, 0)
    else if (s - 2) % (2 + b + c) < 2 + b then (4, (s - 2) / (2 + b + c), (s - 2) % (2 + b + c) - 2, 0)
    else (0, (s - 2) / (2 + b + c), (s - 2) % (2 + b + c) - 2 - b, 0)
  else (0, 0, 0, 2)
def plV (p : Int × Int × Int × Int) : Value := .tuple #[.agg #[.int .i64 p.1, .int .i64 p.2.1, .int .i64 p.2.2.1], .int .i64 p.2.2.2]
theorem frozen_new {w : World} {cs : Array Value} {t : TypeId} {i : Nat} : (w.alloc (.cells cs t)).frozen? ⟨w.heap.size, i, none⟩ = false := by
  unfold World.frozen?
  rw [show (w.alloc (.cells cs t)).heap[(⟨w.heap.size, i, none⟩ : Addr).block]? = some (.cells cs t) from heap_new w _]
  simp
theorem kept33 {w w2 : World} {x y z x' y' z' : Value} {t t' : TypeId} (hb : Below ((w.alloc (.cells #[x, y, z] t)).alloc (.cells #[x', y', z'] t')).heap.size ((w.alloc (.cells #[x, y, z] t)).alloc (.cells #[x', y', z'] t')) w2) :
    (w2.cell? ⟨w.heap.size, 0, none⟩ = some x ∧ w2.cell? ⟨w.heap.size, 1, none⟩ = some y ∧ w2.cell? ⟨w.heap.size, 2, none⟩ = some z) ∧
    (w2.cell? ⟨w.heap.size + 1, 0, none⟩ = some x' ∧ w2.cell? ⟨w.heap.size + 1, 1, none⟩ = some y' ∧ w2.cell? ⟨w.heap.size + 1, 2, none⟩ = some z') ∧
    (w2.frozen? ⟨w.heap.size + 1, 0, none⟩ = false) ∧ (w2.frozen? ⟨w.heap.size + 1, 1, none⟩ = false) ∧ (w2.frozen? ⟨w.heap.size + 1, 2, none⟩ = false) ∧ Below w.heap.size w w2 ∧ w.heap.size + 1 < w2.heap.size := by
  have e : (w.alloc (.cells #[x, y, z] t)).heap.size = w.heap.size + 1 := by simp
  have hA : Below (w.heap.size + 1) (w.alloc (.cells #[x, y, z] t)) w2 := ((Below.refl (w.heap.size + 1) (w.alloc (.cells #[x, y, z] t))).alloc (by simp) _).trans (hb.mono (by simp))
  have c : ∀ i v, #[x, y, z][i]? = some v → w2.cell? ⟨w.heap.size, i, none⟩ = some v := fun i v h => (hA.cell (p := ⟨w.heap.size, i, none⟩) (by simp)).trans (cell_new h)
  have d : ∀ i v, #[x', y', z'][i]? = some v → w2.cell? ⟨w.heap.size + 1, i, none⟩ = some v := fun i v h => (hb.cell (p := ⟨w.heap.size + 1, i, none⟩) (by simp)).trans (by rw [← e]; exact cell_new h)
  have f : ∀ i, w2.frozen? ⟨w.heap.size + 1, i, none⟩ = false := fun i => (hb.frozen (p := ⟨w.heap.size + 1, i, none⟩) (by simp)).trans (by rw [← e]; exact frozen_new)
  exact ⟨⟨c 0 x rfl, c 1 y rfl, c 2 z rfl⟩, ⟨d 0 x' rfl, d 1 y' rfl, d 2 z' rfl⟩, f 0, f 1, f 2, ((Below.refl _ w).alloc (Nat.le_refl _) _).trans (hA.mono (by omega)), by have := hb.size; simp at this; omega⟩
set_option maxHeartbeats 4000000 in
theorem refWhere_bad (a b c s : Int) (h : geoB a b c = false) (w : World) : Calls Tryz.prog 82 #[.agg #[.int .i64 a, .int .i64 b, .int .i64 c], .int .i64 s] w fun e w' => e = .returned (plV (pl a b c s)) ∧ Below w.heap.size w w' := by
  have hC : ∀ W, Calls Tryz.prog 111 #[.agg #[.int .i64 a, .int .i64 b, .int .i64 c]] W fun e w' => e = .returned (.int .i64 2) ∧ Below W.heap.size W w' := fun W => by have := refGeoCheck a b c W; rwa [h, errI_false] at this
  rw [show plV (pl a b c s) = .tuple #[.agg #[.int .i64 0, .int .i64 0, .int .i64 0], .int .i64 2] by unfold pl; rw [h]; simp [plV]]
  clear h
  go_enter Tryz.func82, Tryz.ntmps82
  go_wp2_with (go_at_call 111; refine (hC _).mono ?_; rintro e w2 ⟨rfl, hb⟩; obtain ⟨⟨c0, c1, c2⟩, ⟨d0, d1, d2⟩, f0, f1, f2, hb0, hlt⟩ := kept33 hb; clear hb)
  refine bodyPost_ret (v := .tuple #[.agg #[.int .i64 0, .int .i64 0, .int .i64 0], .int .i64 2]) ?_ rfl ⟨rfl, ((hb0.setCell (by simp) _).setCell (by simp) _).setCell (by simp) _⟩
  simp [results, Tryz.results82, go_sem, d0, d1, d2, c0, c1, c2]
end Go.Sx

namespace Go.Sx
open Go.Proofs Go.RowKit
structure Own (w W : World) (x y z x' y' z' : Value) : Prop where
  c0 : W.cell? ⟨w.heap.size, 0, none⟩ = some x
  c1 : W.cell? ⟨w.heap.size, 1, none⟩ = some y
  c2 : W.cell? ⟨w.heap.size, 2, none⟩ = some z
  d0 : W.cell? ⟨w.heap.size + 1, 0, none⟩ = some x'
  d1 : W.cell? ⟨w.heap.size + 1, 1, none⟩ = some y'
  d2 : W.cell? ⟨w.heap.size + 1, 2, none⟩ = some z'
  f0 : W.frozen? ⟨w.heap.size + 1, 0, none⟩ = false
  f1 : W.frozen? ⟨w.heap.size + 1, 1, none⟩ = false
  f2 : W.frozen? ⟨w.heap.size + 1, 2, none⟩ = false
  below : Below w.heap.size w W
  lt : w.heap.size + 1 < W.heap.size
variable {w W W' : World} {x y z x' y' z' : Value}
theorem Own.first {t t' : TypeId} (hb : Below ((w.alloc (.cells #[x, y, z] t)).alloc (.cells #[x', y', z'] t')).heap.size ((w.alloc (.cells #[x, y, z] t)).alloc (.cells #[x', y', z'] t')) W) : Own w W x y z x' y' z' := by
  obtain ⟨⟨c0, c1, c2⟩, ⟨d0, d1, d2⟩, f0, f1, f2, hb0, hlt⟩ := kept33 hb
  exact ⟨c0, c1, c2, d0, d1, d2, f0, f1, f2, hb0, hlt⟩
theorem Own.next (h : Own w W x y z x' y' z') (hb : Below W.heap.size W W') : Own w W' x y z x' y' z' := by
  have hl := h.lt
  exact ⟨(hb.cell (by show w.heap.size < _; omega)).trans h.c0, (hb.cell (by show w.heap.size < _; omega)).trans h.c1, (hb.cell (by show w.heap.size < _; omega)).trans h.c2,
    (hb.cell (by show w.heap.size + 1 < _; omega)).trans h.d0, (hb.cell (by show w.heap.size + 1 < _; omega)).trans h.d1, (hb.cell (by show w.heap.size + 1 < _; omega)).trans h.d2,
    (hb.frozen (by show w.heap.size + 1 < _; omega)).trans h.f0, (hb.frozen (by show w.heap.size + 1 < _; omega)).trans h.f1, (hb.frozen (by show w.heap.size + 1 < _; omega)).trans h.f2,
    h.below.trans (hb.mono (by omega)), by have := hb.size; omega⟩
end Go.Sx

namespace Go.Sx
open Go.Proofs Go.RowKit

set_option maxHeartbeats 4000000 in
theorem refWhere_neg (a b c s : Int) (h : geoB a b c = true) (hs : s < 0) (w : World) : Calls Tryz.prog 82 #[.agg #[.int .i64 a, .int .i64 b, .int .i64 c], .int .i64 s] w fun e w' => e = .returned (.tuple #[.agg #[.int .i64 (0), .int .i64 (0), .int .i64 (0)], .int .i64 (2)]) ∧ Below w.heap.size w w' := by
  obtain ⟨h1, h2, h3, h4, h5, h6⟩ := geoB_iff.1 h
  obtain ⟨m1, m2⟩ := mul_bd h
  have hC : ∀ W, Calls Tryz.prog 111 #[.agg #[.int .i64 a, .int .i64 b, .int .i64 c]] W fun e w' => e = .returned (.int .i64 0) ∧ Below W.heap.size W w' := fun W => by have := refGeoCheck a b c W; rwa [h, errI_true] at this
  have hT : ∀ W, Calls Tryz.prog 147 #[.agg #[.int .i64 a, .int .i64 b, .int .i64 c]] W fun e w' => e = .returned (.int .i64 (2 + a * (2 + b + c))) ∧ Below W.heap.size W w' := fun W => by have := refTotal a b c W; rwa [show tot a b c = 2 + a * (2 + b + c) by unfold tot; rw [if_pos h]] at this
  clear h
  go_enter Tryz.func82, Tryz.ntmps82
  go_wp2_with (first
    | (go_at_call 111; refine (hC _).mono ?_; rintro e w2 ⟨rfl, hb⟩; have ow := Own.first hb; clear hb; obtain ⟨c0, c1, c2, d0, d1, d2, f0, f1, f2, hb0, hlt⟩ := id ow)
    | (go_at_call 147; refine (hT _).mono ?_; clear c0 c1 c2 d0 d1 d2 f0 f1 f2 hb0 hlt; rintro e w3 ⟨rfl, hb⟩; replace ow := ow.next hb; clear hb; obtain ⟨c0, c1, c2, d0, d1, d2, f0, f1, f2, hb0, hlt⟩ := id ow))
  refine bodyPost_ret (v := .tuple #[.agg #[.int .i64 (0), .int .i64 (0), .int .i64 (0)], .int .i64 (2)]) ?_ rfl ⟨rfl, ((hb0.setCell (by simp) _).setCell (by simp) _).setCell (by simp) _⟩
  simp [results, Tryz.results82, go_sem, d0, d1, d2, c0, c1, c2]

set_option maxHeartbeats 4000000 in
theorem refWhere_big (a b c s : Int) (h : geoB a b c = true) (hs : 0 ≤ s) (hs2 : 2 + a * (2 + b + c) ≤ s) (w : World) : Calls Tryz.prog 82 #[.agg #[.int .i64 a, .int .i64 b, .int .i64 c], .int .i64 s] w fun e w' => e = .returned (.tuple #[.agg #[.int .i64 (0), .int .i64 (0), .int .i64 (0)], .int .i64 (2)]) ∧ Below w.heap.size w w' := by
  obtain ⟨h1, h2, h3, h4, h5, h6⟩ := geoB_iff.1 h
  obtain ⟨m1, m2⟩ := mul_bd h
  have hC : ∀ W, Calls Tryz.prog 111 #[.agg #[.int .i64 a, .int .i64 b, .int .i64 c]] W fun e w' => e = .returned (.int .i64 0) ∧ Below W.heap.size W w' := fun W => by have := refGeoCheck a b c W; rwa [h, errI_true] at this
  have hT : ∀ W, Calls Tryz.prog 147 #[.agg #[.int .i64 a, .int .i64 b, .int .i64 c]] W fun e w' => e = .returned (.int .i64 (2 + a * (2 + b + c))) ∧ Below W.heap.size W w' := fun W => by have := refTotal a b c W; rwa [show tot a b c = 2 + a * (2 + b + c) by unfold tot; rw [if_pos h]] at this
  clear h
  go_enter Tryz.func82, Tryz.ntmps82
  go_wp2_with (first
    | (go_at_call 111; refine (hC _).mono ?_; rintro e w2 ⟨rfl, hb⟩; have ow := Own.first hb; clear hb; obtain ⟨c0, c1, c2, d0, d1, d2, f0, f1, f2, hb0, hlt⟩ := id ow)
    | (go_at_call 147; refine (hT _).mono ?_; clear c0 c1 c2 d0 d1 d2 f0 f1 f2 hb0 hlt; rintro e w3 ⟨rfl, hb⟩; replace ow := ow.next hb; clear hb; obtain ⟨c0, c1, c2, d0, d1, d2, f0, f1, f2, hb0, hlt⟩ := id ow))
  refine bodyPost_ret (v := .tuple #[.agg #[.int .i64 (0), .int .i64 (0), .int .i64 (0)], .int .i64 (2)]) ?_ rfl ⟨rfl, ((hb0.setCell (by simp) _).setCell (by simp) _).setCell (by simp) _⟩
  simp [results, Tryz.results82, go_sem, d0, d1, d2, c0, c1, c2]

set_option maxHeartbeats 4000000 in
theorem refWhere_sup (a b c s : Int) (h : geoB a b c = true) (hs : 0 ≤ s) (hs2 : s < 2) (w : World) : Calls Tryz.prog 82 #[.agg #[.int .i64 a, .int .i64 b, .int .i64 c], .int .i64 s] w fun e w' => e = .returned (.tuple #[.agg #[.int .i64 (1), .int .i64 (0), .int .i64 (s)], .int .i64 (0)]) ∧ Below w.heap.size w w' := by
  obtain ⟨h1, h2, h3, h4, h5, h6⟩ := geoB_iff.1 h
  obtain ⟨m1, m2⟩ := mul_bd h
  have hC : ∀ W, Calls Tryz.prog 111 #[.agg #[.int .i64 a, .int .i64 b, .int .i64 c]] W fun e w' => e = .returned (.int .i64 0) ∧ Below W.heap.size W w' := fun W => by have := refGeoCheck a b c W; rwa [h, errI_true] at this
  have hT : ∀ W, Calls Tryz.prog 147 #[.agg #[.int .i64 a, .int .i64 b, .int .i64 c]] W fun e w' => e = .returned (.int .i64 (2 + a * (2 + b + c))) ∧ Below W.heap.size W w' := fun W => by have := refTotal a b c W; rwa [show tot a b c = 2 + a * (2 + b + c) by unfold tot; rw [if_pos h]] at this
  clear h
  have hs3 : s < 2 + a * (2 + b + c) := by omega
  go_enter Tryz.func82, Tryz.ntmps82
  go_wp2_with (first
    | (go_at_call 111; refine (hC _).mono ?_; rintro e w2 ⟨rfl, hb⟩; have ow := Own.first hb; clear hb; obtain ⟨c0, c1, c2, d0, d1, d2, f0, f1, f2, hb0, hlt⟩ := id ow)
    | (go_at_call 147; refine (hT _).mono ?_; clear c0 c1 c2 d0 d1 d2 f0 f1 f2 hb0 hlt; rintro e w3 ⟨rfl, hb⟩; replace ow := ow.next hb; clear hb; obtain ⟨c0, c1, c2, d0, d1, d2, f0, f1, f2, hb0, hlt⟩ := id ow))
  refine bodyPost_ret (v := .tuple #[.agg #[.int .i64 (1), .int .i64 (0), .int .i64 (s)], .int .i64 (0)]) ?_ rfl ⟨rfl, ((hb0.setCell (by simp) _).setCell (by simp) _).setCell (by simp) _⟩
  simp [results, Tryz.results82, go_sem, d0, d1, d2, c0, c1, c2]

set_option maxHeartbeats 4000000 in
theorem refWhere_head (a b c s : Int) (h : geoB a b c = true) (q r : Int) (hq : (s - 2).tdiv (2 + b + c) = q) (hr : (s - 2).tmod (2 + b + c) = r) (q0 : 0 ≤ q) (q1 : q ≤ 2000) (r0 : 0 ≤ r) (r1 : r < 2 + b + c) (hs2 : 2 ≤ s) (hs3 : s < 2 + a * (2 + b + c)) (hz : r = 0) (w : World) : Calls Tryz.prog 82 #[.agg #[.int .i64 a, .int .i64 b, .int .i64 c], .int .i64 s] w fun e w' => e = .returned (.tuple #[.agg #[.int .i64 (2), .int .i64 (q), .int .i64 (0)], .int .i64 (0)]) ∧ Below w.heap.size w w' := by
  obtain ⟨h1, h2, h3, h4, h5, h6⟩ := geoB_iff.1 h
  obtain ⟨m1, m2⟩ := mul_bd h
  have hC : ∀ W, Calls Tryz.prog 111 #[.agg #[.int .i64 a, .int .i64 b, .int .i64 c]] W fun e w' => e = .returned (.int .i64 0) ∧ Below W.heap.size W w' := fun W => by have := refGeoCheck a b c W; rwa [h, errI_true] at this
  have hT : ∀ W, Calls Tryz.prog 147 #[.agg #[.int .i64 a, .int .i64 b, .int .i64 c]] W fun e w' => e = .returned (.int .i64 (2 + a * (2 + b + c))) ∧ Below W.heap.size W w' := fun W => by have := refTotal a b c W; rwa [show tot a b c = 2 + a * (2 + b + c) by unfold tot; rw [if_pos h]] at this
  clear h
  have hs : 0 ≤ s := by omega
  have hd : ¬ (2 + b + c = 0) := by omega
  subst hz
  go_enter Tryz.func82, Tryz.ntmps82
  go_wp2_with (first
    | (go_at_call 111; refine (hC _).mono ?_; rintro e w2 ⟨rfl, hb⟩; have ow := Own.first hb; clear hb; obtain ⟨c0, c1, c2, d0, d1, d2, f0, f1, f2, hb0, hlt⟩ := id ow)
    | (go_at_call 147; refine (hT _).mono ?_; clear c0 c1 c2 d0 d1 d2 f0 f1 f2 hb0 hlt; rintro e w3 ⟨rfl, hb⟩; replace ow := ow.next hb; clear hb; obtain ⟨c0, c1, c2, d0, d1, d2, f0, f1, f2, hb0, hlt⟩ := id ow))
  refine bodyPost_ret (v := .tuple #[.agg #[.int .i64 (2), .int .i64 (q), .int .i64 (0)], .int .i64 (0)]) ?_ rfl ⟨rfl, ((hb0.setCell (by simp) _).setCell (by simp) _).setCell (by simp) _⟩
  simp [results, Tryz.results82, go_sem, d0, d1, d2, c0, c1, c2]

set_option maxHeartbeats 4000000 in
theorem refWhere_maps (a b c s : Int) (h : geoB a b c = true) (q r : Int) (hq : (s - 2).tdiv (2 + b + c) = q) (hr : (s - 2).tmod (2 + b + c) = r) (q0 : 0 ≤ q) (q1 : q ≤ 2000) (r0 : 0 ≤ r) (r1 : r < 2 + b + c) (hs2 : 2 ≤ s) (hs3 : s < 2 + a * (2 + b + c)) (hz : r = 1) (w : World) : Calls Tryz.prog 82 #[.agg #[.int .i64 a, .int .i64 b, .int .i64 c], .int .i64 s] w fun e w' => e = .returned (.tuple #[.agg #[.int .i64 (3), .int .i64 (q), .int .i64 (0)], .int .i64 (0)]) ∧ Below w.heap.size w w' := by
  obtain ⟨h1, h2, h3, h4, h5, h6⟩ := geoB_iff.1 h
  obtain ⟨m1, m2⟩ := mul_bd h
  have hC : ∀ W, Calls Tryz.prog 111 #[.agg #[.int .i64 a, .int .i64 b, .int .i64 c]] W fun e w' => e = .returned (.int .i64 0) ∧ Below W.heap.size W w' := fun W => by have := refGeoCheck a b c W; rwa [h, errI_true] at this
  have hT : ∀ W, Calls Tryz.prog 147 #[.agg #[.int .i64 a, .int .i64 b, .int .i64 c]] W fun e w' => e = .returned (.int .i64 (2 + a * (2 + b + c))) ∧ Below W.heap.size W w' := fun W => by have := refTotal a b c W; rwa [show tot a b c = 2 + a * (2 + b + c) by unfold tot; rw [if_pos h]] at this
  clear h
  have hs : 0 ≤ s := by omega
  have hd : ¬ (2 + b + c = 0) := by omega
  subst hz
  go_enter Tryz.func82, Tryz.ntmps82
  go_wp2_with (first
    | (go_at_call 111; refine (hC _).mono ?_; rintro e w2 ⟨rfl, hb⟩; have ow := Own.first hb; clear hb; obtain ⟨c0, c1, c2, d0, d1, d2, f0, f1, f2, hb0, hlt⟩ := id ow)
    | (go_at_call 147; refine (hT _).mono ?_; clear c0 c1 c2 d0 d1 d2 f0 f1 f2 hb0 hlt; rintro e w3 ⟨rfl, hb⟩; replace ow := ow.next hb; clear hb; obtain ⟨c0, c1, c2, d0, d1, d2, f0, f1, f2, hb0, hlt⟩ := id ow))
  refine bodyPost_ret (v := .tuple #[.agg #[.int .i64 (3), .int .i64 (q), .int .i64 (0)], .int .i64 (0)]) ?_ rfl ⟨rfl, ((hb0.setCell (by simp) _).setCell (by simp) _).setCell (by simp) _⟩
  simp [results, Tryz.results82, go_sem, d0, d1, d2, c0, c1, c2]

set_option maxHeartbeats 4000000 in
theorem refWhere_ino (a b c s : Int) (h : geoB a b c = true) (q r : Int) (hq : (s - 2).tdiv (2 + b + c) = q) (hr : (s - 2).tmod (2 + b + c) = r) (q0 : 0 ≤ q) (q1 : q ≤ 2000) (r0 : 0 ≤ r) (r1 : r < 2 + b + c) (hs2 : 2 ≤ s) (hs3 : s < 2 + a * (2 + b + c)) (hz : 2 ≤ r) (hz2 : r < 2 + b) (w : World) : Calls Tryz.prog 82 #[.agg #[.int .i64 a, .int .i64 b, .int .i64 c], .int .i64 s] w fun e w' => e = .returned (.tuple #[.agg #[.int .i64 (4), .int .i64 (q), .int .i64 (r - 2)], .int .i64 (0)]) ∧ Below w.heap.size w w' := by
  obtain ⟨h1, h2, h3, h4, h5, h6⟩ := geoB_iff.1 h
  obtain ⟨m1, m2⟩ := mul_bd h
  have hC : ∀ W, Calls Tryz.prog 111 #[.agg #[.int .i64 a, .int .i64 b, .int .i64 c]] W fun e w' => e = .returned (.int .i64 0) ∧ Below W.heap.size W w' := fun W => by have := refGeoCheck a b c W; rwa [h, errI_true] at this
  have hT : ∀ W, Calls Tryz.prog 147 #[.agg #[.int .i64 a, .int .i64 b, .int .i64 c]] W fun e w' => e = .returned (.int .i64 (2 + a * (2 + b + c))) ∧ Below W.heap.size W w' := fun W => by have := refTotal a b c W; rwa [show tot a b c = 2 + a * (2 + b + c) by unfold tot; rw [if_pos h]] at this
  clear h
  have hs : 0 ≤ s := by omega
  have hd : ¬ (2 + b + c = 0) := by omega
  have hz3 : (r == 0) = false := by simp; omega
  have hz4 : (r == 1) = false := by simp; omega
  go_enter Tryz.func82, Tryz.ntmps82
  go_wp2_with (first
    | (go_at_call 111; refine (hC _).mono ?_; rintro e w2 ⟨rfl, hb⟩; have ow := Own.first hb; clear hb; obtain ⟨c0, c1, c2, d0, d1, d2, f0, f1, f2, hb0, hlt⟩ := id ow)
    | (go_at_call 147; refine (hT _).mono ?_; clear c0 c1 c2 d0 d1 d2 f0 f1 f2 hb0 hlt; rintro e w3 ⟨rfl, hb⟩; replace ow := ow.next hb; clear hb; obtain ⟨c0, c1, c2, d0, d1, d2, f0, f1, f2, hb0, hlt⟩ := id ow))
  refine bodyPost_ret (v := .tuple #[.agg #[.int .i64 (4), .int .i64 (q), .int .i64 (r - 2)], .int .i64 (0)]) ?_ rfl ⟨rfl, ((hb0.setCell (by simp) _).setCell (by simp) _).setCell (by simp) _⟩
  simp [results, Tryz.results82, go_sem, d0, d1, d2, c0, c1, c2]

set_option maxHeartbeats 4000000 in
theorem refWhere_raw (a b c s : Int) (h : geoB a b c = true) (q r : Int) (hq : (s - 2).tdiv (2 + b + c) = q) (hr : (s - 2).tmod (2 + b + c) = r) (q0 : 0 ≤ q) (q1 : q ≤ 2000) (r0 : 0 ≤ r) (r1 : r < 2 + b + c) (hs2 : 2 ≤ s) (hs3 : s < 2 + a * (2 + b + c)) (hz : 2 + b ≤ r) (w : World) : Calls Tryz.prog 82 #[.agg #[.int .i64 a, .int .i64 b, .int .i64 c], .int .i64 s] w fun e w' => e = .returned (.tuple #[.agg #[.int .i64 (0), .int .i64 (q), .int .i64 (r - 2 - b)], .int .i64 (0)]) ∧ Below w.heap.size w w' := by
  obtain ⟨h1, h2, h3, h4, h5, h6⟩ := geoB_iff.1 h
  obtain ⟨m1, m2⟩ := mul_bd h
  have hC : ∀ W, Calls Tryz.prog 111 #[.agg #[.int .i64 a, .int .i64 b, .int .i64 c]] W fun e w' => e = .returned (.int .i64 0) ∧ Below W.heap.size W w' := fun W => by have := refGeoCheck a b c W; rwa [h, errI_true] at this
  have hT : ∀ W, Calls Tryz.prog 147 #[.agg #[.int .i64 a, .int .i64 b, .int .i64 c]] W fun e w' => e = .returned (.int .i64 (2 + a * (2 + b + c))) ∧ Below W.heap.size W w' := fun W => by have := refTotal a b c W; rwa [show tot a b c = 2 + a * (2 + b + c) by unfold tot; rw [if_pos h]] at this
  clear h
  have hs : 0 ≤ s := by omega
  have hd : ¬ (2 + b + c = 0) := by omega
  have hz3 : (r == 0) = false := by simp; omega
  have hz4 : (r == 1) = false := by simp; omega
  go_enter Tryz.func82, Tryz.ntmps82
  go_wp2_with (first
    | (go_at_call 111; refine (hC _).mono ?_; rintro e w2 ⟨rfl, hb⟩; have ow := Own.first hb; clear hb; obtain ⟨c0, c1, c2, d0, d1, d2, f0, f1, f2, hb0, hlt⟩ := id ow)
    | (go_at_call 147; refine (hT _).mono ?_; clear c0 c1 c2 d0 d1 d2 f0 f1 f2 hb0 hlt; rintro e w3 ⟨rfl, hb⟩; replace ow := ow.next hb; clear hb; obtain ⟨c0, c1, c2, d0, d1, d2, f0, f1, f2, hb0, hlt⟩ := id ow))
  refine bodyPost_ret (v := .tuple #[.agg #[.int .i64 (0), .int .i64 (q), .int .i64 (r - 2 - b)], .int .i64 (0)]) ?_ rfl ⟨rfl, ((hb0.setCell (by simp) _).setCell (by simp) _).setCell (by simp) _⟩
  simp [results, Tryz.results82, go_sem, d0, d1, d2, c0, c1, c2]
end Go.Sx

namespace Go.Sx
open Go.Proofs Go.RowKit
theorem quot_bd {a b c s : Int} (h : geoB a b c = true) (hs2 : 2 ≤ s) (hs3 : s < 2 + a * (2 + b + c)) :
    (s - 2).tdiv (2 + b + c) = (s - 2) / (2 + b + c) ∧ (s - 2).tmod (2 + b + c) = (s - 2) % (2 + b + c) ∧ 0 ≤ (s - 2) / (2 + b + c) ∧ (s - 2) / (2 + b + c) ≤ 2000 ∧ 0 ≤ (s - 2) % (2 + b + c) ∧ (s - 2) % (2 + b + c) < 2 + b + c := by
  obtain ⟨h1, h2, h3, h4, h5, h6⟩ := geoB_iff.1 h
  obtain ⟨m1, m2⟩ := mul_bd h
  refine ⟨Int.tdiv_eq_ediv_of_nonneg (by omega), Int.tmod_eq_emod_of_nonneg (by omega), Int.ediv_nonneg (by omega) (by omega), ?_, Int.emod_nonneg _ (by omega), Int.emod_lt_of_pos _ (by omega)⟩
  have := Int.ediv_le_self (2 + b + c) (show 0 ≤ s - 2 by omega)
  omega
theorem refWhere (a b c s : Int) (w : World) : Calls Tryz.prog 82 #[.agg #[.int .i64 a, .int .i64 b, .int .i64 c], .int .i64 s] w fun e w' => e = .returned (plV (pl a b c s)) ∧ Below w.heap.size w w' := by
  by_cases h : geoB a b c = true
  · by_cases h0 : s < 0
    · rw [show pl a b c s = (0, 0, 0, 2) by unfold pl; rw [if_neg (by omega)]]
      exact refWhere_neg a b c s h h0 w
    by_cases h1 : 2 + a * (2 + b + c) ≤ s
    · rw [show pl a b c s = (0, 0, 0, 2) by unfold pl; rw [if_neg (by omega)]]
      exact refWhere_big a b c s h (by omega) h1 w
    by_cases h2 : s < 2
    · rw [show pl a b c s = (1, 0, s, 0) by unfold pl; rw [if_pos ⟨h, by omega, by omega⟩, if_pos h2]]
      exact refWhere_sup a b c s h (by omega) h2 w
    obtain ⟨e1, e2, q0, q1, r0, r1⟩ := quot_bd h (show 2 ≤ s by omega) (show s < 2 + a * (2 + b + c) by omega)
    by_cases h3 : (s - 2) % (2 + b + c) = 0
    · rw [show pl a b c s = (2, (s - 2) / (2 + b + c), 0, 0) by unfold pl; rw [if_pos ⟨h, by omega, by omega⟩, if_neg h2, if_pos h3]]
      exact refWhere_head a b c s h _ _ e1 e2 q0 q1 r0 r1 (by omega) (by omega) h3 w
    by_cases h4 : (s - 2) % (2 + b + c) = 1
    · rw [show pl a b c s = (3, (s - 2) / (2 + b + c), 0, 0) by unfold pl; rw [if_pos ⟨h, by omega, by omega⟩, if_neg h2, if_neg h3, if_pos h4]]
      exact refWhere_maps a b c s h _ _ e1 e2 q0 q1 r0 r1 (by omega) (by omega) h4 w
    by_cases h5 : (s - 2) % (2 + b + c) < 2 + b
    · rw [show pl a b c s = (4, (s - 2) / (2 + b + c), (s - 2) % (2 + b + c) - 2, 0) by unfold pl; rw [if_pos ⟨h, by omega, by omega⟩, if_neg h2, if_neg h3, if_neg h4, if_pos h5]]
      exact refWhere_ino a b c s h _ _ e1 e2 q0 q1 r0 r1 (by omega) (by omega) (by omega) h5 w
    · rw [show pl a b c s = (0, (s - 2) / (2 + b + c), (s - 2) % (2 + b + c) - 2 - b, 0) by unfold pl; rw [if_pos ⟨h, by omega, by omega⟩, if_neg h2, if_neg h3, if_neg h4, if_neg h5]]
      exact refWhere_raw a b c s h _ _ e1 e2 q0 q1 r0 r1 (by omega) (by omega) (by omega) w
  · exact refWhere_bad a b c s (by simpa using h) w
end Go.Sx
