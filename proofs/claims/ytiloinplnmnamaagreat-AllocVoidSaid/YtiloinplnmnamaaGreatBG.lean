/-
  Parts of the executor Sx over the model's code (any program), or of this seat's walks: words and proofs that the row's text uses.
-/
import Derived.Test.YtiloinplnmnamaaGreatBS
import Derived.Test.YtiloinplnmnamaaGreatBV18
namespace Go.Sx
open Go.Proofs Go.RowKit
set_option maxRecDepth 100000
theorem quiet_pathL {P : Program} {Sg : FuncId → Option SumA} (F : Fit P (fun f => (Sg f).map toSum)) {fuel : Nat} {g : FuncId} {args : List RV} {hs : T Blk} {k : Nat} {o : List (Nat × Bool)} {v : RV} {ps : List Prop} (htop : Top ⟨.nil, hs, k, []⟩)
    (h : runA P Sg fuel g args ⟨.nil, hs, k, []⟩ ⟨0, o, []⟩ (fun v s α => some (v, s.lg.all (Nat.ble k), α.ob)) = some (v, true, ps)) (hp : All ps) (ρ : Rho) (w : World) (vs : List Value) (hr : HRel ρ hs.get w) (hf : Fresh ρ k) (ha : ArgsR ρ args vs) :
    Calls P g vs.toArray w fun e w' => ∃ V ρ', e = .returned V ∧ RVR ρ' v V ∧ Below w.heap.size w w' := by
  obtain ⟨v1, s1, α', h1, h2⟩ := runA_ok h
  simp only [Option.some.injEq, Prod.mk.injEq] at h1
  obtain ⟨rfl, hl, rfl⟩ := h1
  have h3 := (h2 hp).2 (RV × S) (fun v s => some (v, s))
  obtain ⟨v2, s2, L, h4, ci⟩ := runB_info F htop h3
  simp only [Option.some.injEq, Prod.mk.injEq] at h4
  obtain ⟨rfl, rfl⟩ := h4
  have hL : ∀ nm ∈ L, k ≤ nm := by
    have := ci.abs.lg
    rw [this] at hl
    intro nm hm
    rw [List.all_eq_true] at hl
    exact Nat.le_of_ble_eq_true (hl nm (by simp [hm]))
  exact (ci.run ρ w vs hr hf ha).mono fun e w' ⟨V, ρ', e1, e2, e3, e4, st⟩ => ⟨V, ρ', e1, e2, ⟨st.os, st.tape, st.out, st.size, fun b hb => st.frame b hb fun nm c hm hlt => absurd hlt (by have := hL nm hm; show ¬ nm < k; omega)⟩⟩
noncomputable abbrev rcL (f : Nat) (ar : List RV) (hp : T Blk) (nx : Nat) (o : List (Nat × Bool)) := runA Tryz.prog (fun _ => none) 300 f ar ⟨.nil, hp, nx, []⟩ ⟨0, o, []⟩ (fun v s α => some (v, s.lg.all (Nat.ble nx), α.ob))
abbrev gZ : RV := .one (.agg [.int .i64 0, .int .i64 0, .int .i64 0])
abbrev slotZ : RV := .tup [.agg [.int .i64 0, .int .i64 0, .int .i64 0, .int .i64 0], .c (.int .i64 2)]
theorem inode_a (i : Int) : rcL 80 [gZ, .one (.c (.int .i64 i))] .nil 0 [(0, true), (1, true), (2, true), (3, true), (4, true)] = some (slotZ, true, [decide (i < 1) = true, decide (i < 1) = true, decide (i < 1) = true, decide (i < 1) = true, decide (i < 1) = true]) := by kernel_rfl
theorem inode_b (i : Int) : rcL 80 [gZ, .one (.c (.int .i64 i))] .nil 0 [(0, false), (1, false), (2, false), (23, false), (24, false), (25, true)] = some (slotZ, true, [decide (i > 0) = true, decide (i < 1) = false, decide (i < 1) = false, decide (i < 1) = false, decide (i < 1) = false, decide (i < 1) = false]) := by kernel_rfl
noncomputable def sumInode : Sum := fun args hp nx => match args with
  | [.one (.agg [.int .i64 0, .int .i64 0, .int .i64 0]), .one (.c (.int .i64 _))] => some (slotZ, hp, nx, [])
  | _ => none
theorem sumInode_ok (args : List RV) (s : S) (v : RV) (hp : T Blk) (nx : Nat) (lg : List Nat) (ht : Top s) (h : sumInode args s.hp s.nx = some (v, hp, nx, lg)) :
    CallInfo Tryz.prog 80 args s v { s with hp := hp, nx := nx, lg := lg ++ s.lg } lg := by
  unfold sumInode at h
  split at h <;> try (cases h; done)
  rename_i i
  simp only [Option.some.injEq, Prod.mk.injEq] at h
  obtain ⟨rfl, rfl, rfl, rfl⟩ := h
  refine CallInfo.smallW (k := 0) (hs := .nil) (θ := id) (args0 := [gZ, .one (.c (.int .i64 i))]) ht ⟨_, Tryz.func80, rfl⟩ (fun ρ w vs hr hf ha => ?_) (fun _ _ h => by rw [T.get_nil] at h; cases h) (fun _ _ _ _ h => by rw [T.get_nil] at h; cases h) (fun ρ vs h => h) rfl
  by_cases hi : i < 1
  · exact quiet_pathL fit0z (fun _ _ => rfl) (inode_a i) (by simp [All, hi]) ρ w vs hr hf ha
  · have hi' : i > 0 := by omega
    exact quiet_pathL fit0z (fun _ _ => rfl) (inode_b i) (by simp [All, hi, hi']) ρ w vs hr hf ha
end Go.Sx
