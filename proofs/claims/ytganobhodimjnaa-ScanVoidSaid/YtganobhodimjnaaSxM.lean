/-
  A part of the executor Sx over the model's code (any program): its words, or its proof; no seat's statement stands here.
-/
import Derived.Test.YtganobhodimjnaaSxK
import Derived.Below
namespace Go.Sx
open Go.RowKit
variable {P : Program}

/-- a call that is made from its body (no summary of its own) -/
noncomputable def runB (P : Program) (Sg : FuncId → Option Sum) (z : Bool) {β : Type} (fuel : Nat) (g : FuncId) (args : List RV) (s : S) (k : RV → S → Option β) : Option β :=
  match P.funcs[g]? with
  | none => none
  | some fn => match fn.body with
    | none => none
    | some c => bodyRun P (exec P Sg z fuel) fn c args s k

def s0 : S := ⟨.nil, .nil, 0, []⟩

structure Fit (P : Program) (Sg : FuncId → Option Sum) : Prop where
  ng : ∀ (g : Nat) (fn : Func), P.funcs[g]? = some fn → (fn.name == "runtime.NumGoroutine") = false
  mixed : P.follows .mixedOrders = true
  sums : SumOK P Sg

theorem runB_info {Sg : FuncId → Option Sum} {z : Bool} (F : Fit P Sg) {β : Type} {fuel : Nat} {g : FuncId} {args : List RV} {s : S} {k : RV → S → Option β} {r : β} (ht : Top s)
    (h : runB P Sg z fuel g args s k = some r) : ∃ v s' L, k v s' = some r ∧ CallInfo P g args s v s' L := by
  unfold runB at h
  split at h <;> try (cases h; done)
  rename_i fn hf
  split at h <;> try (cases h; done)
  rename_i c hb
  exact body_calls (exec_sound F.ng F.mixed F.sums fuel) hf hb ht h

theorem Below.stp {ρ : Rho} {hp : Hp} {nx : Nat} {w w' : World} (hf : Fresh ρ nx) (b : Below w.heap.size w w') : Stp ρ hp nx w ρ hp nx w' [] where
  le := Nat.le_refl _
  rho := fun _ _ => rfl
  keep := fun _ _ _ => rfl
  size := b.size
  frame := fun k hk _ => b.block k hk
  new := fun nm bb c h1 h2 => by rw [hf nm h1] at h2; cases h2
  own := fun _ h => by cases h
  os := b.os
  tape := b.tape
  out := b.output

theorem HRel.below {ρ : Rho} {hp : Hp} {w w' : World} (h : HRel ρ hp w) (b : Below w.heap.size w w') : HRel ρ hp w' where
  ok := fun nm x hx => by
    obtain ⟨bb, c, o, h1, h2, h3⟩ := h.ok nm x hx
    exact ⟨bb, c, o, h1, (b.block bb (Array.getElem?_eq_some_iff.1 h2).1).trans h2, h3⟩
  inj := h.inj

/-- what a contract of the kit says (nothing that lay has turned) is what a summary says that leaves all -/
theorem CallInfo.quiet {f : FuncId} {args : List RV} {s : S} {v : RV} (ht : Top s) (hfn : ∃ fn, P.funcs[f]? = some fn ∧ fn.body.isNone = false)
    (h : ∀ (ρ : Rho) (w : World) (vs : List Value), HRel ρ s.hp.get w → ArgsR ρ args vs → Calls P f vs.toArray w fun e w' => ∃ V, e = .returned V ∧ RVR ρ v V ∧ Below w.heap.size w w') :
    CallInfo P f args s v s [] where
  fn := hfn
  sl := rfl
  abs := Abs.refl ht
  run := fun ρ w vs hr hf ha => (h ρ w vs hr ha).mono fun e w' ⟨V, h1, h2, h3⟩ => ⟨V, ρ, h1, h2, hr.below h3, hf, Below.stp hf h3⟩

theorem HRel.nil (ρ : Rho) (w : World) : HRel ρ (T.nil : T Blk).get w where
  ok := fun nm x hx => by rw [T.get_nil] at hx; cases hx
  inj := fun nm nm' x y b c c' hx => by rw [T.get_nil] at hx; cases hx

/-- a closed run from nothing, as a contract at every world -/
theorem runB_calls {Sg : FuncId → Option Sum} {z : Bool} (F : Fit P Sg) {fuel : Nat} {g : FuncId} {args : List RV} {v : RV}
    (h : runB P Sg z fuel g args s0 (fun v _ => some v) = some v) {vs : List Value} (ha : ArgsR (fun _ => none) args vs) (w : World) :
    Calls P g vs.toArray w fun e w' => ∃ V ρ, e = .returned V ∧ RVR ρ v V ∧ Below w.heap.size w w' := by
  obtain ⟨v', s', L, h1, ci⟩ := runB_info F (fun nm _ => T.get_nil nm) h
  cases h1
  refine (ci.run (fun _ => none) w vs (HRel.nil _ _) (fun _ _ => rfl) ha).mono fun e w' ⟨V, ρ', e1, e2, e3, e4, st⟩ => ⟨V, ρ', e1, e2, ?_⟩
  exact ⟨st.os, st.tape, st.out, st.size, fun k hk => st.frame k hk (fun nm c _ hlt => absurd hlt (Nat.not_lt_zero _))⟩

/-- .. and as a summary: it leaves all -/
theorem runB_quiet {Sg : FuncId → Option Sum} {z : Bool} (F : Fit P Sg) {fuel : Nat} {g : FuncId} {v : Cell}
    (hv : ∀ ρ ρ' V, CR ρ v V → CR ρ' v V)
    (h : runB P Sg z fuel g [] s0 (fun v _ => some v) = some (.one (.c v))) {s : S} (ht : Top s) : CallInfo P g [] s (.one (.c v)) s [] := by
  refine CallInfo.quiet ht ?_ fun ρ w vs hr ha => ?_
  · obtain ⟨v', s', L, h1, ci⟩ := runB_info F (fun nm _ => T.get_nil nm) h
    exact ci.fn
  · cases ha
    exact (runB_calls F h (vs := []) rfl w).mono fun e w' ⟨V, ρ', e1, e2, e3⟩ => ⟨V, e1, hv ρ' ρ V e2, e3⟩
end Go.Sx
