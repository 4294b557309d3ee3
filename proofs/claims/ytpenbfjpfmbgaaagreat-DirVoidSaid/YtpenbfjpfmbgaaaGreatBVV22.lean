/-
  Parts of the executor Sx over the model's code (any program), or of this seat's walks: words and proofs that the row's text uses.
-/
import Derived.Test.YtpenbfjpfmbgaaaGreatBL22
import Derived.Test.YtpenbfjpfmbgaaaGreatBJjd4
import Derived.Test.YtpenbfjpfmbgaaaGreatRows
import Derived.Test.YtpenbfjpfmbgaaaGreatChecked
import Derived.WalkKit
import Derived.ProofKit
import Derived.OpenShut
import Derived.ChangeOld
import Derived.Below
namespace Go.Proofs.YtpenbfjpfmbgaaaGreat
open Go.ChangeShapes Go.WideShapes Go.ChangeAt Go.RowKit
set_option linter.unusedVariables false

theorem own : ownKnob Tryz.prog.godebug = none := by kernel_rfl
theorem laidOut : laidOutB Tryz.prog = true := by kernel_rfl

theorem cell_i {P : Program} {w : World} {r : Reach} {b : Nat} {t : TypeId} {k : IntKind} {v : Value} (ht : P.underlying t = some (.int k)) (h : Cell.okWide P w r b t v) : ∃ z, v = .int k z := by
  unfold Cell.okWide at h
  rw [ht] at h
  have h2 : Cell.ok P w r b t v := by
    revert h
    cases v <;> exact id
  unfold Cell.ok at h2
  rw [ht] at h2
  cases v <;> simp only at h2
  obtain ⟨rfl, h3⟩ := h2
  exact ⟨_, rfl⟩
theorem cell_s {P : Program} {w : World} {r : Reach} {b : Nat} {t : TypeId} {v : Value} (ht : P.underlying t = some .string) (h : Cell.okWide P w r b t v) : ∃ s, v = .string s := by
  unfold Cell.okWide at h
  rw [ht] at h
  have h2 : Cell.ok P w r b t v := by
    revert h
    cases v <;> exact id
  unfold Cell.ok at h2
  rw [ht] at h2
  cases v <;> simp only at h2
  exact ⟨_, rfl⟩
/-- a struct of a number and a text -/
theorem open_entry {P : Program} {w : World} {r : Reach} {b : Nat} {t ti ts : TypeId} {v : Value} (ht : (match P.underlying t with | some (.struct _) => true | _ => false) = true)
    (hts : P.cellTypes P.depth t = some [ti, ts]) (h1 : P.underlying ti = some (.int .i64)) (h2 : P.underlying ts = some .string) (hc : P.cellsOf t = 2) (h : Value.okWide P w r b t v) :
    ∃ (z : Int) (s : ByteArray), v = .agg #[.int .i64 z, .string s] := by
  obtain ⟨cs, rfl, hsz, ts', hts', _, hcell⟩ : ∃ cs, v = .agg cs ∧ cs.size = P.cellsOf t ∧ Row.okWide P w r b t cs := by
    unfold Value.okWide at h
    split at h <;> first | exact h | (simp_all; done)
  rw [hts] at hts'
  cases hts'
  rw [hc] at hsz
  have g0 : cs[0]? = some cs[0] := Array.getElem?_eq_getElem (by omega)
  have g1 : cs[1]? = some cs[1] := Array.getElem?_eq_getElem (by omega)
  obtain ⟨u0, e0, f0⟩ := hcell 0 _ g0
  obtain ⟨u1, e1, f1⟩ := hcell 1 _ g1
  simp at e0 e1
  subst e0 e1
  obtain ⟨z, hz⟩ := cell_i h1 f0
  obtain ⟨s, hs⟩ := cell_s h2 f1
  refine ⟨z, s, ?_⟩
  congr 1
  apply Array.ext
  · simp [hsz]
  · intro i p1 p2
    have : i = 0 ∨ i = 1 := by omega
    rcases this with rfl | rfl
    · simpa using hz
    · simpa using hs

set_option maxRecDepth 100000 in
theorem void_lifted (os : Os) (started : os.Started) (H : Type) (enc : TypeId × Value → H) :
    ReturnsInHanded {} Tryz.checked os 3 .any (Rows.dirVoidSpec.pre6 enc Tryz.prog Tryz.f3 Rows.dirVoidRow.domain false) (Rows.dirVoidSpec.post enc Tryz.prog Tryz.f3 false true false false) := by
  refine returnsInHanded_of_change (C := Tryz.checked) own started (by kernel_rfl) Tryz.func3
    (ChangeSpec.witness6 (enc := enc) (C := Tryz.checked) false ⟨#[], #[.int .i64 0, .agg #[.int .i64 0, .string .empty]], []⟩ 8 (by kernel_rfl) (by kernel_rfl) (by kernel_rfl) (by kernel_rfl)) ?_
  intro W base args ds gs before hval0 hW hcnd _
  have hval : ∀ (j : Nat) t v, Tryz.f3.params[j]? = some t → args[j]? = some v → Value.okWide Tryz.prog W .any base t v := hval0
  have hW' := hW
  obtain ⟨p, q, hA0, hV, rfl, hfz, hnd⟩ := hW
  have hA : DataW.TrodAll enc Tryz.prog W 0 (fun _ => true) true Tryz.f3.params.toList args.toList ds p := hA0
  rw [Tryz.params3] at hA hval
  obtain ⟨v0, vs0, d0, ds0, p0, q0, hargs, rfl, rfl, h0, r0⟩ := trodAll_cons hA
  obtain ⟨v1, vs1, d1, ds1, p1, q1, rfl, rfl, rfl, h1, r1⟩ := trodAll_cons r0
  obtain ⟨rfl, rfl, rfl⟩ := trodAll_nil r1
  obtain rfl : args = #[v0, v1] := by cases args; simp_all
  obtain ⟨rfl, rfl⟩ := trodVars_none hV
  have k1 := h1
  have lt1 : ∀ x ∈ p1, x.block < W.heap.size := by obtain ⟨m, hm⟩ := k1; exact DataW.trod_lt m _ _ _ hm
  obtain ⟨a0, rfl, rfl, rfl, w0⟩ := open_int Tryz.underlying3 (hval 0 3 v0 rfl rfl) h0
  obtain ⟨z1, t1, rfl⟩ := open_entry (t := 23) (ti := 3) (ts := 9) (by kernel_rfl) (by kernel_rfl) (by kernel_rfl) (by kernel_rfl) (by kernel_rfl) (hval 1 23 v1 rfl rfl)
  clear hA0 hval0
  refine (Go.Sx.dirVoid_law a0 z1 t1 W).mono fun e W' ⟨he, bel⟩ => ?_
  subst he
  exact ⟨_, rfl, _, _, _, [], _, [], hW', trodAll_mk1 (shut_bool Tryz.underlying4 _), (trodAll_cons_mk (shut_int Tryz.underlying3 w0) (trodAll_cons_mk (Below.trod laidOut (by kernel_rfl) (of_decide_eq_true (by kernel_rfl)) k1 bel lt1) trodAll_mk0)), rfl, bel.frame _, fun h => by cases h⟩

theorem void_over : Rows.dirVoidRow.holds Tryz.pinned (OpenSpec.ofChange Rows.dirVoidSpec) :=
  OpenClaim.holds_of_wide 3 Tryz.f3 rfl rfl rfl rfl rfl rfl rfl ⟨rfl, rfl, rfl, rfl, rfl⟩ rfl rfl rfl rfl rfl (by kernel_rfl) Tryz.func3 jdc
    (of_decide_eq_true (by kernel_rfl)) (by unfold Func.isWrapper; first | (rw [if_pos (by decide +kernel)]; kernel_rfl) | (rw [if_neg (by decide +kernel)]; exact ⟨rfl, rfl⟩))
    (fun os started H enc _ => void_lifted os started H enc)

theorem dirVoid_holds : Rows.DirVoidSaid := void_over
#print axioms dirVoid_holds
end Go.Proofs.YtpenbfjpfmbgaaaGreat
