/-
  'Rows.ScanVoidSaid': scupperlaw27.ScanVoid returns true for every integer and every load, and leaves its arguments as they read; no condition.
  The road: works() and the law are run by the executor Sx (proved sound for every program) in the kernel; the crc's steps, the keys of an empty map and the length of nought bits by contracts.
-/
import Derived.Test.YtganobhodimjnaaQ3
import Derived.Test.YtganobhodimjnaaRows
import Derived.Test.YtganobhodimjnaaChecked
import Derived.WalkKit
import Derived.ProofKit
import Derived.OpenShut
import Derived.ShutString
import Derived.ChangeOld
import Derived.Below
namespace Go.Proofs.Ytganobhodimjnaa
open Go.ChangeShapes Go.WideShapes Go.ChangeAt Go.RowKit
set_option linter.unusedVariables false

theorem own : ownKnob Try.prog.godebug = none := by kernel_rfl
theorem laidOut : laidOutB Try.prog = true := by kernel_rfl

theorem ints_of {k : IntKind} {Q : Int → Prop} : ∀ (L : List Value), (∀ i, i < L.length → ∃ z, L[i]? = some (.int k z) ∧ Q z) → ∃ l : List Int, L = l.map (Value.int k) ∧ ∀ x ∈ l, Q x
  | [], _ => ⟨[], rfl, fun x h => by cases h⟩
  | v :: L, h => by
    obtain ⟨z, hz, q⟩ := h 0 (by simp)
    obtain ⟨l, hl, ql⟩ := ints_of L fun i hi => by
      have := h (i + 1) (by simpa using hi)
      simpa using this
    simp at hz
    subst hz
    exact ⟨z :: l, by simp [hl], fun x hx => by
      rcases List.mem_cons.1 hx with rfl | hx
      · exact q
      · exact ql x hx⟩

theorem open_arr {H : Type} {enc : TypeId × Value → H} {P : Program} {w : World} {base : Nat} {spare : Nat → Bool} {held : Bool} {r : Reach} {b0 : Nat} {t e : TypeId} {k : IntKind} {n : Nat} {v : Value} {d : DataW H} {ps : List MemPlace}
    (ht : P.underlying t = some (.array n e)) (he : P.underlying e = some (.int k)) (hce : P.cellsOf e = 1) (hct : P.cellsOf t = n) (hval : Value.okWide P w r b0 t v) (hd : DataW.Trod enc P w base spare held t v d ps) :
    ∃ l : List Int, v = .agg (l.map (Value.int k)).toArray ∧ l.length = n ∧ ∀ x ∈ l, (Lit.int k x).wf = true := by
  obtain ⟨cs, rfl, hsz, _⟩ : ∃ cs, v = .agg cs ∧ cs.size = P.cellsOf t ∧ Row.okWide P w r b0 t cs := by
    simpa [Value.okWide, ht] using hval
  rw [hct] at hsz
  obtain ⟨fuel, hf⟩ := hd
  obtain ⟨xs, m, _, ex, hlen, hl, hel⟩ := DataW.trod_array ht hf
  obtain ⟨L⟩ := cs
  have hL : L.length = n := by simpa using hsz
  obtain ⟨l, h1, h2⟩ := ints_of (k := k) (Q := fun z => (Lit.int k z).wf = true) L fun i hi => by
    have hE := hel i (by omega)
    rw [hce, Nat.mul_one, List.getElem?_eq_getElem (by omega)] at hE
    obtain ⟨z, e1, e2, e3⟩ := DataW.trod_int he hE
    refine ⟨z, ?_, e3⟩
    have e4 : ((L.drop i).take 1)[0]? = some (Value.int k z) := by
      have : (Value.agg L.toArray).cells.toList = L := by simp [Value.cells]
      rw [this] at e1
      rw [e1]; rfl
    simpa using e4
  exact ⟨l, by rw [h1], by rw [← hL, h1]; simp, h2⟩

set_option maxRecDepth 100000 in
theorem void_lifted (os : Os) (started : os.Started) (H : Type) (enc : TypeId × Value → H) :
    ReturnsInHanded {} Try.checked os 7 .any (Rows.scanVoidSpec.pre6 enc Try.prog Try.f7 Rows.scanVoidRow.domain false) (Rows.scanVoidSpec.post enc Try.prog Try.f7 false true false false) := by
  refine returnsInHanded_of_change (C := Try.checked) own started (by kernel_rfl) Try.func7
    (ChangeSpec.witness6 (enc := enc) (C := Try.checked) false ⟨#[], #[.int .i64 0, .agg ((List.replicate 54 (0 : Int)).map (Value.int .u8)).toArray], []⟩ 8 (by kernel_rfl) (by kernel_rfl) (by kernel_rfl) (by kernel_rfl)) ?_
  intro W base args ds gs before hval0 hW hcnd _
  have hval : ∀ (j : Nat) t v, Try.f7.params[j]? = some t → args[j]? = some v → Value.okWide Try.prog W .any base t v := hval0
  have hW' := hW
  obtain ⟨p, q, hA0, hV, rfl, hfz, hnd⟩ := hW
  have hA : DataW.TrodAll enc Try.prog W 0 (fun _ => true) true Try.f7.params.toList args.toList ds p := hA0
  rw [Try.params7] at hA hval
  obtain ⟨v0, vs0, d0, ds0, p0, q0, hargs, rfl, rfl, h0, r0⟩ := trodAll_cons hA
  obtain ⟨v1, vs1, d1, ds1, p1, q1, rfl, rfl, rfl, h1, r1⟩ := trodAll_cons r0
  obtain ⟨rfl, rfl, rfl⟩ := trodAll_nil r1
  obtain rfl : args = #[v0, v1] := by cases args; simp_all
  obtain ⟨rfl, rfl⟩ := trodVars_none hV
  have k1 := h1
  have lt1 : ∀ x ∈ p1, x.block < W.heap.size := by obtain ⟨m, hm⟩ := k1; exact DataW.trod_lt m _ _ _ hm
  obtain ⟨a0, rfl, rfl, rfl, w0⟩ := open_int Try.underlying3 (hval 0 3 v0 rfl rfl) h0
  obtain ⟨l, rfl, hl, wl⟩ := open_arr Try.underlying55 Try.underlying5 (by kernel_rfl) (by kernel_rfl) (hval 1 55 v1 rfl rfl) h1
  clear hA0 hval0
  refine (Go.Sx.void_law a0 l hl W).mono fun e W' ⟨he, bel⟩ => ?_
  subst he
  exact ⟨_, rfl, _, _, _, [], _, [], hW', trodAll_mk1 (shut_bool Try.underlying4 _), (trodAll_cons_mk (shut_int Try.underlying3 w0) (trodAll_cons_mk (Below.trod laidOut (by kernel_rfl) (of_decide_eq_true (by kernel_rfl)) k1 bel lt1) trodAll_mk0)), rfl, bel.frame _, fun h => by cases h⟩

theorem void_over : Rows.scanVoidRow.holds Try.pinned (OpenSpec.ofChange Rows.scanVoidSpec) :=
  OpenClaim.holds_of_wide 7 Try.f7 rfl rfl rfl rfl rfl rfl rfl ⟨rfl, rfl, rfl, rfl, rfl⟩ rfl rfl rfl rfl rfl (by kernel_rfl) Try.func7 (by kernel_rfl)
    (of_decide_eq_true (by kernel_rfl)) (by unfold Func.isWrapper; first | (rw [if_pos (by decide +kernel)]; kernel_rfl) | (rw [if_neg (by decide +kernel)]; exact ⟨rfl, rfl⟩))
    (fun os started H enc _ => void_lifted os started H enc)

theorem scanVoid_holds : Rows.ScanVoidSaid := void_over
#print axioms scanVoid_holds
end Go.Proofs.Ytganobhodimjnaa
