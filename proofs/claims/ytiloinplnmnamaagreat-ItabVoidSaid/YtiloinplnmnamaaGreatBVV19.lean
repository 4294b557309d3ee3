/-
  Parts of the executor Sx over the model's code (any program), or of this seat's walks: words and proofs that the row's text uses.
-/
import Derived.Test.YtiloinplnmnamaaGreatBL19
import Derived.Test.YtiloinplnmnamaaGreatBJji4
import Derived.Test.YtiloinplnmnamaaGreatRows
import Derived.Test.YtiloinplnmnamaaGreatChecked
import Derived.WalkKit
import Derived.ProofKit
import Derived.OpenShut
import Derived.ChangeOld
import Derived.Below
namespace Go.Proofs.YtiloinplnmnamaaGreat
open Go.ChangeShapes Go.WideShapes Go.ChangeAt Go.RowKit
set_option linter.unusedVariables false

theorem own : ownKnob Tryz.prog.godebug = none := by kernel_rfl
theorem laidOut : laidOutB Tryz.prog = true := by kernel_rfl

/-- the kinds of a row's cells -/
def kindsOf (P : Program) : List TypeId → Option (List IntKind)
  | [] => some []
  | t :: ts => match P.underlying t, kindsOf P ts with
    | some (.int k), some ks => some (k :: ks)
    | _, _ => none

theorem kindsOf_get {P : Program} : ∀ {ts : List TypeId} {ks : List IntKind}, kindsOf P ts = some ks → ts.length = ks.length ∧ ∀ (i : Nat) (t : TypeId), ts[i]? = some t → ∃ k, ks[i]? = some k ∧ P.underlying t = some (.int k)
  | [], ks, h => by cases h; simp
  | t :: ts, ks, h => by
    simp only [kindsOf] at h
    split at h <;> try (cases h; done)
    rename_i k ks' h1 h2
    cases h
    obtain ⟨e1, e2⟩ := kindsOf_get h2
    refine ⟨by simp [e1], fun i u hu => ?_⟩
    cases i with
    | zero => simp at hu; subst hu; exact ⟨k, rfl, h1⟩
    | succ i => simp at hu; simpa using e2 i u hu

theorem cell_int {P : Program} {w : World} {r : Reach} {b : Nat} {t : TypeId} {k : IntKind} {v : Value} (ht : P.underlying t = some (.int k)) (h : Cell.okWide P w r b t v) : ∃ z, v = .int k z ∧ k.has z := by
  unfold Cell.okWide at h
  rw [ht] at h
  have h2 : Cell.ok P w r b t v := by
    revert h
    cases v <;> exact id
  unfold Cell.ok at h2
  rw [ht] at h2
  cases v <;> simp only at h2
  obtain ⟨rfl, h3⟩ := h2
  exact ⟨_, rfl, h3⟩

/-- an aggregate of integers, cell by cell -/
theorem open_flat {P : Program} {w : World} {r : Reach} {b : Nat} {t : TypeId} {v : Value} {ts : List TypeId} {ks : List IntKind} (ht : (match P.underlying t with | some (.struct _) => true | some (.array _ _) => true | _ => false) = true)
    (hts : P.cellTypes P.depth t = some ts) (hks : kindsOf P ts = some ks) (hc : P.cellsOf t = ks.length) (h : Value.okWide P w r b t v) :
    ∃ l : List Int, l.length = ks.length ∧ v = .agg ((ks.zip l).map fun p => Value.int p.1 p.2).toArray ∧ ∀ (i : Nat) (k : IntKind) (z : Int), ks[i]? = some k → l[i]? = some z → k.has z := by
  obtain ⟨cs, rfl, hsz, ts', hts', _, hcell⟩ : ∃ cs, v = .agg cs ∧ cs.size = P.cellsOf t ∧ Row.okWide P w r b t cs := by
    unfold Value.okWide at h
    split at h <;> first | exact h | (simp_all; done)
  rw [hts] at hts'
  cases hts'
  obtain ⟨e1, e2⟩ := kindsOf_get hks
  have key : ∀ i, i < ks.length → ∃ k z, ks[i]? = some k ∧ cs[i]? = some (.int k z) ∧ k.has z := fun i hi => by
    have hget : cs[i]? = some cs[i] := Array.getElem?_eq_getElem (by omega)
    obtain ⟨u, h1, h2⟩ := hcell i _ hget
    rw [Nat.mod_eq_of_lt (by omega)] at h1
    obtain ⟨k, h3, h4⟩ := e2 i u h1
    obtain ⟨z, h5, h6⟩ := cell_int h4 h2
    exact ⟨k, z, h3, by rw [hget, h5], h6⟩
  refine ⟨(List.range ks.length).map fun i => match (cs[i]? : Option Value) with | some (Value.int _ z) => z | _ => (0 : Int), by simp, ?_, ?_⟩
  · congr 1
    apply Array.ext
    · simp; omega
    · intro i h1 h2
      have hi : i < ks.length := by omega
      obtain ⟨k, z, g1, g2, _⟩ := key i hi
      have hk : ks[i] = k := by rw [List.getElem?_eq_getElem hi] at g1; simpa using g1
      have hz : cs[i] = .int k z := by rw [Array.getElem?_eq_getElem h1] at g2; simpa using g2
      simp [hk, hz, g2]
  · intro i k z h1 h2
    have hi : i < ks.length := (List.getElem?_eq_some_iff.1 h1).1
    obtain ⟨k', z', g1, g2, g3⟩ := key i hi
    rw [h1] at g1
    cases g1
    simp [List.getElem?_map, hi, g2] at h2
    rw [← h2]; exact g3

theorem list9 {l : List Int} (h : l.length = 9) : ∃ a b c d e f g i j, l = [a, b, c, d, e, f, g, i, j] := by
  match l, h with
  | [a, b, c, d, e, f, g, i, j], _ => exact ⟨a, b, c, d, e, f, g, i, j, rfl⟩

set_option maxRecDepth 100000 in
theorem void_lifted (os : Os) (started : os.Started) (H : Type) (enc : TypeId × Value → H) :
    ReturnsInHanded {} Tryz.checked os 3 .any (Rows.itabVoidSpec.pre6 enc Tryz.prog Tryz.f3 Rows.itabVoidRow.domain false) (Rows.itabVoidSpec.post enc Tryz.prog Tryz.f3 false true false false) := by
  refine returnsInHanded_of_change (C := Tryz.checked) own started (by kernel_rfl) Tryz.func3
    (ChangeSpec.witness6 (enc := enc) (C := Tryz.checked) false ⟨#[], #[.int .i64 0, .agg #[.int .u8 0, .int .u8 0, .int .u32 0, .int .u16 0, .int .u16 0, .int .u16 0, .int .u16 0, .int .u16 0, .int .u16 0]], []⟩ 8 (by kernel_rfl) (by kernel_rfl) (by kernel_rfl) (by kernel_rfl)) ?_
  intro W base args ds gs before hval0 hW hcnd _
  have hval : ∀ (j : Nat) t v, Tryz.f3.params[j]? = some t → args[j]? = some v → Value.okWide Tryz.prog W .any base t v := hval0
  have hW' := hW
  obtain ⟨p, q, hA0, hV, rfl, hfz, hnd⟩ := hW
  have hA : DataW.TrodAll enc Tryz.prog W 0 (fun _ => true) true Tryz.f3.params.toList args.toList ds p := hA0
  rw [Tryz.params3] at hA hval
  obtain ⟨v0, vs0, d0, ds0, p0, q0, hargs, rfl, rfl, h0, r0⟩ := trodAll_cons hA
  obtain ⟨v1, vs1, d1, ds1, p1, q1, rfl, rfl, rfl, h1, r1⟩ := trodAll_cons r0
  obtain ⟨rfl, rfl, rfl⟩ := trodAll_nil r1
  obtain rfl : args = #[v0, v1] := by cases args; simp_all
  obtain ⟨rfl, rfl⟩ := trodVars_none hV
  have k1 := h1
  have lt1 : ∀ x ∈ p1, x.block < W.heap.size := by obtain ⟨m, hm⟩ := k1; exact DataW.trod_lt m _ _ _ hm
  obtain ⟨a0, rfl, rfl, rfl, w0⟩ := open_int Tryz.underlying3 (hval 0 3 v0 rfl rfl) h0
  obtain ⟨l2, hl2, rfl, _⟩ := open_flat (t := 26) (ts := [5, 5, 22, 23, 23, 23, 23, 23, 23]) (ks := [.u8, .u8, .u32, .u16, .u16, .u16, .u16, .u16, .u16]) (by kernel_rfl) (by kernel_rfl) (by kernel_rfl) (by kernel_rfl) (hval 1 26 v1 rfl rfl)
  obtain ⟨k, l, s, e0, e1, e2, e3, sg, db, rfl⟩ := list9 hl2
  clear hA0 hval0
  refine (Go.Sx.itabVoid_law a0 k l s e0 e1 e2 e3 sg db W).mono fun e W' ⟨he, bel⟩ => ?_
  subst he
  exact ⟨_, rfl, _, _, _, [], _, [], hW', trodAll_mk1 (shut_bool Tryz.underlying4 _), (trodAll_cons_mk (shut_int Tryz.underlying3 w0) (trodAll_cons_mk (Below.trod laidOut (by kernel_rfl) (of_decide_eq_true (by kernel_rfl)) k1 bel lt1) trodAll_mk0)), rfl, bel.frame _, fun h => by cases h⟩

theorem void_over : Rows.itabVoidRow.holds Tryz.pinned (OpenSpec.ofChange Rows.itabVoidSpec) :=
  OpenClaim.holds_of_wide 3 Tryz.f3 rfl rfl rfl rfl rfl rfl rfl ⟨rfl, rfl, rfl, rfl, rfl⟩ rfl rfl rfl rfl rfl (by kernel_rfl) Tryz.func3 jic
    (of_decide_eq_true (by kernel_rfl)) (by unfold Func.isWrapper; first | (rw [if_pos (by decide +kernel)]; kernel_rfl) | (rw [if_neg (by decide +kernel)]; exact ⟨rfl, rfl⟩))
    (fun os started H enc _ => void_lifted os started H enc)

theorem itabVoid_holds : Rows.ItabVoidSaid := void_over
#print axioms itabVoid_holds
end Go.Proofs.YtiloinplnmnamaaGreat
