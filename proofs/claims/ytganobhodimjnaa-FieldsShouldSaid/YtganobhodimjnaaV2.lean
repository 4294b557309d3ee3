/-
  FieldsShould: for every shape, number and inode, what an inode should be is as the document says, is as it should be, and may be. No condition.
-/
import Derived.Test.YtganobhodimjnaaF25
import Derived.Test.YtganobhodimjnaaRows
import Derived.Test.YtganobhodimjnaaChecked
import Derived.WalkKit
import Derived.ProofKit
import Derived.OpenShut
import Derived.ShutString
import Derived.ChangeOld
import Derived.Below
namespace Go.Proofs.Ytganobhodimjnaa
open Go.ChangeShapes Go.WideShapes Go.ChangeAt Go.RowKit
set_option linter.unusedVariables false

theorem own : ownKnob Try.prog.godebug = none := by kernel_rfl
theorem laidOut : laidOutB Try.prog = true := by kernel_rfl

/-- the kinds of a row's cells -/
def kindsOf (P : Program) : List TypeId → Option (List IntKind)
  | [] => some []
  | t :: ts => match P.underlying t, kindsOf P ts with
    | some (.int k), some ks => some (k :: ks)
    | _, _ => none

theorem kindsOf_get {P : Program} : ∀ {ts : List TypeId} {ks : List IntKind}, kindsOf P ts = some ks → ts.length = ks.length ∧ ∀ (i : Nat) (t : TypeId), ts[i]? = some t → ∃ k, ks[i]? = some k ∧ P.underlying t = some (.int k)
  | [], ks, h => by cases h; simp
  | t :: ts, ks, h => by
    simp only [kindsOf] at h
    split at h <;> try (cases h; done)
    rename_i k ks' h1 h2
    cases h
    obtain ⟨e1, e2⟩ := kindsOf_get h2
    refine ⟨by simp [e1], fun i u hu => ?_⟩
    cases i with
    | zero => simp at hu; subst hu; exact ⟨k, rfl, h1⟩
    | succ i => simp at hu; simpa using e2 i u hu

theorem cell_int {P : Program} {w : World} {r : Reach} {b : Nat} {t : TypeId} {k : IntKind} {v : Value} (ht : P.underlying t = some (.int k)) (h : Cell.okWide P w r b t v) : ∃ z, v = .int k z ∧ k.has z := by
  unfold Cell.okWide at h
  rw [ht] at h
  have h2 : Cell.ok P w r b t v := by
    revert h
    cases v <;> exact id
  unfold Cell.ok at h2
  rw [ht] at h2
  cases v <;> simp only at h2
  obtain ⟨rfl, h3⟩ := h2
  exact ⟨_, rfl, h3⟩

/-- an aggregate of integers, cell by cell -/
theorem open_flat {P : Program} {w : World} {r : Reach} {b : Nat} {t : TypeId} {v : Value} {ts : List TypeId} {ks : List IntKind} (ht : (match P.underlying t with | some (.struct _) => true | some (.array _ _) => true | _ => false) = true)
    (hts : P.cellTypes P.depth t = some ts) (hks : kindsOf P ts = some ks) (hc : P.cellsOf t = ks.length) (h : Value.okWide P w r b t v) :
    ∃ l : List Int, l.length = ks.length ∧ v = .agg ((ks.zip l).map fun p => Value.int p.1 p.2).toArray ∧ ∀ (i : Nat) (k : IntKind) (z : Int), ks[i]? = some k → l[i]? = some z → k.has z := by
  obtain ⟨cs, rfl, hsz, ts', hts', _, hcell⟩ : ∃ cs, v = .agg cs ∧ cs.size = P.cellsOf t ∧ Row.okWide P w r b t cs := by
    unfold Value.okWide at h
    split at h <;> first | exact h | (simp_all; done)
  rw [hts] at hts'
  cases hts'
  obtain ⟨e1, e2⟩ := kindsOf_get hks
  have key : ∀ i, i < ks.length → ∃ k z, ks[i]? = some k ∧ cs[i]? = some (.int k z) ∧ k.has z := fun i hi => by
    have hget : cs[i]? = some cs[i] := Array.getElem?_eq_getElem (by omega)
    obtain ⟨u, h1, h2⟩ := hcell i _ hget
    rw [Nat.mod_eq_of_lt (by omega)] at h1
    obtain ⟨k, h3, h4⟩ := e2 i u h1
    obtain ⟨z, h5, h6⟩ := cell_int h4 h2
    exact ⟨k, z, h3, by rw [hget, h5], h6⟩
  refine ⟨(List.range ks.length).map fun i => match (cs[i]? : Option Value) with | some (Value.int _ z) => z | _ => (0 : Int), by simp, ?_, ?_⟩
  · congr 1
    apply Array.ext
    · simp; omega
    · intro i h1 h2
      have hi : i < ks.length := by omega
      obtain ⟨k, z, g1, g2, _⟩ := key i hi
      have hk : ks[i] = k := by rw [List.getElem?_eq_getElem hi] at g1; simpa using g1
      have hz : cs[i] = .int k z := by rw [Array.getElem?_eq_getElem h1] at g2; simpa using g2
      simp [hk, hz, g2]
  · intro i k z h1 h2
    have hi : i < ks.length := (List.getElem?_eq_some_iff.1 h1).1
    obtain ⟨k', z', g1, g2, g3⟩ := key i hi
    rw [h1] at g1
    cases g1
    simp [List.getElem?_map, hi, g2] at h2
    rw [← h2]; exact g3

theorem list3 {l : List Int} (h : l.length = 3) : ∃ a b c, l = [a, b, c] := by
  match l, h with
  | [a, b, c], _ => exact ⟨a, b, c, rfl⟩
theorem list9 {l : List Int} (h : l.length = 9) : ∃ a b c d e f g i j, l = [a, b, c, d, e, f, g, i, j] := by
  match l, h with
  | [a, b, c, d, e, f, g, i, j], _ => exact ⟨a, b, c, d, e, f, g, i, j, rfl⟩

set_option maxRecDepth 100000 in
theorem should_lifted (os : Os) (started : os.Started) (H : Type) (enc : TypeId × Value → H) :
    ReturnsInHanded {} Try.checked os 3 .any (Rows.fieldsShouldSpec.pre6 enc Try.prog Try.f3 Rows.fieldsShouldRow.domain false) (Rows.fieldsShouldSpec.post enc Try.prog Try.f3 false true false false) := by
  refine returnsInHanded_of_change (C := Try.checked) own started (by kernel_rfl) Try.func3
    (ChangeSpec.witness6 (enc := enc) (C := Try.checked) false ⟨#[], #[.agg #[.int .i64 0, .int .i64 0, .int .i64 0], .int .i64 0, .agg #[.int .u8 0, .int .u8 0, .int .u32 0, .int .u16 0, .int .u16 0, .int .u16 0, .int .u16 0, .int .u16 0, .int .u16 0]], []⟩ 8 (by kernel_rfl) (by kernel_rfl) (by kernel_rfl) (by kernel_rfl)) ?_
  intro W base args ds gs before hval0 hW hcnd _
  have hval : ∀ (j : Nat) t v, Try.f3.params[j]? = some t → args[j]? = some v → Value.okWide Try.prog W .any base t v := hval0
  have hW' := hW
  obtain ⟨p, q, hA0, hV, rfl, hfz, hnd⟩ := hW
  have hA : DataW.TrodAll enc Try.prog W 0 (fun _ => true) true Try.f3.params.toList args.toList ds p := hA0
  rw [Try.params3] at hA hval
  obtain ⟨v0, vs0, d0, ds0, p0, q0, hargs, rfl, rfl, h0, r0⟩ := trodAll_cons hA
  obtain ⟨v1, vs1, d1, ds1, p1, q1, rfl, rfl, rfl, h1, r1⟩ := trodAll_cons r0
  obtain ⟨v2, vs2, d2, ds2, p2, q2, rfl, rfl, rfl, h2, r2⟩ := trodAll_cons r1
  obtain ⟨rfl, rfl, rfl⟩ := trodAll_nil r2
  obtain rfl : args = #[v0, v1, v2] := by cases args; simp_all
  obtain ⟨rfl, rfl⟩ := trodVars_none hV
  have k0 := h0
  have k2 := h2
  have lt0 : ∀ x ∈ p0, x.block < W.heap.size := by obtain ⟨m, hm⟩ := k0; exact DataW.trod_lt m _ _ _ hm
  have lt2 : ∀ x ∈ p2, x.block < W.heap.size := by obtain ⟨m, hm⟩ := k2; exact DataW.trod_lt m _ _ _ hm
  obtain ⟨n, rfl, rfl, rfl, w1⟩ := open_int Try.underlying3 (hval 1 3 v1 rfl rfl) h1
  obtain ⟨l0, hl0, rfl, _⟩ := open_flat (t := 23) (ts := [3, 3, 3]) (ks := [.i64, .i64, .i64]) (by kernel_rfl) (by kernel_rfl) (by kernel_rfl) (by kernel_rfl) (hval 0 23 v0 rfl rfl)
  obtain ⟨a, b, c, rfl⟩ := list3 hl0
  obtain ⟨l2, hl2, rfl, hh⟩ := open_flat (t := 28) (ts := [5, 5, 24, 25, 25, 25, 25, 25, 25]) (ks := [.u8, .u8, .u32, .u16, .u16, .u16, .u16, .u16, .u16]) (by kernel_rfl) (by kernel_rfl) (by kernel_rfl) (by kernel_rfl) (hval 2 28 v2 rfl rfl)
  obtain ⟨k, l, s, e0, e1, e2, e3, sg, db, rfl⟩ := list9 hl2
  have g0 := hh 0 _ _ rfl rfl
  have g2 := hh 2 _ _ rfl rfl
  have g3 := hh 3 _ _ rfl rfl
  have g4 := hh 4 _ _ rfl rfl
  have g5 := hh 5 _ _ rfl rfl
  have g6 := hh 6 _ _ rfl rfl
  have g7 := hh 7 _ _ rfl rfl
  have g8 := hh 8 _ _ rfl rfl
  simp only [IntKind.has, IntKind.min, IntKind.max, IntKind.bits, IntKind.signed] at g0 g2 g3 g4 g5 g6 g7 g8
  have ok : (Go.Sx.Ino9.mk k l s e0 e1 e2 e3 sg db).Ok := by
    refine ⟨?_, ?_, ?_, ⟨?_, ?_⟩, ⟨?_, ?_⟩, ⟨?_, ?_⟩, ⟨?_, ?_⟩, ⟨?_, ?_⟩, ⟨?_, ?_⟩⟩ <;> simp only <;> first | (simp at g0; omega) | (simp at g2; omega) | (simp at g3; omega) | (simp at g4; omega) | (simp at g5; omega) | (simp at g6; omega) | (simp at g7; omega) | (simp at g8; omega)
  clear hA0 hval0
  refine (Go.Sx.law3_calls a b c n ⟨k, l, s, e0, e1, e2, e3, sg, db⟩ ok W).mono fun e W' ⟨he, bel⟩ => ?_
  subst he
  exact ⟨_, rfl, _, _, _, [], _, [], hW', trodAll_mk1 (shut_bool Try.underlying4 _),
    (trodAll_cons_mk (Below.trod laidOut (by kernel_rfl) (of_decide_eq_true (by kernel_rfl)) k0 bel lt0) (trodAll_cons_mk (shut_int Try.underlying3 w1) (trodAll_cons_mk (Below.trod laidOut (by kernel_rfl) (of_decide_eq_true (by kernel_rfl)) k2 bel lt2) trodAll_mk0))), rfl, bel.frame _, fun h => by cases h⟩

theorem should_over : Rows.fieldsShouldRow.holds Try.pinned (OpenSpec.ofChange Rows.fieldsShouldSpec) :=
  OpenClaim.holds_of_wide 3 Try.f3 rfl rfl rfl rfl rfl rfl rfl ⟨rfl, rfl, rfl, rfl, rfl⟩ rfl rfl rfl rfl rfl (by kernel_rfl) Try.func3 (by kernel_rfl)
    (of_decide_eq_true (by kernel_rfl)) (by unfold Func.isWrapper; first | (rw [if_pos (by decide +kernel)]; kernel_rfl) | (rw [if_neg (by decide +kernel)]; exact ⟨rfl, rfl⟩))
    (fun os started H enc _ => should_lifted os started H enc)

theorem fieldsShould_holds : Rows.FieldsShouldSaid := should_over
#print axioms fieldsShould_holds
end Go.Proofs.Ytganobhodimjnaa
