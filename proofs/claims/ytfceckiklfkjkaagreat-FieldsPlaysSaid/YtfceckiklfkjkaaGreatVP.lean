/-
  FieldsPlays: for every sectors, scope, number, inode and choice: inodes of an image are told and written, and what the second phase leaves, as the document says. No condition.
-/
import Derived.Test.YtfceckiklfkjkaaGreatL5
import Derived.Test.YtfceckiklfkjkaaGreatVS
import Derived.Test.YtfceckiklfkjkaaGreatJF
namespace Go.Proofs.YtfceckiklfkjkaaGreat
open Go.ChangeShapes Go.WideShapes Go.ChangeAt Go.RowKit
set_option linter.unusedVariables false
set_option maxRecDepth 100000

set_option maxRecDepth 100000 in
theorem plays_lifted (os : Os) (started : os.Started) (H : Type) (enc : TypeId × Value → H) :
    ReturnsInHanded {} Tryz.checked os 3 .any (Rows.fieldsPlaysSpec.pre6 enc Tryz.prog Tryz.f3 Rows.fieldsPlaysRow.domain false) (Rows.fieldsPlaysSpec.post enc Tryz.prog Tryz.f3 false true false false) := by
  refine returnsInHanded_of_change (C := Tryz.checked) own started (by kernel_rfl) Tryz.func3
    (ChangeSpec.witness6 (enc := enc) (C := Tryz.checked) false ⟨#[], #[.slice none 0 0, .int .u32 0, .int .i64 0, .agg #[.int .u8 0, .int .u8 0, .int .u32 0, .int .u16 0, .int .u16 0, .int .u16 0, .int .u16 0, .int .u16 0, .int .u16 0], .bool false], []⟩ 8 (by kernel_rfl) (by kernel_rfl) (by kernel_rfl) (by kernel_rfl)) ?_
  intro W base args ds gs before hval0 hW hcnd _
  have hval : ∀ (j : Nat) t v, Tryz.f3.params[j]? = some t → args[j]? = some v → Value.okWide Tryz.prog W .any base t v := hval0
  have hW' := hW
  obtain ⟨p, q, hA0, hV, rfl, hfz, hnd⟩ := hW
  have hA : DataW.TrodAll enc Tryz.prog W 0 (fun _ => true) true Tryz.f3.params.toList args.toList ds p := hA0
  rw [Tryz.params3] at hA hval
  obtain ⟨v0, vs0, d0, ds0, p0, q0, hargs, rfl, rfl, h0, r0⟩ := trodAll_cons hA
  obtain ⟨v1, vs1, d1, ds1, p1, q1, rfl, rfl, rfl, h1, r1⟩ := trodAll_cons r0
  obtain ⟨v2, vs2, d2, ds2, p2, q2, rfl, rfl, rfl, h2, r2⟩ := trodAll_cons r1
  obtain ⟨v3, vs3, d3, ds3, p3, q3, rfl, rfl, rfl, h3, r3⟩ := trodAll_cons r2
  obtain ⟨v4, vs4, d4, ds4, p4, q4, rfl, rfl, rfl, h4, r4⟩ := trodAll_cons r3
  obtain ⟨rfl, rfl, rfl⟩ := trodAll_nil r4
  obtain rfl : args = #[v0, v1, v2, v3, v4] := by cases args; simp_all
  obtain ⟨rfl, rfl⟩ := trodVars_none hV
  have k0 := h0
  have lt0 : ∀ x ∈ p0, x.block < W.heap.size := by obtain ⟨m, hm⟩ := k0; exact DataW.trod_lt m _ _ _ hm
  have k3 := h3
  have lt3 : ∀ x ∈ p3, x.block < W.heap.size := by obtain ⟨m, hm⟩ := k3; exact DataW.trod_lt m _ _ _ hm
  obtain ⟨sc, rfl, rfl, rfl, w1⟩ := open_int Tryz.underlying23 (hval 1 23 v1 rfl rfl) h1
  obtain ⟨i, rfl, rfl, rfl, w2⟩ := open_int Tryz.underlying3 (hval 2 3 v2 rfl rfl) h2
  obtain ⟨fs, rfl, rfl, rfl⟩ := open_bool Tryz.underlying4 (hval 4 4 v4 rfl rfl) h4
  obtain ⟨l3, hl3, rfl, hh⟩ := open_flat (t := 27) (ts := [5, 5, 23, 24, 24, 24, 24, 24, 24]) (ks := [.u8, .u8, .u32, .u16, .u16, .u16, .u16, .u16, .u16]) (by kernel_rfl) (by kernel_rfl) (by kernel_rfl) (by kernel_rfl) (hval 3 27 v3 rfl rfl)
  obtain ⟨k, l, s, e0, e1, e2, e3, sg, db, rfl⟩ := list9 hl3
  have g0 := hh 0 _ _ rfl rfl
  have g1 := hh 1 _ _ rfl rfl
  have g2 := hh 2 _ _ rfl rfl
  have g3 := hh 3 _ _ rfl rfl
  have g4 := hh 4 _ _ rfl rfl
  have g5 := hh 5 _ _ rfl rfl
  have g6 := hh 6 _ _ rfl rfl
  have g7 := hh 7 _ _ rfl rfl
  have g8 := hh 8 _ _ rfl rfl
  simp only [IntKind.has, IntKind.min, IntKind.max, IntKind.bits, IntKind.signed] at g0 g1 g2 g3 g4 g5 g6 g7 g8
  have ok : Go.Sx.In9 ⟨k, l, s, e0, e1, e2, e3, sg, db⟩ := by
    refine ⟨⟨?_, ?_⟩, ⟨?_, ?_⟩, ⟨?_, ?_⟩, ⟨?_, ?_⟩, ⟨?_, ?_⟩, ⟨?_, ?_⟩, ⟨?_, ?_⟩, ⟨?_, ?_⟩, ⟨?_, ?_⟩⟩ <;> simp only <;> first | (simp at g0; omega) | (simp at g1; omega) | (simp at g2; omega) | (simp at g3; omega) | (simp at g4; omega) | (simp at g5; omega) | (simp at g6; omega) | (simp at g7; omega) | (simp at g8; omega)
  have ho := open_secs (hval 0 22 v0 rfl rfl) h0
  clear hA0 hval0
  have hsc : Go.Sx.U32 sc := by
    unfold Lit.wf at w1
    simp [IntKind.min, IntKind.max, IntKind.signed, IntKind.bits] at w1
    unfold Go.Sx.U32
    omega
  have fin : Calls Tryz.prog 3 #[v0, .int .u32 sc, .int .i64 i, Go.Sx.inoVal k l s e0 e1 e2 e3 sg db, .bool fs] W fun e w' => e = .returned (.bool true) ∧ Below W.heap.size W w' := by
    refine Go.Sx.law3 hsc ok ?_
    rcases ho with rfl | ⟨b, off, n, cap, cs, t, fr, L, rfl, hc, hb, hL, hsz, hcs, hy⟩
    · exact .inl rfl
    · exact .inr ⟨n, L, b, off, cap, cs, t, fr, rfl, hc, hb, hL, hsz, hcs, hy⟩
  refine fin.mono fun e W' ⟨he, bel⟩ => ?_
  subst he
  exact ⟨_, rfl, _, _, _, [], _, [], hW', trodAll_mk1 (shut_bool Tryz.underlying4 _),
    (trodAll_cons_mk (Below.trod laidOut (by kernel_rfl) (of_decide_eq_true (by kernel_rfl)) k0 bel lt0) (trodAll_cons_mk (shut_int Tryz.underlying23 w1) (trodAll_cons_mk (shut_int Tryz.underlying3 w2) (trodAll_cons_mk (Below.trod laidOut (by kernel_rfl) (of_decide_eq_true (by kernel_rfl)) k3 bel lt3) (trodAll_cons_mk (shut_bool Tryz.underlying4 fs) trodAll_mk0))))), rfl, bel.frame _, fun h => by cases h⟩

theorem plays_over : Rows.fieldsPlaysRow.holds Tryz.pinned (OpenSpec.ofChange Rows.fieldsPlaysSpec) :=
  OpenClaim.holds_of_wide 3 Tryz.f3 rfl rfl rfl rfl rfl rfl rfl ⟨rfl, rfl, rfl, rfl, rfl⟩ rfl rfl rfl rfl rfl (by kernel_rfl) Tryz.func3 jf
    (of_decide_eq_true (by kernel_rfl)) (by unfold Func.isWrapper; first | (rw [if_pos (by decide +kernel)]; kernel_rfl) | (rw [if_neg (by decide +kernel)]; exact ⟨rfl, rfl⟩))
    (fun os started H enc _ => plays_lifted os started H enc)

theorem fieldsPlays_holds : Rows.FieldsPlaysSaid := plays_over
end Go.Proofs.YtfceckiklfkjkaaGreat
