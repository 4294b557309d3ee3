/-
  Parts of the executor Sx over the model's code (any program), or of this seat's walks: words and proofs that the row's text uses.
-/
import Derived.Test.YtfceckiklfkjkaaGreatG1
import Derived.Test.YtfceckiklfkjkaaGreatF10
import Derived.Test.YtfceckiklfkjkaaGreatSxY
namespace Go.Sx
open Go.Proofs Go.RowKit
set_option maxRecDepth 100000
/-! ### shapes, as summaries -/
def csVals : List Cell → Option (List Value)
  | [] => some []
  | .int k n :: l => match csVals l with | some vs => some (.int k n :: vs) | none => none
  | .bool b :: l => match csVals l with | some vs => some (.bool b :: vs) | none => none
  | _ :: _ => none
theorem CsR.vals {ρ : Rho} : ∀ {l : List Cell} {vs us : List Value}, CsR ρ l vs → csVals l = some us → vs = us
  | [], vs, us, h, e => by cases e; exact h
  | c :: l, vs, us, ⟨v, vs', h1, h2, h3⟩, e => by
    cases c with
    | int k n =>
      simp only [csVals] at e
      split at e <;> try (cases e; done)
      rename_i ws hw
      cases e
      cases h1
      rw [h3, CsR.vals h2 hw]
    | bool b =>
      simp only [csVals] at e
      split at e <;> try (cases e; done)
      rename_i ws hw
      cases e
      cases h1
      rw [h3, CsR.vals h2 hw]
    | _ => cases e
theorem agg_vals {ρ : Rho} {l : List Cell} {us : List Value} {V : Value} (h : RVR ρ (.one (.agg l)) V) (e : csVals l = some us) : V = .agg us.toArray := by
  obtain ⟨vs, h, rfl⟩ := h
  rw [h.vals e]
theorem ArgsR.one' {ρ : Rho} {x : RV} {vs : List Value} (h : ArgsR ρ [x] vs) : ∃ V, RVR ρ x V ∧ vs = [V] := by
  obtain ⟨V, vs', h1, h2, rfl⟩ := h
  cases h2
  exact ⟨V, h1, rfl⟩
def fGeo (args : List RV) : Option (RV × List Prop) := match args with
  | [.one (.agg [.int .i64 a, .int .i64 b, .int .i64 c])] => some (.one (.c (.int .i64 (errI (geoB a b c)))), [])
  | _ => none
theorem fGeo_ok (f : FuncId) (hc : ∀ (a b c : Int) (w : World), Calls Tryz.prog f #[.agg #[.int .i64 a, .int .i64 b, .int .i64 c]] w fun e w' => e = .returned (.int .i64 (errI (geoB a b c))) ∧ Below w.heap.size w w') : PureOK Tryz.prog f fGeo := by
  intro args v ps h hp ρ w vs ha
  unfold fGeo at h
  split at h <;> try (cases h; done)
  cases h
  obtain ⟨V, h1, rfl⟩ := ha.one'
  rw [agg_vals h1 rfl]
  exact (hc _ _ _ w).mono fun e w' ⟨e1, e2⟩ => ⟨_, e1, rfl, e2⟩
def fTot (args : List RV) : Option (RV × List Prop) := match args with
  | [.one (.agg [.int .i64 a, .int .i64 b, .int .i64 c])] => some (.one (.c (.int .i64 (tot a b c))), [])
  | _ => none
theorem fTot_ok (f : FuncId) (hc : ∀ (a b c : Int) (w : World), Calls Tryz.prog f #[.agg #[.int .i64 a, .int .i64 b, .int .i64 c]] w fun e w' => e = .returned (.int .i64 (tot a b c)) ∧ Below w.heap.size w w') : PureOK Tryz.prog f fTot := by
  intro args v ps h hp ρ w vs ha
  unfold fTot at h
  split at h <;> try (cases h; done)
  cases h
  obtain ⟨V, h1, rfl⟩ := ha.one'
  rw [agg_vals h1 rfl]
  exact (hc _ _ _ w).mono fun e w' ⟨e1, e2⟩ => ⟨_, e1, rfl, e2⟩
def fWhere (args : List RV) : Option (RV × List Prop) := match args with
  | [.one (.agg [.int .i64 a, .int .i64 b, .int .i64 c]), .one (.c (.int .i64 s))] => some (.tup [.agg [.int .i64 (pl a b c s).1, .int .i64 (pl a b c s).2.1, .int .i64 (pl a b c s).2.2.1], .c (.int .i64 (pl a b c s).2.2.2)], [])
  | _ => none
theorem fWhere_ok (f : FuncId) (hc : ∀ (a b c s : Int) (w : World), Calls Tryz.prog f #[.agg #[.int .i64 a, .int .i64 b, .int .i64 c], .int .i64 s] w fun e w' => e = .returned (plV (pl a b c s)) ∧ Below w.heap.size w w') : PureOK Tryz.prog f fWhere := by
  intro args v ps h hp ρ w vs ha
  unfold fWhere at h
  split at h <;> try (cases h; done)
  cases h
  obtain ⟨V, W, h1, h2, rfl⟩ := ha.two'
  rw [agg_vals h1 rfl]
  cases h2
  exact (hc _ _ _ _ w).mono fun e w' ⟨e1, e2⟩ => ⟨_, e1, ⟨_, ⟨_, _, ⟨_, ⟨_, _, rfl, ⟨_, _, rfl, ⟨_, _, rfl, rfl, rfl⟩, rfl⟩, rfl⟩, rfl⟩, ⟨_, _, rfl, rfl, rfl⟩, rfl⟩, rfl⟩, e2⟩
/-! ### the sector behind -/
noncomputable def nextB (kind : Int) (b p : List Int) : List Int := putB kind (if rightB b then IntKind.u32.wrap (1 + turnB b) else 1) p
noncomputable def rNext (kind : Int) (b p : List Int) (o : List (Nat × Bool)) : Option (RV × List Prop) := runA Tryz.prog sgR 300 150 [.one (.c (.int .i64 kind)), .one (.ints .u8 b 64), .one (.ints .u8 p 54)] s0 ⟨0, o, []⟩ fun v _ α => some (v, α.ob)
theorem next_r1 (kind : Int) (b p : List Int) : rNext kind b p [(1, true)] = some (.tup [.ints .u8 (t64 (over z64 0 (putB kind (IntKind.u32.wrap (1 + turnB (t64 b))) (t54 p)))) 64, .c (.int .i64 (putE kind))], [rightB (t64 b) = true]) := by kernel_rfl
theorem next_r2 (kind : Int) (b p : List Int) : rNext kind b p [(1, false)] = some (.tup [.ints .u8 (t64 (over z64 0 (putB kind 1 (t54 p)))) 64, .c (.int .i64 (putE kind))], [rightB (t64 b) = false]) := by kernel_rfl
noncomputable def fNext (args : List RV) : Option (RV × List Prop) := match args with
  | [.one (.c (.int .i64 kind)), .one (.ints .u8 b 64), .one (.ints .u8 p 54)] => some (.tup [.ints .u8 (nextB kind b p) 64, .c (.int .i64 (putE kind))], [])
  | _ => none
theorem fNext_ok : PureOK Tryz.prog 150 fNext := by
  intro args v ps h hp ρ w vs ha
  unfold fNext at h
  split at h <;> try (cases h; done)
  rename_i kind b p
  cases h
  obtain ⟨hb, hp'⟩ : b.length = 64 ∧ p.length = 54 := by obtain ⟨_, _, _, ⟨_, _, h, ⟨_, _, h2, _⟩, _⟩, _⟩ := ha; exact ⟨h.1, h2.1⟩
  unfold nextB
  cases hr : rightB b with
  | true =>
    have h1 := next_r1 kind b p
    rw [show t54 p = p from take_all hp', show t64 b = b from take_all hb, over_z64 (putB_len hp'), show t64 (putB kind (IntKind.u32.wrap (1 + turnB b)) p) = _ from take_all (putB_len hp')] at h1
    exact pure_path fitR (by rfl) (by rfl) h1 ⟨hr, trivial⟩ ρ w vs ha
  | false =>
    have h1 := next_r2 kind b p
    rw [show t54 p = p from take_all hp', show t64 b = b from take_all hb, over_z64 (putB_len hp'), show t64 (putB kind 1 p) = _ from take_all (putB_len hp')] at h1
    exact pure_path fitR (by rfl) (by rfl) h1 ⟨hr, trivial⟩ ρ w vs ha
noncomputable def sgT : FuncId → Option SumA := fun f => match f with | 108 => some (pureSum fGeo) | 111 => some (pureSum fGeo) | 143 => some (pureSum fTot) | 147 => some (pureSum fTot) | 118 => some (pureSum fGet) | _ => none
theorem fitT : Fit Tryz.prog (fun f => (sgT f).map toSum) := ⟨fit_ng, fit_mixed, SumAOK.sum fun f sm h => by
  unfold sgT at h
  split at h
  · cases h; exact (fGeo_ok 108 geoCheck).sum ⟨_, Tryz.func108, rfl⟩
  · cases h; exact (fGeo_ok 111 refGeoCheck).sum ⟨_, Tryz.func111, rfl⟩
  · cases h; exact (fTot_ok 143 total_any).sum ⟨_, Tryz.func143, rfl⟩
  · cases h; exact (fTot_ok 147 refTotal).sum ⟨_, Tryz.func147, rfl⟩
  · cases h; exact fGet_ok.sum ⟨_, Tryz.func118, rfl⟩
  · cases h⟩
end Go.Sx

namespace Go.Sx
open Go.Proofs Go.RowKit
set_option maxRecDepth 100000
/-! ### the load of a shape -/
def z44 : List Int := [0, 0, 0, 0, 0, 0, 0, 0, 0, 0, 0, 0, 0, 0, 0, 0, 0, 0, 0, 0, 0, 0, 0, 0, 0, 0, 0, 0, 0, 0, 0, 0, 0, 0, 0, 0, 0, 0, 0, 0, 0, 0, 0, 0]
def supRaw (x y z : Int) : List Int := 83 :: 67 :: 85 :: 80 :: IntKind.u8.wrap (IntKind.u16.wrap x) :: IntKind.u8.wrap ((IntKind.u16.wrap x).fdiv (2 ^ 8)) :: IntKind.u8.wrap (IntKind.u16.wrap y) :: IntKind.u8.wrap ((IntKind.u16.wrap y).fdiv (2 ^ 8)) ::
  IntKind.u8.wrap (IntKind.u16.wrap z) :: IntKind.u8.wrap ((IntKind.u16.wrap z).fdiv (2 ^ 8)) :: z44
noncomputable def rSup (x y z : Int) (o : List (Nat × Bool)) : Option (RV × List Prop) := runA Tryz.prog sgT 300 77 [.one (.agg [.int .i64 x, .int .i64 y, .int .i64 z])] s0 ⟨0, o, []⟩ fun v _ α => some (v, α.ob)
theorem sup_r1 (x y z : Int) : rSup x y z [(0, false)] = some (.tup [.ints .u8 (supRaw x y z) 54, .c (.int .i64 0)], [(errI (geoB x y z) != 0) = false]) := by kernel_rfl
theorem sup_r2 (x y z : Int) : rSup x y z [(0, true)] = some (.tup [.ints .u8 z54 54, .c (.int .i64 (errI (geoB x y z)))], [(errI (geoB x y z) != 0) = true]) := by kernel_rfl
def sup (x y z : Int) : List Int := if geoB x y z then 83 :: 67 :: 85 :: 80 :: x :: 0 :: y :: 0 :: z :: 0 :: z44 else z54
def fSup (args : List RV) : Option (RV × List Prop) := match args with
  | [.one (.agg [.int .i64 x, .int .i64 y, .int .i64 z])] => some (.tup [.ints .u8 (sup x y z) 54, .c (.int .i64 (errI (geoB x y z)))], [])
  | _ => none
theorem small_b {x : Int} (h : 0 ≤ x ∧ x ≤ 200) : IntKind.u8.wrap (IntKind.u16.wrap x) = x ∧ IntKind.u8.wrap ((IntKind.u16.wrap x).fdiv (2 ^ 8)) = 0 := by
  have h1 : IntKind.u16.wrap x = x := by unfold IntKind.wrap; simp only [IntKind.bits, IntKind.signed]; simp; omega
  rw [h1]
  have h2 : x.fdiv (2 ^ 8) = 0 := by rw [Int.fdiv_eq_ediv_of_nonneg _ (by omega)]; omega
  rw [h2]
  unfold IntKind.wrap
  simp only [IntKind.bits, IntKind.signed]
  constructor
  · simp; omega
  · simp
theorem supRaw_eq {x y z : Int} (h : geoB x y z = true) : supRaw x y z = sup x y z := by
  obtain ⟨h1, h2, h3, h4, h5, h6⟩ := geoB_iff.1 h
  rw [sup, if_pos h]
  unfold supRaw
  rw [(small_b (x := x) (by omega)).1, (small_b (x := x) (by omega)).2, (small_b (x := y) (by omega)).1, (small_b (x := y) (by omega)).2, (small_b (x := z) (by omega)).1, (small_b (x := z) (by omega)).2]
theorem errI_nz (b : Bool) : (errI b != 0) = !b := by cases b <;> simp [errI_true, errI_false]
theorem fSup_ok : PureOK Tryz.prog 77 fSup := by
  intro args v ps h hp ρ w vs ha
  unfold fSup at h
  split at h <;> try (cases h; done)
  rename_i x y z
  cases h
  cases hg : geoB x y z with
  | true =>
    have h1 := sup_r1 x y z
    rw [supRaw_eq hg] at h1
    rw [errI_true]
    exact pure_path fitT (by rfl) (by rfl) h1 ⟨by rw [errI_nz, hg]; rfl, trivial⟩ ρ w vs ha
  | false =>
    have h1 := sup_r2 x y z
    rw [hg] at h1
    rw [sup, hg, if_neg (by simp)]
    exact pure_path fitT (by rfl) (by rfl) h1 ⟨by rw [errI_nz]; rfl, trivial⟩ ρ w vs ha
theorem sup_len (x y z : Int) : (sup x y z).length = 54 := by unfold sup; split <;> rfl
noncomputable def sgU : FuncId → Option SumA := fun f => match f with | 77 => some (pureSum fSup) | f => sgT f
theorem fitU : Fit Tryz.prog (fun f => (sgU f).map toSum) := ⟨fit_ng, fit_mixed, SumAOK.sum fun f sm h => by
  unfold sgU at h
  split at h
  · cases h; exact fSup_ok.sum ⟨_, Tryz.func77, rfl⟩
  · unfold sgT at h
    split at h
    · cases h; exact (fGeo_ok 108 geoCheck).sum ⟨_, Tryz.func108, rfl⟩
    · cases h; exact (fGeo_ok 111 refGeoCheck).sum ⟨_, Tryz.func111, rfl⟩
    · cases h; exact (fTot_ok 143 total_any).sum ⟨_, Tryz.func143, rfl⟩
    · cases h; exact (fTot_ok 147 refTotal).sum ⟨_, Tryz.func147, rfl⟩
    · cases h; exact fGet_ok.sum ⟨_, Tryz.func118, rfl⟩
    · cases h⟩
/-! ### .. and back -/
def le16 (x y : Int) : Int := IntKind.i64.wrap (IntKind.u16.wrap (or32 (or32 0 (shl32 x 0)) (shl32 y 8)))
def g16 (p : List Int) (i : Nat) : Int := le16 (p.getD (0 + i * 1) 0) (p.getD (0 + (i + 1) * 1) 0)
end Go.Sx

namespace Go.Sx
open Go.Proofs Go.RowKit
set_option maxRecDepth 100000
noncomputable def rG (p : List Int) (o : List (Nat × Bool)) : Option (RV × List Prop) := runA Tryz.prog sgU 300 142 [.one (.ints .u8 p 54)] s0 ⟨0, o, []⟩ fun v _ α => some (v, α.ob)
abbrev gOk (p : List Int) : Bool := geoB (g16 p 4) (g16 p 6) (g16 p 8)
abbrev gSup (p : List Int) : List Int := sup (g16 p 4) (g16 p 6) (g16 p 8)
abbrev agg0 : AV := .agg [.int .i64 0, .int .i64 0, .int .i64 0]
theorem rG_1 (p : List Int) : rG p [(83, true), (84, true), (85, true), (86, true)] = some (.tup [agg0, .c (.int .i64 22)], [(errI (gOk p) != 0) = true, (errI (gOk p) != 0) = true, (errI (gOk p) != 0) = true, (errI (gOk p) != 0) = true]) := by kernel_rfl
theorem rG_2 (p : List Int) : rG p [(83, false), (85, false), (87, false), (88, false), (89, true)] = some (.tup [agg0, .c (.int .i64 22)],
  [(if false = true then true else !(t54 (over z54 0 (gSup p)) == t54 p)) = true, (errI (gOk p) != 0) = false, (errI (gOk p) != 0) = false, (errI (gOk p) != 0) = false, (errI (gOk p) != 0) = false]) := by kernel_rfl
theorem rG_3 (p : List Int) : rG p [(83, false), (85, false), (87, false), (88, false), (89, false)] = some (.tup [.agg [.int .i64 (g16 p 4), .int .i64 (g16 p 6), .int .i64 (g16 p 8)], .c (.int .i64 0)],
  [(if false = true then true else !(t54 (over z54 0 (gSup p)) == t54 p)) = false, (errI (gOk p) != 0) = false, (errI (gOk p) != 0) = false, (errI (gOk p) != 0) = false, (errI (gOk p) != 0) = false]) := by kernel_rfl
/-- is it the load of a shape? -/
def supOk (p : List Int) : Bool := gOk p && (gSup p == p)
def sel (b : Bool) (x : Int) : Int := if b then x else 0
def fSupG (args : List RV) : Option (RV × List Prop) := match args with
  | [.one (.ints .u8 p 54)] => some (.tup [.agg [.int .i64 (sel (supOk p) (g16 p 4)), .int .i64 (sel (supOk p) (g16 p 6)), .int .i64 (sel (supOk p) (g16 p 8))], .c (.int .i64 (if supOk p then 0 else 22))], [])
  | _ => none
theorem fSupG_ok : PureOK Tryz.prog 142 fSupG := by
  intro args v ps h hp ρ w vs ha
  unfold fSupG at h
  split at h <;> try (cases h; done)
  rename_i p
  cases h
  have hl : p.length = 54 := args1_len ha
  have e1 : over z54 0 (gSup p) = gSup p := over_z54 (sup_len _ _ _)
  have e2 : t54 (gSup p) = gSup p := take_all (sup_len _ _ _)
  have e3 : t54 p = p := take_all hl
  cases hg : gOk p with
  | false =>
    have : supOk p = false := by rw [supOk, hg]; rfl
    simp only [this, sel, Bool.false_eq_true, if_false]
    exact pure_path fitU (by rfl) (by rfl) (rG_1 p) (by simp only [All, hg, errI_nz]; simp) ρ w vs ha
  | true =>
    cases hs : (gSup p == p) with
    | false =>
      have : supOk p = false := by rw [supOk, hs, Bool.and_false]
      simp only [this, sel, Bool.false_eq_true, if_false]
      exact pure_path fitU (by rfl) (by rfl) (rG_2 p) (by simp only [All, hg, errI_nz, e1, e2, e3, hs]; simp) ρ w vs ha
    | true =>
      have : supOk p = true := by rw [supOk, hg, hs]; rfl
      simp only [this, sel, if_true]
      exact pure_path fitU (by rfl) (by rfl) (rG_3 p) (by simp only [All, hg, errI_nz, e1, e2, e3, hs]; simp) ρ w vs ha
noncomputable def sgV : FuncId → Option SumA := fun f => match f with | 142 => some (pureSum fSupG) | 118 => some (pureSum fGet) | 143 => some (pureSum fTot) | _ => none
theorem fitV : Fit Tryz.prog (fun f => (sgV f).map toSum) := ⟨fit_ng, fit_mixed, SumAOK.sum fun f sm h => by
  unfold sgV at h
  split at h
  · cases h; exact fSupG_ok.sum ⟨_, Tryz.func142, rfl⟩
  · cases h; exact fGet_ok.sum ⟨_, Tryz.func118, rfl⟩
  · cases h; exact (fTot_ok 143 total_any).sum ⟨_, Tryz.func143, rfl⟩
  · cases h⟩
noncomputable def c43 : Code := gB 73
noncomputable def l43 : Code := gL (gL (gR (gL (gR (gR c43)))))
end Go.Sx

namespace Go.Sx
open Go.Proofs Go.RowKit
set_option maxRecDepth 100000
/-! ### Find: the shape of a disk -/
abbrev bRaw (L : List Int) (o : Nat) : List Int := t64 (over z64 0 ((L.drop o).take 64))
noncomputable abbrev pRaw (L : List Int) (o : Nat) : List Int := t54 (over z54 0 (getP 1 (bRaw L o)))
noncomputable abbrev totP (p : List Int) : Int := tot (sel (supOk p) (g16 p 4)) (sel (supOk p) (g16 p 6)) (sel (supOk p) (g16 p 8))
noncomputable abbrev errP (p : List Int) : Int := if supOk p then 0 else 22
noncomputable def hs43 (t : TypeId) (L : List Int) (N : Nat) : T Blk := ofL [(0, .row t true (some 64) (.ints .u8 L N))]
noncomputable def hp43 (t : TypeId) (L : List Int) (N : Nat) (x y z : Int) : T Blk := ofL [(0, .row t true (some 64) (.ints .u8 L N)), (1, .row 62 false none (.cells [.int .i64 x, .int .i64 y, .int .i64 z]))]
abbrev K43 : List Nat := [0, 2, 17, 18, 19]
noncomputable def s43 (t : TypeId) (L : List Int) (N n : Nat) (i : Int) : S := low 51 2 (fgt K43 51 ⟨ofL [(0, .one (.c (.slu 0 64 0 n))), (2, .one (.c (.ptr 1 0))), (17, .one (.c (.slu 0 64 0 2))), (18, .one (.c (.int .i64 2))), (19, .one (.c (.int .i64 i)))], hp43 t L N 0 0 0, 2, []⟩)
noncomputable def r43 (t : TypeId) (L : List Int) (N : Nat) (k e x y z : Int) : S := low 51 2 (fgt [2, 3, 4] 51 ⟨ofL [(2, .one (.c (.ptr 1 0))), (3, .one (.c (.int .i64 k))), (4, .one (.c (.int .i64 e)))], hp43 t L N x y z, 2, []⟩)
noncomputable def go43 (t : TypeId) (L : List Int) (N n : Nat) (i : Int) (o : List (Nat × Bool)) : Option (X × Bool × S × List Prop) := execA Tryz.prog sgV 300 51 l43 (s43 t L N n i) ⟨0, o, []⟩ fun x s α => some (x, Nat.ble 2 s.nx, low 51 2 (fgt K43 51 s), α.ob)
noncomputable def re43 (t : TypeId) (L : List Int) (N n : Nat) (i : Int) (o : List (Nat × Bool)) : Option (X × Bool × S × List Prop) := execA Tryz.prog sgV 300 51 l43 (s43 t L N n i) ⟨0, o, []⟩ fun x s α => some (x, Nat.ble 2 s.nx, low 51 2 (fgt [2, 3, 4] 51 s), α.ob)
theorem i0a (t : TypeId) (L : List Int) (N n : Nat) : go43 t L N n 0 [(3, true), (7, true)] = some (.normal, true, s43 t L N n 1, [(getE 1 (bRaw L 0) != 0) = true, decide (64 ≤ N) = true]) := by kernel_rfl
theorem i0d (t : TypeId) (L : List Int) (N n : Nat) : go43 t L N n 0 [(3, true), (7, false), (9, false), (10, false), (11, false), (12, false), (13, false), (14, false)] = some (.normal, true, s43 t L N n 1,
  [(errP (pRaw L 0) == 0) = false, (errP (pRaw L 0) == 0) = false, (errP (pRaw L 0) == 0) = false, (errP (pRaw L 0) == 0) = false, (errP (pRaw L 0) == 0) = false, (errP (pRaw L 0) == 0) = false, (getE 1 (bRaw L 0) != 0) = false, decide (64 ≤ N) = true]) := by kernel_rfl
theorem i0c (t : TypeId) (L : List Int) (N n : Nat) : go43 t L N n 0 [(3, true), (7, false), (9, true), (10, true), (11, true), (12, true), (13, true), (14, true), (15, false)] = some (.normal, true, s43 t L N n 1,
  [(if true = true then totP (pRaw L 0) == (n : Int) else false) = false, (errP (pRaw L 0) == 0) = true, (errP (pRaw L 0) == 0) = true, (errP (pRaw L 0) == 0) = true, (errP (pRaw L 0) == 0) = true, (errP (pRaw L 0) == 0) = true, (errP (pRaw L 0) == 0) = true, (getE 1 (bRaw L 0) != 0) = false, decide (64 ≤ N) = true]) := by kernel_rfl
theorem i0b (t : TypeId) (L : List Int) (N n : Nat) : re43 t L N n 0 [(3, true), (7, false), (9, true), (10, true), (11, true), (12, true), (13, true), (14, true), (15, true)] = some (.ret, true, r43 t L N 0 (errP (pRaw L 0)) (sel (supOk (pRaw L 0)) (g16 (pRaw L 0) 4)) (sel (supOk (pRaw L 0)) (g16 (pRaw L 0) 6)) (sel (supOk (pRaw L 0)) (g16 (pRaw L 0) 8)),
  [(if true = true then totP (pRaw L 0) == (n : Int) else false) = true, (errP (pRaw L 0) == 0) = true, (errP (pRaw L 0) == 0) = true, (errP (pRaw L 0) == 0) = true, (errP (pRaw L 0) == 0) = true, (errP (pRaw L 0) == 0) = true, (errP (pRaw L 0) == 0) = true, (getE 1 (bRaw L 0) != 0) = false, decide (64 ≤ N) = true]) := by kernel_rfl
theorem i1a (t : TypeId) (L : List Int) (N n : Nat) : go43 t L N n 1 [(3, true), (7, true)] = some (.normal, true, s43 t L N n 2, [(getE 1 (bRaw L 64) != 0) = true, decide (64 + 64 ≤ N) = true]) := by kernel_rfl
theorem i1d (t : TypeId) (L : List Int) (N n : Nat) : go43 t L N n 1 [(3, true), (7, false), (9, false), (10, false), (11, false), (12, false), (13, false), (14, false)] = some (.normal, true, s43 t L N n 2,
  [(errP (pRaw L 64) == 0) = false, (errP (pRaw L 64) == 0) = false, (errP (pRaw L 64) == 0) = false, (errP (pRaw L 64) == 0) = false, (errP (pRaw L 64) == 0) = false, (errP (pRaw L 64) == 0) = false, (getE 1 (bRaw L 64) != 0) = false, decide (64 + 64 ≤ N) = true]) := by kernel_rfl
theorem i1c (t : TypeId) (L : List Int) (N n : Nat) : go43 t L N n 1 [(3, true), (7, false), (9, true), (10, true), (11, true), (12, true), (13, true), (14, true), (15, false)] = some (.normal, true, s43 t L N n 2,
  [(if true = true then totP (pRaw L 64) == (n : Int) else false) = false, (errP (pRaw L 64) == 0) = true, (errP (pRaw L 64) == 0) = true, (errP (pRaw L 64) == 0) = true, (errP (pRaw L 64) == 0) = true, (errP (pRaw L 64) == 0) = true, (errP (pRaw L 64) == 0) = true, (getE 1 (bRaw L 64) != 0) = false, decide (64 + 64 ≤ N) = true]) := by kernel_rfl
theorem i1b (t : TypeId) (L : List Int) (N n : Nat) : re43 t L N n 1 [(3, true), (7, false), (9, true), (10, true), (11, true), (12, true), (13, true), (14, true), (15, true)] = some (.ret, true, r43 t L N 1 (errP (pRaw L 64)) (sel (supOk (pRaw L 64)) (g16 (pRaw L 64) 4)) (sel (supOk (pRaw L 64)) (g16 (pRaw L 64) 6)) (sel (supOk (pRaw L 64)) (g16 (pRaw L 64) 8)),
  [(if true = true then totP (pRaw L 64) == (n : Int) else false) = true, (errP (pRaw L 64) == 0) = true, (errP (pRaw L 64) == 0) = true, (errP (pRaw L 64) == 0) = true, (errP (pRaw L 64) == 0) = true, (errP (pRaw L 64) == 0) = true, (errP (pRaw L 64) == 0) = true, (getE 1 (bRaw L 64) != 0) = false, decide (64 + 64 ≤ N) = true]) := by kernel_rfl
theorem i2x (t : TypeId) (L : List Int) (N n : Nat) : go43 t L N n 2 [] = some (.exit 0, true, s43 t L N n 2, []) := by kernel_rfl
theorem end43 (t : TypeId) (L : List Int) (N n : Nat) : execA Tryz.prog sgV 300 51 (gR (gR (gR c43))) (s43 t L N n 2) ⟨0, [], []⟩ (fun x s α => some (x, Nat.ble 2 s.nx, low 51 2 (fgt [2, 3, 4] 51 s), α.ob)) = some (.ret, true, r43 t L N 0 22 0 0 0, []) := by kernel_rfl
noncomputable def args43 (n : Nat) : List RV := [.one (.c (.slu 0 64 0 n))]
noncomputable def sl43 (n : Nat) : T RV := match setArgs 51 (args43 n) 0 .nil some with | some t => t | none => .nil
theorem sl43_ok (n : Nat) : setArgs 51 (args43 n) 0 .nil some = some (sl43 n) := by kernel_rfl
noncomputable def a43 (t : TypeId) (L : List Int) (N n : Nat) : S := fgt [0, 2] 51 ⟨ofL [(0, .one (.c (.slu 0 64 0 n))), (2, .one (.c (.ptr 1 0)))], hp43 t L N 0 0 0, 2, []⟩
theorem st43a (t : TypeId) (L : List Int) (N n : Nat) : execA Tryz.prog sgV 300 51 (gL c43) ⟨sl43 n, hs43 t L N, 1, []⟩ ⟨0, [], []⟩ (fun x s α => some (x, fgt [0, 2] 51 s, α.ob)) = some (.normal, a43 t L N n, []) := by kernel_rfl
theorem st43b (t : TypeId) (L : List Int) (N n : Nat) : execA Tryz.prog sgV 300 51 (gL (gR c43)) (a43 t L N n) ⟨0, [(0, true)], []⟩ (fun x s α => some (x, Nat.ble 2 s.nx, low 51 2 (fgt [2, 3, 4] 51 s), α.ob)) = some (.ret, true, r43 t L N 0 22 0 0 0, [decide ((n : Int) < 2) = true]) := by kernel_rfl
theorem st43c (t : TypeId) (L : List Int) (N n : Nat) : execA Tryz.prog sgV 300 51 (gL (gR c43)) (a43 t L N n) ⟨0, [(0, false)], []⟩ (fun x s α => some (x, fgt [0, 2] 51 s, α.ob)) = some (.normal, a43 t L N n, [decide ((n : Int) < 2) = false]) := by kernel_rfl
theorem st43d (t : TypeId) (L : List Int) (N n : Nat) : execA Tryz.prog sgV 300 51 (gL (gL (gR (gR c43)))) (a43 t L N n) ⟨0, [(0, true)], []⟩ (fun x s α => some (x, Nat.ble 2 s.nx, low 51 2 (fgt K43 51 s), α.ob)) = some (.normal, true, s43 t L N n 0, [decide ((0 : Int) ≤ 2 ∧ (2 : Int) ≤ (n : Int)) = true]) := by kernel_rfl
theorem res43 (t : TypeId) (L : List Int) (N : Nat) (k e x y z : Int) : resOf Tryz.prog 51 (r43 t L N k e x y z) Tryz.f73.results.toList = some [.agg [.int .i64 x, .int .i64 y, .int .i64 z], .c (.int .i64 k), .c (.int .i64 e)] := by kernel_rfl
end Go.Sx
