/-
  Parts of the executor Sx over the model's code (any program), or of this seat's walks: words and proofs that the row's text uses.
-/
import Derived.Test.YtganobhodimjnaaG21
namespace Go.Sx
open Go.Proofs Go.RowKit
set_option maxRecDepth 100000
/-! ### the head's load of a group (f72), a group's first sector (f73) -/
noncomputable def sgH : FuncId → Option SumA := fun f => match f with | 70 => some (pureSum fGeo) | 47 => some (pureSum fGeo) | 69 => some (pureSum fTot) | 48 => some (pureSum fTot) | _ => none
noncomputable def rHead (g : Int) (o : List (Nat × Bool)) : Option (RV × List Prop) := runA Try.prog (fun _ => none) 300 72 [.one (.c (.int .i64 g))] s0 ⟨0, o, []⟩ fun v _ α => some (v, α.ob)
def z52 : List Int := List.replicate 52 0
theorem head_1 (g : Int) : rHead g [(0, true), (1, true), (2, true)] = some (.tup [.ints .u8 z54 54, .c (.int .i64 2)], rep 3 (decide (g < 0) = true)) := by kernel_rfl
theorem head_2 (g : Int) : rHead g [(0, false), (1, false), (2, false), (3, true)] = some (.tup [.ints .u8 z54 54, .c (.int .i64 2)], [decide (g ≥ 8) = true] ++ rep 3 (decide (g < 0) = false)) := by kernel_rfl
theorem head_3 (g : Int) : rHead g [(0, false), (1, false), (2, false), (3, false)] = some (.tup [.ints .u8 (IntKind.u8.wrap (IntKind.u16.wrap g) :: IntKind.u8.wrap ((IntKind.u16.wrap g).fdiv 256) :: z52) 54, .c (.int .i64 0)], [decide (g ≥ 8) = false] ++ rep 3 (decide (g < 0) = false)) := by kernel_rfl
def inG (g : Int) : Bool := decide (0 ≤ g) && decide (g < 8)
def headB (g : Int) : List Int := if inG g then g :: 0 :: z52 else z54
def fHead (args : List RV) : Option (RV × List Prop) := match args with
  | [.one (.c (.int .i64 g))] => some (.tup [.ints .u8 (headB g) 54, .c (.int .i64 (if inG g then 0 else 2))], [])
  | _ => none
theorem wrap_u16 (x : Int) : IntKind.u16.wrap x = x % 65536 := by unfold IntKind.wrap; simp [IntKind.bits, IntKind.signed]
theorem fHead_ok : PureOK Try.prog 72 fHead := by
  intro args v ps h hp ρ w vs ha
  unfold fHead at h
  split at h <;> try (cases h; done)
  rename_i g
  simp only [Option.some.injEq, Prod.mk.injEq] at h
  obtain ⟨rfl, rfl⟩ := h
  cases h0 : decide (g < 0) with
  | true =>
    have e : inG g = false := by unfold inG; simp at h0 ⊢; omega
    unfold headB; rw [e]
    exact pure_path fit00 (by rfl) (by rfl) (head_1 g) (All_rep h0 3) ρ w vs ha
  | false =>
    cases h1 : decide (g ≥ 8) with
    | true =>
      have e : inG g = false := by unfold inG; simp at h1 ⊢; omega
      unfold headB; rw [e]
      exact pure_path fit00 (by rfl) (by rfl) (head_2 g) ((All_append _ _).2 ⟨⟨h1, trivial⟩, All_rep h0 3⟩) ρ w vs ha
    | false =>
      have hg : 0 ≤ g ∧ g < 8 := by simp at h0 h1; omega
      have e : inG g = true := by unfold inG; simp; omega
      unfold headB; rw [e]
      have hr := head_3 g
      have e1 : IntKind.u16.wrap g = g := by rw [wrap_u16]; omega
      have e2 : IntKind.u8.wrap g = g := by rw [wrap_u8]; omega
      have e3 : IntKind.u8.wrap (g.fdiv 256) = 0 := by rw [Int.fdiv_eq_ediv_of_nonneg _ (by decide), wrap_u8]; omega
      rw [e1, e2, e3] at hr
      exact pure_path fit00 (by rfl) (by rfl) hr ((All_append _ _).2 ⟨⟨h1, trivial⟩, All_rep h0 3⟩) ρ w vs ha
end Go.Sx

namespace Go.Sx
open Go.Proofs Go.RowKit
set_option maxRecDepth 100000
noncomputable def fitH_sg : FuncId → Option SumA := fun f => match f with | 70 => some (pureSum fGeo) | _ => none
noncomputable def rFst (a b c g : Int) (o : List (Nat × Bool)) : Option (RV × List Prop) := runA Try.prog fitH_sg 300 73 [.one (.agg [.int .i64 a, .int .i64 b, .int .i64 c]), .one (.c (.int .i64 g))] s0 ⟨0, o, []⟩ fun v _ α => some (v, α.ob)
theorem fst_1 (a b c g : Int) : rFst a b c g (tT [0, 1, 2]) = some (.tup [.c (.int .i64 0), .c (.int .i64 2)], rep 3 ((errI (geoB a b c) != 0) = true)) := by kernel_rfl
theorem fst_2 (a b c g : Int) : rFst a b c g (fF [0, 1, 2] ++ tT [3, 4, 5, 6, 7]) = some (.tup [.c (.int .i64 0), .c (.int .i64 2)], rep 5 (decide (g < 0) = true) ++ rep 3 ((errI (geoB a b c) != 0) = false)) := by kernel_rfl
theorem fst_3 (a b c g : Int) : rFst a b c g (fF [0, 1, 2, 3, 4, 5, 6, 7] ++ [(8, true)]) = some (.tup [.c (.int .i64 0), .c (.int .i64 2)], [decide (g ≥ a) = true] ++ (rep 5 (decide (g < 0) = false) ++ rep 3 ((errI (geoB a b c) != 0) = false))) := by kernel_rfl
theorem fst_4 (a b c g : Int) : rFst a b c g (fF [0, 1, 2, 3, 4, 5, 6, 7] ++ [(8, false)]) = some (.tup [.c (.int .i64 (IntKind.i64.wrap (IntKind.i64.wrap (2 + IntKind.i64.wrap (g * IntKind.i64.wrap (IntKind.i64.wrap (2 + b) + c))) + 0))), .c (.int .i64 0)], [decide (g ≥ a) = false] ++ (rep 5 (decide (g < 0) = false) ++ rep 3 ((errI (geoB a b c) != 0) = false))) := by kernel_rfl
def fstB (a b c g : Int) : Bool := geoB a b c && (decide (0 ≤ g) && decide (g < a))
def fstS (a b c g : Int) : Int := if fstB a b c g then 2 + g * (2 + b + c) else 0
def fFst (args : List RV) : Option (RV × List Prop) := match args with
  | [.one (.agg [.int .i64 a, .int .i64 b, .int .i64 c]), .one (.c (.int .i64 g))] => some (.tup [.c (.int .i64 (fstS a b c g)), .c (.int .i64 (if fstB a b c g then 0 else 2))], [])
  | _ => none
theorem errI_ne (x : Bool) : (errI x != 0) = !x := by cases x <;> simp [errI_true, errI_false]
theorem fitH : Fit Try.prog (fun f => (fitH_sg f).map toSum) := ⟨fit_ng, fit_mixed, SumAOK.sum fun f sm h => by
  unfold fitH_sg at h
  split at h
  · cases h; exact (fGeo_ok 70 geoCheck).sum ⟨_, Try.func70, rfl⟩
  · cases h⟩
theorem fFst_ok : PureOK Try.prog 73 fFst := by
  intro args v ps h hp ρ w vs ha
  unfold fFst at h
  split at h <;> try (cases h; done)
  rename_i a b c g
  simp only [Option.some.injEq, Prod.mk.injEq] at h
  obtain ⟨rfl, rfl⟩ := h
  cases hgeo : geoB a b c with
  | false =>
    unfold fstS fstB; rw [hgeo]
    exact pure_path fitH (by rfl) (by rfl) (fst_1 a b c g) (All_rep (by rw [errI_ne, hgeo]; rfl) 3) ρ w vs ha
  | true =>
    have hE : (errI (geoB a b c) != 0) = false := by rw [errI_ne, hgeo]; rfl
    cases h0 : decide (g < 0) with
    | true =>
      have e : fstB a b c g = false := by unfold fstB; simp at h0 ⊢; omega
      unfold fstS; rw [e]
      exact pure_path fitH (by rfl) (by rfl) (fst_2 a b c g) ((All_append _ _).2 ⟨All_rep h0 5, All_rep hE 3⟩) ρ w vs ha
    | false =>
      cases h1 : decide (g ≥ a) with
      | true =>
        have e : fstB a b c g = false := by unfold fstB; simp at h1 ⊢; omega
        unfold fstS; rw [e]
        exact pure_path fitH (by rfl) (by rfl) (fst_3 a b c g) ((All_append _ _).2 ⟨⟨h1, trivial⟩, (All_append _ _).2 ⟨All_rep h0 5, All_rep hE 3⟩⟩) ρ w vs ha
      | false =>
        have hg : 0 ≤ g ∧ g < a := by simp at h0 h1; omega
        have e : fstB a b c g = true := by unfold fstB; rw [hgeo]; simp; omega
        unfold fstS; rw [e]
        have hr := fst_4 a b c g
        obtain ⟨g1, g2, g3, g4, g5, g6⟩ := geoB_iff.1 hgeo
        have m1 : 0 ≤ g * (2 + b + c) := Int.mul_nonneg hg.1 (by omega)
        have m2 : g * (2 + b + c) ≤ 8 * 138 := Int.mul_le_mul (by omega) (by omega) (by omega) (by omega)
        rw [IntWalk.i64_in (2 + b) (by omega), IntWalk.i64_in (2 + b + c) (by omega), IntWalk.i64_in (g * (2 + b + c)) (by omega), IntWalk.i64_in (2 + g * (2 + b + c)) (by omega), IntWalk.i64_in _ (by omega), Int.add_zero] at hr
        exact pure_path fitH (by rfl) (by rfl) hr ((All_append _ _).2 ⟨⟨h1, trivial⟩, (All_append _ _).2 ⟨All_rep h0 5, All_rep hE 3⟩⟩) ρ w vs ha
end Go.Sx

namespace Go.Sx
open Go.Proofs Go.RowKit
set_option maxRecDepth 100000
/-! ### one group of an image: f46 -/
abbrev St := List Int × List (Int × Int) × Int
section
variable (a b c : Int) (n : Nat) (sc : Int)
noncomputable abbrev wr1 (st : St) (g k : Int) (p : List Int) : St := (wrEnd a b c n sc st.2.2 st.1 st.2.1 g k p).2
noncomputable def sec1 (st : St) (s : Int) : St := if ldOk st.1 n s (pl a b c s).1 then st else wr1 a b c n sc st s (pl a b c s).1 z54
noncomputable def secs : Nat → St → Int → St
  | 0, st, _ => st
  | m + 1, st, s => secs m (sec1 a b c n sc st s) (s + 1)
noncomputable def grp (st : St) (g : Int) : St := secs a b c n sc (b + 1).toNat (wr1 a b c n sc st (fstS a b c g) 2 (headB g)) (fstS a b c g + 1)
noncomputable abbrev imgT (st : St) : T Blk := imgW a b c st.1 n sc st.2.2 st.2.1
end
noncomputable def sgK : FuncId → Option SumA := fun f => match f with | 72 => some (pureSum fHead) | 73 => some (pureSum fFst) | 54 => some (pureSum fWhere) | 26 => some sumLd | 25 => some sumWr | _ => none
theorem fitK : Fit Try.prog (fun f => (sgK f).map toSum) := ⟨fit_ng, fit_mixed, SumAOK.sum fun f sm h => by
  unfold sgK at h
  split at h
  · cases h; exact fHead_ok.sum ⟨_, Try.func72, rfl⟩
  · cases h; exact fFst_ok.sum ⟨_, Try.func73, rfl⟩
  · cases h; exact (fWhere_ok 54 whereAny).sum ⟨_, Try.func54, rfl⟩
  · cases h; exact sumLd_ok
  · cases h; exact sumWr_ok
  · cases h⟩
noncomputable def c46 : Code := gB 46
noncomputable def lp46 : Code := match gR (gR (gR c46)) with | .seq _ (.block _ (.loop c)) => c | _ => .skip
noncomputable def args46 (g : Int) : List RV := [.one (.c (.ptr 0 0)), .one (.c (.int .i64 g))]
noncomputable def sl46 (g : Int) : T RV := match setArgs 70 (args46 g) 0 .nil some with | some t => t | none => .nil
theorem sl46_ok (g : Int) : setArgs 70 (args46 g) 0 .nil some = some (sl46 g) := by kernel_rfl
noncomputable abbrev go46 (keep : List Nat) (c : Code) (s : S) (o : List (Nat × Bool)) : Option (X × S × List Prop) := execA Try.prog sgK 300 70 c s ⟨0, o, []⟩ fun x s α => some (x, fgt keep 70 s, α.ob)
noncomputable abbrev lo46 (keep : List Nat) (c : Code) (s : S) (o : List (Nat × Bool)) : Option (X × Bool × S × List Prop) := execA Try.prog sgK 300 70 c s ⟨0, o, []⟩ fun x s α => some (x, Nat.ble 4 s.nx, low 70 4 (fgt keep 70 s), α.ob)
section
variable (a b c : Int) (L : List Int) (n : Nat) (sc out g f s : Int) (l : List (Int × Int)) (h : List Int)
abbrev hd46 (h : List Int) : Blk := .row 55 false none (.ints .u8 h 54)
noncomputable def hp46 : T Blk := ofL [(0, .row 89 false none (.cells (imgC a b c n sc out))), (1, .row 49 false (some 64) (.ints .u8 L (64 * n))), (2, .mapI none l), (3, hd46 h)]
noncomputable def s46a : S := ⟨sl46 g, imgW a b c L n sc out l, 3, []⟩
noncomputable def s46b : S := fgt [0, 1, 4] 70 ⟨ofL [(0, .one (.c (.ptr 0 0))), (1, .one (.c (.int .i64 g))), (4, .one (.c (.ptr 3 0)))], hp46 a b c L n sc out l h, 4, []⟩
noncomputable def s46c : S := fgt [0, 4, 6] 70 ⟨ofL [(0, .one (.c (.ptr 0 0))), (4, .one (.c (.ptr 3 0))), (6, .one (.c (.int .i64 f)))], hp46 a b c L n sc out l h, 4, []⟩
noncomputable def s46d : S := fgt [0, 6] 70 ⟨ofL [(0, .one (.c (.ptr 0 0))), (6, .one (.c (.int .i64 f)))], hp46 a b c L n sc out l h, 4, []⟩
noncomputable def s46 : S := low 70 4 (fgt [0, 6, 8] 70 ⟨ofL [(0, .one (.c (.ptr 0 0))), (6, .one (.c (.int .i64 f))), (8, .one (.c (.int .i64 s)))], hp46 a b c L n sc out l h, 4, []⟩)
theorem q0 : go46 [0, 1, 4] (gL c46) (s46a a b c L n sc out g l) [] = some (.normal, s46b a b c L n sc out g l (over z54 0 (headB g)), []) := by kernel_rfl
theorem q1 : go46 [0, 4, 6] (gL (gR c46)) (s46b a b c L n sc out g l h) [] = some (.normal, s46c a b c L n sc out (fstS a b c g) l h, []) := by kernel_rfl
theorem q2 : go46 [0, 6] (gL (gR (gR c46))) (s46c a b c L n sc out f l h) [] = some (.normal, s46d a b c (wrEnd a b c n sc out L l f 2 ((h.drop 0).take 54)).2.1 n sc (wrEnd a b c n sc out L l f 2 ((h.drop 0).take 54)).2.2.2 f (wrEnd a b c n sc out L l f 2 ((h.drop 0).take 54)).2.2.1 h, [L.length = 64 * n, 64 * n = 64 * n, ((h.drop 0).take 54).length = 54]) := by kernel_rfl
theorem q3 : lo46 [0, 6, 8] (gL (gR (gR (gR c46)))) (s46d a b c L n sc out f l h) [] = some (.normal, true, s46 a b c L n sc out f (IntKind.i64.wrap (f + 1)) l h, []) := by kernel_rfl
abbrev lt46 : Bool := decide (s < IntKind.i64.wrap (IntKind.i64.wrap (f + 2) + b))
theorem q4a : lo46 [0, 6, 8] lp46 (s46 a b c L n sc out f s l h) [(0, true), (2, true)] = some (.normal, true, s46 a b c (wrEnd a b c n sc out L l s (pl a b c s).1 z54).2.1 n sc (wrEnd a b c n sc out L l s (pl a b c s).1 z54).2.2.2 f (IntKind.i64.wrap (s + 1)) (wrEnd a b c n sc out L l s (pl a b c s).1 z54).2.2.1 h,
  [L.length = 64 * n, 64 * n = 64 * n, 54 = 54, (!ldOk L n s (pl a b c s).1) = true, L.length = 64 * n, 64 * n = 64 * n, lt46 b f s = true]) := by kernel_rfl
theorem q4b : lo46 [0, 6, 8] lp46 (s46 a b c L n sc out f s l h) [(0, true), (2, false)] = some (.normal, true, s46 a b c L n sc out f (IntKind.i64.wrap (s + 1)) l h,
  [(!ldOk L n s (pl a b c s).1) = false, L.length = 64 * n, 64 * n = 64 * n, lt46 b f s = true]) := by kernel_rfl
theorem q4c : lo46 [0, 6, 8] lp46 (s46 a b c L n sc out f s l h) [(0, false)] = some (.exit 0, true, s46 a b c L n sc out f s l h, [lt46 b f s = false]) := by kernel_rfl
theorem s46_nx : (s46 a b c L n sc out f s l h).nx = 4 := by kernel_rfl
noncomputable def e46 : S := low 70 3 (s46 a b c L n sc out f s l h)
theorem e46_hp : (e46 a b c L n sc out f s l h).hp = imgW a b c L n sc out l := by kernel_rfl
theorem e46_nx : (e46 a b c L n sc out f s l h).nx = 3 := by kernel_rfl
theorem e46_res : resOf Try.prog 70 (e46 a b c L n sc out f s l h) Try.f46.results.toList = some [] := by kernel_rfl
end
end Go.Sx

namespace Go.Sx
open Go.Proofs Go.RowKit
set_option maxRecDepth 100000
section
variable {a b c : Int} {n : Nat} {sc f g : Int} {h : List Int}
theorem wr1_len {st : St} {g k : Int} {p : List Int} (hl : st.1.length = 64 * n) (hp : p.length = 54) : (wr1 a b c n sc st g k p).1.length = 64 * n := wr_len hl hp
theorem sec1_len {st : St} {s : Int} (hl : st.1.length = 64 * n) : (sec1 a b c n sc st s).1.length = 64 * n := by
  unfold sec1
  split
  · exact hl
  · exact wr1_len hl rfl
theorem secs_len : ∀ {m : Nat} {st : St} {s : Int}, st.1.length = 64 * n → (secs a b c n sc m st s).1.length = 64 * n
  | 0, _, _, hl => hl
  | m + 1, st, s, hl => by rw [secs]; exact secs_len (sec1_len hl)
noncomputable abbrev at46 (a b c : Int) (n : Nat) (sc f : Int) (h : List Int) (st : St) (s : Int) : S := s46 a b c st.1 n sc st.2.2 f s st.2.1 h
theorem loop46 (hf : 0 ≤ f ∧ f ≤ 100000) (hb : 0 ≤ b ∧ b ≤ 1000) : ∀ (m : Nat) (st : St) (s : Int), st.1.length = 64 * n → 0 ≤ s → s + m = f + 2 + b → Tr Try.prog 70 (.loop lp46) (at46 a b c n sc f h st s) (fun x s' => x = .exit 0 ∧ s' = at46 a b c n sc f h (secs a b c n sc m st s) (f + 2 + b))
  | 0, st, s, hl, h0, hm => by
    have e : IntKind.i64.wrap (IntKind.i64.wrap (f + 2) + b) = f + 2 + b := by rw [IntWalk.i64_in (f + 2) (by omega), IntWalk.i64_in _ (by omega)]
    refine Tr.loop (Tr.pathL fitK (by rw [s46_nx]; exact Nat.le_refl _) (q4c a b c st.1 n sc st.2.2 f s st.2.1 h) ⟨by unfold lt46; rw [e]; simp; omega, trivial⟩ ?_)
    refine ⟨rfl, ?_⟩
    have : s = f + 2 + b := by simpa using hm
    subst this
    rfl
  | m + 1, st, s, hl, h0, hm => by
    have e : IntKind.i64.wrap (IntKind.i64.wrap (f + 2) + b) = f + 2 + b := by rw [IntWalk.i64_in (f + 2) (by omega), IntWalk.i64_in _ (by omega)]
    have hlt : lt46 b f s = true := by unfold lt46; rw [e]; simp; omega
    have hs1 : IntKind.i64.wrap (s + 1) = s + 1 := IntWalk.i64_in _ (by omega)
    cases hk : ldOk st.1 n s (pl a b c s).1 with
    | true =>
      have hsec : sec1 a b c n sc st s = st := by unfold sec1; rw [if_pos hk]
      refine Tr.loop (Tr.pathL fitK (by rw [s46_nx]; exact Nat.le_refl _) (q4b a b c st.1 n sc st.2.2 f s st.2.1 h) ⟨by rw [hk]; rfl, hl, rfl, hlt, trivial⟩ ?_)
      have ih := loop46 hf hb m st (s + 1) hl (by omega) (by push_cast at hm; omega)
      show Tr Try.prog 70 (.loop lp46) _ _
      rw [hs1, show secs a b c n sc (m + 1) st s = secs a b c n sc m st (s + 1) by rw [secs, hsec]]
      exact ih
    | false =>
      have hsec : sec1 a b c n sc st s = wr1 a b c n sc st s (pl a b c s).1 z54 := by unfold sec1; rw [hk]; rfl
      refine Tr.loop (Tr.pathL fitK (by rw [s46_nx]; exact Nat.le_refl _) (q4a a b c st.1 n sc st.2.2 f s st.2.1 h) ⟨hl, rfl, rfl, by rw [hk]; rfl, hl, rfl, hlt, trivial⟩ ?_)
      have ih := loop46 hf hb m (wr1 a b c n sc st s (pl a b c s).1 z54) (s + 1) (wr1_len hl rfl) (by omega) (by push_cast at hm; omega)
      show Tr Try.prog 70 (.loop lp46) _ _
      rw [hs1, show secs a b c n sc (m + 1) st s = secs a b c n sc m (wr1 a b c n sc st s (pl a b c s).1 z54) (s + 1) by rw [secs, hsec]]
      exact ih
theorem headB_len : (headB g).length = 54 := by unfold headB; split <;> rfl
theorem body46 {st : St} (hl : st.1.length = 64 * n) (hg : geoB a b c = true) (hf : fstB a b c g = true) : Tr Try.prog 70 c46 (s46a a b c st.1 n sc st.2.2 g st.2.1) (fun x s1 => (x = .normal ∨ x = .ret) ∧ ∃ q, resOf Try.prog 70 s1 Try.f46.results.toList = some q ∧ (resRV q = .tup [] ∧ s1.hp = imgT a b c n sc (grp a b c n sc st g) ∧ s1.nx = 3)) := by
  obtain ⟨g1, g2, g3, g4, g5, g6⟩ := geoB_iff.1 hg
  have hf' := hf
  unfold fstB at hf'
  simp only [Bool.and_eq_true, decide_eq_true_eq] at hf'
  obtain ⟨_, f1, f2⟩ := hf'
  have m1 : 0 ≤ g * (2 + b + c) := Int.mul_nonneg f1 (by omega)
  have m2 : g * (2 + b + c) ≤ 8 * 138 := Int.mul_le_mul (by omega) (by omega) (by omega) (by omega)
  have hF : fstS a b c g = 2 + g * (2 + b + c) := by unfold fstS; rw [if_pos hf]
  have hh : ((over z54 0 (headB g)).drop 0).take 54 = headB g := by rw [over_z54 headB_len, take_all headB_len]
  refine Tr.low (m := 3) (Nat.le_refl _) ?_
  refine Tr.seq (c := gL c46) (d := gR c46) (Tr.path fitK (q0 a b c st.1 n sc st.2.2 g st.2.1) trivial ?_)
  refine Tr.seq (c := gL (gR c46)) (d := gR (gR c46)) (Tr.path fitK (q1 a b c st.1 n sc st.2.2 g st.2.1 _) trivial ?_)
  refine Tr.seq (c := gL (gR (gR c46))) (d := gR (gR (gR c46))) (Tr.path fitK (q2 a b c st.1 n sc st.2.2 (fstS a b c g) st.2.1 _) ⟨hl, rfl, by rw [hh]; exact headB_len, trivial⟩ ?_)
  rw [hh]
  refine Tr.seq (c := gL (gR (gR (gR c46)))) (d := .block 0 (.loop lp46)) (Tr.pathL fitK (Nat.le_refl _) (q3 ..) trivial ?_)
  refine Tr.block ?_
  have hs1 : IntKind.i64.wrap (fstS a b c g + 1) = fstS a b c g + 1 := IntWalk.i64_in _ (by omega)
  rw [hs1]
  have hlp := loop46 (a := a) (b := b) (c := c) (n := n) (sc := sc) (f := fstS a b c g) (h := over z54 0 (headB g)) (by omega) (by omega) (b + 1).toNat (wr1 a b c n sc st (fstS a b c g) 2 (headB g)) (fstS a b c g + 1) (wr1_len hl headB_len) (by omega) (by omega)
  refine hlp.mono fun x s' hx => ?_
  obtain ⟨rfl, rfl⟩ := hx
  simp only [if_true]
  refine ⟨by rw [s46_nx]; omega, by simp, _, e46_res .., rfl, e46_hp .., e46_nx ..⟩
theorem body46_eq : Try.f46.body = some c46 := by kernel_rfl
theorem small46 {st : St} (hl : st.1.length = 64 * n) (hg : geoB a b c = true) (hf : fstB a b c g = true) : SmallC Try.prog 46 (args46 g) 3 (imgT a b c n sc st) (imgT a b c n sc (grp a b c n sc st g)) (.tup []) :=
  Tr.smallC (fn := Try.f46) (c := c46) Try.func46 body46_eq (by rw [imgT, imgW_eq]; exact top_three) (sl46_ok g) (body46 hl hg hf)
end
#print axioms small46
end Go.Sx

namespace Go.Sx
open Go.Proofs Go.RowKit
set_option maxRecDepth 100000
noncomputable def sumGrp : SumA := fun args hp nx => match args with
  | [.one (.c (.ptr nm 0)), .one (.c (.int .i64 g))] => match imgWr hp.get nm with
    | some (a, b, c, L, N, n, sc, out, l, nl, nw) =>
      match Nat.blt nm nx, Nat.blt nl nx, Nat.blt nw nx with
      | true, true, true =>
        T.set depth hp nw (some (.mapI none l)) fun hp =>
        T.set depth hp nm (some (.row 89 false none (.cells [.int .i64 a, .int .i64 b, .int .i64 c, .slu nl 64 0 n, .int .u32 sc, .map nw, .int .i64 (grp a b c n sc (L, l, out) g).2.2]))) fun hp =>
        T.set depth hp nl (some (.row 49 false (some 64) (.ints .u8 (grp a b c n sc (L, l, out) g).1 N))) fun hp =>
        T.set depth hp nw (some (.mapI none (grp a b c n sc (L, l, out) g).2.1)) fun hp =>
        some (.tup [], hp, nx, [nm, nl, nw], [L.length = N, N = 64 * n, geoB a b c = true, fstB a b c g = true])
      | _, _, _ => none
    | none => none
  | _ => none
theorem sumGrp_ok : SumAOK Try.prog 46 sumGrp := by
  intro args s v hp nx lg ps ht h hps
  unfold sumGrp at h
  split at h <;> try (cases h; done)
  rename_i nm g
  split at h <;> try (cases h; done)
  rename_i a b c L N n sc out l nl nw hi
  split at h <;> try (cases h; done)
  rename_i b1 b2 b3
  obtain ⟨h1, h2, h3⟩ := imgWr_ok hi
  have n1 : nm < s.nx := blt_lt b1
  have n2 : nl < s.nx := blt_lt b2
  have n3 : nw < s.nx := blt_lt b3
  have d1 : nm ≠ nl := fun e => by subst e; rw [h1] at h2; cases h2
  have d2 : nm ≠ nw := fun e => by subst e; rw [h1] at h3; rcases h3 with h3 | ⟨_, h3⟩ <;> cases h3
  have d3 : nl ≠ nw := fun e => by subst e; rw [h2] at h3; rcases h3 with h3 | ⟨_, h3⟩ <;> cases h3
  obtain ⟨t0, h, q0⟩ := T.set_ok _ _ _ _ _ _ h
  obtain ⟨t1, h, q1⟩ := T.set_ok _ _ _ _ _ _ h
  obtain ⟨t2, h, q2⟩ := T.set_ok _ _ _ _ _ _ h
  obtain ⟨t3, h, q3⟩ := T.set_ok _ _ _ _ _ _ h
  simp only [Option.some.injEq, Prod.mk.injEq] at h
  obtain ⟨rfl, rfl, rfl, rfl, rfl⟩ := h
  obtain ⟨hl, hN, hgeo, hfst, _⟩ := hps
  subst hN
  have ht0 : Top { s with hp := t0 } := fun j hj => by
    show t0.get j = none
    have : s.nx ≤ j := hj
    rw [q0 j, if_neg (by omega)]
    exact ht j hj
  have g1 : t0.get nm = _ := (q0 nm).trans ((if_neg d2).trans h1)
  have g2 : t0.get nl = _ := (q0 nl).trans ((if_neg d3).trans h2)
  have g3 : t0.get nw = some (.mapI none l) := (q0 nw).trans (if_pos rfl)
  have hget : ∀ j, t3.get j = if j = nw then some (.mapI none (grp a b c n sc (L, l, out) g).2.1) else if j = nl then some (.row 49 false (some 64) (.ints .u8 (grp a b c n sc (L, l, out) g).1 (64 * n))) else if j = nm then some (.row 89 false none (.cells [.int .i64 a, .int .i64 b, .int .i64 c, .slu nl 64 0 n, .int .u32 sc, .map nw, .int .i64 (grp a b c n sc (L, l, out) g).2.2])) else t0.get j := fun j => by
    rw [q3 j, q2 j, q1 j]
  let θ : Nat → Nat := fun i => if i = 0 then nm else if i = 1 then nl else nw
  have ea : (args46 g).map (renR θ) = [.one (.c (.ptr nm 0)), .one (.c (.int .i64 g))] := rfl
  have hC := small46 (a := a) (b := b) (c := c) (n := n) (sc := sc) (g := g) (st := (L, l, out)) hl hgeo hfst
  have := CallInfo.frame (P := Try.prog) (f := 46) (θ := θ) (s := { s with hp := t0 }) (hp' := t3) (Lw := [nm, nl, nw]) ht0 ⟨_, Try.func46, rfl⟩ hC (by rfl)
    (fun i x hx => by
      rw [imgT, imgW_eq] at hx
      rcases get_three hx with ⟨rfl, rfl⟩ | ⟨rfl, rfl⟩ | ⟨rfl, rfl⟩
      · exact ⟨by omega, rfl, rfl, n1, g1⟩
      · exact ⟨by omega, rfl, rfl, n2, g2⟩
      · exact ⟨by omega, rfl, rfl, n3, g3⟩)
    (fun i j x y hx hy he => by
      rw [imgT, imgW_eq] at hx hy
      rcases get_three hx with ⟨rfl, _⟩ | ⟨rfl, _⟩ | ⟨rfl, _⟩ <;> rcases get_three hy with ⟨rfl, _⟩ | ⟨rfl, _⟩ | ⟨rfl, _⟩ <;> first | rfl | exact absurd he d1 | exact absurd he d2 | exact absurd he d3 | exact absurd he.symm d1 | exact absurd he.symm d2 | exact absurd he.symm d3)
    (fun j hj => by
      have j0 := hj 0 _ (by rw [imgT, imgW_eq]; rfl)
      have j1 := hj 1 _ (by rw [imgT, imgW_eq]; rfl)
      have j2 := hj 2 _ (by rw [imgT, imgW_eq]; rfl)
      rw [hget, if_neg (fun e => j2 e.symm), if_neg (fun e => j1 e.symm), if_neg (fun e => j0 e.symm)])
    (fun i x hx => by
      rw [imgT, imgW_eq] at hx
      rw [hget, imgT, imgW_eq]
      rcases get_three hx with ⟨rfl, rfl⟩ | ⟨rfl, rfl⟩ | ⟨rfl, rfl⟩
      · rw [if_neg (show θ 0 ≠ nw from d2), if_neg (show θ 0 ≠ nl from d1), if_pos (show θ 0 = nm from rfl)]; rfl
      · rw [if_neg (show θ 1 ≠ nw from d3), if_pos (show θ 1 = nl from rfl)]; rfl
      · rw [if_pos (show θ 2 = nw from rfl)]; rfl)
    (fun j => by
      constructor
      · intro hj
        rcases List.mem_cons.1 hj with rfl | hj
        · exact ⟨0, _, by rw [imgT, imgW_eq]; rfl, rfl⟩
        · rcases List.mem_cons.1 hj with rfl | hj
          · exact ⟨1, _, by rw [imgT, imgW_eq]; rfl, rfl⟩
          · rcases List.mem_cons.1 hj with rfl | hj
            · exact ⟨2, _, by rw [imgT, imgW_eq]; rfl, rfl⟩
            · cases hj
      · rintro ⟨i, x, hx, rfl⟩
        rw [imgT, imgW_eq] at hx
        rcases get_three hx with ⟨rfl, _⟩ | ⟨rfl, _⟩ | ⟨rfl, _⟩ <;> simp [θ])
  rw [ea] at this
  exact this.asI (by simp) h3 q0
end Go.Sx

namespace Go.Sx
open Go.Proofs Go.RowKit
set_option maxRecDepth 100000
/-! ### Run: f16 -/
section
variable (a b c : Int) (n : Nat) (sc : Int)
noncomputable def sup2 (st : St) : St := wr1 a b c n sc (wr1 a b c n sc st 0 1 (sup a b c)) 1 1 (sup a b c)
noncomputable def grp1 (st : St) (i : Int) : St := if inS a sc i then grp a b c n sc st i else st
noncomputable def grps : Nat → St → Int → St
  | 0, st, _ => st
  | m + 1, st, i => grps m (grp1 a b c n sc st i) (i + 1)
noncomputable def runS (st : St) : St := grps a b c n sc a.toNat (sup2 a b c n sc st) 0
end
noncomputable def sgO : FuncId → Option SumA := fun f => match f with | 45 => some (pureSum fSup) | 20 => some sumIn | 25 => some sumWr | 46 => some sumGrp | _ => none
theorem fitO : Fit Try.prog (fun f => (sgO f).map toSum) := ⟨fit_ng, fit_mixed, SumAOK.sum fun f sm h => by
  unfold sgO at h
  split at h
  · cases h; exact fSup_ok.sum ⟨_, Try.func45, rfl⟩
  · cases h; exact sumIn_ok
  · cases h; exact sumWr_ok
  · cases h; exact sumGrp_ok
  · cases h⟩
noncomputable def c16 : Code := gB 16
noncomputable def lp16 : Code := match gR (gR (gR c16)) with | .seq _ (.block _ (.loop c)) => c | _ => .skip
noncomputable def args16 : List RV := [.one (.c (.ptr 0 0))]
noncomputable def sl16 : T RV := match setArgs 39 args16 0 .nil some with | some t => t | none => .nil
theorem sl16_ok : setArgs 39 args16 0 .nil some = some sl16 := by kernel_rfl
noncomputable abbrev go16 (keep : List Nat) (c : Code) (s : S) (o : List (Nat × Bool)) : Option (X × S × List Prop) := execA Try.prog sgO 300 39 c s ⟨0, o, []⟩ fun x s α => some (x, fgt keep 39 s, α.ob)
noncomputable abbrev lo16 (keep : List Nat) (c : Code) (s : S) (o : List (Nat × Bool)) : Option (X × Bool × S × List Prop) := execA Try.prog sgO 300 39 c s ⟨0, o, []⟩ fun x s α => some (x, Nat.ble 4 s.nx, low 39 4 (fgt keep 39 s), α.ob)
section
variable (a b c : Int) (L : List Int) (n : Nat) (sc out m i : Int) (l : List (Int × Int)) (h : List Int)
noncomputable def s16a : S := ⟨sl16, imgW a b c L n sc out l, 3, []⟩
noncomputable def s16b : S := fgt [0] 39 ⟨ofL [(0, .one (.c (.ptr 0 0)))], imgW a b c L n sc out l, 3, []⟩
noncomputable def s16c : S := fgt [0, 2] 39 ⟨ofL [(0, .one (.c (.ptr 0 0))), (2, .one (.c (.ptr 3 0)))], hp46 a b c L n sc out l h, 4, []⟩
noncomputable def s16d : S := fgt [0] 39 ⟨ofL [(0, .one (.c (.ptr 0 0)))], hp46 a b c L n sc out l h, 4, []⟩
noncomputable def s16 : S := low 39 4 (fgt [0, 28, 29] 39 ⟨ofL [(0, .one (.c (.ptr 0 0))), (28, .one (.c (.int .i64 m))), (29, .one (.c (.int .i64 i)))], hp46 a b c L n sc out l h, 4, []⟩)
theorem y0 : go16 [0] (gL c16) (s16a a b c L n sc out l) [] = some (.normal, s16b a b c L n sc out l, []) := by kernel_rfl
theorem y1 : go16 [0, 2] (gL (gR c16)) (s16b a b c L n sc out l) [] = some (.normal, s16c a b c L n sc out l (over z54 0 (sup a b c)), []) := by kernel_rfl
noncomputable abbrev w0 (p : List Int) : Bool × List Int × List (Int × Int) × Int := wrEnd a b c n sc out L l 0 1 p
noncomputable abbrev w1 (p : List Int) : Bool × List Int × List (Int × Int) × Int := wrEnd a b c n sc (w0 a b c L n sc out l p).2.2.2 (w0 a b c L n sc out l p).2.1 (w0 a b c L n sc out l p).2.2.1 1 1 p
theorem y2 : go16 [0] (gL (gR (gR c16))) (s16c a b c L n sc out l h) [] = some (.normal, s16d a b c (w1 a b c L n sc out l ((h.drop 0).take 54)).2.1 n sc (w1 a b c L n sc out l ((h.drop 0).take 54)).2.2.2 (w1 a b c L n sc out l ((h.drop 0).take 54)).2.2.1 h,
  [(w0 a b c L n sc out l ((h.drop 0).take 54)).2.1.length = 64 * n, 64 * n = 64 * n, ((h.drop 0).take 54).length = 54, L.length = 64 * n, 64 * n = 64 * n, ((h.drop 0).take 54).length = 54]) := by kernel_rfl
theorem y3 : lo16 [0, 28, 29] (gL (gR (gR (gR c16)))) (s16d a b c L n sc out l h) [] = some (.normal, true, s16 a b c L n sc out a 0 l h, []) := by kernel_rfl
theorem y4a : lo16 [0, 28, 29] lp16 (s16 a b c L n sc out m i l h) [(0, true), (1, true)] = some (.normal, true, s16 a b c (grp a b c n sc (L, l, out) i).1 n sc (grp a b c n sc (L, l, out) i).2.2 m (IntKind.i64.wrap (i + 1)) (grp a b c n sc (L, l, out) i).2.1 h,
  [L.length = 64 * n, 64 * n = 64 * n, geoB a b c = true, fstB a b c i = true, inS a sc i = true, decide (i < m) = true]) := by kernel_rfl
theorem y4b : lo16 [0, 28, 29] lp16 (s16 a b c L n sc out m i l h) [(0, true), (1, false)] = some (.normal, true, s16 a b c L n sc out m (IntKind.i64.wrap (i + 1)) l h, [inS a sc i = false, decide (i < m) = true]) := by kernel_rfl
theorem y4c : lo16 [0, 28, 29] lp16 (s16 a b c L n sc out m i l h) [(0, false)] = some (.exit 2, true, s16 a b c L n sc out m i l h, [decide (i < m) = false]) := by kernel_rfl
theorem s16_nx : (s16 a b c L n sc out m i l h).nx = 4 := by kernel_rfl
noncomputable def e16 : S := low 39 3 (s16 a b c L n sc out m i l h)
theorem e16_hp : (e16 a b c L n sc out m i l h).hp = imgW a b c L n sc out l := by kernel_rfl
theorem e16_nx : (e16 a b c L n sc out m i l h).nx = 3 := by kernel_rfl
theorem e16_res : resOf Try.prog 39 (e16 a b c L n sc out m i l h) Try.f16.results.toList = some [] := by kernel_rfl
end
section
variable {a b c : Int} {n : Nat} {sc : Int} {h : List Int}
theorem grp_len {st : St} {g : Int} (hl : st.1.length = 64 * n) : (grp a b c n sc st g).1.length = 64 * n := secs_len (wr1_len hl headB_len)
theorem grp1_len {st : St} {g : Int} (hl : st.1.length = 64 * n) : (grp1 a b c n sc st g).1.length = 64 * n := by
  unfold grp1
  split
  · exact grp_len hl
  · exact hl
theorem supL_len : (sup a b c).length = 54 := by unfold sup; split <;> rfl
theorem loop16 (hg : geoB a b c = true) : ∀ (m : Nat) (st : St) (i : Int), st.1.length = 64 * n → 0 ≤ i → i + m = a → Tr Try.prog 39 (.loop lp16) (s16 a b c st.1 n sc st.2.2 a i st.2.1 h) (fun x s' => x = .exit 2 ∧ s' = s16 a b c (grps a b c n sc m st i).1 n sc (grps a b c n sc m st i).2.2 a a (grps a b c n sc m st i).2.1 h)
  | 0, st, i, hl, h0, hm => by
    have : i = a := by simpa using hm
    subst this
    exact Tr.loop (Tr.pathL fitO (by rw [s16_nx]; exact Nat.le_refl _) (y4c i b c st.1 n sc st.2.2 i i st.2.1 h) ⟨by simp, trivial⟩ ⟨rfl, rfl⟩)
  | m + 1, st, i, hl, h0, hm => by
    obtain ⟨g1, g2, g3, g4, g5, g6⟩ := geoB_iff.1 hg
    have hlt : decide (i < a) = true := by simp; push_cast at hm; omega
    have hi1 : IntKind.i64.wrap (i + 1) = i + 1 := IntWalk.i64_in _ (by push_cast at hm; omega)
    have hfst : fstB a b c i = true := by unfold fstB; rw [hg]; simp; push_cast at hm; omega
    cases hI : inS a sc i with
    | true =>
      have hs : grp1 a b c n sc st i = grp a b c n sc st i := by unfold grp1; rw [if_pos hI]
      refine Tr.loop (Tr.pathL fitO (by rw [s16_nx]; exact Nat.le_refl _) (y4a a b c st.1 n sc st.2.2 a i st.2.1 h) ⟨hl, rfl, hg, hfst, hI, hlt, trivial⟩ ?_)
      show Tr Try.prog 39 (.loop lp16) _ _
      rw [hi1, show grps a b c n sc (m + 1) st i = grps a b c n sc m (grp a b c n sc st i) (i + 1) by rw [grps, hs]]
      exact loop16 hg m (grp a b c n sc st i) (i + 1) (grp_len hl) (by omega) (by push_cast at hm; omega)
    | false =>
      have hs : grp1 a b c n sc st i = st := by unfold grp1; rw [hI]; rfl
      refine Tr.loop (Tr.pathL fitO (by rw [s16_nx]; exact Nat.le_refl _) (y4b a b c st.1 n sc st.2.2 a i st.2.1 h) ⟨hI, hlt, trivial⟩ ?_)
      show Tr Try.prog 39 (.loop lp16) _ _
      rw [hi1, show grps a b c n sc (m + 1) st i = grps a b c n sc m st (i + 1) by rw [grps, hs]]
      exact loop16 hg m st (i + 1) hl (by omega) (by push_cast at hm; omega)
theorem body16 {st : St} (hl : st.1.length = 64 * n) (hg : geoB a b c = true) : Tr Try.prog 39 c16 (s16a a b c st.1 n sc st.2.2 st.2.1) (fun x s1 => (x = .normal ∨ x = .ret) ∧ ∃ q, resOf Try.prog 39 s1 Try.f16.results.toList = some q ∧ (resRV q = .tup [] ∧ s1.hp = imgT a b c n sc (runS a b c n sc st) ∧ s1.nx = 3)) := by
  obtain ⟨g1, g2, g3, g4, g5, g6⟩ := geoB_iff.1 hg
  have hh : ((over z54 0 (sup a b c)).drop 0).take 54 = sup a b c := by rw [over_z54 supL_len, take_all supL_len]
  refine Tr.low (m := 3) (Nat.le_refl _) ?_
  refine Tr.seq (c := gL c16) (d := gR c16) (Tr.path fitO (y0 a b c st.1 n sc st.2.2 st.2.1) trivial ?_)
  refine Tr.seq (c := gL (gR c16)) (d := gR (gR c16)) (Tr.path fitO (y1 a b c st.1 n sc st.2.2 st.2.1) trivial ?_)
  refine Tr.seq (c := gL (gR (gR c16))) (d := gR (gR (gR c16))) (Tr.path fitO (y2 a b c st.1 n sc st.2.2 st.2.1 _) ⟨by rw [hh]; exact wr_len hl supL_len, rfl, by rw [hh]; exact supL_len, hl, rfl, by rw [hh]; exact supL_len, trivial⟩ ?_)
  rw [hh]
  refine Tr.seq (c := gL (gR (gR (gR c16)))) (d := .block 2 (.loop lp16)) (Tr.pathL fitO (Nat.le_refl _) (y3 ..) trivial ?_)
  refine Tr.block ?_
  have hlp := loop16 (a := a) (b := b) (c := c) (n := n) (sc := sc) (h := over z54 0 (sup a b c)) hg a.toNat (sup2 a b c n sc st) 0 (wr1_len (wr1_len hl supL_len) supL_len) (by omega) (by omega)
  refine hlp.mono fun x s' hx => ?_
  obtain ⟨rfl, rfl⟩ := hx
  simp only [if_true]
  refine ⟨by rw [s16_nx]; omega, by simp, _, e16_res .., rfl, e16_hp .., e16_nx ..⟩
theorem body16_eq : Try.f16.body = some c16 := by kernel_rfl
theorem small16 {st : St} (hl : st.1.length = 64 * n) (hg : geoB a b c = true) : SmallC Try.prog 16 args16 3 (imgT a b c n sc st) (imgT a b c n sc (runS a b c n sc st)) (.tup []) :=
  Tr.smallC (fn := Try.f16) (c := c16) Try.func16 body16_eq (by rw [imgT, imgW_eq]; exact top_three) sl16_ok (body16 hl hg)
end
#print axioms small16
end Go.Sx

namespace Go.Sx
open Go.Proofs Go.RowKit
set_option maxRecDepth 100000
noncomputable def sumRun : SumA := fun args hp nx => match args with
  | [.one (.c (.ptr nm 0))] => match imgWr hp.get nm with
    | some (a, b, c, L, N, n, sc, out, l, nl, nw) =>
      match Nat.blt nm nx, Nat.blt nl nx, Nat.blt nw nx with
      | true, true, true =>
        T.set depth hp nw (some (.mapI none l)) fun hp =>
        T.set depth hp nm (some (.row 89 false none (.cells [.int .i64 a, .int .i64 b, .int .i64 c, .slu nl 64 0 n, .int .u32 sc, .map nw, .int .i64 (runS a b c n sc (L, l, out)).2.2]))) fun hp =>
        T.set depth hp nl (some (.row 49 false (some 64) (.ints .u8 (runS a b c n sc (L, l, out)).1 N))) fun hp =>
        T.set depth hp nw (some (.mapI none (runS a b c n sc (L, l, out)).2.1)) fun hp =>
        some (.tup [], hp, nx, [nm, nl, nw], [L.length = N, N = 64 * n, geoB a b c = true])
      | _, _, _ => none
    | none => none
  | _ => none
theorem sumRun_ok : SumAOK Try.prog 16 sumRun := by
  intro args s v hp nx lg ps ht h hps
  unfold sumRun at h
  split at h <;> try (cases h; done)
  rename_i nm
  split at h <;> try (cases h; done)
  rename_i a b c L N n sc out l nl nw hi
  split at h <;> try (cases h; done)
  rename_i b1 b2 b3
  obtain ⟨h1, h2, h3⟩ := imgWr_ok hi
  have n1 : nm < s.nx := blt_lt b1
  have n2 : nl < s.nx := blt_lt b2
  have n3 : nw < s.nx := blt_lt b3
  have d1 : nm ≠ nl := fun e => by subst e; rw [h1] at h2; cases h2
  have d2 : nm ≠ nw := fun e => by subst e; rw [h1] at h3; rcases h3 with h3 | ⟨_, h3⟩ <;> cases h3
  have d3 : nl ≠ nw := fun e => by subst e; rw [h2] at h3; rcases h3 with h3 | ⟨_, h3⟩ <;> cases h3
  obtain ⟨t0, h, q0⟩ := T.set_ok _ _ _ _ _ _ h
  obtain ⟨t1, h, q1⟩ := T.set_ok _ _ _ _ _ _ h
  obtain ⟨t2, h, q2⟩ := T.set_ok _ _ _ _ _ _ h
  obtain ⟨t3, h, q3⟩ := T.set_ok _ _ _ _ _ _ h
  simp only [Option.some.injEq, Prod.mk.injEq] at h
  obtain ⟨rfl, rfl, rfl, rfl, rfl⟩ := h
  obtain ⟨hl, hN, hgeo, _⟩ := hps
  subst hN
  have ht0 : Top { s with hp := t0 } := fun j hj => by
    show t0.get j = none
    have : s.nx ≤ j := hj
    rw [q0 j, if_neg (by omega)]
    exact ht j hj
  have g1 : t0.get nm = _ := (q0 nm).trans ((if_neg d2).trans h1)
  have g2 : t0.get nl = _ := (q0 nl).trans ((if_neg d3).trans h2)
  have g3 : t0.get nw = some (.mapI none l) := (q0 nw).trans (if_pos rfl)
  have hget : ∀ j, t3.get j = if j = nw then some (.mapI none (runS a b c n sc (L, l, out)).2.1) else if j = nl then some (.row 49 false (some 64) (.ints .u8 (runS a b c n sc (L, l, out)).1 (64 * n))) else if j = nm then some (.row 89 false none (.cells [.int .i64 a, .int .i64 b, .int .i64 c, .slu nl 64 0 n, .int .u32 sc, .map nw, .int .i64 (runS a b c n sc (L, l, out)).2.2])) else t0.get j := fun j => by
    rw [q3 j, q2 j, q1 j]
  let θ : Nat → Nat := fun i => if i = 0 then nm else if i = 1 then nl else nw
  have ea : args16.map (renR θ) = [.one (.c (.ptr nm 0))] := rfl
  have hC := small16 (a := a) (b := b) (c := c) (n := n) (sc := sc) (st := (L, l, out)) hl hgeo
  have := CallInfo.frame (P := Try.prog) (f := 16) (θ := θ) (s := { s with hp := t0 }) (hp' := t3) (Lw := [nm, nl, nw]) ht0 ⟨_, Try.func16, rfl⟩ hC (by rfl)
    (fun i x hx => by
      rw [imgT, imgW_eq] at hx
      rcases get_three hx with ⟨rfl, rfl⟩ | ⟨rfl, rfl⟩ | ⟨rfl, rfl⟩
      · exact ⟨by omega, rfl, rfl, n1, g1⟩
      · exact ⟨by omega, rfl, rfl, n2, g2⟩
      · exact ⟨by omega, rfl, rfl, n3, g3⟩)
    (fun i j x y hx hy he => by
      rw [imgT, imgW_eq] at hx hy
      rcases get_three hx with ⟨rfl, _⟩ | ⟨rfl, _⟩ | ⟨rfl, _⟩ <;> rcases get_three hy with ⟨rfl, _⟩ | ⟨rfl, _⟩ | ⟨rfl, _⟩ <;> first | rfl | exact absurd he d1 | exact absurd he d2 | exact absurd he d3 | exact absurd he.symm d1 | exact absurd he.symm d2 | exact absurd he.symm d3)
    (fun j hj => by
      have j0 := hj 0 _ (by rw [imgT, imgW_eq]; rfl)
      have j1 := hj 1 _ (by rw [imgT, imgW_eq]; rfl)
      have j2 := hj 2 _ (by rw [imgT, imgW_eq]; rfl)
      rw [hget, if_neg (fun e => j2 e.symm), if_neg (fun e => j1 e.symm), if_neg (fun e => j0 e.symm)])
    (fun i x hx => by
      rw [imgT, imgW_eq] at hx
      rw [hget, imgT, imgW_eq]
      rcases get_three hx with ⟨rfl, rfl⟩ | ⟨rfl, rfl⟩ | ⟨rfl, rfl⟩
      · rw [if_neg (show θ 0 ≠ nw from d2), if_neg (show θ 0 ≠ nl from d1), if_pos (show θ 0 = nm from rfl)]; rfl
      · rw [if_neg (show θ 1 ≠ nw from d3), if_pos (show θ 1 = nl from rfl)]; rfl
      · rw [if_pos (show θ 2 = nw from rfl)]; rfl)
    (fun j => by
      constructor
      · intro hj
        rcases List.mem_cons.1 hj with rfl | hj
        · exact ⟨0, _, by rw [imgT, imgW_eq]; rfl, rfl⟩
        · rcases List.mem_cons.1 hj with rfl | hj
          · exact ⟨1, _, by rw [imgT, imgW_eq]; rfl, rfl⟩
          · rcases List.mem_cons.1 hj with rfl | hj
            · exact ⟨2, _, by rw [imgT, imgW_eq]; rfl, rfl⟩
            · cases hj
      · rintro ⟨i, x, hx, rfl⟩
        rw [imgT, imgW_eq] at hx
        rcases get_three hx with ⟨rfl, _⟩ | ⟨rfl, _⟩ | ⟨rfl, _⟩ <;> simp [θ])
  rw [ea] at this
  exact this.asI (by simp) h3 q0
end Go.Sx
