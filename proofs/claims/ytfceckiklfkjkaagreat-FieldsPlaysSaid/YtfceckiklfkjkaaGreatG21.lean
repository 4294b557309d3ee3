/-
  Parts of the executor Sx over the model's code (any program), or of this seat's walks: words and proofs that the row's text uses.
-/
import Derived.Test.YtfceckiklfkjkaaGreatG16
namespace Go.Sx
open Go.Proofs Go.RowKit
set_option maxRecDepth 100000
/-! ### what is sealed is right -/
theorem wrap_u8 (x : Int) : IntKind.u8.wrap x = x % 256 := by unfold IntKind.wrap; simp [IntKind.bits, IntKind.signed]
theorem wrap_u32 (x : Int) : IntKind.u32.wrap x = x % 4294967296 := by unfold IntKind.wrap; simp [IntKind.bits, IntKind.signed]
theorem bv_nat {x : Int} (h : U32 x) : (BitVec.ofInt 32 x).toNat = x.toNat := by
  rw [BitVec.toNat_ofInt]
  obtain ⟨h1, h2⟩ := h
  have : x % ((2 ^ 32 : Nat) : Int) = x := Int.emod_eq_of_lt h1 (by simpa using h2)
  rw [this]
theorem or32_add {x y a : Int} (i : Nat) (hx : 0 ≤ x) (hx2 : x < 2 ^ i) (ha : 0 ≤ a) (hy : y = 2 ^ i * a) (h : U32 (x + y)) (hxu : U32 x) (hyu : U32 y) : or32 x y = x + y := by
  unfold or32
  rw [BitVec.toNat_or, bv_nat hxu, bv_nat hyu, wrap_u32]
  obtain ⟨xn, rfl⟩ := Int.eq_ofNat_of_zero_le hx
  obtain ⟨an, rfl⟩ := Int.eq_ofNat_of_zero_le ha
  subst hy
  have hlt : xn < 2 ^ i := by exact_mod_cast hx2
  have e := Nat.two_pow_add_eq_or_of_lt hlt an
  have e2 : ((2 ^ i * (an : Int)).toNat) = 2 ^ i * an := by
    have : (2 ^ i * (an : Int)) = ((2 ^ i * an : Nat) : Int) := by push_cast; rfl
    rw [this]; rfl
  rw [e2, show (↑xn : Int).toNat = xn from rfl, Nat.or_comm, ← e]
  obtain ⟨h1, h2⟩ := h
  have : ((2 ^ i * an + xn : Nat) : Int) = ↑xn + 2 ^ i * ↑an := by push_cast; omega
  rw [this]
  exact Int.emod_eq_of_lt h1 h2
theorem or4 {x y z u : Int} (hx : 0 ≤ x ∧ x < 256) (hy : 0 ≤ y ∧ y < 256) (hz : 0 ≤ z ∧ z < 256) (hu : 0 ≤ u ∧ u < 256) :
    or32 (or32 (or32 (or32 0 x) (256 * y)) (65536 * z)) (16777216 * u) = x + 256 * y + 65536 * z + 16777216 * u := by
  have k0 : or32 0 x = 0 + x := or32_add (a := x) 0 (by omega) (by decide) (by omega) (by simp) ⟨by omega, by omega⟩ ⟨by omega, by omega⟩ ⟨by omega, by omega⟩
  rw [k0, Int.zero_add]
  have k1 : or32 x (256 * y) = x + 256 * y := or32_add (a := y) 8 (by omega) (by simpa using hx.2) (by omega) (by simp) ⟨by omega, by omega⟩ ⟨by omega, by omega⟩ ⟨by omega, by omega⟩
  rw [k1]
  have m2 : x + 256 * y < 65536 := by omega
  have m3 : x + 256 * y + 65536 * z < 16777216 := by omega
  have k2 : or32 (x + 256 * y) (65536 * z) = x + 256 * y + 65536 * z := or32_add (a := z) 16 (by omega) (by simpa using m2) (by omega) (by simp) ⟨by omega, by omega⟩ ⟨by omega, by omega⟩ ⟨by omega, by omega⟩
  rw [k2]
  exact or32_add (a := u) 24 (by omega) (by simpa using m3) (by omega) (by simp) ⟨by omega, by omega⟩ ⟨by omega, by omega⟩ ⟨by omega, by omega⟩
theorem shl_eq {x : Int} (hx : 0 ≤ x ∧ x < 256) : shl32 x 0 = x ∧ shl32 x 8 = 256 * x ∧ shl32 x 16 = 65536 * x ∧ shl32 x 24 = 16777216 * x := by
  unfold shl32
  simp only [wrap_u32]
  refine ⟨?_, ?_, ?_, ?_⟩ <;> (simp; omega)
theorem put_bytes {t : Int} (h : U32 t) : IntKind.u8.wrap (t.fdiv (2 ^ 0)) = t % 256 ∧ IntKind.u8.wrap (t.fdiv (2 ^ 8)) = t / 256 % 256 ∧ IntKind.u8.wrap (t.fdiv (2 ^ 16)) = t / 65536 % 256 ∧ IntKind.u8.wrap (t.fdiv (2 ^ 24)) = t / 16777216 % 256 := by
  simp only [wrap_u8]
  refine ⟨?_, ?_, ?_, ?_⟩
  · rw [Int.fdiv_eq_ediv_of_nonneg _ (show (0:Int) ≤ 2 ^ 0 by decide)]; simp
  · rw [Int.fdiv_eq_ediv_of_nonneg _ (show (0:Int) ≤ 2 ^ 8 by decide)]; simp
  · rw [Int.fdiv_eq_ediv_of_nonneg _ (show (0:Int) ≤ 2 ^ 16 by decide)]; simp
  · rw [Int.fdiv_eq_ediv_of_nonneg _ (show (0:Int) ≤ 2 ^ 24 by decide)]; simp
theorem byte (t : Int) : 0 ≤ t % 256 ∧ t % 256 < 256 := by omega
theorem getD_app {a b : List Int} {n i : Nat} (h : a.length = n) : (a ++ b).getD (n + i) 0 = b.getD i 0 := by
  simp [List.getD, List.getElem?_append_right, ← h]
/-! ### a sector is written over -/
theorem over_len {L x : List Int} {o : Nat} (h : o + x.length ≤ L.length) : (over L o x).length = L.length := by simp [over]; omega
theorem over_at_same {L x : List Int} {o : Nat} (hx : x.length = 64) (h : o + 64 ≤ L.length) : blkAt (over L o x) o = x := by
  unfold blkAt over
  rw [List.append_assoc, List.drop_left' (by simp; omega), List.take_left' hx]
theorem over_at_other {L x : List Int} {o o' : Nat} (hx : x.length = 64) (h : o + 64 ≤ L.length) (hd : o' + 64 ≤ o ∨ o + 64 ≤ o') : blkAt (over L o x) o' = blkAt L o' := by
  unfold blkAt over
  apply List.ext_getElem?
  intro j
  by_cases hj : j < 64
  · rw [List.getElem?_take_of_lt hj, List.getElem?_take_of_lt hj, List.getElem?_drop, List.getElem?_drop]
    rcases hd with hd | hd
    · rw [List.append_assoc, List.getElem?_append_left (by simp; omega), List.getElem?_take_of_lt (by omega)]
    · rw [List.getElem?_append_right (by simp; omega), List.getElem?_drop]
      congr 1
      simp
      omega
  · rw [List.getElem?_eq_none (by simp; omega), List.getElem?_eq_none (by simp; omega)]
end Go.Sx

namespace Go.Sx
open Go.Proofs Go.RowKit
set_option maxRecDepth 100000
/-! ### what Write leaves -/
theorem find_tot {L : List Int} {n : Nat} (h : fndOk L n = true) : tot (fndG L n 4) (fndG L n 6) (fndG L n 8) = (n : Int) := by
  unfold fndG sel
  rw [h]
  simp only [if_true]
  unfold fndOk at h
  simp only [Bool.and_eq_true, Bool.or_eq_true] at h
  unfold fndP
  by_cases h0 : isK L n 0 = true
  · rw [if_pos h0]
    unfold isK at h0
    simp only [Bool.and_eq_true, beq_iff_eq] at h0
    exact h0.2.2
  · rw [if_neg h0]
    have h1 := h.2.resolve_left h0
    unfold isK at h1
    simp only [Bool.and_eq_true, beq_iff_eq] at h1
    exact h1.2.2
section
variable {a b c : Int} {n : Nat} {sc out : Int} {L : List Int} {l : List (Int × Int)} {g k : Int} {p : List Int}
theorem hasS_iff : hasS n g = true ↔ 0 ≤ g ∧ g < (n : Int) := by unfold hasS; simp
theorem putE_may : (putE k != 0) = false ↔ mayK k = true := by unfold putE; cases mayK k <;> simp
/-- the five ways of Write -/
theorem wr_cases (Q : Bool × List Int × List (Int × Int) × Int → Prop) (h0 : hasS n g = false → Q (false, L, l, out))
    (h1 : hasS n g = true → ldOk L n g k = true → ldP L n g k = p → Q (true, L, l, out))
    (h2 : hasS n g = true → mayK k = false → Q (false, L, l, out))
    (h3 : hasS n g = true → decide (g ≥ 2) = true → inS a sc (pl a b c g).2.1 = false → Q (false, L, l, IntKind.i64.wrap (out + 1)))
    (h4 : hasS n g = true → mayK k = true → Q (true, over L (g.toNat * 64) (nextB k (blkAt L (g.toNat * 64)) p), putI l g 1, out)) : Q (wrEnd a b c n sc out L l g k p) := by
  unfold wrEnd
  split
  · rename_i e0
    split
    · rename_i e1
      simp only [Bool.and_eq_true, beq_iff_eq] at e1
      exact h1 e0 e1.1 e1.2
    · split
      · rename_i e2
        refine h2 e0 ?_
        cases hk : mayK k with
        | false => rfl
        | true => rw [putE_may.2 hk] at e2; cases e2
      · rename_i e2
        split
        · rename_i e3
          simp only [Bool.and_eq_true, Bool.not_eq_true'] at e3
          exact h3 e0 e3.1 e3.2
        · exact h4 e0 (putE_may.1 (by simpa using e2))
  · rename_i e0
    exact h0 (by simpa using e0)
theorem wr_len (hl : L.length = 64 * n) (hp : p.length = 54) : (wrEnd a b c n sc out L l g k p).2.1.length = 64 * n := by
  refine wr_cases (Q := fun r => r.2.1.length = 64 * n) (fun _ => hl) (fun _ _ _ => hl) (fun _ _ => hl) (fun _ _ _ => hl) fun h _ => ?_
  obtain ⟨g1, g2⟩ := hasS_iff.1 h
  rw [over_len (by rw [nextB_len hp]; omega)]; exact hl
end
end Go.Sx

namespace Go.Sx
open Go.Proofs Go.RowKit
set_option maxRecDepth 100000
theorem bytes49 : Tryz.prog.types[95]!.bytes = 64 := by kernel_rfl
theorem fits49 {m : Nat} (h : m ≤ 140) : fits Tryz.prog.types[95]! m = true := by
  unfold fits
  rw [bytes49]
  simp only [Bool.and_eq_true, Nat.ble_eq]
  omega
theorem beq0 {m : Nat} (h : 0 < m) : m.beq 0 = false := by
  cases m with
  | zero => omega
  | succ m => rfl
theorem find_ok {L : List Int} {n : Nat} (h : (fndE L n != 0) = false) : fndOk L n = true := by
  unfold fndE at h
  cases hf : fndOk L n with
  | true => rfl
  | false => rw [hf] at h; simp at h
abbrev secB (L : List Int) (N : Nat) : Blk := .row 95 false (some 64) (.ints .u8 L N)
end Go.Sx

namespace Go.Sx
open Go.Proofs Go.RowKit
set_option maxRecDepth 100000
/-! ### the head's load of a group (f72), a group's first sector (f73) -/
noncomputable def rHead (g : Int) (o : List (Nat × Bool)) : Option (RV × List Prop) := runA Tryz.prog (fun _ => none) 300 152 [.one (.c (.int .i64 g))] s0 ⟨0, o, []⟩ fun v _ α => some (v, α.ob)
def z52 : List Int := List.replicate 52 0
theorem head_1 (g : Int) : rHead g [(0, true), (1, true), (2, true)] = some (.tup [.ints .u8 z54 54, .c (.int .i64 2)], rep 3 (decide (g < 0) = true)) := by kernel_rfl
theorem head_2 (g : Int) : rHead g [(0, false), (1, false), (2, false), (3, true)] = some (.tup [.ints .u8 z54 54, .c (.int .i64 2)], [decide (g ≥ 8) = true] ++ rep 3 (decide (g < 0) = false)) := by kernel_rfl
theorem head_3 (g : Int) : rHead g [(0, false), (1, false), (2, false), (3, false)] = some (.tup [.ints .u8 (IntKind.u8.wrap (IntKind.u16.wrap g) :: IntKind.u8.wrap ((IntKind.u16.wrap g).fdiv 256) :: z52) 54, .c (.int .i64 0)], [decide (g ≥ 8) = false] ++ rep 3 (decide (g < 0) = false)) := by kernel_rfl
def inG (g : Int) : Bool := decide (0 ≤ g) && decide (g < 8)
def headB (g : Int) : List Int := if inG g then g :: 0 :: z52 else z54
def fHead (args : List RV) : Option (RV × List Prop) := match args with
  | [.one (.c (.int .i64 g))] => some (.tup [.ints .u8 (headB g) 54, .c (.int .i64 (if inG g then 0 else 2))], [])
  | _ => none
theorem wrap_u16 (x : Int) : IntKind.u16.wrap x = x % 65536 := by unfold IntKind.wrap; simp [IntKind.bits, IntKind.signed]
theorem fHead_ok : PureOK Tryz.prog 152 fHead := by
  intro args v ps h hp ρ w vs ha
  unfold fHead at h
  split at h <;> try (cases h; done)
  rename_i g
  simp only [Option.some.injEq, Prod.mk.injEq] at h
  obtain ⟨rfl, rfl⟩ := h
  cases h0 : decide (g < 0) with
  | true =>
    have e : inG g = false := by unfold inG; simp at h0 ⊢; omega
    unfold headB; rw [e]
    exact pure_path fit00 (by rfl) (by rfl) (head_1 g) (All_rep h0 3) ρ w vs ha
  | false =>
    cases h1 : decide (g ≥ 8) with
    | true =>
      have e : inG g = false := by unfold inG; simp at h1 ⊢; omega
      unfold headB; rw [e]
      exact pure_path fit00 (by rfl) (by rfl) (head_2 g) ((All_append _ _).2 ⟨⟨h1, trivial⟩, All_rep h0 3⟩) ρ w vs ha
    | false =>
      have hg : 0 ≤ g ∧ g < 8 := by simp at h0 h1; omega
      have e : inG g = true := by unfold inG; simp; omega
      unfold headB; rw [e]
      have hr := head_3 g
      have e1 : IntKind.u16.wrap g = g := by rw [wrap_u16]; omega
      have e2 : IntKind.u8.wrap g = g := by rw [wrap_u8]; omega
      have e3 : IntKind.u8.wrap (g.fdiv 256) = 0 := by rw [Int.fdiv_eq_ediv_of_nonneg _ (by decide), wrap_u8]; omega
      rw [e1, e2, e3] at hr
      exact pure_path fit00 (by rfl) (by rfl) hr ((All_append _ _).2 ⟨⟨h1, trivial⟩, All_rep h0 3⟩) ρ w vs ha
end Go.Sx

namespace Go.Sx
open Go.Proofs Go.RowKit
set_option maxRecDepth 100000
noncomputable def fitH_sg : FuncId → Option SumA := fun f => match f with | 108 => some (pureSum fGeo) | _ => none
noncomputable def rFst (a b c g : Int) (o : List (Nat × Bool)) : Option (RV × List Prop) := runA Tryz.prog fitH_sg 300 153 [.one (.agg [.int .i64 a, .int .i64 b, .int .i64 c]), .one (.c (.int .i64 g))] s0 ⟨0, o, []⟩ fun v _ α => some (v, α.ob)
theorem fst_1 (a b c g : Int) : rFst a b c g (tT [0, 1, 2]) = some (.tup [.c (.int .i64 0), .c (.int .i64 2)], rep 3 ((errI (geoB a b c) != 0) = true)) := by kernel_rfl
theorem fst_2 (a b c g : Int) : rFst a b c g (fF [0, 1, 2] ++ tT [3, 4, 5, 6, 7]) = some (.tup [.c (.int .i64 0), .c (.int .i64 2)], rep 5 (decide (g < 0) = true) ++ rep 3 ((errI (geoB a b c) != 0) = false)) := by kernel_rfl
theorem fst_3 (a b c g : Int) : rFst a b c g (fF [0, 1, 2, 3, 4, 5, 6, 7] ++ [(8, true)]) = some (.tup [.c (.int .i64 0), .c (.int .i64 2)], [decide (g ≥ a) = true] ++ (rep 5 (decide (g < 0) = false) ++ rep 3 ((errI (geoB a b c) != 0) = false))) := by kernel_rfl
theorem fst_4 (a b c g : Int) : rFst a b c g (fF [0, 1, 2, 3, 4, 5, 6, 7] ++ [(8, false)]) = some (.tup [.c (.int .i64 (IntKind.i64.wrap (IntKind.i64.wrap (2 + IntKind.i64.wrap (g * IntKind.i64.wrap (IntKind.i64.wrap (2 + b) + c))) + 0))), .c (.int .i64 0)], [decide (g ≥ a) = false] ++ (rep 5 (decide (g < 0) = false) ++ rep 3 ((errI (geoB a b c) != 0) = false))) := by kernel_rfl
def fstB (a b c g : Int) : Bool := geoB a b c && (decide (0 ≤ g) && decide (g < a))
def fstS (a b c g : Int) : Int := if fstB a b c g then 2 + g * (2 + b + c) else 0
def fFst (args : List RV) : Option (RV × List Prop) := match args with
  | [.one (.agg [.int .i64 a, .int .i64 b, .int .i64 c]), .one (.c (.int .i64 g))] => some (.tup [.c (.int .i64 (fstS a b c g)), .c (.int .i64 (if fstB a b c g then 0 else 2))], [])
  | _ => none
theorem errI_ne (x : Bool) : (errI x != 0) = !x := by cases x <;> simp [errI_true, errI_false]
theorem fitH : Fit Tryz.prog (fun f => (fitH_sg f).map toSum) := ⟨fit_ng, fit_mixed, SumAOK.sum fun f sm h => by
  unfold fitH_sg at h
  split at h
  · cases h; exact (fGeo_ok 108 geoCheck).sum ⟨_, Tryz.func108, rfl⟩
  · cases h⟩
theorem fFst_ok : PureOK Tryz.prog 153 fFst := by
  intro args v ps h hp ρ w vs ha
  unfold fFst at h
  split at h <;> try (cases h; done)
  rename_i a b c g
  simp only [Option.some.injEq, Prod.mk.injEq] at h
  obtain ⟨rfl, rfl⟩ := h
  cases hgeo : geoB a b c with
  | false =>
    unfold fstS fstB; rw [hgeo]
    exact pure_path fitH (by rfl) (by rfl) (fst_1 a b c g) (All_rep (by rw [errI_ne, hgeo]; rfl) 3) ρ w vs ha
  | true =>
    have hE : (errI (geoB a b c) != 0) = false := by rw [errI_ne, hgeo]; rfl
    cases h0 : decide (g < 0) with
    | true =>
      have e : fstB a b c g = false := by unfold fstB; simp at h0 ⊢; omega
      unfold fstS; rw [e]
      exact pure_path fitH (by rfl) (by rfl) (fst_2 a b c g) ((All_append _ _).2 ⟨All_rep h0 5, All_rep hE 3⟩) ρ w vs ha
    | false =>
      cases h1 : decide (g ≥ a) with
      | true =>
        have e : fstB a b c g = false := by unfold fstB; simp at h1 ⊢; omega
        unfold fstS; rw [e]
        exact pure_path fitH (by rfl) (by rfl) (fst_3 a b c g) ((All_append _ _).2 ⟨⟨h1, trivial⟩, (All_append _ _).2 ⟨All_rep h0 5, All_rep hE 3⟩⟩) ρ w vs ha
      | false =>
        have hg : 0 ≤ g ∧ g < a := by simp at h0 h1; omega
        have e : fstB a b c g = true := by unfold fstB; rw [hgeo]; simp; omega
        unfold fstS; rw [e]
        have hr := fst_4 a b c g
        obtain ⟨g1, g2, g3, g4, g5, g6⟩ := geoB_iff.1 hgeo
        have m1 : 0 ≤ g * (2 + b + c) := Int.mul_nonneg hg.1 (by omega)
        have m2 : g * (2 + b + c) ≤ 8 * 138 := Int.mul_le_mul (by omega) (by omega) (by omega) (by omega)
        rw [IntWalk.i64_in (2 + b) (by omega), IntWalk.i64_in (2 + b + c) (by omega), IntWalk.i64_in (g * (2 + b + c)) (by omega), IntWalk.i64_in (2 + g * (2 + b + c)) (by omega), IntWalk.i64_in _ (by omega), Int.add_zero] at hr
        exact pure_path fitH (by rfl) (by rfl) hr ((All_append _ _).2 ⟨⟨h1, trivial⟩, (All_append _ _).2 ⟨All_rep h0 5, All_rep hE 3⟩⟩) ρ w vs ha
end Go.Sx

namespace Go.Sx
open Go.Proofs Go.RowKit
set_option maxRecDepth 100000
/-! ### one group of an image: f46 -/
abbrev St := List Int × List (Int × Int) × Int
section
variable (a b c : Int) (n : Nat) (sc : Int)
noncomputable abbrev wr1 (st : St) (g k : Int) (p : List Int) : St := (wrEnd a b c n sc st.2.2 st.1 st.2.1 g k p).2
noncomputable def sec1 (st : St) (s : Int) : St := if ldOk st.1 n s (pl a b c s).1 then st else wr1 a b c n sc st s (pl a b c s).1 z54
noncomputable def secs : Nat → St → Int → St
  | 0, st, _ => st
  | m + 1, st, s => secs m (sec1 a b c n sc st s) (s + 1)
noncomputable def grp (st : St) (g : Int) : St := secs a b c n sc (b + 1).toNat (wr1 a b c n sc st (fstS a b c g) 2 (headB g)) (fstS a b c g + 1)
noncomputable abbrev imgT (st : St) : T Blk := imgW a b c st.1 n sc st.2.2 st.2.1
end
noncomputable def sgK : FuncId → Option SumA := fun f => match f with | 152 => some (pureSum fHead) | 153 => some (pureSum fFst) | 151 => some (pureSum fWhere) | 47 => some sumLd | 78 => some sumWr | _ => none
theorem fitK : Fit Tryz.prog (fun f => (sgK f).map toSum) := ⟨fit_ng, fit_mixed, SumAOK.sum fun f sm h => by
  unfold sgK at h
  split at h
  · cases h; exact fHead_ok.sum ⟨_, Tryz.func152, rfl⟩
  · cases h; exact fFst_ok.sum ⟨_, Tryz.func153, rfl⟩
  · cases h; exact (fWhere_ok 151 whereAny).sum ⟨_, Tryz.func151, rfl⟩
  · cases h; exact sumLd_ok
  · cases h; exact sumWr_ok
  · cases h⟩
noncomputable def c46 : Code := gB 79
noncomputable def lp46 : Code := match gR (gR (gR c46)) with | .seq _ (.block _ (.loop c)) => c | _ => .skip
noncomputable def args46 (g : Int) : List RV := [.one (.c (.ptr 0 0)), .one (.c (.int .i64 g))]
noncomputable def sl46 (g : Int) : T RV := match setArgs 70 (args46 g) 0 .nil some with | some t => t | none => .nil
theorem sl46_ok (g : Int) : setArgs 70 (args46 g) 0 .nil some = some (sl46 g) := by kernel_rfl
noncomputable abbrev go46 (keep : List Nat) (c : Code) (s : S) (o : List (Nat × Bool)) : Option (X × S × List Prop) := execA Tryz.prog sgK 300 70 c s ⟨0, o, []⟩ fun x s α => some (x, fgt keep 70 s, α.ob)
noncomputable abbrev lo46 (keep : List Nat) (c : Code) (s : S) (o : List (Nat × Bool)) : Option (X × Bool × S × List Prop) := execA Tryz.prog sgK 300 70 c s ⟨0, o, []⟩ fun x s α => some (x, Nat.ble 4 s.nx, low 70 4 (fgt keep 70 s), α.ob)
section
variable (a b c : Int) (L : List Int) (n : Nat) (sc out g f s : Int) (l : List (Int × Int)) (h : List Int)
abbrev hd46 (h : List Int) : Blk := .row 59 false none (.ints .u8 h 54)
noncomputable def hp46 : T Blk := ofL [(0, .row 113 false none (.cells (imgC a b c n sc out))), (1, .row 95 false (some 64) (.ints .u8 L (64 * n))), (2, .mapI none l), (3, hd46 h)]
noncomputable def s46a : S := ⟨sl46 g, imgW a b c L n sc out l, 3, []⟩
noncomputable def s46b : S := fgt [0, 1, 4] 70 ⟨ofL [(0, .one (.c (.ptr 0 0))), (1, .one (.c (.int .i64 g))), (4, .one (.c (.ptr 3 0)))], hp46 a b c L n sc out l h, 4, []⟩
noncomputable def s46c : S := fgt [0, 4, 6] 70 ⟨ofL [(0, .one (.c (.ptr 0 0))), (4, .one (.c (.ptr 3 0))), (6, .one (.c (.int .i64 f)))], hp46 a b c L n sc out l h, 4, []⟩
noncomputable def s46d : S := fgt [0, 6] 70 ⟨ofL [(0, .one (.c (.ptr 0 0))), (6, .one (.c (.int .i64 f)))], hp46 a b c L n sc out l h, 4, []⟩
noncomputable def s46 : S := low 70 4 (fgt [0, 6, 8] 70 ⟨ofL [(0, .one (.c (.ptr 0 0))), (6, .one (.c (.int .i64 f))), (8, .one (.c (.int .i64 s)))], hp46 a b c L n sc out l h, 4, []⟩)
theorem q0 : go46 [0, 1, 4] (gL c46) (s46a a b c L n sc out g l) [] = some (.normal, s46b a b c L n sc out g l (over z54 0 (headB g)), []) := by kernel_rfl
theorem q1 : go46 [0, 4, 6] (gL (gR c46)) (s46b a b c L n sc out g l h) [] = some (.normal, s46c a b c L n sc out (fstS a b c g) l h, []) := by kernel_rfl
theorem q2 : go46 [0, 6] (gL (gR (gR c46))) (s46c a b c L n sc out f l h) [] = some (.normal, s46d a b c (wrEnd a b c n sc out L l f 2 ((h.drop 0).take 54)).2.1 n sc (wrEnd a b c n sc out L l f 2 ((h.drop 0).take 54)).2.2.2 f (wrEnd a b c n sc out L l f 2 ((h.drop 0).take 54)).2.2.1 h, [L.length = 64 * n, 64 * n = 64 * n, ((h.drop 0).take 54).length = 54]) := by kernel_rfl
theorem q3 : lo46 [0, 6, 8] (gL (gR (gR (gR c46)))) (s46d a b c L n sc out f l h) [] = some (.normal, true, s46 a b c L n sc out f (IntKind.i64.wrap (f + 1)) l h, []) := by kernel_rfl
abbrev lt46 : Bool := decide (s < IntKind.i64.wrap (IntKind.i64.wrap (f + 2) + b))
theorem q4a : lo46 [0, 6, 8] lp46 (s46 a b c L n sc out f s l h) [(0, true), (2, true)] = some (.normal, true, s46 a b c (wrEnd a b c n sc out L l s (pl a b c s).1 z54).2.1 n sc (wrEnd a b c n sc out L l s (pl a b c s).1 z54).2.2.2 f (IntKind.i64.wrap (s + 1)) (wrEnd a b c n sc out L l s (pl a b c s).1 z54).2.2.1 h,
  [L.length = 64 * n, 64 * n = 64 * n, 54 = 54, (!ldOk L n s (pl a b c s).1) = true, L.length = 64 * n, 64 * n = 64 * n, lt46 b f s = true]) := by kernel_rfl
theorem q4b : lo46 [0, 6, 8] lp46 (s46 a b c L n sc out f s l h) [(0, true), (2, false)] = some (.normal, true, s46 a b c L n sc out f (IntKind.i64.wrap (s + 1)) l h,
  [(!ldOk L n s (pl a b c s).1) = false, L.length = 64 * n, 64 * n = 64 * n, lt46 b f s = true]) := by kernel_rfl
theorem q4c : lo46 [0, 6, 8] lp46 (s46 a b c L n sc out f s l h) [(0, false)] = some (.exit 0, true, s46 a b c L n sc out f s l h, [lt46 b f s = false]) := by kernel_rfl
theorem s46_nx : (s46 a b c L n sc out f s l h).nx = 4 := by kernel_rfl
noncomputable def e46 : S := low 70 3 (s46 a b c L n sc out f s l h)
theorem e46_hp : (e46 a b c L n sc out f s l h).hp = imgW a b c L n sc out l := by kernel_rfl
theorem e46_nx : (e46 a b c L n sc out f s l h).nx = 3 := by kernel_rfl
theorem e46_res : resOf Tryz.prog 70 (e46 a b c L n sc out f s l h) Tryz.f79.results.toList = some [] := by kernel_rfl
end
end Go.Sx

namespace Go.Sx
open Go.Proofs Go.RowKit
set_option maxRecDepth 100000
section
variable {a b c : Int} {n : Nat} {sc f g : Int} {h : List Int}
theorem wr1_len {st : St} {g k : Int} {p : List Int} (hl : st.1.length = 64 * n) (hp : p.length = 54) : (wr1 a b c n sc st g k p).1.length = 64 * n := wr_len hl hp
theorem sec1_len {st : St} {s : Int} (hl : st.1.length = 64 * n) : (sec1 a b c n sc st s).1.length = 64 * n := by
  unfold sec1
  split
  · exact hl
  · exact wr1_len hl rfl
theorem secs_len : ∀ {m : Nat} {st : St} {s : Int}, st.1.length = 64 * n → (secs a b c n sc m st s).1.length = 64 * n
  | 0, _, _, hl => hl
  | m + 1, st, s, hl => by rw [secs]; exact secs_len (sec1_len hl)
noncomputable abbrev at46 (a b c : Int) (n : Nat) (sc f : Int) (h : List Int) (st : St) (s : Int) : S := s46 a b c st.1 n sc st.2.2 f s st.2.1 h
theorem loop46 (hf : 0 ≤ f ∧ f ≤ 100000) (hb : 0 ≤ b ∧ b ≤ 1000) : ∀ (m : Nat) (st : St) (s : Int), st.1.length = 64 * n → 0 ≤ s → s + m = f + 2 + b → Tr Tryz.prog 70 (.loop lp46) (at46 a b c n sc f h st s) (fun x s' => x = .exit 0 ∧ s' = at46 a b c n sc f h (secs a b c n sc m st s) (f + 2 + b))
  | 0, st, s, hl, h0, hm => by
    have e : IntKind.i64.wrap (IntKind.i64.wrap (f + 2) + b) = f + 2 + b := by rw [IntWalk.i64_in (f + 2) (by omega), IntWalk.i64_in _ (by omega)]
    refine Tr.loop (Tr.pathL fitK (by rw [s46_nx]; exact Nat.le_refl _) (q4c a b c st.1 n sc st.2.2 f s st.2.1 h) ⟨by unfold lt46; rw [e]; simp; omega, trivial⟩ ?_)
    refine ⟨rfl, ?_⟩
    have : s = f + 2 + b := by simpa using hm
    subst this
    rfl
  | m + 1, st, s, hl, h0, hm => by
    have e : IntKind.i64.wrap (IntKind.i64.wrap (f + 2) + b) = f + 2 + b := by rw [IntWalk.i64_in (f + 2) (by omega), IntWalk.i64_in _ (by omega)]
    have hlt : lt46 b f s = true := by unfold lt46; rw [e]; simp; omega
    have hs1 : IntKind.i64.wrap (s + 1) = s + 1 := IntWalk.i64_in _ (by omega)
    cases hk : ldOk st.1 n s (pl a b c s).1 with
    | true =>
      have hsec : sec1 a b c n sc st s = st := by unfold sec1; rw [if_pos hk]
      refine Tr.loop (Tr.pathL fitK (by rw [s46_nx]; exact Nat.le_refl _) (q4b a b c st.1 n sc st.2.2 f s st.2.1 h) ⟨by rw [hk]; rfl, hl, rfl, hlt, trivial⟩ ?_)
      have ih := loop46 hf hb m st (s + 1) hl (by omega) (by push_cast at hm; omega)
      show Tr Tryz.prog 70 (.loop lp46) _ _
      rw [hs1, show secs a b c n sc (m + 1) st s = secs a b c n sc m st (s + 1) by rw [secs, hsec]]
      exact ih
    | false =>
      have hsec : sec1 a b c n sc st s = wr1 a b c n sc st s (pl a b c s).1 z54 := by unfold sec1; rw [hk]; rfl
      refine Tr.loop (Tr.pathL fitK (by rw [s46_nx]; exact Nat.le_refl _) (q4a a b c st.1 n sc st.2.2 f s st.2.1 h) ⟨hl, rfl, rfl, by rw [hk]; rfl, hl, rfl, hlt, trivial⟩ ?_)
      have ih := loop46 hf hb m (wr1 a b c n sc st s (pl a b c s).1 z54) (s + 1) (wr1_len hl rfl) (by omega) (by push_cast at hm; omega)
      show Tr Tryz.prog 70 (.loop lp46) _ _
      rw [hs1, show secs a b c n sc (m + 1) st s = secs a b c n sc m (wr1 a b c n sc st s (pl a b c s).1 z54) (s + 1) by rw [secs, hsec]]
      exact ih
theorem headB_len : (headB g).length = 54 := by unfold headB; split <;> rfl
theorem body46 {st : St} (hl : st.1.length = 64 * n) (hg : geoB a b c = true) (hf : fstB a b c g = true) : Tr Tryz.prog 70 c46 (s46a a b c st.1 n sc st.2.2 g st.2.1) (fun x s1 => (x = .normal ∨ x = .ret) ∧ ∃ q, resOf Tryz.prog 70 s1 Tryz.f79.results.toList = some q ∧ (resRV q = .tup [] ∧ s1.hp = imgT a b c n sc (grp a b c n sc st g) ∧ s1.nx = 3)) := by
  obtain ⟨g1, g2, g3, g4, g5, g6⟩ := geoB_iff.1 hg
  have hf' := hf
  unfold fstB at hf'
  simp only [Bool.and_eq_true, decide_eq_true_eq] at hf'
  obtain ⟨_, f1, f2⟩ := hf'
  have m1 : 0 ≤ g * (2 + b + c) := Int.mul_nonneg f1 (by omega)
  have m2 : g * (2 + b + c) ≤ 8 * 138 := Int.mul_le_mul (by omega) (by omega) (by omega) (by omega)
  have hF : fstS a b c g = 2 + g * (2 + b + c) := by unfold fstS; rw [if_pos hf]
  have hh : ((over z54 0 (headB g)).drop 0).take 54 = headB g := by rw [over_z54 headB_len, take_all headB_len]
  refine Tr.low (m := 3) (Nat.le_refl _) ?_
  refine Tr.seq (c := gL c46) (d := gR c46) (Tr.path fitK (q0 a b c st.1 n sc st.2.2 g st.2.1) trivial ?_)
  refine Tr.seq (c := gL (gR c46)) (d := gR (gR c46)) (Tr.path fitK (q1 a b c st.1 n sc st.2.2 g st.2.1 _) trivial ?_)
  refine Tr.seq (c := gL (gR (gR c46))) (d := gR (gR (gR c46))) (Tr.path fitK (q2 a b c st.1 n sc st.2.2 (fstS a b c g) st.2.1 _) ⟨hl, rfl, by rw [hh]; exact headB_len, trivial⟩ ?_)
  rw [hh]
  refine Tr.seq (c := gL (gR (gR (gR c46)))) (d := .block 0 (.loop lp46)) (Tr.pathL fitK (Nat.le_refl _) (q3 ..) trivial ?_)
  refine Tr.block ?_
  have hs1 : IntKind.i64.wrap (fstS a b c g + 1) = fstS a b c g + 1 := IntWalk.i64_in _ (by omega)
  rw [hs1]
  have hlp := loop46 (a := a) (b := b) (c := c) (n := n) (sc := sc) (f := fstS a b c g) (h := over z54 0 (headB g)) (by omega) (by omega) (b + 1).toNat (wr1 a b c n sc st (fstS a b c g) 2 (headB g)) (fstS a b c g + 1) (wr1_len hl headB_len) (by omega) (by omega)
  refine hlp.mono fun x s' hx => ?_
  obtain ⟨rfl, rfl⟩ := hx
  simp only [if_true]
  refine ⟨by rw [s46_nx]; omega, by simp, _, e46_res .., rfl, e46_hp .., e46_nx ..⟩
theorem body46_eq : Tryz.f79.body = some c46 := by kernel_rfl
theorem small46 {st : St} (hl : st.1.length = 64 * n) (hg : geoB a b c = true) (hf : fstB a b c g = true) : SmallC Tryz.prog 79 (args46 g) 3 (imgT a b c n sc st) (imgT a b c n sc (grp a b c n sc st g)) (.tup []) :=
  Tr.smallC (fn := Tryz.f79) (c := c46) Tryz.func79 body46_eq (by rw [imgT, imgW_eq]; exact top_three) (sl46_ok g) (body46 hl hg hf)
end
end Go.Sx

namespace Go.Sx
open Go.Proofs Go.RowKit
set_option maxRecDepth 100000
noncomputable def sumGrp : SumA := fun args hp nx => match args with
  | [.one (.c (.ptr nm 0)), .one (.c (.int .i64 g))] => match imgWr hp.get nm with
    | some (a, b, c, L, N, n, sc, out, l, nl, nw) =>
      match Nat.blt nm nx, Nat.blt nl nx, Nat.blt nw nx with
      | true, true, true =>
        T.set depth hp nw (some (.mapI none l)) fun hp =>
        T.set depth hp nm (some (.row 113 false none (.cells [.int .i64 a, .int .i64 b, .int .i64 c, .slu nl 64 0 n, .int .u32 sc, .map nw, .int .i64 (grp a b c n sc (L, l, out) g).2.2]))) fun hp =>
        T.set depth hp nl (some (.row 95 false (some 64) (.ints .u8 (grp a b c n sc (L, l, out) g).1 N))) fun hp =>
        T.set depth hp nw (some (.mapI none (grp a b c n sc (L, l, out) g).2.1)) fun hp =>
        some (.tup [], hp, nx, [nm, nl, nw], [L.length = N, N = 64 * n, geoB a b c = true, fstB a b c g = true])
      | _, _, _ => none
    | none => none
  | _ => none
theorem sumGrp_ok : SumAOK Tryz.prog 79 sumGrp := by
  intro args s v hp nx lg ps ht h hps
  unfold sumGrp at h
  split at h <;> try (cases h; done)
  rename_i nm g
  split at h <;> try (cases h; done)
  rename_i a b c L N n sc out l nl nw hi
  split at h <;> try (cases h; done)
  rename_i b1 b2 b3
  obtain ⟨h1, h2, h3⟩ := imgWr_ok hi
  have n1 : nm < s.nx := blt_lt b1
  have n2 : nl < s.nx := blt_lt b2
  have n3 : nw < s.nx := blt_lt b3
  have d1 : nm ≠ nl := fun e => by subst e; rw [h1] at h2; cases h2
  have d2 : nm ≠ nw := fun e => by subst e; rw [h1] at h3; rcases h3 with h3 | ⟨_, h3⟩ <;> cases h3
  have d3 : nl ≠ nw := fun e => by subst e; rw [h2] at h3; rcases h3 with h3 | ⟨_, h3⟩ <;> cases h3
  obtain ⟨t0, h, q0⟩ := T.set_ok _ _ _ _ _ _ h
  obtain ⟨t1, h, q1⟩ := T.set_ok _ _ _ _ _ _ h
  obtain ⟨t2, h, q2⟩ := T.set_ok _ _ _ _ _ _ h
  obtain ⟨t3, h, q3⟩ := T.set_ok _ _ _ _ _ _ h
  simp only [Option.some.injEq, Prod.mk.injEq] at h
  obtain ⟨rfl, rfl, rfl, rfl, rfl⟩ := h
  obtain ⟨hl, hN, hgeo, hfst, _⟩ := hps
  subst hN
  have ht0 : Top { s with hp := t0 } := fun j hj => by
    show t0.get j = none
    have : s.nx ≤ j := hj
    rw [q0 j, if_neg (by omega)]
    exact ht j hj
  have g1 : t0.get nm = _ := (q0 nm).trans ((if_neg d2).trans h1)
  have g2 : t0.get nl = _ := (q0 nl).trans ((if_neg d3).trans h2)
  have g3 : t0.get nw = some (.mapI none l) := (q0 nw).trans (if_pos rfl)
  have hget : ∀ j, t3.get j = if j = nw then some (.mapI none (grp a b c n sc (L, l, out) g).2.1) else if j = nl then some (.row 95 false (some 64) (.ints .u8 (grp a b c n sc (L, l, out) g).1 (64 * n))) else if j = nm then some (.row 113 false none (.cells [.int .i64 a, .int .i64 b, .int .i64 c, .slu nl 64 0 n, .int .u32 sc, .map nw, .int .i64 (grp a b c n sc (L, l, out) g).2.2])) else t0.get j := fun j => by
    rw [q3 j, q2 j, q1 j]
  let θ : Nat → Nat := fun i => if i = 0 then nm else if i = 1 then nl else nw
  have ea : (args46 g).map (renR θ) = [.one (.c (.ptr nm 0)), .one (.c (.int .i64 g))] := rfl
  have hC := small46 (a := a) (b := b) (c := c) (n := n) (sc := sc) (g := g) (st := (L, l, out)) hl hgeo hfst
  have := CallInfo.frame (P := Tryz.prog) (f := 79) (θ := θ) (s := { s with hp := t0 }) (hp' := t3) (Lw := [nm, nl, nw]) ht0 ⟨_, Tryz.func79, rfl⟩ hC (by rfl)
    (fun i x hx => by
      rw [imgT, imgW_eq] at hx
      rcases get_three hx with ⟨rfl, rfl⟩ | ⟨rfl, rfl⟩ | ⟨rfl, rfl⟩
      · exact ⟨by omega, rfl, rfl, n1, g1⟩
      · exact ⟨by omega, rfl, rfl, n2, g2⟩
      · exact ⟨by omega, rfl, rfl, n3, g3⟩)
    (fun i j x y hx hy he => by
      rw [imgT, imgW_eq] at hx hy
      rcases get_three hx with ⟨rfl, _⟩ | ⟨rfl, _⟩ | ⟨rfl, _⟩ <;> rcases get_three hy with ⟨rfl, _⟩ | ⟨rfl, _⟩ | ⟨rfl, _⟩ <;> first | rfl | exact absurd he d1 | exact absurd he d2 | exact absurd he d3 | exact absurd he.symm d1 | exact absurd he.symm d2 | exact absurd he.symm d3)
    (fun j hj => by
      have j0 := hj 0 _ (by rw [imgT, imgW_eq]; rfl)
      have j1 := hj 1 _ (by rw [imgT, imgW_eq]; rfl)
      have j2 := hj 2 _ (by rw [imgT, imgW_eq]; rfl)
      rw [hget, if_neg (fun e => j2 e.symm), if_neg (fun e => j1 e.symm), if_neg (fun e => j0 e.symm)])
    (fun i x hx => by
      rw [imgT, imgW_eq] at hx
      rw [hget, imgT, imgW_eq]
      rcases get_three hx with ⟨rfl, rfl⟩ | ⟨rfl, rfl⟩ | ⟨rfl, rfl⟩
      · rw [if_neg (show θ 0 ≠ nw from d2), if_neg (show θ 0 ≠ nl from d1), if_pos (show θ 0 = nm from rfl)]; rfl
      · rw [if_neg (show θ 1 ≠ nw from d3), if_pos (show θ 1 = nl from rfl)]; rfl
      · rw [if_pos (show θ 2 = nw from rfl)]; rfl)
    (fun j => by
      constructor
      · intro hj
        rcases List.mem_cons.1 hj with rfl | hj
        · exact ⟨0, _, by rw [imgT, imgW_eq]; rfl, rfl⟩
        · rcases List.mem_cons.1 hj with rfl | hj
          · exact ⟨1, _, by rw [imgT, imgW_eq]; rfl, rfl⟩
          · rcases List.mem_cons.1 hj with rfl | hj
            · exact ⟨2, _, by rw [imgT, imgW_eq]; rfl, rfl⟩
            · cases hj
      · rintro ⟨i, x, hx, rfl⟩
        rw [imgT, imgW_eq] at hx
        rcases get_three hx with ⟨rfl, _⟩ | ⟨rfl, _⟩ | ⟨rfl, _⟩ <;> simp [θ])
  rw [ea] at this
  exact this.asI (by simp) h3 q0
end Go.Sx

namespace Go.Sx
open Go.Proofs Go.RowKit
set_option maxRecDepth 100000
/-! ### Run: f16 -/
section
variable (a b c : Int) (n : Nat) (sc : Int)
noncomputable def sup2 (st : St) : St := wr1 a b c n sc (wr1 a b c n sc st 0 1 (sup a b c)) 1 1 (sup a b c)
noncomputable def grp1 (st : St) (i : Int) : St := if inS a sc i then grp a b c n sc st i else st
noncomputable def grps : Nat → St → Int → St
  | 0, st, _ => st
  | m + 1, st, i => grps m (grp1 a b c n sc st i) (i + 1)
noncomputable def runS (st : St) : St := grps a b c n sc a.toNat (sup2 a b c n sc st) 0
end
noncomputable def sgO : FuncId → Option SumA := fun f => match f with | 77 => some (pureSum fSup) | 44 => some sumIn | 78 => some sumWr | 79 => some sumGrp | _ => none
theorem fitO : Fit Tryz.prog (fun f => (sgO f).map toSum) := ⟨fit_ng, fit_mixed, SumAOK.sum fun f sm h => by
  unfold sgO at h
  split at h
  · cases h; exact fSup_ok.sum ⟨_, Tryz.func77, rfl⟩
  · cases h; exact sumIn_ok
  · cases h; exact sumWr_ok
  · cases h; exact sumGrp_ok
  · cases h⟩
noncomputable def c16 : Code := gB 19
noncomputable def lp16 : Code := match gR (gR (gR c16)) with | .seq _ (.block _ (.loop c)) => c | _ => .skip
noncomputable def args16 : List RV := [.one (.c (.ptr 0 0))]
noncomputable def sl16 : T RV := match setArgs 39 args16 0 .nil some with | some t => t | none => .nil
theorem sl16_ok : setArgs 39 args16 0 .nil some = some sl16 := by kernel_rfl
noncomputable abbrev go16 (keep : List Nat) (c : Code) (s : S) (o : List (Nat × Bool)) : Option (X × S × List Prop) := execA Tryz.prog sgO 300 39 c s ⟨0, o, []⟩ fun x s α => some (x, fgt keep 39 s, α.ob)
noncomputable abbrev lo16 (keep : List Nat) (c : Code) (s : S) (o : List (Nat × Bool)) : Option (X × Bool × S × List Prop) := execA Tryz.prog sgO 300 39 c s ⟨0, o, []⟩ fun x s α => some (x, Nat.ble 4 s.nx, low 39 4 (fgt keep 39 s), α.ob)
section
variable (a b c : Int) (L : List Int) (n : Nat) (sc out m i : Int) (l : List (Int × Int)) (h : List Int)
noncomputable def s16a : S := ⟨sl16, imgW a b c L n sc out l, 3, []⟩
noncomputable def s16b : S := fgt [0] 39 ⟨ofL [(0, .one (.c (.ptr 0 0)))], imgW a b c L n sc out l, 3, []⟩
noncomputable def s16c : S := fgt [0, 2] 39 ⟨ofL [(0, .one (.c (.ptr 0 0))), (2, .one (.c (.ptr 3 0)))], hp46 a b c L n sc out l h, 4, []⟩
noncomputable def s16d : S := fgt [0] 39 ⟨ofL [(0, .one (.c (.ptr 0 0)))], hp46 a b c L n sc out l h, 4, []⟩
noncomputable def s16 : S := low 39 4 (fgt [0, 28, 29] 39 ⟨ofL [(0, .one (.c (.ptr 0 0))), (28, .one (.c (.int .i64 m))), (29, .one (.c (.int .i64 i)))], hp46 a b c L n sc out l h, 4, []⟩)
theorem y0 : go16 [0] (gL c16) (s16a a b c L n sc out l) [] = some (.normal, s16b a b c L n sc out l, []) := by kernel_rfl
theorem y1 : go16 [0, 2] (gL (gR c16)) (s16b a b c L n sc out l) [] = some (.normal, s16c a b c L n sc out l (over z54 0 (sup a b c)), []) := by kernel_rfl
noncomputable abbrev w0 (p : List Int) : Bool × List Int × List (Int × Int) × Int := wrEnd a b c n sc out L l 0 1 p
noncomputable abbrev w1 (p : List Int) : Bool × List Int × List (Int × Int) × Int := wrEnd a b c n sc (w0 a b c L n sc out l p).2.2.2 (w0 a b c L n sc out l p).2.1 (w0 a b c L n sc out l p).2.2.1 1 1 p
theorem y2 : go16 [0] (gL (gR (gR c16))) (s16c a b c L n sc out l h) [] = some (.normal, s16d a b c (w1 a b c L n sc out l ((h.drop 0).take 54)).2.1 n sc (w1 a b c L n sc out l ((h.drop 0).take 54)).2.2.2 (w1 a b c L n sc out l ((h.drop 0).take 54)).2.2.1 h,
  [(w0 a b c L n sc out l ((h.drop 0).take 54)).2.1.length = 64 * n, 64 * n = 64 * n, ((h.drop 0).take 54).length = 54, L.length = 64 * n, 64 * n = 64 * n, ((h.drop 0).take 54).length = 54]) := by kernel_rfl
theorem y3 : lo16 [0, 28, 29] (gL (gR (gR (gR c16)))) (s16d a b c L n sc out l h) [] = some (.normal, true, s16 a b c L n sc out a 0 l h, []) := by kernel_rfl
theorem y4a : lo16 [0, 28, 29] lp16 (s16 a b c L n sc out m i l h) [(0, true), (1, true)] = some (.normal, true, s16 a b c (grp a b c n sc (L, l, out) i).1 n sc (grp a b c n sc (L, l, out) i).2.2 m (IntKind.i64.wrap (i + 1)) (grp a b c n sc (L, l, out) i).2.1 h,
  [L.length = 64 * n, 64 * n = 64 * n, geoB a b c = true, fstB a b c i = true, inS a sc i = true, decide (i < m) = true]) := by kernel_rfl
theorem y4b : lo16 [0, 28, 29] lp16 (s16 a b c L n sc out m i l h) [(0, true), (1, false)] = some (.normal, true, s16 a b c L n sc out m (IntKind.i64.wrap (i + 1)) l h, [inS a sc i = false, decide (i < m) = true]) := by kernel_rfl
theorem y4c : lo16 [0, 28, 29] lp16 (s16 a b c L n sc out m i l h) [(0, false)] = some (.exit 2, true, s16 a b c L n sc out m i l h, [decide (i < m) = false]) := by kernel_rfl
theorem s16_nx : (s16 a b c L n sc out m i l h).nx = 4 := by kernel_rfl
noncomputable def e16 : S := low 39 3 (s16 a b c L n sc out m i l h)
theorem e16_hp : (e16 a b c L n sc out m i l h).hp = imgW a b c L n sc out l := by kernel_rfl
theorem e16_nx : (e16 a b c L n sc out m i l h).nx = 3 := by kernel_rfl
theorem e16_res : resOf Tryz.prog 39 (e16 a b c L n sc out m i l h) Tryz.f19.results.toList = some [] := by kernel_rfl
end
section
variable {a b c : Int} {n : Nat} {sc : Int} {h : List Int}
theorem grp_len {st : St} {g : Int} (hl : st.1.length = 64 * n) : (grp a b c n sc st g).1.length = 64 * n := secs_len (wr1_len hl headB_len)
theorem supL_len : (sup a b c).length = 54 := by unfold sup; split <;> rfl
theorem loop16 (hg : geoB a b c = true) : ∀ (m : Nat) (st : St) (i : Int), st.1.length = 64 * n → 0 ≤ i → i + m = a → Tr Tryz.prog 39 (.loop lp16) (s16 a b c st.1 n sc st.2.2 a i st.2.1 h) (fun x s' => x = .exit 2 ∧ s' = s16 a b c (grps a b c n sc m st i).1 n sc (grps a b c n sc m st i).2.2 a a (grps a b c n sc m st i).2.1 h)
  | 0, st, i, hl, h0, hm => by
    have : i = a := by simpa using hm
    subst this
    exact Tr.loop (Tr.pathL fitO (by rw [s16_nx]; exact Nat.le_refl _) (y4c i b c st.1 n sc st.2.2 i i st.2.1 h) ⟨by simp, trivial⟩ ⟨rfl, rfl⟩)
  | m + 1, st, i, hl, h0, hm => by
    obtain ⟨g1, g2, g3, g4, g5, g6⟩ := geoB_iff.1 hg
    have hlt : decide (i < a) = true := by simp; push_cast at hm; omega
    have hi1 : IntKind.i64.wrap (i + 1) = i + 1 := IntWalk.i64_in _ (by push_cast at hm; omega)
    have hfst : fstB a b c i = true := by unfold fstB; rw [hg]; simp; push_cast at hm; omega
    cases hI : inS a sc i with
    | true =>
      have hs : grp1 a b c n sc st i = grp a b c n sc st i := by unfold grp1; rw [if_pos hI]
      refine Tr.loop (Tr.pathL fitO (by rw [s16_nx]; exact Nat.le_refl _) (y4a a b c st.1 n sc st.2.2 a i st.2.1 h) ⟨hl, rfl, hg, hfst, hI, hlt, trivial⟩ ?_)
      show Tr Tryz.prog 39 (.loop lp16) _ _
      rw [hi1, show grps a b c n sc (m + 1) st i = grps a b c n sc m (grp a b c n sc st i) (i + 1) by rw [grps, hs]]
      exact loop16 hg m (grp a b c n sc st i) (i + 1) (grp_len hl) (by omega) (by push_cast at hm; omega)
    | false =>
      have hs : grp1 a b c n sc st i = st := by unfold grp1; rw [hI]; rfl
      refine Tr.loop (Tr.pathL fitO (by rw [s16_nx]; exact Nat.le_refl _) (y4b a b c st.1 n sc st.2.2 a i st.2.1 h) ⟨hI, hlt, trivial⟩ ?_)
      show Tr Tryz.prog 39 (.loop lp16) _ _
      rw [hi1, show grps a b c n sc (m + 1) st i = grps a b c n sc m st (i + 1) by rw [grps, hs]]
      exact loop16 hg m st (i + 1) hl (by omega) (by push_cast at hm; omega)
theorem body16 {st : St} (hl : st.1.length = 64 * n) (hg : geoB a b c = true) : Tr Tryz.prog 39 c16 (s16a a b c st.1 n sc st.2.2 st.2.1) (fun x s1 => (x = .normal ∨ x = .ret) ∧ ∃ q, resOf Tryz.prog 39 s1 Tryz.f19.results.toList = some q ∧ (resRV q = .tup [] ∧ s1.hp = imgT a b c n sc (runS a b c n sc st) ∧ s1.nx = 3)) := by
  obtain ⟨g1, g2, g3, g4, g5, g6⟩ := geoB_iff.1 hg
  have hh : ((over z54 0 (sup a b c)).drop 0).take 54 = sup a b c := by rw [over_z54 supL_len, take_all supL_len]
  refine Tr.low (m := 3) (Nat.le_refl _) ?_
  refine Tr.seq (c := gL c16) (d := gR c16) (Tr.path fitO (y0 a b c st.1 n sc st.2.2 st.2.1) trivial ?_)
  refine Tr.seq (c := gL (gR c16)) (d := gR (gR c16)) (Tr.path fitO (y1 a b c st.1 n sc st.2.2 st.2.1) trivial ?_)
  refine Tr.seq (c := gL (gR (gR c16))) (d := gR (gR (gR c16))) (Tr.path fitO (y2 a b c st.1 n sc st.2.2 st.2.1 _) ⟨by rw [hh]; exact wr_len hl supL_len, rfl, by rw [hh]; exact supL_len, hl, rfl, by rw [hh]; exact supL_len, trivial⟩ ?_)
  rw [hh]
  refine Tr.seq (c := gL (gR (gR (gR c16)))) (d := .block 2 (.loop lp16)) (Tr.pathL fitO (Nat.le_refl _) (y3 ..) trivial ?_)
  refine Tr.block ?_
  have hlp := loop16 (a := a) (b := b) (c := c) (n := n) (sc := sc) (h := over z54 0 (sup a b c)) hg a.toNat (sup2 a b c n sc st) 0 (wr1_len (wr1_len hl supL_len) supL_len) (by omega) (by omega)
  refine hlp.mono fun x s' hx => ?_
  obtain ⟨rfl, rfl⟩ := hx
  simp only [if_true]
  refine ⟨by rw [s16_nx]; omega, by simp, _, e16_res .., rfl, e16_hp .., e16_nx ..⟩
theorem body16_eq : Tryz.f19.body = some c16 := by kernel_rfl
theorem small16 {st : St} (hl : st.1.length = 64 * n) (hg : geoB a b c = true) : SmallC Tryz.prog 19 args16 3 (imgT a b c n sc st) (imgT a b c n sc (runS a b c n sc st)) (.tup []) :=
  Tr.smallC (fn := Tryz.f19) (c := c16) Tryz.func19 body16_eq (by rw [imgT, imgW_eq]; exact top_three) sl16_ok (body16 hl hg)
end
end Go.Sx

namespace Go.Sx
open Go.Proofs Go.RowKit
set_option maxRecDepth 100000
noncomputable def sumRun : SumA := fun args hp nx => match args with
  | [.one (.c (.ptr nm 0))] => match imgWr hp.get nm with
    | some (a, b, c, L, N, n, sc, out, l, nl, nw) =>
      match Nat.blt nm nx, Nat.blt nl nx, Nat.blt nw nx with
      | true, true, true =>
        T.set depth hp nw (some (.mapI none l)) fun hp =>
        T.set depth hp nm (some (.row 113 false none (.cells [.int .i64 a, .int .i64 b, .int .i64 c, .slu nl 64 0 n, .int .u32 sc, .map nw, .int .i64 (runS a b c n sc (L, l, out)).2.2]))) fun hp =>
        T.set depth hp nl (some (.row 95 false (some 64) (.ints .u8 (runS a b c n sc (L, l, out)).1 N))) fun hp =>
        T.set depth hp nw (some (.mapI none (runS a b c n sc (L, l, out)).2.1)) fun hp =>
        some (.tup [], hp, nx, [nm, nl, nw], [L.length = N, N = 64 * n, geoB a b c = true])
      | _, _, _ => none
    | none => none
  | _ => none
theorem sumRun_ok : SumAOK Tryz.prog 19 sumRun := by
  intro args s v hp nx lg ps ht h hps
  unfold sumRun at h
  split at h <;> try (cases h; done)
  rename_i nm
  split at h <;> try (cases h; done)
  rename_i a b c L N n sc out l nl nw hi
  split at h <;> try (cases h; done)
  rename_i b1 b2 b3
  obtain ⟨h1, h2, h3⟩ := imgWr_ok hi
  have n1 : nm < s.nx := blt_lt b1
  have n2 : nl < s.nx := blt_lt b2
  have n3 : nw < s.nx := blt_lt b3
  have d1 : nm ≠ nl := fun e => by subst e; rw [h1] at h2; cases h2
  have d2 : nm ≠ nw := fun e => by subst e; rw [h1] at h3; rcases h3 with h3 | ⟨_, h3⟩ <;> cases h3
  have d3 : nl ≠ nw := fun e => by subst e; rw [h2] at h3; rcases h3 with h3 | ⟨_, h3⟩ <;> cases h3
  obtain ⟨t0, h, q0⟩ := T.set_ok _ _ _ _ _ _ h
  obtain ⟨t1, h, q1⟩ := T.set_ok _ _ _ _ _ _ h
  obtain ⟨t2, h, q2⟩ := T.set_ok _ _ _ _ _ _ h
  obtain ⟨t3, h, q3⟩ := T.set_ok _ _ _ _ _ _ h
  simp only [Option.some.injEq, Prod.mk.injEq] at h
  obtain ⟨rfl, rfl, rfl, rfl, rfl⟩ := h
  obtain ⟨hl, hN, hgeo, _⟩ := hps
  subst hN
  have ht0 : Top { s with hp := t0 } := fun j hj => by
    show t0.get j = none
    have : s.nx ≤ j := hj
    rw [q0 j, if_neg (by omega)]
    exact ht j hj
  have g1 : t0.get nm = _ := (q0 nm).trans ((if_neg d2).trans h1)
  have g2 : t0.get nl = _ := (q0 nl).trans ((if_neg d3).trans h2)
  have g3 : t0.get nw = some (.mapI none l) := (q0 nw).trans (if_pos rfl)
  have hget : ∀ j, t3.get j = if j = nw then some (.mapI none (runS a b c n sc (L, l, out)).2.1) else if j = nl then some (.row 95 false (some 64) (.ints .u8 (runS a b c n sc (L, l, out)).1 (64 * n))) else if j = nm then some (.row 113 false none (.cells [.int .i64 a, .int .i64 b, .int .i64 c, .slu nl 64 0 n, .int .u32 sc, .map nw, .int .i64 (runS a b c n sc (L, l, out)).2.2])) else t0.get j := fun j => by
    rw [q3 j, q2 j, q1 j]
  let θ : Nat → Nat := fun i => if i = 0 then nm else if i = 1 then nl else nw
  have ea : args16.map (renR θ) = [.one (.c (.ptr nm 0))] := rfl
  have hC := small16 (a := a) (b := b) (c := c) (n := n) (sc := sc) (st := (L, l, out)) hl hgeo
  have := CallInfo.frame (P := Tryz.prog) (f := 19) (θ := θ) (s := { s with hp := t0 }) (hp' := t3) (Lw := [nm, nl, nw]) ht0 ⟨_, Tryz.func19, rfl⟩ hC (by rfl)
    (fun i x hx => by
      rw [imgT, imgW_eq] at hx
      rcases get_three hx with ⟨rfl, rfl⟩ | ⟨rfl, rfl⟩ | ⟨rfl, rfl⟩
      · exact ⟨by omega, rfl, rfl, n1, g1⟩
      · exact ⟨by omega, rfl, rfl, n2, g2⟩
      · exact ⟨by omega, rfl, rfl, n3, g3⟩)
    (fun i j x y hx hy he => by
      rw [imgT, imgW_eq] at hx hy
      rcases get_three hx with ⟨rfl, _⟩ | ⟨rfl, _⟩ | ⟨rfl, _⟩ <;> rcases get_three hy with ⟨rfl, _⟩ | ⟨rfl, _⟩ | ⟨rfl, _⟩ <;> first | rfl | exact absurd he d1 | exact absurd he d2 | exact absurd he d3 | exact absurd he.symm d1 | exact absurd he.symm d2 | exact absurd he.symm d3)
    (fun j hj => by
      have j0 := hj 0 _ (by rw [imgT, imgW_eq]; rfl)
      have j1 := hj 1 _ (by rw [imgT, imgW_eq]; rfl)
      have j2 := hj 2 _ (by rw [imgT, imgW_eq]; rfl)
      rw [hget, if_neg (fun e => j2 e.symm), if_neg (fun e => j1 e.symm), if_neg (fun e => j0 e.symm)])
    (fun i x hx => by
      rw [imgT, imgW_eq] at hx
      rw [hget, imgT, imgW_eq]
      rcases get_three hx with ⟨rfl, rfl⟩ | ⟨rfl, rfl⟩ | ⟨rfl, rfl⟩
      · rw [if_neg (show θ 0 ≠ nw from d2), if_neg (show θ 0 ≠ nl from d1), if_pos (show θ 0 = nm from rfl)]; rfl
      · rw [if_neg (show θ 1 ≠ nw from d3), if_pos (show θ 1 = nl from rfl)]; rfl
      · rw [if_pos (show θ 2 = nw from rfl)]; rfl)
    (fun j => by
      constructor
      · intro hj
        rcases List.mem_cons.1 hj with rfl | hj
        · exact ⟨0, _, by rw [imgT, imgW_eq]; rfl, rfl⟩
        · rcases List.mem_cons.1 hj with rfl | hj
          · exact ⟨1, _, by rw [imgT, imgW_eq]; rfl, rfl⟩
          · rcases List.mem_cons.1 hj with rfl | hj
            · exact ⟨2, _, by rw [imgT, imgW_eq]; rfl, rfl⟩
            · cases hj
      · rintro ⟨i, x, hx, rfl⟩
        rw [imgT, imgW_eq] at hx
        rcases get_three hx with ⟨rfl, _⟩ | ⟨rfl, _⟩ | ⟨rfl, _⟩ <;> simp [θ])
  rw [ea] at this
  exact this.asI (by simp) h3 q0
end Go.Sx
