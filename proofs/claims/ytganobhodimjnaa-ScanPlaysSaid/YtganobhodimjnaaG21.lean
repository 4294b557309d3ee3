/-
  Parts of the executor Sx over the model's code (any program), or of this seat's walks: words and proofs that the row's text uses.
-/
import Derived.Test.YtganobhodimjnaaG20
namespace Go.Sx
open Go.Proofs Go.RowKit
set_option maxRecDepth 100000
/-! ### what is sealed is right -/
theorem wrap_u8 (x : Int) : IntKind.u8.wrap x = x % 256 := by unfold IntKind.wrap; simp [IntKind.bits, IntKind.signed]
theorem wrap_u32 (x : Int) : IntKind.u32.wrap x = x % 4294967296 := by unfold IntKind.wrap; simp [IntKind.bits, IntKind.signed]
theorem bv_nat {x : Int} (h : U32 x) : (BitVec.ofInt 32 x).toNat = x.toNat := by
  rw [BitVec.toNat_ofInt]
  obtain ⟨h1, h2⟩ := h
  have : x % ((2 ^ 32 : Nat) : Int) = x := Int.emod_eq_of_lt h1 (by simpa using h2)
  rw [this]
theorem or32_add {x y a : Int} (i : Nat) (hx : 0 ≤ x) (hx2 : x < 2 ^ i) (ha : 0 ≤ a) (hy : y = 2 ^ i * a) (h : U32 (x + y)) (hxu : U32 x) (hyu : U32 y) : or32 x y = x + y := by
  unfold or32
  rw [BitVec.toNat_or, bv_nat hxu, bv_nat hyu, wrap_u32]
  obtain ⟨xn, rfl⟩ := Int.eq_ofNat_of_zero_le hx
  obtain ⟨an, rfl⟩ := Int.eq_ofNat_of_zero_le ha
  subst hy
  have hlt : xn < 2 ^ i := by exact_mod_cast hx2
  have e := Nat.two_pow_add_eq_or_of_lt hlt an
  have e2 : ((2 ^ i * (an : Int)).toNat) = 2 ^ i * an := by
    have : (2 ^ i * (an : Int)) = ((2 ^ i * an : Nat) : Int) := by push_cast; rfl
    rw [this]; rfl
  rw [e2, show (↑xn : Int).toNat = xn from rfl, Nat.or_comm, ← e]
  obtain ⟨h1, h2⟩ := h
  have : ((2 ^ i * an + xn : Nat) : Int) = ↑xn + 2 ^ i * ↑an := by push_cast; omega
  rw [this]
  exact Int.emod_eq_of_lt h1 h2
theorem or4 {x y z u : Int} (hx : 0 ≤ x ∧ x < 256) (hy : 0 ≤ y ∧ y < 256) (hz : 0 ≤ z ∧ z < 256) (hu : 0 ≤ u ∧ u < 256) :
    or32 (or32 (or32 (or32 0 x) (256 * y)) (65536 * z)) (16777216 * u) = x + 256 * y + 65536 * z + 16777216 * u := by
  have k0 : or32 0 x = 0 + x := or32_add (a := x) 0 (by omega) (by decide) (by omega) (by simp) ⟨by omega, by omega⟩ ⟨by omega, by omega⟩ ⟨by omega, by omega⟩
  rw [k0, Int.zero_add]
  have k1 : or32 x (256 * y) = x + 256 * y := or32_add (a := y) 8 (by omega) (by simpa using hx.2) (by omega) (by simp) ⟨by omega, by omega⟩ ⟨by omega, by omega⟩ ⟨by omega, by omega⟩
  rw [k1]
  have m2 : x + 256 * y < 65536 := by omega
  have m3 : x + 256 * y + 65536 * z < 16777216 := by omega
  have k2 : or32 (x + 256 * y) (65536 * z) = x + 256 * y + 65536 * z := or32_add (a := z) 16 (by omega) (by simpa using m2) (by omega) (by simp) ⟨by omega, by omega⟩ ⟨by omega, by omega⟩ ⟨by omega, by omega⟩
  rw [k2]
  exact or32_add (a := u) 24 (by omega) (by simpa using m3) (by omega) (by simp) ⟨by omega, by omega⟩ ⟨by omega, by omega⟩ ⟨by omega, by omega⟩
theorem shl_eq {x : Int} (hx : 0 ≤ x ∧ x < 256) : shl32 x 0 = x ∧ shl32 x 8 = 256 * x ∧ shl32 x 16 = 65536 * x ∧ shl32 x 24 = 16777216 * x := by
  unfold shl32
  simp only [wrap_u32]
  refine ⟨?_, ?_, ?_, ?_⟩ <;> (simp; omega)
theorem put_bytes {t : Int} (h : U32 t) : IntKind.u8.wrap (t.fdiv (2 ^ 0)) = t % 256 ∧ IntKind.u8.wrap (t.fdiv (2 ^ 8)) = t / 256 % 256 ∧ IntKind.u8.wrap (t.fdiv (2 ^ 16)) = t / 65536 % 256 ∧ IntKind.u8.wrap (t.fdiv (2 ^ 24)) = t / 16777216 % 256 := by
  simp only [wrap_u8]
  refine ⟨?_, ?_, ?_, ?_⟩
  · rw [Int.fdiv_eq_ediv_of_nonneg _ (show (0:Int) ≤ 2 ^ 0 by decide)]; simp
  · rw [Int.fdiv_eq_ediv_of_nonneg _ (show (0:Int) ≤ 2 ^ 8 by decide)]; simp
  · rw [Int.fdiv_eq_ediv_of_nonneg _ (show (0:Int) ≤ 2 ^ 16 by decide)]; simp
  · rw [Int.fdiv_eq_ediv_of_nonneg _ (show (0:Int) ≤ 2 ^ 24 by decide)]; simp
theorem byte (t : Int) : 0 ≤ t % 256 ∧ t % 256 < 256 := by omega
theorem le32_put32 {t : Int} (h : U32 t) : le32 (IntKind.u8.wrap (t.fdiv (2 ^ 0))) (IntKind.u8.wrap (t.fdiv (2 ^ 8))) (IntKind.u8.wrap (t.fdiv (2 ^ 16))) (IntKind.u8.wrap (t.fdiv (2 ^ 24))) = t := by
  obtain ⟨p0, p1, p2, p3⟩ := put_bytes h
  rw [p0, p1, p2, p3]
  unfold le32
  rw [(shl_eq (byte t)).1, (shl_eq (byte (t / 256))).2.1, (shl_eq (byte (t / 65536))).2.2.1, (shl_eq (byte (t / 16777216))).2.2.2]
  rw [or4 (byte t) (byte _) (byte _) (byte _)]
  obtain ⟨h1, h2⟩ := h
  omega
theorem getD_app {a b : List Int} {n i : Nat} (h : a.length = n) : (a ++ b).getD (n + i) 0 = b.getD i 0 := by
  simp [List.getD, List.getElem?_append_right, ← h]
theorem sealB_right {k t : Int} {p : List Int} (hk : mayK k = true) (ht : U32 t) (hp : p.length = 54) : b54 (sealB k t p) = k ∧ turnB (sealB k t p) = t ∧ t54 (sealB k t p) = p := by
  have hk' := hk
  simp only [mayK, Bool.and_eq_true, decide_eq_true_eq] at hk'
  refine ⟨?_, ?_, ?_⟩
  · show IntKind.i64.wrap ((sealB k t p).getD (54 + 0) 0) = k
    unfold sealB
    rw [getD_app hp]
    show IntKind.i64.wrap k = k
    exact IntWalk.i64_in _ (by omega)
  · unfold turnB
    show le32 ((sealB k t p).getD (54 + 2) 0) ((sealB k t p).getD (54 + 3) 0) ((sealB k t p).getD (54 + 4) 0) ((sealB k t p).getD (54 + 5) 0) = t
    unfold sealB
    rw [getD_app hp, getD_app hp, getD_app hp, getD_app hp]
    exact le32_put32 ht
  · show ((sealB k t p).drop 0).take 54 = p
    unfold sealB
    rw [List.drop_zero, List.take_left' hp]
theorem seal_get {k t : Int} {p : List Int} (hk : mayK k = true) (ht : U32 t) (hp : p.length = 54) : isB k (putB k t p) = true ∧ getE k (putB k t p) = 0 ∧ getP k (putB k t p) = p := by
  obtain ⟨h1, h2, h3⟩ := sealB_right hk ht hp
  have hi : isB k (putB k t p) = true := by
    unfold isB rightB
    rw [show putB k t p = sealB k t p by unfold putB; rw [hk]; rfl, h1, h2, h3, hk]
    have : putE k = 0 := by unfold putE; rw [hk]; rfl
    rw [this]
    unfold putB
    rw [hk]
    simp
  refine ⟨hi, ?_, ?_⟩
  · unfold getE; rw [hk, hi]; rfl
  · unfold getP; rw [hi, if_pos rfl, show putB k t p = sealB k t p by unfold putB; rw [hk]; rfl]; exact h3
theorem next_get {k : Int} {b p : List Int} (hk : mayK k = true) (hp : p.length = 54) : getE k (nextB k b p) = 0 ∧ getP k (nextB k b p) = p := by
  unfold nextB
  refine (seal_get hk ?_ hp).2
  split
  · exact wrap_u32_b _
  · exact ⟨by decide, by decide⟩
/-! ### a sector is written over -/
theorem over_len {L x : List Int} {o : Nat} (h : o + x.length ≤ L.length) : (over L o x).length = L.length := by simp [over]; omega
theorem over_at_same {L x : List Int} {o : Nat} (hx : x.length = 64) (h : o + 64 ≤ L.length) : blkAt (over L o x) o = x := by
  unfold blkAt over
  rw [List.append_assoc, List.drop_left' (by simp; omega), List.take_left' hx]
theorem over_at_other {L x : List Int} {o o' : Nat} (hx : x.length = 64) (h : o + 64 ≤ L.length) (hd : o' + 64 ≤ o ∨ o + 64 ≤ o') : blkAt (over L o x) o' = blkAt L o' := by
  unfold blkAt over
  apply List.ext_getElem?
  intro j
  by_cases hj : j < 64
  · rw [List.getElem?_take_of_lt hj, List.getElem?_take_of_lt hj, List.getElem?_drop, List.getElem?_drop]
    rcases hd with hd | hd
    · rw [List.append_assoc, List.getElem?_append_left (by simp; omega), List.getElem?_take_of_lt (by omega)]
    · rw [List.getElem?_append_right (by simp; omega), List.getElem?_drop]
      congr 1
      simp
      omega
  · rw [List.getElem?_eq_none (by simp; omega), List.getElem?_eq_none (by simp; omega)]
end Go.Sx

namespace Go.Sx
open Go.Proofs Go.RowKit
set_option maxRecDepth 100000
/-! ### what Write leaves -/
theorem find_tot {L : List Int} {n : Nat} (h : fndOk L n = true) : tot (fndG L n 4) (fndG L n 6) (fndG L n 8) = (n : Int) := by
  unfold fndG sel
  rw [h]
  simp only [if_true]
  unfold fndOk at h
  simp only [Bool.and_eq_true, Bool.or_eq_true] at h
  unfold fndP
  by_cases h0 : isK L n 0 = true
  · rw [if_pos h0]
    unfold isK at h0
    simp only [Bool.and_eq_true, beq_iff_eq] at h0
    exact h0.2.2
  · rw [if_neg h0]
    have h1 := h.2.resolve_left h0
    unfold isK at h1
    simp only [Bool.and_eq_true, beq_iff_eq] at h1
    exact h1.2.2
theorem pl_has {a b c g : Int} {n : Nat} (ht : tot a b c = (n : Int)) (h : ((pl a b c g).2.2.2 == 0) = true) : hasS n g = true := by
  unfold pl at h
  split at h
  · rename_i hc
    obtain ⟨h1, h2, h3⟩ := hc
    unfold tot at ht
    rw [if_pos h1] at ht
    unfold hasS
    simp
    omega
  · simp at h
section
variable {a b c : Int} {n : Nat} {sc out : Int} {L : List Int} {l : List (Int × Int)} {g k : Int} {p : List Int}
theorem hasS_iff : hasS n g = true ↔ 0 ≤ g ∧ g < (n : Int) := by unfold hasS; simp
theorem putE_may : (putE k != 0) = false ↔ mayK k = true := by unfold putE; cases mayK k <;> simp
/-- the five ways of Write -/
theorem wr_cases (Q : Bool × List Int × List (Int × Int) × Int → Prop) (h0 : hasS n g = false → Q (false, L, l, out))
    (h1 : hasS n g = true → ldOk L n g k = true → ldP L n g k = p → Q (true, L, l, out))
    (h2 : hasS n g = true → mayK k = false → Q (false, L, l, out))
    (h3 : hasS n g = true → decide (g ≥ 2) = true → inS a sc (pl a b c g).2.1 = false → Q (false, L, l, IntKind.i64.wrap (out + 1)))
    (h4 : hasS n g = true → mayK k = true → Q (true, over L (g.toNat * 64) (nextB k (blkAt L (g.toNat * 64)) p), putI l g 1, out)) : Q (wrEnd a b c n sc out L l g k p) := by
  unfold wrEnd
  split
  · rename_i e0
    split
    · rename_i e1
      simp only [Bool.and_eq_true, beq_iff_eq] at e1
      exact h1 e0 e1.1 e1.2
    · split
      · rename_i e2
        refine h2 e0 ?_
        cases hk : mayK k with
        | false => rfl
        | true => rw [putE_may.2 hk] at e2; cases e2
      · rename_i e2
        split
        · rename_i e3
          simp only [Bool.and_eq_true, Bool.not_eq_true'] at e3
          exact h3 e0 e3.1 e3.2
        · exact h4 e0 (putE_may.1 (by simpa using e2))
  · rename_i e0
    exact h0 (by simpa using e0)
theorem wr_len (hl : L.length = 64 * n) (hp : p.length = 54) : (wrEnd a b c n sc out L l g k p).2.1.length = 64 * n := by
  refine wr_cases (Q := fun r => r.2.1.length = 64 * n) (fun _ => hl) (fun _ _ _ => hl) (fun _ _ => hl) (fun _ _ _ => hl) fun h _ => ?_
  obtain ⟨g1, g2⟩ := hasS_iff.1 h
  rw [over_len (by rw [nextB_len hp]; omega)]; exact hl
theorem wr_there (hl : L.length = 64 * n) (hp : p.length = 54) (h : (wrEnd a b c n sc out L l g k p).1 = true) : ldOk (wrEnd a b c n sc out L l g k p).2.1 n g k = true ∧ ldP (wrEnd a b c n sc out L l g k p).2.1 n g k = p := by
  revert h
  refine wr_cases (Q := fun r => r.1 = true → ldOk r.2.1 n g k = true ∧ ldP r.2.1 n g k = p) (fun _ h => by cases h) (fun _ h1 h2 _ => ⟨h1, h2⟩) (fun _ _ h => by cases h) (fun _ _ _ h => by cases h) fun h hk _ => ?_
  obtain ⟨g1, g2⟩ := hasS_iff.1 h
  have e := over_at_same (L := L) (x := nextB k (blkAt L (g.toNat * 64)) p) (o := g.toNat * 64) (nextB_len hp) (by omega)
  obtain ⟨n1, n2⟩ := next_get (b := blkAt L (g.toNat * 64)) hk hp
  constructor
  · show ldOk _ n g k = true
    unfold ldOk; rw [h, e, n1]; rfl
  · show ldP _ n g k = p
    unfold ldP; rw [h, e, if_pos rfl]; exact n2
theorem wr_other (hl : L.length = 64 * n) (hp : p.length = 54) {i : Int} (hi : (i == g) = false) : blkS (wrEnd a b c n sc out L l g k p).2.1 n i = blkS L n i := by
  refine wr_cases (Q := fun r => blkS r.2.1 n i = blkS L n i) (fun _ => rfl) (fun _ _ _ => rfl) (fun _ _ => rfl) (fun _ _ _ => rfl) fun h _ => ?_
  obtain ⟨g1, g2⟩ := hasS_iff.1 h
  show blkS (over L (g.toNat * 64) (nextB k (blkAt L (g.toNat * 64)) p)) n i = _
  unfold blkS
  cases hs : hasS n i with
  | false => rfl
  | true =>
    obtain ⟨i1, i2⟩ := hasS_iff.1 hs
    have hne : i ≠ g := by simpa using hi
    rw [if_pos rfl, if_pos rfl, over_at_other (nextB_len hp) (by omega) (by omega)]
theorem wr_in (hs : hasS n g = true) (hk : mayK k = true) (hin : decide (g ≥ 2) = false ∨ inS a sc (pl a b c g).2.1 = true) : (wrEnd a b c n sc out L l g k p).1 = true := by
  refine wr_cases (Q := fun r => r.1 = true) (fun h => by rw [hs] at h; cases h) (fun _ _ _ => rfl) (fun _ h => by rw [hk] at h; cases h) (fun _ h1 h2 => ?_) (fun _ _ => rfl)
  rcases hin with h | h
  · rw [h1] at h; cases h
  · rw [h2] at h; cases h
end
end Go.Sx

namespace Go.Sx
open Go.Proofs Go.RowKit
set_option maxRecDepth 100000
abbrev Ret5 : X → S → Prop := fun x s' => (x = .normal ∨ x = .ret) ∧ ∃ q, resOf Try.prog 122 s' Try.f5.results.toList = some q ∧ resRV q = .one (.c (.bool true))
theorem ret5 {s' : S} (h : resOf Try.prog 122 s' Try.f5.results.toList = some [.c (.bool true)]) : Ret5 .ret s' := ⟨.inr rfl, _, h, rfl⟩
theorem blkS_len {L : List Int} {n : Nat} {i : Int} (hl : L.length = 64 * n) : (blkS L n i).length = 64 := by
  unfold blkS
  cases h : hasS n i with
  | false => rfl
  | true =>
    obtain ⟨h1, h2⟩ := hasS_iff.1 h
    exact blkAt_len (by omega)
section
variable {x0 x2 x3 x4 x5 x10 x11 : Blk} {a b c : Int} {L : List Int} {N n : Nat} {sc g k i : Int} {P : Nat → Int}
noncomputable abbrev w5 (L : List Int) (n : Nat) (i : Int) : List Int := over z64 0 (blkS L n i)
theorem after8 (hl : L.length = N) (hN : N = 64 * n) (v : Bool) (hv : v = true → (wrEnd a b c n sc 0 L [] g k (pL P)).1 = true) :
    Tr Try.prog 122 (gR (gR (gR (gR (gR (gR (gR c5))))))) (s8 x0 x2 x3 x4 x5 (.map []) x10 x11 a b c L (w5 L n i) N n sc 0 g k i P v) Ret5 := by
  have hp : (pL P).length = 54 := rfl
  have hl' : L.length = 64 * n := by rw [hl, hN]
  have hw := wr_len (a := a) (b := b) (c := c) (sc := sc) (out := 0) (l := []) (g := g) (k := k) (p := pL P) hl' hp
  refine Tr.seq (c := p9) (d := gR (gR (gR (gR (gR (gR (gR (gR c5)))))))) (Tr.path fitF (r9 x0 x2 x3 x4 x5 x10 x11 a b c L (w5 L n i) N n sc g k i P v) ⟨hl, hN, hp, trivial⟩ ?_)
  have hthere := wr_there (a := a) (b := b) (c := c) (sc := sc) (out := 0) (l := []) (g := g) (k := k) (p := pL P) hl' hp
  have hother := fun hi => wr_other (a := a) (b := b) (c := c) (sc := sc) (out := 0) (l := []) (g := g) (k := k) (p := pL P) hl' hp (i := i) hi
  revert hw hthere hother hv
  generalize (wrEnd a b c n sc 0 L [] g k (pL P)) = W
  intro hv hw hthere hother
  have hwN : W.2.1.length = N := by rw [hw, hN]
  refine Tr.seq (c := p10) (d := p11) (Tr.path fitF (r10 x0 x2 x3 x4 x5 (.mapI none W.2.2.1) x10 x11 a b c W.2.1 (w5 L n i) N n sc W.2.2.2 g k i P v W.1) ⟨hwN, hN, trivial⟩ ?_)
  have hB : ∀ hi : (i == g) = false, eqB W.2.1 (w5 L n i) n i = true := fun hi => by
    show (blkS W.2.1 n i == List.take 64 (List.drop 0 (over z64 0 (blkS L n i)))) = true
    rw [over_z64 (blkS_len hl'), take_all (blkS_len hl'), hother hi]; simp
  cases hy : W.1 with
  | true =>
    obtain ⟨h1, h2⟩ := hthere hy
    have hE : eqL (over z54 0 (ldP W.2.1 n g k)) P = true := by
      show (List.take 54 (List.drop 0 (over z54 0 (ldP W.2.1 n g k))) == pL P) = true
      rw [h2, over_z54 hp, take_all hp]; simp
    rw [h1]
    cases hi : (i == g) with
    | true =>
      cases v with
      | true => exact Tr.pathR fitF (r11a x0 x2 x3 x4 x5 (.mapI none W.2.2.1) x10 x11 a b c W.2.1 (w5 L n i) (over z54 0 (ldP W.2.1 n g k)) N n sc W.2.2.2 g k i P) ((All_append _ _).2 ⟨⟨hE, hi, hE, trivial⟩, (All_append _ _).2 ⟨All_rep hi 5, All_rep hE 10⟩⟩) fun s' h => ret5 h
      | false => exact Tr.pathR fitF (r11c x0 x2 x3 x4 x5 (.mapI none W.2.2.1) x10 x11 a b c W.2.1 (w5 L n i) (over z54 0 (ldP W.2.1 n g k)) N n sc W.2.2.2 g k i P) ((All_append _ _).2 ⟨⟨hE, hi, hE, trivial⟩, (All_append _ _).2 ⟨All_rep hi 5, All_rep hE 5⟩⟩) fun s' h => ret5 h
    | false =>
      cases v with
      | true => exact Tr.pathR fitF (r11b x0 x2 x3 x4 x5 (.mapI none W.2.2.1) x10 x11 a b c W.2.1 (w5 L n i) (over z54 0 (ldP W.2.1 n g k)) N n sc W.2.2.2 g k i P) ((All_append _ _).2 ⟨⟨hE, hi, hE, hi, hi, hwN, hN, trivial⟩, (All_append _ _).2 ⟨All_rep hi 3, All_rep hE 10⟩⟩) fun s' h => ret5 (by rw [h, hB hi])
      | false => exact Tr.pathR fitF (r11d x0 x2 x3 x4 x5 (.mapI none W.2.2.1) x10 x11 a b c W.2.1 (w5 L n i) (over z54 0 (ldP W.2.1 n g k)) N n sc W.2.2.2 g k i P) ((All_append _ _).2 ⟨⟨hE, hi, hE, hi, hi, hwN, hN, trivial⟩, (All_append _ _).2 ⟨All_rep hi 3, All_rep hE 5⟩⟩) fun s' h => ret5 (by rw [h, hB hi])
  | false =>
    have hvf : v = false := by
      cases v with
      | false => rfl
      | true => rw [hv rfl] at hy; cases hy
    subst hvf
    cases hi : (i == g) with
    | true => exact Tr.pathR fitF (r11e x0 x2 x3 x4 x5 (.mapI none W.2.2.1) x10 x11 a b c W.2.1 (w5 L n i) (over z54 0 (ldP W.2.1 n g k)) N n sc W.2.2.2 g k i P (ldOk W.2.1 n g k)) (All_rep hi 6) fun s' h => ret5 h
    | false => exact Tr.pathR fitF (r11f x0 x2 x3 x4 x5 (.mapI none W.2.2.1) x10 x11 a b c W.2.1 (w5 L n i) (over z54 0 (ldP W.2.1 n g k)) N n sc W.2.2.2 g k i P (ldOk W.2.1 n g k)) ((All_append _ _).2 ⟨⟨hi, hi, hi, hwN, hN, trivial⟩, All_rep hi 3⟩) fun s' h => ret5 (by rw [h, hB hi])
theorem after4 (hl : L.length = N) (hN : N = 64 * n) (ht : tot a b c = (n : Int)) :
    Tr Try.prog 122 (gR (gR (gR (gR c5)))) (s4 x0 x2 x3 x4 x5 (.map []) a b c L N n sc 0 g k i P) Ret5 := by
  refine Tr.seq (c := p6) (d := gR (gR (gR (gR (gR c5))))) (Tr.path fitF (r6 x0 x2 x3 x4 x5 (.map []) a b c L N n sc 0 g k i P) ⟨hl, hN, trivial⟩ ?_)
  refine Tr.seq (c := p7) (d := gR (gR (gR (gR (gR (gR c5)))))) (Tr.path fitF (r7 x0 x2 x3 x4 x5 (.map []) a b c L (w5 L n i) N n sc 0 g k i P) trivial ?_)
  refine Tr.seq (c := p8) (d := gR (gR (gR (gR (gR (gR (gR c5))))))) ?_
  have no := after8 (x0 := x0) (x2 := x2) (x3 := x3) (x4 := x4) (x5 := x5) (x10 := .row 23 false none (.cells [.int .i64 a, .int .i64 b, .int .i64 c])) (x11 := .row 42 false none (.cells [.int .i64 (pl a b c g).1, .int .i64 (pl a b c g).2.1, .int .i64 (pl a b c g).2.2.1])) (a := a) (b := b) (c := c) (sc := sc) (g := g) (k := k) (i := i) (P := P) hl hN
  cases he : ((pl a b c g).2.2.2 == 0) with
  | false => exact Tr.path fitF (r8f x0 x2 x3 x4 x5 (.map []) a b c L (w5 L n i) N n sc 0 g k i P) (All_rep he 6) (no false (fun h => by cases h))
  | true =>
    have hs := pl_has ht he
    have hd : ∀ (q : Bool), decide (g < 2) = q → All ([((pl a b c g).2.2.2 == 0) = true, decide (g < 2) = q, ((pl a b c g).2.2.2 == 0) = true] ++ (rep 4 (decide (g < 2) = q) ++ rep 4 (((pl a b c g).2.2.2 == 0) = true))) := fun q hq => (All_append _ _).2 ⟨⟨he, hq, he, trivial⟩, (All_append _ _).2 ⟨All_rep hq 4, All_rep he 4⟩⟩
    have fin : decide (k > 0) = true → (decide (g ≥ 2) = false ∨ inS a sc (pl a b c g).2.1 = true) → decide (k < 7) = true → (wrEnd a b c n sc 0 L [] g k (pL P)).1 = true := fun h1 h2 h3 => wr_in hs (by
      unfold mayK
      have := of_decide_eq_true h1
      have := of_decide_eq_true h3
      simp; omega) h2
    cases hg : decide (g < 2) with
    | true =>
      have hg2 : decide (g ≥ 2) = false := by simp at hg ⊢; omega
      cases hk : decide (k > 0) with
      | true => exact Tr.path fitF (r8a x0 x2 x3 x4 x5 (.map []) a b c L (w5 L n i) N n sc 0 g k i P) ((All_append _ _).2 ⟨All_rep hk 4, hd _ hg⟩) (no _ (fin hk (.inl hg2)))
      | false => exact Tr.path fitF (r8b x0 x2 x3 x4 x5 (.map []) a b c L (w5 L n i) N n sc 0 g k i P) ((All_append _ _).2 ⟨All_rep hk 4, hd _ hg⟩) (no false (fun h => by cases h))
    | false =>
      cases hI : inS a sc (pl a b c g).2.1 with
      | true =>
        cases hk : decide (k > 0) with
        | true => exact Tr.path fitF (r8c x0 x2 x3 x4 x5 (.map []) a b c L (w5 L n i) N n sc 0 g k i P) ((All_append _ _).2 ⟨All_rep hk 4, (All_append _ _).2 ⟨All_rep hI 4, hd _ hg⟩⟩) (no _ (fin hk (.inr hI)))
        | false => exact Tr.path fitF (r8d x0 x2 x3 x4 x5 (.map []) a b c L (w5 L n i) N n sc 0 g k i P) ((All_append _ _).2 ⟨All_rep hk 4, (All_append _ _).2 ⟨All_rep hI 4, hd _ hg⟩⟩) (no false (fun h => by cases h))
      | false => exact Tr.path fitF (r8e x0 x2 x3 x4 x5 (.map []) a b c L (w5 L n i) N n sc 0 g k i P) ((All_append _ _).2 ⟨All_rep hI 4, hd _ hg⟩) (no false (fun h => by cases h))
end
end Go.Sx

namespace Go.Sx
open Go.Proofs Go.RowKit
set_option maxRecDepth 100000
theorem bytes49 : Try.prog.types[49]!.bytes = 64 := by kernel_rfl
theorem fits49 {m : Nat} (h : m ≤ 140) : fits Try.prog.types[49]! m = true := by
  unfold fits
  rw [bytes49]
  simp only [Bool.and_eq_true, Nat.ble_eq]
  omega
theorem beq0 {m : Nat} (h : 0 < m) : m.beq 0 = false := by
  cases m with
  | zero => omega
  | succ m => rfl
theorem find_ok {L : List Int} {n : Nat} (h : (fndE L n != 0) = false) : fndOk L n = true := by
  unfold fndE at h
  cases hf : fndOk L n with
  | true => rfl
  | false => rw [hf] at h; simp at h
section
variable {n off cap : Nat} {sc g k i : Int} {P : Nat → Int} {L : List Int}
theorem body5 (hL : L.length = n * 64) (hc : n ≤ cap) : Tr Try.prog 122 c5 (sS n off cap sc g k i P L) Ret5 := by
  have hM : Mn n = ((min n 140 : Nat) : Int) := by unfold Mn; split <;> omega
  have hQ : Qn n = min n 140 := by unfold Qn; rw [hM]; simp
  have hoff : offN off cap = off := by unfold offN; split <;> rfl
  have hB0 : B0 n = min n 140 := hQ
  have hN1 : N1 n = min n 140 := by show 0 + B0 n = _; rw [hB0, Nat.zero_add]
  have hN2 : N2 n = min n 140 := by show 0 + N1 n = _; rw [hN1, Nat.zero_add]
  have hcut : All (cutOk n off cap L) := ⟨decide_eq_true ⟨by rw [hoff]; exact Nat.le_refl _, by
    show offN off cap - off + Qn n * 64 ≤ L.length
    rw [hoff, hQ, hL]; omega⟩, decide_eq_true ⟨by rw [hM]; omega, by rw [hM]; omega⟩, trivial⟩
  refine Tr.seq (c := p0) (d := gR c5) (Tr.path fitF (r0 n off cap sc g k i P L) trivial ?_)
  refine Tr.seq (c := p1) (d := gR (gR c5)) (Tr.path fitF (r1 n off cap sc g k i P L) trivial ?_)
  refine Tr.seq (c := p3) (d := gR (gR (gR c5))) ?_
  by_cases h0 : n = 0
  · refine Tr.path fitF (r3a n off cap sc g k i P L) ((All_append _ _).2 ⟨⟨by rw [hB0, h0]; rfl, trivial⟩, hcut⟩) ?_
    exact Tr.seq (c := p4) (d := gR (gR (gR (gR c5)))) (Tr.pathR fitF (r4n 4 22 _) ⟨by decide, trivial⟩ fun s' h => ret5 h)
  · have hlen : (L1 n off cap L).length = min n 140 * 64 := by
      show ([] ++ List.take (Qn n * 64) (List.drop (offN off cap - off) L)).length = _
      rw [hoff, hQ]; simp; omega
    have hC1 : C1 n = min n 140 * 64 := by show 0 + Qn n * 64 = _; rw [hQ, Nat.zero_add]
    have hC2 : C2 n = min n 140 * 64 := by show 0 + N1 n * 64 = _; rw [hN1, Nat.zero_add]
    have hbeq : (B0 n).beq 0 = false := by rw [hB0]; exact beq0 (by omega)
    have hfew : All (fewOk n off cap L) := (All_append _ _).2 ⟨⟨by rw [hlen, hC1], by rw [hC1, hN1]; omega, decide_eq_true ⟨by rw [hN1]; omega, fits49 (by rw [hN1]; omega)⟩, hbeq, trivial⟩, hcut⟩
    cases he : (fndE (L1 n off cap L) (N1 n) != 0) with
    | true =>
      refine Tr.path fitF (r3b n off cap sc g k i P L) ((All_append _ _).2 ⟨⟨he, trivial⟩, hfew⟩) ?_
      exact Tr.seq (c := p4) (d := gR (gR (gR (gR c5)))) (Tr.pathR fitF (r4n 5 _ _) ⟨he, trivial⟩ fun s' h => ret5 h)
    | false =>
      have hl2 : (L2 n off cap L).length = C2 n := by
        show ([] ++ List.take (N1 n * 64) (List.drop 0 (L1 n off cap L))).length = _
        rw [List.nil_append, List.length_take, List.drop_zero, hlen, hC2, hN1]; omega
      have hLL : L2 n off cap L = L1 n off cap L := by
        show [] ++ List.take (N1 n * 64) (List.drop 0 (L1 n off cap L)) = _
        rw [List.nil_append, hN1, take_all hlen]
      refine Tr.path fitF (r3c n off cap sc g k i P L) ((All_append _ _).2 ⟨⟨decide_eq_true ⟨by rw [hN2]; omega, fits49 (by rw [hN2]; omega)⟩, ?_, decide_eq_true ?_, decide_eq_true (by rw [hN1]; omega), he, trivial⟩, hfew⟩) ?_
      · show (N1 n).beq 0 = false
        rw [hN1]; exact beq0 (by omega)
      · show 0 + N1 n * 64 ≤ C1 n
        rw [hN1, hC1, Nat.zero_add]; exact Nat.le_refl _
      · refine Tr.seq (c := p4) (d := gR (gR (gR (gR c5)))) (Tr.path fitF (r4y ..) ⟨he, trivial⟩ ?_)
        refine after4 hl2 (by rw [hC2, hN2]; omega) ?_
        rw [hN2, ← hN1]
        exact find_tot (find_ok he)
theorem body5_eq : Try.f5.body = some c5 := by kernel_rfl
end
#print axioms body5
end Go.Sx

namespace Go.Sx
open Go.Proofs Go.RowKit
set_option maxRecDepth 100000
theorem CsR.of_vals {ρ : Rho} : ∀ {l : List Cell} {us : List Value}, csVals l = some us → CsR ρ l us
  | [], us, e => by cases e; rfl
  | c :: l, us, e => by
    cases c with
    | int k n =>
      simp only [csVals] at e
      split at e <;> try (cases e; done)
      rename_i ws hw
      cases e
      exact ⟨_, ws, rfl, CsR.of_vals hw, rfl⟩
    | bool b =>
      simp only [csVals] at e
      split at e <;> try (cases e; done)
      rename_i ws hw
      cases e
      exact ⟨_, ws, rfl, CsR.of_vals hw, rfl⟩
    | _ => cases e
def actV (P : Nat → Int) (g k : Int) : List Value := .int .i64 g :: .int .i64 k :: (pL P).map (Value.int .u8)
theorem actV_ok (P : Nat → Int) (g k : Int) : csVals (actC P g k) = some (actV P g k) := rfl
theorem pL_of {r : List Int} (h : r.length = 54) : pL (fun i => r.getD i 0) = r := by
  have : pL (fun i => r.getD i 0) = (List.range 54).map (fun i => r.getD i 0) := rfl
  rw [this]
  apply List.ext_getElem
  · simp [h]
  · intro i h1 h2
    simp [List.getD, h2]
theorem win_eq (x : Blk) : (ofL [(0, x)] : T Blk) = T.node .nil (some x) .nil := by kernel_rfl
section
variable {n off cap : Nat} {sc g k i : Int} {P : Nat → Int} {L : List Int} {w : World} {b : Nat} {cs : Array Value} {t : TypeId} {fr : Nat × Nat}
theorem law5_win (hb : w.heap[b]? = some (.cells cs t fr)) (hL : L.length = n * 64) (hsz : off + n * 64 ≤ cs.size) (hcs : (cs.toList.drop off).take (n * 64) = L.map (Value.int .u8)) (hc : n ≤ cap) :
    Calls Try.prog 5 #[.slice (some ⟨b, off, none⟩) n cap, .int .u32 sc, .agg (actV P g k).toArray, .int .i64 i] w fun e w' => e = .returned (.bool true) ∧ Below w.heap.size w w' := by
  refine (Tr.calls (s := ⟨.nil, ofL [(0, .win off .u8 L)], 1, []⟩) (Q := fun v _ => v = .one (.c (.bool true))) Try.func5 body5_eq (sl5_ok n off cap sc g k i P) (by rw [win_eq]; exact top_one) (body5 hL hc)
    ⟨fun nm => if nm = 0 then some (b, 0) else none, fun _ => none⟩ w [.slice (some ⟨b, off, none⟩) n cap, .int .u32 sc, .agg (actV P g k).toArray, .int .i64 i] ?_ ?_ ?_).mono fun e w' hh => ?_
  · rw [win_eq]
    refine ⟨fun nm x hx => ?_, fun nm nm' x y b c c' hx hy hw _ _ => ?_, fun _ _ h => by cases h⟩
    · obtain ⟨rfl, rfl⟩ := get_one hx
      exact ⟨b, 0, _, rfl, hb, cs, t, fr, rfl, by rw [hL]; exact hsz, by rw [hL]; exact hcs⟩
    · obtain ⟨rfl, rfl⟩ := get_one hx
      cases hw
  · intro nm hn
    have : 1 ≤ nm := hn
    simp only []
    rw [if_neg (by omega)]
  · exact ⟨_, _, ⟨b, 0, rfl, rfl⟩, ⟨_, _, rfl, ⟨_, _, ⟨_, CsR.of_vals (actV_ok P g k), rfl⟩, ⟨_, _, rfl, rfl, rfl⟩, rfl⟩, rfl⟩, rfl⟩
  · obtain ⟨v', s', L', V, ρ', rfl, ab, e1, e2, e3, e4, st⟩ := hh
    cases e2
    refine ⟨e1, st.os, st.tape, st.out, st.size, fun q hq => st.frame q hq fun nm c hm hlt _ => ?_⟩
    obtain ⟨x, h1, h2⟩ := st.own nm hm hlt
    have h1' : (ofL [(0, Blk.win off .u8 L)] : T Blk).get nm = some x := h1
    rw [win_eq] at h1'
    obtain ⟨rfl, rfl⟩ := get_one h1'
    cases h2
noncomputable def args5n (sc g k i : Int) (P : Nat → Int) : List RV := [.one (.c .sl0), .one (.c (.int .u32 sc)), .one (.agg (actC P g k)), .one (.c (.int .i64 i))]
theorem nil_run (sc g k i : Int) (P : Nat → Int) : runA Try.prog sgF 300 5 (args5n sc g k i P) s0 ⟨0, [], []⟩ (fun v _ α => some (v, α.ob)) = some (.one (.c (.bool true)), []) := by kernel_rfl
theorem law5_nil : Calls Try.prog 5 #[.slice none 0 0, .int .u32 sc, .agg (actV P g k).toArray, .int .i64 i] w fun e w' => e = .returned (.bool true) ∧ Below w.heap.size w w' := by
  refine (pure_path fitF (by rfl) (by rfl) (nil_run sc g k i P) trivial rhoN w [.slice none 0 0, .int .u32 sc, .agg (actV P g k).toArray, .int .i64 i] ?_).mono fun e w' ⟨V, e1, e2, e3⟩ => ⟨by cases e2; exact e1, e3⟩
  exact ⟨_, _, rfl, ⟨_, _, rfl, ⟨_, _, ⟨_, CsR.of_vals (actV_ok P g k), rfl⟩, ⟨_, _, rfl, rfl, rfl⟩, rfl⟩, rfl⟩, rfl⟩
end
#print axioms law5_win
#print axioms law5_nil
end Go.Sx
