/-
  Parts of the executor Sx over the model's code (any program), or of this seat's walks: words and proofs that the row's text uses.
-/
import Derived.Test.YtpenbfjpfmbgaaaGreatSxI
import Derived.Test.YtpenbfjpfmbgaaaGreatSxY
import Derived.Maps.RangeWalk
namespace Go.Sx
open Go.RowKit
variable {P : Program}
/-! ## Contracts that turn one block, or lay one -/
/-- what was there is as it was, but for block t -/
structure ChW (w w' : World) (t : Option Nat) : Prop where
  size : w.heap.size ≤ w'.heap.size
  other : ∀ k, k < w.heap.size → t ≠ some k → w'.heap[k]? = w.heap[k]?
  os : w'.os = w.os
  tape : w'.tape = w.tape
  out : w'.output = w.output

theorem Below.chW {w w' : World} (b : Below w.heap.size w w') (t : Option Nat) : ChW w w' t := ⟨b.size, fun k hk _ => b.block k hk, b.os, b.tape, b.output⟩

theorem HRel.wrCh {ρ : Rho} {hp : Hp} {nx : Nat} {w w' : World} {nm b c : Nat} {x y : Blk} {o : Obj} {v : RV} {V : Value} (hr : HRel ρ hp w) (hf : Fresh ρ nx)
    (hx : hp nm = some x) (hw : x.wr = true) (hb : ρ nm = some (b, c)) (ho : BlkR ρ c y o) (hat : w'.heap[b]? = some o) (hW : ChW w w' (some b)) (hv : RVR ρ v V) : Out ρ hp nx w (.wr nm y) v V ρ w' where
  val := hv
  rel := by
    constructor
    · intro i z hz
      by_cases h : i = nm
      · subst h
        simp only [Upd.hp, upd_same, Option.some.injEq] at hz
        subst hz
        exact ⟨b, c, o, hb, hat, ho⟩
      · simp only [Upd.hp, upd_ne _ _ h] at hz
        obtain ⟨b', c', o', h1, h2, h3⟩ := hr.ok i z hz
        refine ⟨b', c', o', h1, ?_, h3⟩
        rw [hW.other b' (lt_of_get h2) fun e => ?_, h2]
        cases e
        exact h (hr.inj nm i x z b c c' hx hz hw hb h1).symm
    · intro i j p q b1 c1 c2 hp1 hq1 hpw h1 h2
      by_cases hi : i = nm <;> by_cases hj : j = nm
      · rw [hi, hj]
      · subst hi
        simp only [Upd.hp, upd_ne _ _ hj] at hq1
        exact hr.inj _ _ _ _ _ _ _ hx hq1 hw h1 h2
      · subst hj
        simp only [Upd.hp, upd_ne _ _ hi] at hp1
        exact hr.inj _ _ _ _ _ _ _ hp1 hx hpw h1 h2
      · simp only [Upd.hp, upd_ne _ _ hi] at hp1
        simp only [Upd.hp, upd_ne _ _ hj] at hq1
        exact hr.inj _ _ _ _ _ _ _ hp1 hq1 hpw h1 h2
  fresh := hf
  stp := by
    constructor
    · exact Nat.le_refl _
    · exact fun _ _ => rfl
    · intro i _ hi
      simp only [Upd.log, List.mem_singleton] at hi
      simp [Upd.hp, upd_ne _ _ hi]
    · exact hW.size
    · intro i hi hL
      refine hW.other i hi fun e => ?_
      cases e
      by_cases hlt : nm < nx
      · exact hL nm c (by simp [Upd.log]) hlt hb
      · rw [hf nm (by omega)] at hb; cases hb
    · intro i b' c' hi he
      rw [hf i hi] at he; cases he
    · intro i hi _
      simp only [Upd.log, List.mem_singleton] at hi
      subst hi
      exact ⟨x, hx, hw⟩
    · exact hW.os
    · exact hW.tape
    · exact hW.out

/-- a new block, above all that was -/
theorem HRel.newCh {ρ : Rho} {hp : Hp} {nx : Nat} {w w' : World} {b c : Nat} {y : Blk} {o : Obj} {v : RV} {V : Value} (hr : HRel ρ hp w) (hf : Fresh ρ nx)
    (hbw : w.heap.size ≤ b) (ho : BlkR (ext ρ nx b c) c y o) (hat : w'.heap[b]? = some o) (hW : ChW w w' Option.none) (hv : RVR (ext ρ nx b c) v V) : Out ρ hp nx w (.new y) v V (ext ρ nx b c) w' := by
  have old : ∀ i b' c', i ≠ nx → ext ρ nx b c i = some (b', c') → ρ i = some (b', c') := by
    intro i b' c' h e; simpa [ext, h] using e
  constructor
  · exact hv
  · constructor
    · intro i z hz
      by_cases h : i = nx
      · subst h
        simp only [Upd.hp, upd_same, Option.some.injEq] at hz
        subst hz
        exact ⟨b, c, o, by simp [ext], hat, ho⟩
      · simp only [Upd.hp, upd_ne _ _ h] at hz
        obtain ⟨b', c', o', h1, h2, h3⟩ := hr.ok i z hz
        exact ⟨b', c', o', by simp [ext, h, h1], (hW.other b' (lt_of_get h2) (by simp)).trans h2, h3.mono (ext_sub hf _ _)⟩
    · intro i j p q b1 c1 c2 hp1 hq1 hpw h1 h2
      by_cases hi : i = nx <;> by_cases hj : j = nx
      · rw [hi, hj]
      · subst hi
        simp only [Upd.hp, upd_ne _ _ hj] at hq1
        obtain ⟨b', c', o', g1, g2, _⟩ := hr.ok j q hq1
        rw [old j _ _ hj h2] at g1
        simp only [Option.some.injEq, Prod.mk.injEq] at g1
        have := lt_of_get g2
        simp [ext] at h1
        omega
      · subst hj
        simp only [Upd.hp, upd_ne _ _ hi] at hp1
        obtain ⟨b', c', o', g1, g2, _⟩ := hr.ok i p hp1
        rw [old i _ _ hi h1] at g1
        simp only [Option.some.injEq, Prod.mk.injEq] at g1
        have := lt_of_get g2
        simp [ext] at h2
        omega
      · simp only [Upd.hp, upd_ne _ _ hi] at hp1
        simp only [Upd.hp, upd_ne _ _ hj] at hq1
        exact hr.inj _ _ _ _ _ _ _ hp1 hq1 hpw (old i _ _ hi h1) (old j _ _ hj h2)
  · intro i hi
    simp only [Upd.nx] at hi
    have : i ≠ nx := by omega
    simp [ext, this, hf i (by omega)]
  · constructor
    · simp [Upd.nx]
    · intro i hi
      have : i ≠ nx := by omega
      simp [ext, this]
    · intro i hi _
      have : i ≠ nx := by omega
      simp [Upd.hp, upd_ne _ _ this]
    · exact hW.size
    · intro i hi _
      exact hW.other i hi (by simp)
    · intro i b' c' hi he
      by_cases h : i = nx
      · subst h; simp [ext] at he; left; omega
      · have he := old i _ _ h he
        rw [hf i (by omega)] at he; cases he
    · intro i hi; cases hi
    · exact hW.os
    · exact hW.tape
    · exact hW.out

/-- a block that is turned, or laid anew: its name dies -/
theorem HRel.mvCh {ρ : Rho} {hp : Hp} {nx : Nat} {w w' : World} {nm b0 c0 b c : Nat} {x y : Blk} {o : Obj} {v : RV} {V : Value} (hr : HRel ρ hp w) (hf : Fresh ρ nx)
    (hx : hp nm = some x) (hw : x.wr = true) (hb0 : ρ nm = some (b0, c0)) (hnm : nm < nx)
    (hbw : w.heap.size ≤ b ∨ b = b0) (ho : BlkR (ext ρ nx b c) c y o) (hat : w'.heap[b]? = some o) (hW : ChW w w' (some b0)) (hv : RVR (ext ρ nx b c) v V) : Out ρ hp nx w (.mv nm y) v V (ext ρ nx b c) w' := by
  have old : ∀ i b' c', i ≠ nx → ext ρ nx b c i = some (b', c') → ρ i = some (b', c') := by
    intro i b' c' h e; simpa [ext, h] using e
  have hne : nm ≠ nx := by omega
  -- a live old block, other than nm's, is none of the two
  have apart : ∀ i z b' c', i ≠ nm → hp i = some z → ρ i = some (b', c') → b' ≠ b0 ∧ b' < w.heap.size := by
    intro i z b' c' h hz h1
    obtain ⟨b2, c2, o2, g1, g2, _⟩ := hr.ok i z hz
    rw [h1] at g1
    simp only [Option.some.injEq, Prod.mk.injEq] at g1
    obtain ⟨rfl, rfl⟩ := g1
    exact ⟨fun e => h (hr.inj nm i x z b0 c0 c' hx hz hw hb0 (by rw [h1, e])).symm, lt_of_get g2⟩
  have get' : ∀ i, i ≠ nx → ∀ z, (Upd.mv nm y).hp hp nx i = some z → i ≠ nm ∧ hp i = some z := by
    intro i h z hz
    simp only [Upd.hp, upd_ne _ _ h] at hz
    by_cases e : i = nm
    · subst e; simp [upd_same] at hz
    · rw [upd_ne _ _ e] at hz; exact ⟨e, hz⟩
  constructor
  · exact hv
  · constructor
    · intro i z hz
      by_cases h : i = nx
      · subst h
        simp only [Upd.hp, upd_same, Option.some.injEq] at hz
        subst hz
        exact ⟨b, c, o, by simp [ext], hat, ho⟩
      · obtain ⟨e, hz⟩ := get' i h z hz
        obtain ⟨b', c', o', h1, h2, h3⟩ := hr.ok i z hz
        obtain ⟨a1, a2⟩ := apart i z b' c' e hz h1
        exact ⟨b', c', o', by simp [ext, h, h1], (hW.other b' a2 (by simp; exact fun e => a1 e.symm)).trans h2, h3.mono (ext_sub hf _ _)⟩
    · intro i j p q b1 c1 c2 hp1 hq1 hpw h1 h2
      by_cases hi : i = nx <;> by_cases hj : j = nx
      · rw [hi, hj]
      · subst hi
        obtain ⟨e, hq1⟩ := get' j hj q hq1
        obtain ⟨a1, a2⟩ := apart j q b1 c2 e hq1 (old j _ _ hj h2)
        simp [ext] at h1
        omega
      · subst hj
        obtain ⟨e, hp1⟩ := get' i hi p hp1
        obtain ⟨a1, a2⟩ := apart i p b1 c1 e hp1 (old i _ _ hi h1)
        simp [ext] at h2
        omega
      · obtain ⟨_, hp1⟩ := get' i hi p hp1
        obtain ⟨_, hq1⟩ := get' j hj q hq1
        exact hr.inj _ _ _ _ _ _ _ hp1 hq1 hpw (old i _ _ hi h1) (old j _ _ hj h2)
  · intro i hi
    simp only [Upd.nx] at hi
    have : i ≠ nx := by omega
    simp [ext, this, hf i (by omega)]
  · constructor
    · simp [Upd.nx]
    · intro i hi
      have : i ≠ nx := by omega
      simp [ext, this]
    · intro i hi hL
      simp only [Upd.log, List.mem_singleton] at hL
      have : i ≠ nx := by omega
      simp [Upd.hp, upd_ne _ _ this, upd_ne _ _ hL]
    · exact hW.size
    · intro i hi hL
      refine hW.other i hi fun e => ?_
      cases e
      exact hL nm c0 (by simp [Upd.log]) hnm hb0
    · intro i b' c' hi he
      by_cases h : i = nx
      · subst h
        simp [ext] at he
        rcases hbw with hbw | hbw
        · left; omega
        · right; exact ⟨nm, c0, by simp [Upd.log], hnm, by rw [hb0, ← he.1, hbw]⟩
      · have he := old i _ _ h he
        rw [hf i (by omega)] at he; cases he
    · intro i hi _
      simp only [Upd.log, List.mem_singleton] at hi
      subst hi
      exact ⟨x, hx, hw⟩
    · exact hW.os
    · exact hW.tape
    · exact hW.out

theorem CallInfo.upd {f : FuncId} {args : List RV} {s : S} {v : RV} {u : Upd} {hp' : T Blk} {nx' : Nat} {lg' : List Nat} (ht : Top s) (hfn : ∃ fn, P.funcs[f]? = some fn ∧ fn.body.isNone = false)
    (hlog : ∀ nm, nm ∈ u.log → nm < s.nx) (hh : ∀ i, hp'.get i = u.hp s.hp.get s.nx i) (hnx : nx' = u.nx s.nx) (hlg : lg' = u.log)
    (h : ∀ (ρ : Rho) (w : World) (vs : List Value), HRel ρ s.hp.get w → Fresh ρ s.nx → ArgsR ρ args vs → Calls P f vs.toArray w fun e w' => ∃ V ρ', e = .returned V ∧ Out ρ s.hp.get s.nx w u v V ρ' w') :
    CallInfo P f args s v { s with hp := hp', nx := nx', lg := lg' ++ s.lg } lg' := by
  subst hnx hlg
  have hle : s.nx ≤ u.nx s.nx := by cases u <;> simp [Upd.nx]
  have he : hp'.get = u.hp s.hp.get s.nx := funext hh
  refine ⟨hfn, rfl, ⟨rfl, hle, fun nm h1 h2 => ?_, fun nm hn => ?_, fun nm h => Nat.lt_of_lt_of_le (hlog nm h) hle⟩, fun ρ w vs hr hf ha => ?_⟩
  · show hp'.get nm = s.hp.get nm
    rw [hh]
    cases u with
    | none => rfl
    | new b => exact upd_ne _ _ (by omega)
    | wr n b => exact upd_ne _ _ (by simpa [Upd.log] using h2)
    | mv n b =>
      have : nm ≠ n := by simpa [Upd.log] using h2
      simp only [Upd.hp]
      rw [upd_ne _ _ (show nm ≠ s.nx by omega), upd_ne _ _ this]
  · show hp'.get nm = none
    rw [hh]
    have hn' : u.nx s.nx ≤ nm := hn
    cases u with
    | none => exact ht nm hn'
    | new b =>
      simp only [Upd.nx] at hn'
      simp only [Upd.hp]
      rw [upd_ne _ _ (show nm ≠ s.nx by omega)]; exact ht nm (by omega)
    | wr n b =>
      simp only [Upd.nx] at hn'
      have := hlog n (by simp [Upd.log])
      simp only [Upd.hp]
      rw [upd_ne _ _ (show nm ≠ n by omega)]; exact ht nm hn'
    | mv n b =>
      simp only [Upd.nx] at hn'
      have := hlog n (by simp [Upd.log])
      simp only [Upd.hp]
      rw [upd_ne _ _ (show nm ≠ s.nx by omega), upd_ne _ _ (show nm ≠ n by omega)]; exact ht nm (by omega)
  · refine (h ρ w vs hr hf ha).mono fun e w' ⟨V, ρ', h1, o⟩ => ⟨V, ρ', h1, o.val, ?_, o.fresh, ?_⟩
    · show HRel ρ' hp'.get w'
      rw [he]; exact o.rel
    · show Stp ρ s.hp.get s.nx w ρ' hp'.get _ w' _
      rw [he]; exact o.stp
theorem Top.lt {s : S} (ht : Top s) {nm : Nat} {x : Blk} (h : s.hp.get nm = some x) : nm < s.nx := by
  rcases Nat.lt_or_ge nm s.nx with h' | h'
  · exact h'
  · rw [ht nm h'] at h; cases h
end Go.Sx

namespace Go.Sx
open Go.RowKit
variable {P : Program}
/-! ## Names given anew: what is kept bears the names k0, k0+1, .. -/
def idxN (nm : Nat) : List Nat → Nat → Option Nat
  | [], _ => none
  | x :: l, i => if nm = x then some i else idxN nm l (i + 1)
def invN (k0 : Nat) (ord : List Nat) (nm : Nat) : Option Nat := if nm < k0 then some nm else idxN nm ord k0
def invP (f : Nat → Option Nat) : List (Nat × Nat) → Option (List (Nat × Nat))
  | [] => some []
  | (a, b) :: l => match f a, invP f l with | some a, some l => some ((a, b) :: l) | _, _ => none
def invC (f : Nat → Option Nat) : Cell → Option Cell
  | .ptr nm off => match f nm with | some m => some (.ptr m off) | none => none
  | .sl nm off len cap => match f nm with | some m => some (.sl m off len cap) | none => none
  | .slu nm sz a len => match f nm with | some m => some (.slu m sz a len) | none => none
  | .map nm => match f nm with | some m => some (.map m) | none => none
  | .yield nm => match f nm with | some m => some (.yield m) | none => none
  | .fn g fs cs => match invP f fs, invP f cs with | some fs, some cs => some (.fn g fs cs) | _, _ => none
  | c => some c
def invL (f : Nat → Option Nat) : List Cell → Option (List Cell)
  | [] => some []
  | c :: l => match invC f c, invL f l with | some c, some l => some (c :: l) | _, _ => none
def invA (f : Nat → Option Nat) : AV → Option AV
  | .c x => match invC f x with | some x => some (.c x) | none => none
  | .agg l => match invL f l with | some l => some (.agg l) | none => none
  | .ints k l n => some (.ints k l n)
def invAs (f : Nat → Option Nat) : List AV → Option (List AV)
  | [] => some []
  | c :: l => match invA f c, invAs f l with | some c, some l => some (c :: l) | _, _ => none
def invR (f : Nat → Option Nat) : RV → Option RV
  | .one v => match invA f v with | some v => some (.one v) | none => none
  | .tup l => match invAs f l with | some l => some (.tup l) | none => none
  | .any => some .any
def invRs (f : Nat → Option Nat) : List RV → Option (List RV)
  | [] => some []
  | c :: l => match invR f c, invRs f l with | some c, some l => some (c :: l) | _, _ => none
def invE (f : Nat → Option Nat) : List (Cell × AV) → Option (List (Cell × AV))
  | [] => some []
  | (c, v) :: l => match invC f c, invA f v, invE f l with | some c, some v, some l => some ((c, v) :: l) | _, _, _ => none
def invB (f : Nat → Option Nat) : Blk → Option Blk
  | .row t ro o (.cells l) => match invL f l with | some l => some (.row t ro o (.cells l)) | none => none
  | .row t ro o (.ints k l n) => some (.row t ro o (.ints k l n))
  | .map es => match invE f es with | some es => some (.map es) | none => none
  | .win o k l => some (.win o k l)
  | .mapI vk l => some (.mapI vk l)
  | .mapR es => match invE f es with | some es => some (.mapR es) | none => none
  | .loop st sl ps as bd => match invRs f sl with | some sl => some (.loop st sl ps as bd) | none => none
  | .iter s p => some (.iter s p)
  | .mapP es => match invE f es with | some es => some (.mapP es) | none => none

section inv
variable {f : Nat → Option Nat} {ρ ρ' : Rho} (h : ∀ nm m, f nm = some m → ρ' m = ρ nm)
include h
theorem CapsR.inv : ∀ {l l' : List (Nat × Nat)} {vs : List Value}, CapsR ρ l vs → invP f l = some l' → CapsR ρ' l' vs
  | [], l', vs, hr, hi => by simp only [invP, Option.some.injEq] at hi; subst hi; exact hr
  | (a, b) :: l, l', vs, ⟨bl, c, vs', h1, h2, h3⟩, hi => by
    simp only [invP] at hi
    split at hi <;> try (cases hi; done)
    rename_i a' l2 e1 e2
    simp only [Option.some.injEq] at hi; subst hi
    exact ⟨bl, c, vs', by rw [h _ _ e1]; exact h1, CapsR.inv h2 e2, h3⟩
theorem CR.inv {c c' : Cell} {v : Value} (hr : CR ρ c v) (hi : invC f c = some c') : CR ρ' c' v := by
  cases c with
  | ptr nm off =>
    simp only [invC] at hi
    split at hi <;> try (cases hi; done)
    rename_i m e
    simp only [Option.some.injEq] at hi; subst hi
    obtain ⟨b, c, h1, h2⟩ := hr
    exact ⟨b, c, by rw [h _ _ e]; exact h1, h2⟩
  | sl nm off len cap =>
    simp only [invC] at hi
    split at hi <;> try (cases hi; done)
    rename_i m e
    simp only [Option.some.injEq] at hi; subst hi
    obtain ⟨b, c, h1, h2⟩ := hr
    exact ⟨b, c, by rw [h _ _ e]; exact h1, h2⟩
  | slu nm sz a len =>
    simp only [invC] at hi
    split at hi <;> try (cases hi; done)
    rename_i m e
    simp only [Option.some.injEq] at hi; subst hi
    obtain ⟨b, c, off, h1, h2⟩ := hr
    exact ⟨b, c, off, by rw [h _ _ e]; exact h1, h2⟩
  | map nm =>
    simp only [invC] at hi
    split at hi <;> try (cases hi; done)
    rename_i m e
    simp only [Option.some.injEq] at hi; subst hi
    obtain ⟨b, c, h1, h2⟩ := hr
    exact ⟨b, c, by rw [h _ _ e]; exact h1, h2⟩
  | yield nm =>
    simp only [invC] at hi
    split at hi <;> try (cases hi; done)
    rename_i m e
    simp only [Option.some.injEq] at hi; subst hi
    obtain ⟨b, c, h1, h2⟩ := hr
    exact ⟨b, c, by rw [h _ _ e]; exact h1, h2⟩
  | fn g fs cs =>
    simp only [invC] at hi
    split at hi <;> try (cases hi; done)
    rename_i fs' cs' e1 e2
    simp only [Option.some.injEq] at hi; subst hi
    obtain ⟨us, vs, h1, h2, h3⟩ := hr
    exact ⟨us, vs, CapsR.inv h h1 e1, CapsR.inv h h2 e2, h3⟩
  | _ => simp only [invC, Option.some.injEq] at hi; subst hi; exact hr
theorem CsR.inv : ∀ {l l' : List Cell} {vs : List Value}, CsR ρ l vs → invL f l = some l' → CsR ρ' l' vs
  | [], l', vs, hr, hi => by simp only [invL, Option.some.injEq] at hi; subst hi; exact hr
  | c :: l, l', vs, ⟨v, vs', h1, h2, h3⟩, hi => by
    simp only [invL] at hi
    split at hi <;> try (cases hi; done)
    rename_i c' l2 e1 e2
    simp only [Option.some.injEq] at hi; subst hi
    exact ⟨v, vs', CR.inv h h1 e1, CsR.inv h2 e2, h3⟩
theorem AVR.inv {x x' : AV} {v : Value} (hr : AVR ρ x v) (hi : invA f x = some x') : AVR ρ' x' v := by
  cases x with
  | c x =>
    simp only [invA] at hi
    split at hi <;> try (cases hi; done)
    rename_i m e
    simp only [Option.some.injEq] at hi; subst hi
    exact CR.inv h hr e
  | agg l =>
    simp only [invA] at hi
    split at hi <;> try (cases hi; done)
    rename_i m e
    simp only [Option.some.injEq] at hi; subst hi
    obtain ⟨vs, h1, h2⟩ := hr
    exact ⟨vs, CsR.inv h h1 e, h2⟩
  | ints => simp only [invA, Option.some.injEq] at hi; subst hi; exact hr
theorem AVsR.inv : ∀ {l l' : List AV} {vs : List Value}, AVsR ρ l vs → invAs f l = some l' → AVsR ρ' l' vs
  | [], l', vs, hr, hi => by simp only [invAs, Option.some.injEq] at hi; subst hi; exact hr
  | c :: l, l', vs, ⟨v, vs', h1, h2, h3⟩, hi => by
    simp only [invAs] at hi
    split at hi <;> try (cases hi; done)
    rename_i c' l2 e1 e2
    simp only [Option.some.injEq] at hi; subst hi
    exact ⟨v, vs', AVR.inv h h1 e1, AVsR.inv h2 e2, h3⟩
theorem RVR.inv {x x' : RV} {v : Value} (hr : RVR ρ x v) (hi : invR f x = some x') : RVR ρ' x' v := by
  cases x with
  | one x =>
    simp only [invR] at hi
    split at hi <;> try (cases hi; done)
    rename_i m e
    simp only [Option.some.injEq] at hi; subst hi
    exact AVR.inv h hr e
  | tup l =>
    simp only [invR] at hi
    split at hi <;> try (cases hi; done)
    rename_i m e
    simp only [Option.some.injEq] at hi; subst hi
    obtain ⟨vs, h1, h2⟩ := hr
    exact ⟨vs, AVsR.inv h h1 e, h2⟩
  | any => simp only [invR, Option.some.injEq] at hi; subst hi; trivial
theorem ArgsR.inv : ∀ {l l' : List RV} {vs : List Value}, ArgsR ρ l vs → invRs f l = some l' → ArgsR ρ' l' vs
  | [], l', vs, hr, hi => by simp only [invRs, Option.some.injEq] at hi; subst hi; exact hr
  | c :: l, l', vs, ⟨v, vs', h1, h2, h3⟩, hi => by
    simp only [invRs] at hi
    split at hi <;> try (cases hi; done)
    rename_i c' l2 e1 e2
    simp only [Option.some.injEq] at hi; subst hi
    exact ⟨v, vs', RVR.inv h h1 e1, ArgsR.inv h2 e2, h3⟩
theorem EsR.inv : ∀ {l l' : List (Cell × AV)} {es : List MapEntry}, EsR ρ l es → invE f l = some l' → EsR ρ' l' es
  | [], l', es, hr, hi => by simp only [invE, Option.some.injEq] at hi; subst hi; exact hr
  | (c, v) :: l, l', es, ⟨e, es', h1, h2, h3, h4⟩, hi => by
    simp only [invE] at hi
    split at hi <;> try (cases hi; done)
    rename_i c' v' l2 e1 e2 e3
    simp only [Option.some.injEq] at hi; subst hi
    exact ⟨e, es', CR.inv h h1 e1, AVR.inv h h2 e2, EsR.inv h3 e3, h4⟩
theorem BlkR.inv {c : Nat} {x x' : Blk} {o : Obj} (hr : BlkR ρ c x o) (hi : invB f x = some x') : BlkR ρ' c x' o := by
  cases x with
  | row t ro opn b =>
    obtain ⟨vs, tail, fr, h1, h2, h3⟩ := hr
    cases b with
    | cells l =>
      simp only [invB] at hi
      split at hi <;> try (cases hi; done)
      rename_i m e
      simp only [Option.some.injEq] at hi; subst hi
      exact ⟨vs, tail, fr, h1, CsR.inv h h2 e, h3⟩
    | ints => simp only [invB, Option.some.injEq] at hi; subst hi; exact ⟨vs, tail, fr, h1, h2, h3⟩
  | map es =>
    simp only [invB] at hi
    split at hi <;> try (cases hi; done)
    rename_i m e
    simp only [Option.some.injEq] at hi; subst hi
    obtain ⟨ents, cl, h1, h2, h3⟩ := hr
    exact ⟨ents, cl, h1, EsR.inv h h2 e, h3⟩
  | iter => simp only [invB, Option.some.injEq] at hi; subst hi; exact hr
  | mapP es =>
    simp only [invB] at hi
    split at hi <;> try (cases hi; done)
    rename_i m e
    simp only [Option.some.injEq] at hi; subst hi
    obtain ⟨ents, cl, es', h1, h2, h3⟩ := hr
    exact ⟨ents, cl, es', h1, EsR.inv h h2 e, h3⟩
  | loop st sl ps as bd =>
    simp only [invB] at hi
    split at hi <;> try (cases hi; done)
    rename_i m e
    simp only [Option.some.injEq] at hi; subst hi
    obtain ⟨r, h1, h2, h3⟩ := hr
    exact ⟨r, h1, ArgsR.inv h h2 e, h3⟩
  | mapR es =>
    simp only [invB] at hi
    split at hi <;> try (cases hi; done)
    rename_i m e
    simp only [Option.some.injEq] at hi; subst hi
    obtain ⟨ents, cl, h1, h2, h3⟩ := hr
    exact ⟨ents, cl, h1, EsR.inv h h2 e, h3⟩
  | win => simp only [invB, Option.some.injEq] at hi; subst hi; exact hr
  | mapI vk l =>
    simp only [invB, Option.some.injEq] at hi; subst hi
    obtain ⟨ents, cl, h1, h2, h3⟩ := hr
    refine ⟨ents, cl, h1, ?_, h3⟩
    refine EsR.inv h h2 (?_ : invE f (toEs vk l) = some (toEs vk l))
    have hc : ∀ q : Int, invC f (valI vk q) = some (valI vk q) := fun q => by cases vk <;> rfl
    clear h2
    unfold toEs
    induction l with
    | nil => rfl
    | cons p l ih => simp only [List.map_cons, invE, ih, invA, hc]; rfl
end inv

/-! what names only what was there stays as it is -/
section fix
variable {f : Nat → Option Nat} {ρ : Rho} {k0 : Nat} (hf : ∀ nm, k0 ≤ nm → ρ nm = none) (h : ∀ nm, nm < k0 → f nm = some nm)
include hf h
theorem fixN {nm : Nat} {b c : Nat} (hr : ρ nm = some (b, c)) : f nm = some nm := by
  rcases Nat.lt_or_ge nm k0 with h1 | h1
  · exact h nm h1
  · rw [hf nm h1] at hr; cases hr
theorem CapsR.fix : ∀ {l : List (Nat × Nat)} {vs : List Value}, CapsR ρ l vs → invP f l = some l
  | [], _, _ => rfl
  | (a, b) :: l, _, ⟨_, _, _, h1, h2, _⟩ => by simp only [invP, fixN hf h h1, CapsR.fix h2]
theorem CR.fix {c : Cell} {v : Value} (hr : CR ρ c v) : invC f c = some c := by
  cases c with
  | ptr nm off => obtain ⟨_, _, h1, _⟩ := hr; simp only [invC, fixN hf h h1]
  | sl nm off len cap => obtain ⟨_, _, h1, _⟩ := hr; simp only [invC, fixN hf h h1]
  | slu nm sz a len => obtain ⟨_, _, _, h1, _⟩ := hr; simp only [invC, fixN hf h h1]
  | map nm => obtain ⟨_, _, h1, _⟩ := hr; simp only [invC, fixN hf h h1]
  | yield nm => obtain ⟨_, _, h1, _⟩ := hr; simp only [invC, fixN hf h h1]
  | fn g fs cs => obtain ⟨_, _, h1, h2, _⟩ := hr; simp only [invC, CapsR.fix hf h h1, CapsR.fix hf h h2]
  | _ => rfl
theorem CsR.fix : ∀ {l : List Cell} {vs : List Value}, CsR ρ l vs → invL f l = some l
  | [], _, _ => rfl
  | c :: l, _, ⟨_, _, h1, h2, _⟩ => by simp only [invL, CR.fix hf h h1, CsR.fix h2]
theorem AVR.fix {x : AV} {v : Value} (hr : AVR ρ x v) : invA f x = some x := by
  cases x with
  | c x => simp only [invA, CR.fix hf h hr]
  | agg l => obtain ⟨_, h1, _⟩ := hr; simp only [invA, CsR.fix hf h h1]
  | ints => rfl
theorem AVsR.fix : ∀ {l : List AV} {vs : List Value}, AVsR ρ l vs → invAs f l = some l
  | [], _, _ => rfl
  | c :: l, _, ⟨_, _, h1, h2, _⟩ => by simp only [invAs, AVR.fix hf h h1, AVsR.fix h2]
theorem RVR.fix {x : RV} {v : Value} (hr : RVR ρ x v) : invR f x = some x := by
  cases x with
  | one x => simp only [invR, AVR.fix hf h hr]
  | tup l => obtain ⟨_, h1, _⟩ := hr; simp only [invR, AVsR.fix hf h h1]
  | any => rfl
theorem ArgsR.fix : ∀ {l : List RV} {vs : List Value}, ArgsR ρ l vs → invRs f l = some l
  | [], _, _ => rfl
  | c :: l, _, ⟨_, _, h1, h2, _⟩ => by simp only [invRs, RVR.fix hf h h1, ArgsR.fix h2]
theorem EsR.fix : ∀ {l : List (Cell × AV)} {es : List MapEntry}, EsR ρ l es → invE f l = some l
  | [], _, _ => rfl
  | (c, v) :: l, _, ⟨_, _, h1, h2, h3, _⟩ => by simp only [invE, CR.fix hf h h1, AVR.fix hf h h2, EsR.fix h3]
theorem BlkR.fix {c : Nat} {x : Blk} {o : Obj} (hr : BlkR ρ c x o) : invB f x = some x := by
  cases x with
  | row t ro opn b =>
    obtain ⟨_, _, _, _, h2, _⟩ := hr
    cases b with
    | cells l => simp only [invB, CsR.fix hf h h2]
    | ints => rfl
  | map es => obtain ⟨_, _, _, h2, _⟩ := hr; simp only [invB, EsR.fix hf h h2]
  | mapR es => obtain ⟨_, _, _, h2, _⟩ := hr; simp only [invB, EsR.fix hf h h2]
  | loop => obtain ⟨_, _, h2, _⟩ := hr; simp only [invB, ArgsR.fix hf h h2]
  | iter => rfl
  | mapP es => obtain ⟨_, _, _, _, h2, _⟩ := hr; simp only [invB, EsR.fix hf h h2]
  | win => rfl
  | mapI => rfl
end fix

/-! ### the state that is kept -/
noncomputable def gcSl (f : Nat → Option Nat) (keep : List Nat) (sl : T RV) : Nat → T RV → Option (T RV)
  | 0, t => some t
  | n + 1, t => match (if keep.contains n then invR f ((sl.get n).getD und) else some .any) with
    | some v => T.set depth t n (some v) fun t => gcSl f keep sl n t
    | none => none
/-- (the new name, the elder one, is it let be?) -/
noncomputable def gcT (f : Nat → Option Nat) (hp : T Blk) : List (Nat × Nat × Bool) → T Blk → Option (T Blk)
  | [], t => some t
  | (a, b, raw) :: l, t => match hp.get b with
    | none => gcT f hp l t
    | some x => match (if raw then some x else invB f x) with
      | some y => T.set depth t a (some y) fun t => gcT f hp l t
      | none => none
def srcO (k0 : Nat) (K : List Nat) : Nat → List (Nat × Nat × Bool)
  | 0 => []
  | j + 1 => (j, j, K.contains j) :: srcO k0 K j
def srcN : List Nat → Nat → List (Nat × Nat × Bool)
  | [], _ => []
  | x :: l, i => (i, x, false) :: srcN l (i + 1)
def okOrd (k0 : Nat) : List Nat → Bool
  | [] => true
  | x :: l => Nat.ble k0 x && (!l.contains x && okOrd k0 l)
def pinOK (k0 : Nat) (ord : List Nat) : List Nat → Bool
  | [] => true
  | q :: l => (match invN k0 ord q with | some m => Nat.beq m q | none => false) && pinOK k0 ord l
noncomputable def gcS (k0 : Nat) (K pn keep : List Nat) (n : Nat) (ord : List Nat) (s : S) : Option S :=
  if (okOrd k0 ord && pinOK k0 ord pn) = true then
    match gcSl (invN k0 ord) keep s.sl n .nil with
    | some sl => match gcT (invN k0 ord) s.hp (srcO k0 K k0 ++ srcN ord k0) .nil with
      | some hp => some ⟨sl, hp, k0 + ord.length, []⟩
      | none => none
    | none => none
  else none

theorem gcSl_ok {f : Nat → Option Nat} {keep : List Nat} {sl : T RV} : ∀ {n : Nat} {t r : T RV}, gcSl f keep sl n t = some r → ∀ j, if j < n then (∃ v, r.get j = some v ∧ (v = .any ∨ invR f ((sl.get j).getD und) = some v)) else r.get j = t.get j
  | 0, t, r, h, j => by simp only [gcSl, Option.some.injEq] at h; subst h; simp
  | n + 1, t, r, h, j => by
    simp only [gcSl] at h
    split at h <;> try (cases h; done)
    rename_i v hv
    obtain ⟨t', h1, h2⟩ := T.set_ok _ _ _ _ _ _ h
    have ih := gcSl_ok h1 j
    by_cases e : j < n
    · rw [if_pos e] at ih; rw [if_pos (by omega)]; exact ih
    · rw [if_neg e, h2] at ih
      by_cases e2 : j = n
      · subst e2
        rw [if_pos rfl] at ih
        rw [if_pos (by omega)]
        refine ⟨v, ih, ?_⟩
        split at hv
        · exact .inr hv
        · simp only [Option.some.injEq] at hv; exact .inl hv.symm
      · rw [if_neg e2] at ih; rw [if_neg (by omega)]; exact ih

theorem gcT_ok {f : Nat → Option Nat} {hp : T Blk} : ∀ {l : List (Nat × Nat × Bool)} {t r : T Blk}, (l.map (·.1)).Nodup → gcT f hp l t = some r →
    (∀ j, (∀ b raw, (j, b, raw) ∉ l) → r.get j = t.get j) ∧
    (∀ a b raw, (a, b, raw) ∈ l → match hp.get b with | none => r.get a = t.get a | some x => ∃ y, r.get a = some y ∧ (if raw then y = x else invB f x = some y))
  | [], t, r, _, h => by simp only [gcT, Option.some.injEq] at h; subst h; exact ⟨fun _ _ => rfl, fun _ _ _ h => by cases h⟩
  | (a, b, raw) :: l, t, r, hn, h => by
    simp only [List.map_cons, List.nodup_cons] at hn
    have hna : ∀ b raw, (a, b, raw) ∉ l := fun b raw hm => hn.1 (List.mem_map.2 ⟨_, hm, rfl⟩)
    simp only [gcT] at h
    split at h
    · rename_i hb
      obtain ⟨i1, i2⟩ := gcT_ok hn.2 h
      refine ⟨fun j hj => i1 j fun b' r' hm => hj b' r' (List.mem_cons_of_mem _ hm), fun a' b' r' hm => ?_⟩
      rcases List.mem_cons.1 hm with e | hm
      · cases e; rw [hb]; exact i1 a hna
      · exact i2 a' b' r' hm
    · rename_i x hb
      split at h <;> try (cases h; done)
      rename_i y hy
      obtain ⟨t', h1, h2⟩ := T.set_ok _ _ _ _ _ _ h
      obtain ⟨i1, i2⟩ := gcT_ok hn.2 h1
      refine ⟨fun j hj => ?_, fun a' b' r' hm => ?_⟩
      · rw [i1 j fun b' r' hm => hj b' r' (List.mem_cons_of_mem _ hm), h2, if_neg]
        intro e; subst e; exact hj b raw (List.mem_cons_self ..)
      · rcases List.mem_cons.1 hm with e | hm2
        · cases e
          rw [hb]
          refine ⟨y, by rw [i1 a hna, h2, if_pos rfl], ?_⟩
          cases raw with
          | true => simp only [if_true, Option.some.injEq] at hy; simp [hy]
          | false => simpa using hy
        · have := i2 a' b' r' hm2
          have hne : a' ≠ a := fun e => hna b' r' (e ▸ hm2)
          cases hb' : hp.get b' with
          | none => rw [hb'] at this; rw [this, h2, if_neg hne]
          | some x' => rw [hb'] at this; exact this

theorem mem_srcO {k0 : Nat} {K : List Nat} : ∀ {m a b : Nat} {raw : Bool}, (a, b, raw) ∈ srcO k0 K m ↔ a < m ∧ b = a ∧ raw = K.contains a
  | 0, _, _, _ => by simp [srcO]
  | m + 1, a, b, raw => by
    simp only [srcO, List.mem_cons, Prod.mk.injEq, mem_srcO (m := m)]
    constructor
    · rintro (⟨rfl, rfl, rfl⟩ | ⟨h1, h2, h3⟩)
      · exact ⟨by omega, rfl, rfl⟩
      · exact ⟨by omega, h2, h3⟩
    · rintro ⟨h1, h2, h3⟩
      by_cases e : a = m
      · subst e; exact .inl ⟨rfl, h2, h3⟩
      · exact .inr ⟨by omega, h2, h3⟩
theorem mem_srcN : ∀ {l : List Nat} {i a b : Nat} {raw : Bool}, (a, b, raw) ∈ srcN l i ↔ raw = false ∧ i ≤ a ∧ l[a - i]? = some b
  | [], _, _, _, _ => by simp [srcN]
  | x :: l, i, a, b, raw => by
    simp only [srcN, List.mem_cons, Prod.mk.injEq, mem_srcN (l := l)]
    constructor
    · rintro (⟨rfl, rfl, rfl⟩ | ⟨h1, h2, h3⟩)
      · exact ⟨rfl, Nat.le_refl _, by simp⟩
      · refine ⟨h1, by omega, ?_⟩
        rw [show a - i = (a - (i + 1)) + 1 by omega]; exact h3
    · rintro ⟨h1, h2, h3⟩
      by_cases e : a = i
      · subst e; simp at h3; exact .inl ⟨rfl, h3.symm, h1⟩
      · refine .inr ⟨h1, by omega, ?_⟩
        rw [show a - i = (a - (i + 1)) + 1 by omega] at h3; exact h3
theorem idxN_ok : ∀ {l : List Nat} {nm i m : Nat}, idxN nm l i = some m → i ≤ m ∧ l[m - i]? = some nm
  | [], _, _, _, h => by simp [idxN] at h
  | x :: l, nm, i, m, h => by
    simp only [idxN] at h
    split at h
    · rename_i e; simp only [Option.some.injEq] at h; subst h; subst e; exact ⟨Nat.le_refl _, by simp⟩
    · obtain ⟨h1, h2⟩ := idxN_ok h
      refine ⟨by omega, ?_⟩
      rw [show m - i = (m - (i + 1)) + 1 by omega]; exact h2
theorem okOrd_ok {k0 : Nat} : ∀ {l : List Nat}, okOrd k0 l = true → l.Nodup ∧ ∀ x ∈ l, k0 ≤ x
  | [], _ => ⟨List.nodup_nil, fun _ h => by cases h⟩
  | x :: l, h => by
    simp only [okOrd, Bool.and_eq_true] at h
    obtain ⟨h1, h2, h3⟩ := h
    obtain ⟨g1, g2⟩ := okOrd_ok h3
    refine ⟨List.nodup_cons.2 ⟨by simpa using h2, g1⟩, fun y hy => ?_⟩
    rcases List.mem_cons.1 hy with rfl | hy
    · exact Nat.le_of_ble_eq_true h1
    · exact g2 y hy
theorem srcO_fst {k0 : Nat} {K : List Nat} : ∀ {m : Nat}, ((srcO k0 K m).map (·.1)).Nodup
  | 0 => by simp [srcO]
  | m + 1 => by
    simp only [srcO, List.map_cons, List.nodup_cons]
    refine ⟨fun h => ?_, srcO_fst⟩
    obtain ⟨⟨a, b, r⟩, h1, h2⟩ := List.mem_map.1 h
    have := (mem_srcO.1 h1).1
    simp only at h2
    omega
theorem srcN_fst : ∀ {l : List Nat} {i : Nat}, ((srcN l i).map (·.1)).Nodup
  | [], _ => by simp [srcN]
  | x :: l, i => by
    simp only [srcN, List.map_cons, List.nodup_cons]
    refine ⟨fun h => ?_, srcN_fst⟩
    obtain ⟨⟨a, b, r⟩, h1, h2⟩ := List.mem_map.1 h
    have := (mem_srcN.1 h1).2.1
    simp only at h2
    omega

theorem nodup_at {l : List Nat} (h : l.Nodup) {i j : Nat} (hi : i < l.length) (hj : j < l.length) (e : l[i] = l[j]) : i = j := by
  rcases Nat.lt_trichotomy i j with h1 | h1 | h1
  · exact absurd e (List.pairwise_iff_getElem.1 h i j hi hj h1)
  · exact h1
  · exact absurd e.symm (List.pairwise_iff_getElem.1 h j i hj hi h1)
/-! ## Triples out of one origin -/
/-- names of blocks that no piece turns: iterators over maps -/
structure Pin where
  nm : Nat
  b : Nat
  o : Obj
def Obj.isIt : Obj → Bool
  | .mapIter .. => true
  | _ => false
def PinOK (pins : List Pin) (ρ : Rho) (w : World) : Prop := ∀ p ∈ pins, (∃ c, ρ p.nm = some (p.b, c)) ∧ w.heap[p.b]? = some p.o ∧ Obj.isIt p.o = true
theorem BlkR.noIt {ρ : Rho} {c : Nat} {x : Blk} {o : Obj} (h : BlkR ρ c x o) : Obj.isIt o = false := by
  cases x with
  | row => obtain ⟨_, _, _, rfl, _⟩ := h; rfl
  | map => obtain ⟨_, _, rfl, _⟩ := h; rfl
  | win => obtain ⟨_, _, _, rfl, _⟩ := h; rfl
  | mapI => obtain ⟨_, _, rfl, _⟩ := h; rfl
  | mapR => obtain ⟨_, _, rfl, _⟩ := h; rfl
  | loop => obtain ⟨_, rfl, _⟩ := h; rfl
  | iter => subst h; rfl
  | mapP => obtain ⟨_, _, _, rfl, _⟩ := h; rfl
/-- a step leaves them -/
theorem PinOK.step {pins : List Pin} {ρ ρ' : Rho} {s s' : S} {w w' : World} {L : List Nat} (h : PinOK pins ρ w) (hr : HRel ρ s.hp.get w) (hf : Fresh ρ s.nx) (st : StpS ρ s w ρ' s' w' L) : PinOK pins ρ' w' := fun p hp => by
  obtain ⟨⟨c, h1⟩, h2, h3⟩ := h p hp
  have hlt : p.nm < s.nx := by
    rcases Nat.lt_or_ge p.nm s.nx with h | h
    · exact h
    · rw [hf _ h] at h1; cases h1
  refine ⟨⟨c, by rw [st.rho _ hlt]; exact h1⟩, ?_, h3⟩
  rw [st.frame p.b (lt_of_get h2) fun nm c' hm hl he => ?_]
  · exact h2
  · obtain ⟨x, o1, _⟩ := st.own nm hm hl
    obtain ⟨b, c2, o, q1, q2, q3⟩ := hr.ok nm x o1
    rw [he] at q1
    simp only [Option.some.injEq, Prod.mk.injEq] at q1
    obtain ⟨rfl, rfl⟩ := q1
    rw [h2] at q2
    cases q2
    rw [q3.noIt] at h3; cases h3
structure Came (n : Nat) (K : List Nat) (pins : List Pin) (ρ0 : Rho) (s0 : S) (w0 : World) (s : S) (a : Act) (w : World) : Prop where
  it : ∃ ρ L, AbsN s0 s L ∧ (∀ nm ∈ K, nm ∉ L) ∧ Rel n ρ s a w ∧ StpS ρ0 s0 w0 ρ s w L ∧ PinOK pins ρ w

theorem Came.top {n : Nat} {K : List Nat} {pins : List Pin} {ρ0 : Rho} {s0 s : S} {w0 w : World} {a : Act} (h : Came n K pins ρ0 s0 w0 s a w) : Top s := by
  obtain ⟨_, _, h1, _⟩ := h.it; exact h1.top

theorem pinOK_ok {k0 : Nat} {ord : List Nat} : ∀ {l : List Nat}, pinOK k0 ord l = true → ∀ q ∈ l, invN k0 ord q = some q
  | [], _, _, h => by cases h
  | x :: l, h, q, hq => by
    simp only [pinOK, Bool.and_eq_true] at h
    rcases List.mem_cons.1 hq with rfl | hq
    · have := h.1
      split at this
      · rename_i m e; rw [e, Nat.eq_of_beq_eq_true this]
      · cases this
    · exact pinOK_ok h.2 q hq
theorem Came.gc {n : Nat} {K keep ord pn : List Nat} {pins : List Pin} {ρ0 : Rho} {s0 s s' : S} {w0 w : World} {a : Act} (hr0 : HRel ρ0 s0.hp.get w0) (hf0 : Fresh ρ0 s0.nx) (h : Came n K pins ρ0 s0 w0 s a w) (hpn : pins.map Pin.nm = pn)
    (hg : gcS s0.nx K pn keep n ord s = some s') : Came n K pins ρ0 s0 w0 s' a w := by
  obtain ⟨ρ, L, ab, hK, R, st, hpin⟩ := h.it
  unfold gcS at hg
  split at hg <;> try (cases hg; done)
  rename_i hok
  split at hg <;> try (cases hg; done)
  rename_i sl hsl
  split at hg <;> try (cases hg; done)
  rename_i hp hhp
  simp only [Option.some.injEq] at hg
  subst hg
  rw [Bool.and_eq_true] at hok
  obtain ⟨hok, hpok⟩ := hok
  obtain ⟨hnd, hge⟩ := okOrd_ok hok
  let k0 := s0.nx
  let ρ' : Rho := fun m => if m < k0 then ρ m else match ord[m - k0]? with | some nm => ρ nm | none => none
  have hinv : ∀ nm m, invN s0.nx ord nm = some m → ρ' m = ρ nm := fun nm m hm => by
    unfold invN at hm
    show (if m < s0.nx then ρ m else match ord[m - s0.nx]? with | some nm => ρ nm | none => none) = ρ nm
    split at hm
    · rename_i hlt
      simp only [Option.some.injEq] at hm; subst hm
      rw [if_pos hlt]
    · obtain ⟨g1, g2⟩ := idxN_ok hm
      rw [if_neg (by omega), g2]
  have hnod : (((srcO s0.nx K s0.nx) ++ srcN ord s0.nx).map (·.1)).Nodup := by
    rw [List.map_append, List.nodup_append]
    refine ⟨srcO_fst, srcN_fst, fun a ha b hb e => ?_⟩
    obtain ⟨⟨a1, b1, r1⟩, h1, h2⟩ := List.mem_map.1 ha
    obtain ⟨⟨a2, b2, r2⟩, h3, h4⟩ := List.mem_map.1 hb
    have q1 := (mem_srcO.1 h1).1
    have q2 := (mem_srcN.1 h3).2.1
    simp only at h2 h4
    omega
  obtain ⟨g1, g2⟩ := gcT_ok hnod hhp
  -- what stands behind a name that is kept
  have hsrc : ∀ j y, hp.get j = some y → (j < s0.nx ∧ ∃ x, s.hp.get j = some x ∧ (if K.contains j then y = x else invB (invN s0.nx ord) x = some y)) ∨ (s0.nx ≤ j ∧ ∃ nm x, ord[j - s0.nx]? = some nm ∧ s.hp.get nm = some x ∧ invB (invN s0.nx ord) x = some y) := fun j y hy => by
    by_cases hj : j < s0.nx
    · left
      have := g2 j j (K.contains j) (List.mem_append.2 (.inl (mem_srcO.2 ⟨hj, rfl, rfl⟩)))
      cases hx : s.hp.get j with
      | none => rw [hx] at this; simp only at this; rw [hy, T.get_nil] at this; cases this
      | some x =>
        rw [hx] at this
        obtain ⟨y', e1, e2⟩ := this
        rw [hy] at e1
        cases e1
        exact ⟨hj, x, rfl, e2⟩
    · right
      cases ho : ord[j - s0.nx]? with
      | none =>
        have := g1 j fun b raw hm => by
          rcases List.mem_append.1 hm with hm | hm
          · exact hj (mem_srcO.1 hm).1
          · rw [(mem_srcN.1 hm).2.2] at ho; cases ho
        rw [hy, T.get_nil] at this; cases this
      | some nm =>
        have := g2 j nm false (List.mem_append.2 (.inr (mem_srcN.2 ⟨rfl, by omega, ho⟩)))
        cases hx : s.hp.get nm with
        | none => rw [hx] at this; simp only at this; rw [hy, T.get_nil] at this; cases this
        | some x =>
          rw [hx] at this
          obtain ⟨y', e1, e2⟩ := this
          rw [hy] at e1
          cases e1
          exact ⟨by omega, nm, x, rfl, hx, by simpa using e2⟩
  have hρlt : ∀ m, m < s0.nx → ρ' m = ρ m := fun m hm => by show (if m < s0.nx then ρ m else _) = ρ m; rw [if_pos hm]
  have hρge : ∀ m nm, s0.nx ≤ m → ord[m - s0.nx]? = some nm → ρ' m = ρ nm := fun m nm hm ho => by
    show (if m < s0.nx then ρ m else match ord[m - s0.nx]? with | some nm => ρ nm | none => none) = ρ nm
    rw [if_neg (by omega), ho]
  have hsub0 : Sub ρ0 ρ' := fun nm b hb => by
    rcases Nat.lt_or_ge nm s0.nx with h1 | h1
    · rw [hρlt nm h1, st.rho nm h1]; exact hb
    · rw [hf0 nm h1] at hb; cases hb
  -- the elder name of a block that is kept, and what it is
  have hold : ∀ j y, hp.get j = some y → ∃ nm x, s.hp.get nm = some x ∧ ρ' j = ρ nm ∧ x.wr = y.wr ∧ (∀ b c o, ρ nm = some (b, c) → w.heap[b]? = some o → BlkR ρ c x o → BlkR ρ' c y o) ∧ (j < s0.nx ∧ nm = j ∨ s0.nx ≤ j ∧ ord[j - s0.nx]? = some nm) := fun j y hy => by
    have hwr : ∀ x y, invB (invN s0.nx ord) x = some y → x.wr = y.wr := fun x y hxy => by
      cases x with
      | row t ro o b =>
        cases b with
        | cells l =>
          simp only [invB] at hxy
          split at hxy <;> try (cases hxy; done)
          simp only [Option.some.injEq] at hxy; subst hxy; rfl
        | ints => simp only [invB, Option.some.injEq] at hxy; subst hxy; rfl
      | map es =>
        simp only [invB] at hxy
        split at hxy <;> try (cases hxy; done)
        simp only [Option.some.injEq] at hxy; subst hxy; rfl
      | win => simp only [invB, Option.some.injEq] at hxy; subst hxy; rfl
      | mapI => simp only [invB, Option.some.injEq] at hxy; subst hxy; rfl
      | iter => simp only [invB, Option.some.injEq] at hxy; subst hxy; rfl
      | mapP es =>
        simp only [invB] at hxy
        split at hxy <;> try (cases hxy; done)
        simp only [Option.some.injEq] at hxy; subst hxy; rfl
      | loop =>
        simp only [invB] at hxy
        split at hxy <;> try (cases hxy; done)
        simp only [Option.some.injEq] at hxy; subst hxy; rfl
      | mapR es =>
        simp only [invB] at hxy
        split at hxy <;> try (cases hxy; done)
        simp only [Option.some.injEq] at hxy; subst hxy; rfl
    rcases hsrc j y hy with ⟨hj, x, hx, hxy⟩ | ⟨hj, nm, x, ho, hx, hxy⟩
    · refine ⟨j, x, hx, hρlt j hj, ?_, fun b c o hb ho hB => ?_, .inl ⟨hj, rfl⟩⟩
      · split at hxy
        · rw [hxy]
        · exact hwr _ _ hxy
      · split at hxy
        · rename_i hc
          subst hxy
          have hjK : j ∈ K := by simpa using hc
          have hjL : j ∉ L := hK j hjK
          have hx0 : s0.hp.get j = some y := by rw [← ab.keep j hj hjL]; exact hx
          obtain ⟨b0, c0, o0, e1, e2, e3⟩ := hr0.ok j y hx0
          have hb' : ρ0 j = some (b, c) := by rw [← st.rho j hj]; exact hb
          rw [e1] at hb'
          simp only [Option.some.injEq, Prod.mk.injEq] at hb'
          obtain ⟨rfl, rfl⟩ := hb'
          have := st.frame b0 (lt_of_get e2) fun nm c hm hlt he => by
            obtain ⟨x1, q1, q2⟩ := st.own nm hm hlt
            exact hjL (hr0.inj nm j x1 y b0 c c0 q1 hx0 q2 he e1 ▸ hm)
          rw [this, e2] at ho
          cases ho
          exact e3.mono hsub0
        · exact hB.inv hinv hxy
    · exact ⟨nm, x, hx, hρge j nm hj ho, hwr _ _ hxy, fun b c o _ _ hB => hB.inv hinv hxy, .inr ⟨hj, ho⟩⟩
  refine ⟨ρ', L.filter (fun nm => decide (nm < s0.nx)), ⟨Nat.le_add_right _ _, fun nm h1 h2 => ?_, fun nm hn => ?_, fun nm hn => ?_⟩, fun nm hn hm => hK nm hn (List.mem_filter.1 hm).1, ⟨R.sz, R.df, fun j => ?_, ⟨fun j y hy => ?_, fun j j' y y' b c c' hy hy' hw e1 e2 => ?_⟩, fun m hm => ?_⟩,
    ⟨Nat.le_add_right _ _, fun nm h1 => ?_, fun nm h1 h2 => ?_, st.size, fun b hb hL => st.frame b hb fun nm c hm hlt => hL nm c (List.mem_filter.2 ⟨hm, by simpa using hlt⟩) hlt, fun m b c hm he => ?_, fun nm hm hlt => st.own nm (List.mem_filter.1 hm).1 hlt, st.os, st.tape, st.out⟩, fun p hp => ?_⟩
  · have hL : nm ∉ L := fun hm => h2 (List.mem_filter.2 ⟨hm, by simpa using h1⟩)
    show hp.get nm = s0.hp.get nm
    have hk := ab.keep nm h1 hL
    have := g2 nm nm (K.contains nm) (List.mem_append.2 (.inl (mem_srcO.2 ⟨h1, rfl, rfl⟩)))
    cases hx : s0.hp.get nm with
    | none => rw [hk, hx] at this; simp only at this; rw [this, T.get_nil]
    | some x =>
      rw [hk, hx] at this
      obtain ⟨y, e1, e2⟩ := this
      rw [e1]
      split at e2
      · rw [e2]
      · obtain ⟨b, c, o, q1, q2, q3⟩ := hr0.ok nm x hx
        have := q3.fix (f := invN s0.nx ord) hf0 (fun m hm => by unfold invN; rw [if_pos hm])
        rw [this] at e2
        exact e2.symm
  · show hp.get nm = none
    have hn' : s0.nx + ord.length ≤ nm := hn
    cases hy : hp.get nm with
    | none => rfl
    | some y =>
      rcases hsrc nm y hy with ⟨hj, _⟩ | ⟨_, _, _, ho, _⟩
      · omega
      · have := List.getElem?_eq_none (l := ord) (i := nm - s0.nx) (by omega)
        rw [this] at ho; cases ho
  · have := (List.mem_filter.1 hn).2
    have h3 : nm < s0.nx := by simpa using this
    show nm < s0.nx + ord.length
    omega
  · have := R.sl j
    have hs := gcSl_ok hsl j
    unfold slot at this ⊢
    by_cases hj : j < n
    · rw [if_pos hj] at this hs ⊢
      obtain ⟨v, e1, e2⟩ := hs
      show RVR ρ' ((sl.get j).getD und) _
      rw [e1]
      simp only [Option.getD_some]
      rcases e2 with rfl | e2
      · trivial
      · exact this.inv hinv e2
    · rw [if_neg hj] at this ⊢
      exact this.inv hinv rfl
  · obtain ⟨nm, x, q1, q2, _, q4, _⟩ := hold j y hy
    obtain ⟨b, c, o, e1, e2, e3⟩ := R.hp.ok nm x q1
    exact ⟨b, c, o, by rw [q2]; exact e1, e2, q4 b c o e1 e2 e3⟩
  · obtain ⟨nm, x, q1, q2, q3, _, q5⟩ := hold j y hy
    obtain ⟨nm', x', q1', q2', q3', _, q5'⟩ := hold j' y' hy'
    have hnm : nm = nm' := R.hp.inj nm nm' x x' b c c' q1 q1' (by rw [q3]; exact hw) (by rw [← q2]; exact e1) (by rw [← q2']; exact e2)
    subst hnm
    rcases q5 with ⟨a1, a2⟩ | ⟨a1, a2⟩ <;> rcases q5' with ⟨b1, b2⟩ | ⟨b1, b2⟩
    · rw [← a2, ← b2]
    · have := hge nm (List.mem_of_getElem? b2); omega
    · have := hge nm (List.mem_of_getElem? a2); omega
    · obtain ⟨l1, r1⟩ := List.getElem?_eq_some_iff.1 a2
      obtain ⟨l2, r2⟩ := List.getElem?_eq_some_iff.1 b2
      have := nodup_at hnd l1 l2 (r1.trans r2.symm)
      omega
  · have hm' : s0.nx + ord.length ≤ m := hm
    show (if m < s0.nx then ρ m else match ord[m - s0.nx]? with | some nm => ρ nm | none => none) = none
    rw [if_neg (by omega), List.getElem?_eq_none (by omega)]
  · rw [hρlt nm h1]; exact st.rho nm h1
  · have hL : nm ∉ L := fun hm => h2 (List.mem_filter.2 ⟨hm, by simpa using h1⟩)
    show hp.get nm = s0.hp.get nm
    have hk := ab.keep nm h1 hL
    have := g2 nm nm (K.contains nm) (List.mem_append.2 (.inl (mem_srcO.2 ⟨h1, rfl, rfl⟩)))
    cases hx : s0.hp.get nm with
    | none => rw [hk, hx] at this; simp only at this; rw [this, T.get_nil]
    | some x =>
      rw [hk, hx] at this
      obtain ⟨y, e1, e2⟩ := this
      rw [e1]
      split at e2
      · rw [e2]
      · obtain ⟨b, c, o, q1, q2, q3⟩ := hr0.ok nm x hx
        have := q3.fix (f := invN s0.nx ord) hf0 (fun m hm => by unfold invN; rw [if_pos hm])
        rw [this] at e2
        exact e2.symm
  · rcases Nat.lt_or_ge m s0.nx with h1 | h1
    · omega
    · have he' : (if m < s0.nx then ρ m else match ord[m - s0.nx]? with | some nm => ρ nm | none => none) = some (b, c) := he
      rw [if_neg (by omega)] at he'
      cases ho : ord[m - s0.nx]? with
      | none => rw [ho] at he'; cases he'
      | some nm =>
        rw [ho] at he'
        rcases st.new nm b c (hge nm (List.mem_of_getElem? ho)) he' with h | ⟨nm0, c0, q1, q2, q3⟩
        · exact .inl h
        · exact .inr ⟨nm0, c0, List.mem_filter.2 ⟨q1, by simpa using q2⟩, q2, q3⟩
  · obtain ⟨⟨c, p1⟩, p2, p3⟩ := hpin p hp
    exact ⟨⟨c, by rw [hinv _ _ (pinOK_ok hpok p.nm (by rw [← hpn]; exact List.mem_map_of_mem hp))]; exact p1⟩, p2, p3⟩
end Go.Sx

namespace Go.Sx
open Go.RowKit
variable {P : Program}
/-! ## The rules of triples out of one origin -/
def TO (P : Program) (n : Nat) (K pn : List Nat) (s0 : S) (c : Code) (s : S) (Q : X → S → Prop) : Prop := ∀ (ρ0 : Rho) (w0 : World), HRel ρ0 s0.hp.get w0 → Fresh ρ0 s0.nx → ∀ (pins : List Pin), pins.map Pin.nm = pn → ∀ (a : Act) (w : World), Came n K pins ρ0 s0 w0 s a w →
  WpY P c (fun e a' w' => ∃ x s', XR x e ∧ Q x s' ∧ Came n K pins ρ0 s0 w0 s' a' w') a w

theorem TO.mono {n : Nat} {K pn : List Nat} {s0 : S} {c : Code} {s : S} {Q Q' : X → S → Prop} (h : TO P n K pn s0 c s Q) (hq : ∀ x s', Q x s' → Q' x s') : TO P n K pn s0 c s Q' := fun ρ0 w0 hr hf pins hpn a w C =>
  (h ρ0 w0 hr hf pins hpn a w C).mono fun _ _ _ ⟨x, s', h1, h2, h3⟩ => ⟨x, s', h1, hq _ _ h2, h3⟩

theorem TO.gc {n : Nat} {K pn : List Nat} {s0 : S} {c : Code} {s : S} {Q : X → S → Prop} (keep ord : List Nat) (h : TO P n K pn s0 c s fun x s1 => ∃ s2, gcS s0.nx K pn keep n ord s1 = some s2 ∧ Q x s2) : TO P n K pn s0 c s Q := fun ρ0 w0 hr hf pins hpn a w C =>
  (h ρ0 w0 hr hf pins hpn a w C).mono fun _ _ _ ⟨x, _, h1, ⟨s2, h2, h3⟩, h4⟩ => ⟨x, s2, h1, h3, h4.gc hr hf hpn h2⟩

noncomputable def gcP (k0 : Nat) (K pn keep : List Nat) (n : Nat) (ord : List Nat) (x : X) (s' : S) (α : A) : Option (X × Bool × S × List Prop) := match gcS k0 K pn keep n ord s' with | some g => some (x, K.all (fun nm => !s'.lg.contains nm), g, α.ob) | none => none
noncomputable def gcE (k0 : Nat) (K pn keep : List Nat) (n : Nat) (ord : List Nat) (s' : S) : Option (Bool × S) := match gcS k0 K pn keep n ord s' with | some g => some (K.all (fun nm => !s'.lg.contains nm), g) | none => none
def lgE (K : List Nat) (s' : S) : Option (Bool × S) := some (K.all (fun nm => !s'.lg.contains nm), s')
theorem TO.path {Sg : FuncId → Option SumA} (F : Fit P (fun f => (Sg f).map toSum)) {fuel n : Nat} {K pn : List Nat} {s0 : S} {c : Code} {s : S} {o : List (Nat × Bool)} {keep ord : List Nat} {x : X} {g : S} {ps : List Prop} {k0 : Nat} (hk0 : s0.nx = k0)
    (h : execA P Sg fuel n c s ⟨0, o, []⟩ (gcP k0 K pn keep n ord) = some (x, true, g, ps)) (hp : All ps) {Q : X → S → Prop} (hq : Q x g) : TO P n K pn s0 c s Q := fun ρ0 w0 hr hf pins hpn a w C => by
  obtain ⟨ρ, L0, ab0, hK0, R, st0, hp0⟩ := C.it
  subst hk0
  obtain ⟨x1, s1, α', h1, h2⟩ := execA_ok Sg fuel _ _ _ _ _ _ h
  unfold gcP at h1
  split at h1 <;> try (cases h1; done)
  rename_i g' hg
  simp only [Option.some.injEq, Prod.mk.injEq] at h1
  obtain ⟨rfl, hk, rfl, rfl⟩ := h1
  have h3 := (h2 hp).2 (X × S) (fun x s => some (x, s))
  obtain ⟨x2, s2, L, m, h4, ab, hw⟩ := exec_sound F.ng F.mixed F.sums fuel _ _ _ _ _ ab0.top h3
  simp only [Option.some.injEq, Prod.mk.injEq] at h4
  obtain ⟨rfl, rfl⟩ := h4
  refine (hw ρ a w R).y.mono fun e a' w' ⟨hx, ρ', R', st⟩ => ⟨_, g', hx, hq, Came.gc hr hf (s := s2) ⟨ρ', L ++ L0, ab0.trans ab.n, fun nm hn hm => ?_, R', st0.trans st, hp0.step R.hp R.fresh st⟩ hpn hg⟩
  rcases List.mem_append.1 hm with hm | hm
  · have := List.all_eq_true.1 hk nm hn
    rw [ab.lg] at this
    simp only [List.contains_eq_mem, List.mem_append, hm, true_or, decide_true, Bool.not_true] at this
    cases this
  · exact hK0 nm hn hm

/-- behind a piece -/
def ThenO (P : Program) (n : Nat) (K pn : List Nat) (s0 : S) (Q : X → S → Prop) (c : Code) : X → S → Prop := fun x s1 => match x with
  | .normal => TO P n K pn s0 c s1 Q
  | x => Q x s1

theorem TO.seq {n : Nat} {K pn : List Nat} {s0 : S} {c d : Code} {s : S} {Q : X → S → Prop} (h : TO P n K pn s0 c s (ThenO P n K pn s0 Q d)) : TO P n K pn s0 (.seq c d) s Q := fun ρ0 w0 hr hf pins hpn a w C => by
  refine wp_seq (wp_mono (h ρ0 w0 hr hf pins hpn a w C).wp fun e a' w' ⟨x, s', h1, h2, h3⟩ => ?_)
  cases x with
  | normal => cases e <;> simp only [XR] at h1; exact (h2 ρ0 w0 hr hf pins hpn a' w' h3).wp
  | exit id => cases e <;> simp only [XR] at h1; subst h1; exact ⟨X.exit _, s', rfl, h2, h3⟩
  | ret => cases e <;> simp only [XR] at h1; exact ⟨.ret, s', trivial, h2, h3⟩

theorem TO.block {n id : Nat} {K pn : List Nat} {s0 : S} {c : Code} {s : S} {Q : X → S → Prop} (h : TO P n K pn s0 c s fun x s' => match x with | .exit j => if j = id then Q .normal s' else Q (.exit j) s' | x => Q x s') : TO P n K pn s0 (.block id c) s Q := fun ρ0 w0 hr hf pins hpn a w C => by
  refine wp_block (wp_mono (h ρ0 w0 hr hf pins hpn a w C).wp fun e a' w' ⟨x, s', h1, h2, h3⟩ => ?_)
  cases x with
  | normal => cases e <;> simp only [XR] at h1; exact ⟨.normal, s', trivial, h2, h3⟩
  | ret => cases e <;> simp only [XR] at h1; exact ⟨.ret, s', trivial, h2, h3⟩
  | exit j =>
    cases e <;> simp only [XR] at h1
    subst h1
    simp only at h2
    by_cases hj : j = id
    · rw [if_pos hj] at h2
      simp only [Exit.inBlock, hj, if_true]
      exact ⟨.normal, s', trivial, h2, h3⟩
    · rw [if_neg hj] at h2
      simp only [Exit.inBlock, hj, if_false]
      exact ⟨.exit j, s', rfl, h2, h3⟩

theorem TO.cond {n : Nat} {K pn : List Nat} {s0 : S} {o : Operand} {c d : Code} {s : S} {t : Bool} {Q : X → S → Prop} (he : eval n s.sl o = some (.one (.c (.bool t)))) (h1 : t = true → TO P n K pn s0 c s Q) (h2 : t = false → TO P n K pn s0 d s Q) : TO P n K pn s0 (.cond o c d) s Q := fun ρ0 w0 hr hf pins hpn a w C => by
  obtain ⟨ρ, _, _, _, R, _, _⟩ := C.it
  have e : a.eval o = .bool t := eval_ok (ρ := ρ) (n := n) (sl := s.sl) (a := a) (x := o) (fun t _ => R.sl t) _ he
  cases t with
  | true => exact wp_cond_true e (h1 rfl ρ0 w0 hr hf pins hpn a w C).wp
  | false => exact wp_cond_false e (h2 rfl ρ0 w0 hr hf pins hpn a w C).wp

/-- one round more -/
theorem TO.loop {n : Nat} {K pn : List Nat} {s0 : S} {c : Code} {s : S} {Q : X → S → Prop} (h : TO P n K pn s0 c s (ThenO P n K pn s0 Q (.loop c))) : TO P n K pn s0 (.loop c) s Q := fun ρ0 w0 hr hf pins hpn a w C => by
  refine LoopFrom.open (wp_mono (h ρ0 w0 hr hf pins hpn a w C).wp fun e a' w' ⟨x, s', h1, h2, h3⟩ => ?_)
  cases x with
  | normal => cases e <;> simp only [XR] at h1; exact h2 ρ0 w0 hr hf pins hpn a' w' h3
  | exit id => cases e <;> simp only [XR] at h1; subst h1; exact ⟨X.exit _, s', rfl, h2, h3⟩
  | ret => cases e <;> simp only [XR] at h1; exact ⟨.ret, s', trivial, h2, h3⟩

/-! ## Contracts over a few blocks, names 0 .. k-1: what is there behind, and k' - k new blocks -/
def SmallN (P : Program) (f : FuncId) (args : List RV) (k : Nat) (hs : T Blk) (k' : Nat) (hs' : T Blk) (v : RV) : Prop :=
  ∀ (ρ : Rho) (w : World) (vs : List Value), HRel ρ hs.get w → Fresh ρ k → ArgsR ρ args vs → Calls P f vs.toArray w fun e w' =>
    ∃ V ρ' L, e = .returned V ∧ RVR ρ' v V ∧ HRel ρ' hs'.get w' ∧ Fresh ρ' k' ∧ Stp ρ hs.get k w ρ' hs'.get k' w' L

theorem TO.smallN {g : FuncId} {fn : Func} {c : Code} (hf : P.funcs[g]? = some fn) (hb : fn.body = some c) {args : List RV} {sl : T RV} {v : RV} {k k' : Nat} {hs hs' : T Blk} (K : List Nat) (htop : Top ⟨.nil, hs, k, []⟩)
    (hset : setArgs fn.ntmps args 0 .nil some = some sl)
    (h : TO P fn.ntmps K [] ⟨sl, hs, k, []⟩ c ⟨sl, hs, k, []⟩ fun x s1 => (x = .normal ∨ x = .ret) ∧ ∃ l, resOf P fn.ntmps s1 fn.results.toList = some l ∧ (resRV l = v ∧ s1.hp = hs' ∧ s1.nx = k')) : SmallN P g args k hs k' hs' v := by
  intro ρ w vs hr hfr ha
  obtain ⟨sl', h1, h2, h3⟩ := setArgs_ok hset
  cases h1
  obtain ⟨len, hget⟩ := ha.get
  have R0 : Rel fn.ntmps ρ ⟨sl, hs, k, []⟩ { tmps := vs.toArray ++ Array.replicate (fn.ntmps - vs.toArray.size) undef, defers := [] } w := by
    have hle : vs.length ≤ fn.ntmps := by
      rcases h3 with rfl | h3
      · simp at len; rw [len]; simp
      · omega
    refine ⟨by simp; omega, rfl, fun t => ?_, hr, hfr⟩
    unfold slot
    simp only
    rw [h2]
    simp only [Nat.zero_le, true_and, Nat.zero_add, Nat.sub_zero, T.get_nil]
    by_cases hlt : t < args.length
    · have hlt' : t < vs.length := by omega
      rw [if_pos (show t < fn.ntmps by omega), if_pos hlt]
      obtain ⟨V, e1, e2⟩ := hget t args[t] (List.getElem?_eq_getElem hlt)
      rw [List.getElem?_eq_getElem hlt]
      have : (vs.toArray ++ Array.replicate (fn.ntmps - vs.toArray.size) undef).getD t undef = V := by
        rw [Array.getD_eq_getD_getElem?, Array.getElem?_append_left (by simpa using hlt')]
        simp [e1]
      rw [this]
      exact e2
    · rw [if_neg hlt]
      have : (vs.toArray ++ Array.replicate (fn.ntmps - vs.toArray.size) undef).getD t undef = undef := by
        rw [Array.getD_eq_getD_getElem?, Array.getElem?_append_right (by simp; omega)]
        rw [Array.getElem?_replicate]
        split <;> rfl
      rw [this]
      simp only [ite_self, Option.getD_none]
      exact und_ok
  refine calls_of_wp hf hb ?_
  have C0 : Came fn.ntmps K [] ρ ⟨sl, hs, k, []⟩ w ⟨sl, hs, k, []⟩ { tmps := vs.toArray ++ Array.replicate (fn.ntmps - vs.toArray.size) undef, defers := [] } w :=
    ⟨ρ, [], ⟨Nat.le_refl _, fun _ _ _ => rfl, htop, fun _ h => absurd h List.not_mem_nil⟩, fun _ _ => List.not_mem_nil, R0, Stp.refl hfr, fun _ hp => absurd hp List.not_mem_nil⟩
  refine wp_mono (h ρ w hr hfr [] rfl _ w C0).wp fun e a' w' ⟨x, s1, hx, ⟨hx2, l, hl, hv, hh, hk⟩, C⟩ => ?_
  obtain ⟨ρ', L, ab, _, R', st, _⟩ := C.it
  obtain ⟨V, v1, v2⟩ := results_ok R' hl
  have fin : a'.defers = [] ∧ ∃ v', (results fn a'.tmps).run P w' = .ok v' w' ∧ ∃ V ρ' L, Ending.returned v' = .returned V ∧ RVR ρ' v V ∧ HRel ρ' hs'.get w' ∧ Fresh ρ' k' ∧ Stp ρ hs.get k w ρ' hs'.get k' w' L := by
    subst hh hk hv
    exact ⟨R'.df, V, v2, V, ρ', L, rfl, v1, R'.hp, R'.fresh, st⟩
  rcases hx2 with rfl | rfl
  · cases e <;> simp only [XR] at hx
    exact fin
  · cases e <;> simp only [XR] at hx
    exact fin

theorem CallInfo.frameN {f : FuncId} {args : List RV} {v : RV} {k k' : Nat} {hs hs' : T Blk} {θ : Nat → Nat} {s : S} {hp' : T Blk} {Lw : List Nat} (ht : Top s) (hfn : ∃ fn, P.funcs[f]? = some fn ∧ fn.body.isNone = false)
    (hC : SmallN P f args k hs k' hs' v) (hkk : k ≤ k') (ha : args.all (inR k) = true)
    (hin : ∀ i x, hs.get i = some x → i < k ∧ θ i < s.nx ∧ ((x.wr = true ∧ inB k x = true ∧ s.hp.get (θ i) = some (renB θ x)) ∨ (x.wr = false ∧ ∃ y, s.hp.get (θ i) = some y ∧ RoOf k θ x y)))
    (hinj : ∀ i j x y, hs.get i = some x → hs.get j = some y → x.wr = true → θ i = θ j → i = j)
    (hθ : ∀ i, k ≤ i → θ i = s.nx + (i - k))
    (hout : ∀ nm, nm < s.nx → (∀ i x, hs.get i = some x → x.wr = true → θ i ≠ nm) → hp'.get nm = s.hp.get nm)
    (hall : ∀ i x, hs.get i = some x → x.wr = true → hp'.get (θ i) = (hs'.get i).map (renB θ))
    (hnew : ∀ nm, s.nx ≤ nm → hp'.get nm = if nm < s.nx + (k' - k) then (hs'.get (nm - s.nx + k)).map (renB θ) else none)
    (hL : ∀ nm, nm ∈ Lw ↔ ∃ i x, hs.get i = some x ∧ x.wr = true ∧ θ i = nm) :
    CallInfo P f (args.map (renR θ)) s (renR θ v) { s with hp := hp', nx := s.nx + (k' - k), lg := Lw ++ s.lg } Lw := by
  have hlt : ∀ nm, nm ∈ Lw → nm < s.nx := fun nm h => by
    obtain ⟨i, x, h1, _, rfl⟩ := (hL nm).1 h
    exact (hin i x h1).2.1
  have hkeep : ∀ nm, nm < s.nx → nm ∉ Lw → hp'.get nm = s.hp.get nm := fun nm h1 h => hout nm h1 fun i x h2 h3 h4 => h ((hL nm).2 ⟨i, x, h2, h3, h4⟩)
  refine ⟨hfn, rfl, ⟨rfl, Nat.le_add_right _ _, hkeep, fun nm hn => ?_, fun nm h => Nat.lt_of_lt_of_le (hlt nm h) (Nat.le_add_right _ _)⟩, fun ρ w vs hr hf ha' => ?_⟩
  · have hn' : s.nx + (k' - k) ≤ nm := hn
    show hp'.get nm = none
    rw [hnew nm (by omega), if_neg (by omega)]
  have hr0 : HRel (rho0 k θ ρ) hs.get w := ⟨fun i x hx => by
      obtain ⟨g1, _, g2⟩ := hin i x hx
      rcases g2 with ⟨_, g3, g5⟩ | ⟨_, y, g5, _, g6⟩
      · obtain ⟨b, c, o, e1, e2, e3⟩ := hr.ok _ _ g5
        exact ⟨b, c, o, by rw [rho0, if_pos g1]; exact e1, e2, e3.small g3⟩
      · obtain ⟨b, c, o, e1, e2, e3⟩ := hr.ok _ _ g5
        exact ⟨b, c, o, by rw [rho0, if_pos g1]; exact e1, e2, g6 _ _ _ e3⟩,
    fun i j x y b c c' hx hy hw e1 e2 => by
      obtain ⟨g1, _, g2⟩ := hin i x hx
      obtain ⟨j1, _, j2⟩ := hin j y hy
      rw [rho0, if_pos g1] at e1
      rw [rho0, if_pos j1] at e2
      rcases g2 with ⟨g3, _, g5⟩ | ⟨g3, _⟩
      · rcases j2 with ⟨_, _, j5⟩ | ⟨_, y', j5, _⟩
        · exact hinj i j x y hx hy hw (hr.inj _ _ _ _ b c c' g5 j5 (by rw [renB_wr]; exact hw) e1 e2)
        · exact hinj i j x y hx hy hw (hr.inj _ _ _ _ b c c' g5 j5 (by rw [renB_wr]; exact hw) e1 e2)
      · rw [g3] at hw; cases hw⟩
  have hf0 : Fresh (rho0 k θ ρ) k := fun nm h => by rw [rho0, if_neg (by omega)]
  refine (hC _ w vs hr0 hf0 (ha'.small ha)).mono fun e w' ⟨V, ρ', L, e1, e2, e3, e4, st⟩ => ?_
  -- the names behind the call
  let ρF : Rho := fun nm => if nm < s.nx then ρ nm else if nm < s.nx + (k' - k) then ρ' (nm - s.nx + k) else none
  have hFlt : ∀ nm, nm < s.nx → ρF nm = ρ nm := fun nm h => by show (if nm < s.nx then ρ nm else _) = ρ nm; rw [if_pos h]
  have hFge : ∀ nm, s.nx ≤ nm → nm < s.nx + (k' - k) → ρF nm = ρ' (nm - s.nx + k) := fun nm h h2 => by
    show (if nm < s.nx then ρ nm else if nm < s.nx + (k' - k) then ρ' (nm - s.nx + k) else none) = _
    rw [if_neg (by omega), if_pos h2]
  have hFtop : ∀ nm, s.nx + (k' - k) ≤ nm → ρF nm = none := fun nm h => by
    show (if nm < s.nx then ρ nm else if nm < s.nx + (k' - k) then ρ' (nm - s.nx + k) else none) = _
    rw [if_neg (by omega), if_neg (by omega)]
  have hlow : ∀ i, i < k → ρ' i = ρ (θ i) := fun i hi => by rw [st.rho i hi, rho0, if_pos hi]
  have hup : ∀ nm b, ρ' nm = some b → ρF (θ nm) = some b := fun nm b hb => by
    rcases Nat.lt_or_ge nm k with h | h
    · rw [hlow nm h] at hb
      have : θ nm < s.nx := by
        rcases Nat.lt_or_ge (θ nm) s.nx with h' | h'
        · exact h'
        · rw [hf _ h'] at hb; cases hb
      rw [hFlt _ this]; exact hb
    · have hk' : nm < k' := by
        rcases Nat.lt_or_ge nm k' with h' | h'
        · exact h'
        · rw [e4 nm h'] at hb; cases hb
      rw [hθ nm h, hFge _ (by omega) (by omega), show s.nx + (nm - k) - s.nx + k = nm by omega]; exact hb
  -- the small name behind a name, if it is one of the few's
  have hsm : ∀ i x, hs'.get i = some x → i < k → ∃ x0, hs.get i = some x0 := fun i x hx hi => by
    by_cases hm : i ∈ L
    · obtain ⟨x0, o1, _⟩ := st.own i hm hi; exact ⟨x0, o1⟩
    · exact ⟨x, by rw [← st.keep i hi hm]; exact hx⟩
  have hwr' : ∀ i x0 x, i < k → hs.get i = some x0 → hs'.get i = some x → x0.wr = false → x = x0 ∧ i ∉ L := fun i x0 x hi h0 h1 hw => by
    by_cases hm : i ∈ L
    · obtain ⟨x2, o1, o2⟩ := st.own i hm hi
      rw [h0] at o1; cases o1; rw [hw] at o2; cases o2
    · rw [st.keep i hi hm, h0] at h1
      exact ⟨by cases h1; rfl, hm⟩
  -- an old block that is none of those that may be turned is as it was
  have hold : ∀ nm y, nm < s.nx → (∀ i x, hs.get i = some x → x.wr = true → θ i ≠ nm) → s.hp.get nm = some y → ∀ b c, ρ nm = some (b, c) → ∀ nm0 c0, nm0 ∈ L → nm0 < k → rho0 k θ ρ nm0 ≠ some (b, c0) := fun nm y _ hno hy b c hb nm0 c0 hm hlt0 he => by
    obtain ⟨x0, o1, o2⟩ := st.own nm0 hm hlt0
    obtain ⟨_, _, g2⟩ := hin nm0 x0 o1
    rw [rho0, if_pos hlt0] at he
    rcases g2 with ⟨_, _, g5⟩ | ⟨g3, _⟩
    · exact hno nm0 x0 o1 o2 (hr.inj _ _ _ _ b c0 c g5 hy (by rw [renB_wr]; exact o2) he hb)
    · rw [g3] at o2; cases o2
  -- each name that is there behind: an old one that stands, or one of the few's
  have hcl : ∀ nm x, hp'.get nm = some x → (nm < s.nx ∧ (∀ i x, hs.get i = some x → x.wr = true → θ i ≠ nm) ∧ s.hp.get nm = some x) ∨ ∃ i y, hs'.get i = some y ∧ x = renB θ y ∧ θ i = nm ∧ (i < k → ∃ x0, hs.get i = some x0 ∧ x0.wr = true) ∧ (∀ b, ρF nm = some b → ρ' i = some b) := fun nm x hx => by
    rcases Nat.lt_or_ge nm s.nx with h | h
    · by_cases hc : ∃ i x0, hs.get i = some x0 ∧ x0.wr = true ∧ θ i = nm
      · obtain ⟨i, x0, g1, g2, rfl⟩ := hc
        rw [hall i x0 g1 g2] at hx
        cases hh : hs'.get i with
        | none => rw [hh] at hx; cases hx
        | some y =>
          rw [hh] at hx
          simp only [Option.map_some, Option.some.injEq] at hx
          have hik := (hin i x0 g1).1
          exact .inr ⟨i, y, hh, hx.symm, rfl, fun _ => ⟨x0, g1, g2⟩, fun b hb => by rw [hlow i hik, ← hFlt _ h]; exact hb⟩
      · have hno : ∀ i x, hs.get i = some x → x.wr = true → θ i ≠ nm := fun i x h1 h2 h3 => hc ⟨i, x, h1, h2, h3⟩
        rw [hout nm h hno] at hx
        exact .inl ⟨h, hno, hx⟩
    · rw [hnew nm h] at hx
      split at hx
      · rename_i h2
        cases hh : hs'.get (nm - s.nx + k) with
        | none => rw [hh] at hx; cases hx
        | some y =>
          rw [hh] at hx
          simp only [Option.map_some, Option.some.injEq] at hx
          exact .inr ⟨nm - s.nx + k, y, hh, hx.symm, by rw [hθ _ (by omega)]; omega, fun h => by omega, fun b hb => by rw [← hFge nm h h2]; exact hb⟩
      · cases hx
  -- an old block that stands, and one of the few's, are two
  have hap : ∀ nm y b c, nm < s.nx → (∀ i x, hs.get i = some x → x.wr = true → θ i ≠ nm) → s.hp.get nm = some y → ρ nm = some (b, c) → ∀ i c', (i < k → ∃ x0, hs.get i = some x0 ∧ x0.wr = true) → ρ' i = some (b, c') → False := fun nm y b c hnm hno hy hb i c' hik hi => by
    rcases Nat.lt_or_ge i k with h | h
    · obtain ⟨x0, g1, g2⟩ := hik h
      rw [hlow i h] at hi
      obtain ⟨_, _, g⟩ := hin i x0 g1
      rcases g with ⟨_, _, g5⟩ | ⟨g3, _⟩
      · exact hno i x0 g1 g2 (hr.inj _ _ _ _ b c' c g5 hy (by rw [renB_wr]; exact g2) hi hb)
      · rw [g3] at g2; cases g2
    · obtain ⟨b2, c2, o2, q1, q2, _⟩ := hr.ok nm y hy
      rw [hb] at q1
      simp only [Option.some.injEq, Prod.mk.injEq] at q1
      obtain ⟨rfl, rfl⟩ := q1
      rcases st.new i b c' h hi with h1 | ⟨nm0, c0, p1, p2, p3⟩
      · have := lt_of_get q2; omega
      · exact hold nm y hnm hno hy b c hb nm0 c0 p1 p2 p3
  refine ⟨V, ρF, e1, RVR.up hup e2, ⟨fun nm x hx => ?_, fun nm nm' x y b c c' hx hy hw h1 h2 => ?_⟩, fun nm h => hFtop nm h, ⟨Nat.le_add_right _ _, fun nm h => hFlt nm h, hkeep, st.size, fun b hb hLb => st.frame b hb fun nm0 c0 hm hlt0 he => ?_, fun nm b c h1 h2 => ?_, fun nm h1 _ => ?_, st.os, st.tape, st.out⟩⟩
  · rcases hcl nm x hx with ⟨h, hno, hs0⟩ | ⟨i, y, hy, rfl, rfl, _, _⟩
    · obtain ⟨b, c, o, q1, q2, q3⟩ := hr.ok nm x hs0
      refine ⟨b, c, o, by rw [hFlt nm h]; exact q1, by rw [st.frame b (lt_of_get q2) (hold nm x h hno hs0 b c q1)]; exact q2, q3.mono fun m b' hb' => ?_⟩
      rcases Nat.lt_or_ge m s.nx with h' | h'
      · rw [hFlt m h']; exact hb'
      · rw [hf m h'] at hb'; cases hb'
    · obtain ⟨b, c, o, q1, q2, q3⟩ := e3.ok i y hy
      exact ⟨b, c, o, hup _ _ q1, q2, BlkR.up hup q3⟩
  · have hx' : hp'.get nm = some x := hx
    have hy' : hp'.get nm' = some y := hy
    rcases hcl nm x hx' with ⟨a1, a2, a3⟩ | ⟨i, x1, a1, rfl, a3, a4, a5⟩ <;> rcases hcl nm' y hy' with ⟨b1, b2, b3⟩ | ⟨j, y1, b1, rfl, b3, b4, b5⟩
    · rw [hFlt nm a1] at h1
      rw [hFlt nm' b1] at h2
      exact hr.inj _ _ _ _ b c c' a3 b3 hw h1 h2
    · rw [hFlt nm a1] at h1
      exact (hap nm _ b c a1 a2 a3 h1 j c' b4 (b5 _ h2)).elim
    · rw [hFlt nm' b1] at h2
      exact (hap nm' _ b c' b1 b2 b3 h2 i c a4 (a5 _ h1)).elim
    · have := e3.inj i j x1 y1 b c c' a1 b1 (by rw [renB_wr] at hw; exact hw) (a5 _ h1) (b5 _ h2)
      subst this
      rw [← a3, ← b3]
  · obtain ⟨x0, o1, o2⟩ := st.own nm0 hm hlt0
    obtain ⟨_, g4, _⟩ := hin nm0 x0 o1
    rw [rho0, if_pos hlt0] at he
    exact hLb (θ nm0) c0 ((hL _).2 ⟨nm0, x0, o1, o2, rfl⟩) g4 he
  · rcases Nat.lt_or_ge nm (s.nx + (k' - k)) with h | h
    · rw [hFge nm h1 h] at h2
      rcases st.new _ b c (by omega) h2 with h3 | ⟨nm0, c0, p1, p2, p3⟩
      · exact .inl h3
      · obtain ⟨x0, o1, o2⟩ := st.own nm0 p1 p2
        rw [rho0, if_pos p2] at p3
        exact .inr ⟨θ nm0, c0, (hL _).2 ⟨nm0, x0, o1, o2, rfl⟩, (hin nm0 x0 o1).2.1, p3⟩
    · rw [hFtop nm h] at h2; cases h2
  · obtain ⟨i, x, g1, g2, rfl⟩ := (hL nm).1 h1
    obtain ⟨_, _, g⟩ := hin i x g1
    rcases g with ⟨_, _, g5⟩ | ⟨g3, _⟩
    · exact ⟨_, g5, by rw [renB_wr]; exact g2⟩
    · rw [g3] at g2; cases g2
end Go.Sx

namespace Go.Sx
open Go.RowKit
open Go.ChangeMaps (setBlock)
variable {P : Program}
/-! ## A range over a map: whatever the order -/
theorem upon_then {o : Oper} {a : Act} {next K : Act → World → Prop} {Q : Exit → Act → World → Prop} (r : Result Go.Next) (h : o.upon P a next (Exit.then K Q) r) : o.upon P a next Q r := by
  rcases r with ⟨x, w⟩ | ⟨x, w⟩
  · cases x <;> exact h
  · cases x <;> exact h
theorem wpList_append {ops : Array Oper} {Q : Exit → Act → World → Prop} {l2 : List Oper} : ∀ {l1 : List Oper} {a : Act} {w : World}, wpList P ops (Exit.then (wpList P ops Q l2) Q) l1 a w → wpList P ops Q (l1 ++ l2) a w
  | [], _, _, h => h
  | o :: l1, a, w, h => by
    show wpList P ops Q (o :: (l1 ++ l2)) a w
    unfold wpList at h ⊢
    split
    · rename_i hc
      rw [if_pos hc] at h
      rcases h with h | ⟨h1, h2⟩
      · exact .inl (upon_then _ (Oper.wp_mono (fun _ _ h => wpList_append h) h))
      · exact .inr ⟨h1, h2⟩
    · rename_i hc
      rw [if_neg hc] at h
      exact wpList_append h

theorem uponIn_then {F : Fence} {m : Nat} {o : Oper} {a : Act} {next K : Act → World → Prop} {Q : Exit → Act → World → Prop} (r : Result Go.Next) (h : o.uponIn F m P a next (Exit.then K Q) r) : o.uponIn F m P a next Q r := by
  rcases r with ⟨x, w⟩ | ⟨x, w⟩
  · cases x <;> exact h
  · cases x <;> exact h
theorem wpListIn_append {F : Fence} {m : Nat} {ops : Array Oper} {Q : Exit → Act → World → Prop} {l2 : List Oper} : ∀ {l1 : List Oper} {a : Act} {w : World}, wpListIn F m P ops (Exit.then (wpListIn F m P ops Q l2) Q) l1 a w → wpListIn F m P ops Q (l1 ++ l2) a w
  | [], _, _, h => h
  | o :: l1, a, w, h => by
    show wpListIn F m P ops Q (o :: (l1 ++ l2)) a w
    unfold wpListIn at h ⊢
    split
    · rename_i hc
      rw [if_pos hc] at h
      have h' := Oper.wpIn_mono (K' := wpListIn F m P ops Q (l1 ++ l2)) (fun _ _ h => wpListIn_append h) h
      exact ⟨h'.1, uponIn_then _ h'.2⟩
    · rename_i hc
      rw [if_neg hc] at h
      exact ⟨h.1, wpListIn_append h.2⟩

def call0 {β : Type} : CallF β := fun _ _ _ _ => none
theorem call0_ok {β : Type} : CallOK P (call0 : CallF β) := fun _ _ _ _ _ _ h => by cases h

noncomputable def putSl : List (Nat × RV) → T RV → Option (T RV)
  | [], t => some t
  | (i, v) :: l, t => T.set depth t i (some v) fun t => putSl l t
noncomputable def setS (l : List (Nat × RV)) (nx : Nat) (s : S) : Option S := match putSl l s.sl with | some t => some ⟨t, s.hp, nx, []⟩ | none => none

theorem Rel.put {n : Nat} {ρ : Rho} {s s' : S} {a : Act} {w : World} (R : Rel n ρ s a w) {d : Nat} {v : RV} {V : Value} (hd : d < n) (hv : RVR ρ v V) (hh : s'.hp = s.hp) (hn : s'.nx = s.nx) (hs : ∀ j, s'.sl.get j = if j = d then some v else s.sl.get j) : Rel n ρ s' (a.put (some d) V) w := by
  refine ⟨by rw [put_size]; exact R.sz, by rw [put_defers]; exact R.df, fun t => ?_, by rw [hh]; exact R.hp, by rw [hn]; exact R.fresh⟩
  rw [put_getD]
  by_cases e : t = d
  · subst e
    rw [if_pos ⟨rfl, by rw [R.sz]; exact hd⟩]
    unfold slot
    rw [if_pos hd, hs, if_pos rfl]
    exact hv
  · rw [if_neg (fun h => e (Option.some.inj h.1).symm)]
    have : slot n s'.sl t = slot n s.sl t := by unfold slot; rw [hs, if_neg e]
    rw [this]
    exact R.sl t

/-- the same state, but for slots -/
theorem Rel.same {n : Nat} {ρ : Rho} {s s' : S} {a : Act} {w : World} (R : Rel n ρ s a w) (hh : s'.hp = s.hp) (hn : s'.nx = s.nx) (hs : ∀ j, s'.sl.get j = s.sl.get j) : Rel n ρ s' a w :=
  ⟨R.sz, R.df, fun t => by have := R.sl t; unfold slot at this ⊢; rw [hs]; exact this, by rw [hh]; exact R.hp, by rw [hn]; exact R.fresh⟩

theorem heap_set' {w : World} {r : Nat} {o o' : Obj} (h : w.heap[r]? = some o) : (setBlock w r o').heap[r]? = some o' ∧ (∀ k, k ≠ r → (setBlock w r o').heap[k]? = w.heap[k]?) ∧ (setBlock w r o').heap.size = w.heap.size := by
  have hlt := lt_of_get h
  refine ⟨?_, fun k hk => ?_, ?_⟩
  · simp [setBlock, hlt]
  · simp only [setBlock]
    rw [Array.getElem?_setIfInBounds_ne (fun e => hk e.symm)]
  · simp [setBlock]

def rangeCode (iA : Nat) (opsA : Array Oper) (b jN : Nat) (oN oX : Oper) (d2 : Tmp) (cb jE : Nat) (opsE : Array Oper) (body : Code) : Code :=
  .seq (.region iA opsA false) (.block b (.loop (.seq (.region jN #[oN, oX] false) (.seq (.cond (.tmp d2) .skip (.exit b)) (.block cb (.seq (.region jE opsE false) body))))))

/-- what is asked of the operations' forms -/
structure RangeForm (n : Nat) (opsA : Array Oper) (pre : List Oper) (oR oN oX oE : Oper) (opsE : Array Oper) (restE : List Oper) (t : TypeId) (m it d1 d2 d3 : Tmp) : Prop where
  A : opsA.toList = pre ++ [oR]
  R : oR.op = .range t (.tmp m)
  Rd : oR.dst = some it
  Rg : oR.guard = none
  N : oN.op = .next (.tmp it) false
  Nd : oN.dst = some d1
  Ng : oN.guard = none
  X : oX.op = .extract (.tmp d1) 0
  Xd : oX.dst = some d2
  Xg : oX.guard = none
  E : opsE.toList = oE :: restE
  Eo : oE.op = .entry (.tmp it)
  Ed : oE.dst = some d3
  Eg : oE.guard = none
  lt : it < n ∧ d1 < n ∧ d2 < n ∧ d3 < n
  ne : it ≠ d1 ∧ it ≠ d2 ∧ d1 ≠ d2

theorem EsR.pairs {α : Type} {ρ : Rho} {enc : α → Cell × AV} : ∀ {l : List α} {es : List MapEntry}, EsR ρ (l.map enc) es → (l.zip es).map Prod.fst = l ∧ (l.zip es).map Prod.snd = es ∧ ∀ z ∈ l.zip es, CR ρ (enc z.1).1 z.2.key ∧ AVR ρ (enc z.1).2 z.2.val
  | [], es, h => by simp only [List.map_nil, EsR] at h; subst h; exact ⟨rfl, rfl, fun z hz => by cases hz⟩
  | x :: l, es, h => by
    obtain ⟨e, es', h1, h2, h3, rfl⟩ := h
    obtain ⟨g1, g2, g3⟩ := EsR.pairs h3
    refine ⟨by simp [g1], by simp [g2], fun z hz => ?_⟩
    simp only [List.zip_cons_cons, List.mem_cons] at hz
    rcases hz with rfl | hz
    · exact ⟨h1, h2⟩
    · exact g3 z hz

/-- what K names is as it was at the origin -/
theorem Came.kept {n : Nat} {K : List Nat} {pins : List Pin} {ρ0 : Rho} {s0 s : S} {w0 w : World} {a : Act} (hr0 : HRel ρ0 s0.hp.get w0) (h : Came n K pins ρ0 s0 w0 s a w) {nm : Nat} (hn : nm ∈ K) {x : Blk} (hx : s0.hp.get nm = some x) {b c : Nat} {o : Obj} (hb : ρ0 nm = some (b, c)) (ho : w0.heap[b]? = some o) : w.heap[b]? = some o := by
  obtain ⟨ρ, L, ab, hK, R, st, _⟩ := h.it
  rw [st.frame b (lt_of_get ho) fun nm' c' hm hlt he => ?_]
  · exact ho
  · obtain ⟨x1, q1, q2⟩ := st.own nm' hm hlt
    exact hK nm hn (hr0.inj nm' nm x1 x b c' c q1 hx q2 he hb ▸ hm)
end Go.Sx

namespace Go.Sx
open Go.RowKit
open Go.ChangeMaps (setBlock)
variable {P : Program}

/-- where the range stands: what is done, what is left; the iterator, unnamed but for q -/
structure RgInv {α : Type} (n : Nat) (K : List Nat) (pins : List Pin) (ρ0 : Rho) (s0 : S) (w0 : World) (enc : α → Cell × AV) (I : List α → S) (ents : Array MapEntry) (clock bm r q : Nat) (zd zr : List (α × MapEntry)) (a : Act) (w : World) : Prop where
  came : ∃ c0, clock ≤ c0 ∧ Came n K (⟨q, r, .mapIter (some bm) clock (zd.map (·.2.born)).toArray c0⟩ :: pins) ρ0 s0 w0 (I (zd.map Prod.fst)) a w

theorem leftOf_mem {α : Type} {ents : Array MapEntry} {zd zr zs : List (α × MapEntry)} (hz : zs.map Prod.snd = ents.toList) (hp : (zd ++ zr).Perm zs) {e : MapEntry} (he : e ∈ (leftOf ents (zd.map (·.2.born)).toArray).toList) :
    ∃ x r1 r2, zr = r1 ++ (x, e) :: r2 := by
  obtain ⟨h1, h2⟩ := mem_left he
  rw [← hz] at h1
  obtain ⟨⟨x, e'⟩, g1, rfl⟩ := List.mem_map.1 h1
  rcases List.mem_append.1 (hp.mem_iff.2 g1) with g | g
  · exfalso
    rw [List.contains_toArray, List.contains_eq_mem] at h2
    exact absurd (show e'.born ∈ zd.map (·.2.born) from List.mem_map.2 ⟨(x, e'), g, rfl⟩) (by simpa using h2)
  · obtain ⟨r1, r2, h⟩ := List.append_of_mem g
    exact ⟨x, r1, r2, h⟩

theorem leftOf_none {α : Type} {ents : Array MapEntry} {zd zr zs : List (α × MapEntry)} (hz : zs.map Prod.snd = ents.toList) (hp : (zd ++ zr).Perm zs) (hn : (ents.toList.map (·.born)).Nodup) (h0 : (leftOf ents (zd.map (·.2.born)).toArray).size = 0) : zr = [] := by
  cases zr with
  | nil => rfl
  | cons z zr =>
    exfalso
    have hm : z.2 ∈ ents.toList := by rw [← hz]; exact List.mem_map_of_mem (hp.mem_iff.1 (List.mem_append.2 (.inr (List.mem_cons_self ..))))
    have := all_seen ents _ h0 z.2 hm
    rw [List.contains_toArray, List.contains_eq_mem] at this
    have hb : z.2.born ∈ zd.map (·.2.born) := by simpa using this
    have hnd : ((zd ++ z :: zr).map (·.2.born)).Nodup := by
      have e : (zs.map (·.2.born)) = ents.toList.map (·.born) := by rw [← hz, List.map_map]; rfl
      rw [(hp.map (·.2.born)).nodup_iff, e]; exact hn
    rw [List.map_append, List.map_cons, List.nodup_append] at hnd
    exact hnd.2.2 _ hb _ (List.mem_cons_self ..) rfl

theorem Came.drop {n : Nat} {K : List Nat} {p : Pin} {pins : List Pin} {ρ0 : Rho} {s0 s : S} {w0 w : World} {a : Act} (h : Came n K (p :: pins) ρ0 s0 w0 s a w) : Came n K pins ρ0 s0 w0 s a w := by
  obtain ⟨ρ, L, h1, h2, h3, h4, h5⟩ := h.it
  exact ⟨ρ, L, h1, h2, h3, h4, fun p hp => h5 p (List.mem_cons_of_mem _ hp)⟩
theorem put_eval {a : Act} {n d : Nat} {V : Value} (hs : a.tmps.size = n) (hd : d < n) : (a.put (some d) V).eval (.tmp d) = V := by
  show (a.put (some d) V).tmps.getD d undef = V
  rw [put_getD, if_pos ⟨rfl, by rw [hs]; exact hd⟩]
theorem put_eval_ne {a : Act} {d j : Nat} {V : Value} (h : j ≠ d) : (a.put (some d) V).eval (.tmp j) = a.eval (.tmp j) := by
  show (a.put (some d) V).tmps.getD j undef = a.tmps.getD j undef
  rw [put_getD, if_neg (fun hh => h (Option.some.inj hh.1).symm)]
theorem putSl2 {s s' : S} {d1 d2 nx : Nat} {v1 v2 : RV} (h : setS [(d1, v1), (d2, v2)] nx s = some s') : s'.hp = s.hp ∧ s'.nx = nx ∧ s'.lg = [] ∧ ∃ t1 : T RV, (∀ j, t1.get j = if j = d1 then some v1 else s.sl.get j) ∧ ∀ j, s'.sl.get j = if j = d2 then some v2 else t1.get j := by
  unfold setS at h
  split at h <;> try (cases h; done)
  rename_i t ht
  simp only [Option.some.injEq] at h
  subst h
  simp only [putSl] at ht
  obtain ⟨t1, h1, g1⟩ := T.set_ok _ _ _ _ _ _ ht
  obtain ⟨t2, h2, g2⟩ := T.set_ok _ _ _ _ _ _ h1
  simp only [Option.some.injEq] at h2
  subst h2
  exact ⟨rfl, rfl, rfl, t1, g1, g2⟩
theorem putSl3 {s s' : S} {d1 d2 d3 nx : Nat} {v1 v2 v3 : RV} (h : setS [(d1, v1), (d2, v2), (d3, v3)] nx s = some s') : s'.hp = s.hp ∧ s'.nx = nx ∧ s'.lg = [] ∧ ∃ t1 t2 : T RV, (∀ j, t1.get j = if j = d1 then some v1 else s.sl.get j) ∧ (∀ j, t2.get j = if j = d2 then some v2 else t1.get j) ∧ ∀ j, s'.sl.get j = if j = d3 then some v3 else t2.get j := by
  unfold setS at h
  split at h <;> try (cases h; done)
  rename_i t ht
  simp only [Option.some.injEq] at h
  subst h
  simp only [putSl] at ht
  obtain ⟨t1, h1, g1⟩ := T.set_ok _ _ _ _ _ _ ht
  obtain ⟨t2, h2, g2⟩ := T.set_ok _ _ _ _ _ _ h1
  obtain ⟨t3, h3, g3⟩ := T.set_ok _ _ _ _ _ _ h2
  simp only [Option.some.injEq] at h3
  subst h3
  exact ⟨rfl, rfl, rfl, t1, t2, g1, g2, g3⟩

theorem TO.range {α : Type} {n : Nat} {K pn : List Nat} {s0 s sA : S} {iA : Nat} {opsA : Array Oper} {b jN : Nat} {oN oX : Oper} {cb jE : Nat} {opsE : Array Oper} {body : Code} {pre restE : List Oper} {oR oE : Oper} {t kt et : TypeId} {m it d1 d2 d3 : Tmp}
    (hng : ∀ (g : Nat) (fn : Func), P.funcs[g]? = some fn → (fn.name == "runtime.NumGoroutine") = false)
    (Fm : RangeForm n opsA pre oR oN oX oE opsE restE t m it d1 d2 d3) (ht : P.underlying t = some (.map kt et))
    {enc : α → Cell × AV} {l : List α} {I : List α → S} {nm : Nat} {Q : X → S → Prop} {keep0 ord0 : List Nat}
    (hpre : opsRun P false call0 n opsA.toList pre s (lgE K) = some (true, sA))
    (hm : eval n sA.sl (.tmp m) = some (.one (.c (.map nm)))) (hnm : nm ∈ K) (hlt : nm < s0.nx) (hes : s0.hp.get nm = some (.map (l.map enc)) ∨ s0.hp.get nm = some (.mapR (l.map enc)))
    {k0 q : Nat} (hk0 : s0.nx = k0) (hq : sA.nx = q) {sI : S} (hsI : setS [(it, .one (.c (.ptr q 0)))] (q + 1) sA = some sI) (hI0 : gcS k0 K (q :: pn) keep0 n ord0 sI = some (I []))
    (hit : ∀ d, eval n (I d).sl (.tmp it) = some (.one (.c (.ptr q 0))))
    (round : ∀ d x r, (d ++ x :: r).Perm l → ∃ Gx, setS [(d1, .any), (d2, .any), (d3, .tup [.c (enc x).1, (enc x).2])] (I d).nx (I d) = some Gx ∧
      ∃ keep ord s2, opsRun P false call0 n opsE.toList restE Gx (gcE k0 K (q :: pn) keep n ord) = some (true, s2) ∧
      TO P n K (q :: pn) s0 body s2 fun x' s' => match x' with
        | .normal => s' = I (d ++ [x])
        | .exit j => if j = cb then s' = I (d ++ [x]) else if j = b then Q .normal s' else Q (.exit j) s'
        | .ret => Q .ret s')
    (done : ∀ d, d.Perm l → ∃ Jd, setS [(d1, .any), (d2, .any)] (I d).nx (I d) = some Jd ∧ Q .normal Jd) :
    TO P n K pn s0 (rangeCode iA opsA b jN oN oX d2 cb jE opsE body) s Q := by
  subst hk0 hq
  intro ρ0 w0 hr hf pins hpn a w C
  obtain ⟨ρ, L0, ab0, hK0, R, st0, hp0⟩ := C.it
  obtain ⟨sA', L1, e1, ab1, hw1⟩ := opsRun_ok (z := false) (ops := opsA) call0_ok hng ab0.top hpre
  simp only [lgE, Option.some.injEq, Prod.mk.injEq] at e1
  obtain ⟨hk1, rfl⟩ := e1
  have hKL : ∀ nm ∈ K, nm ∉ L1 := fun nm hn hm => by
    have := List.all_eq_true.1 hk1 nm hn
    rw [ab1.lg] at this
    simp only [List.contains_eq_mem, List.mem_append, hm, true_or, decide_true, Bool.not_true] at this
    cases this
  -- the map
  obtain ⟨xm, hxm, bm, cm, om, m1, m2, m3⟩ : ∃ xm, s0.hp.get nm = some xm ∧ ∃ bm cm om, ρ0 nm = some (bm, cm) ∧ w0.heap[bm]? = some om ∧ ∃ ents clock, om = .map ents clock ∧ EsR ρ0 (l.map enc) ents.toList ∧ MapKept.Stamped ents clock := by
    rcases hes with hes | hes
    · obtain ⟨bm, cm, om, m1, m2, m3⟩ := hr.ok nm _ hes
      exact ⟨_, hes, bm, cm, om, m1, m2, m3⟩
    · obtain ⟨bm, cm, om, m1, m2, m3⟩ := hr.ok nm _ hes
      exact ⟨_, hes, bm, cm, om, m1, m2, m3⟩
  obtain ⟨ents, clock, rfl, hE, hS⟩ := m3
  obtain ⟨z1, z2, z3⟩ := EsR.pairs hE
  obtain ⟨hborn, hnodup, _⟩ := (MapKept.stamped_iff ents clock).1 hS
  show Code.wp P (.seq (.region iA opsA false) _) _ a w
  refine wp_seq ((wpIn_wide (n := 0)).1 (wpIn_region_list ?_))
  rw [Fm.A]
  refine wpListIn_append (hw1 none ρ a w R.m _ fun a1 w1 ρ1 R1m st1 hd1 => ?_)
  have R1 := R1m.rel (hd1.trans R.df)
  show wpListIn (FR none) 0 P opsA _ [oR] a1 w1
  -- range
  have C1 : Came n K pins ρ0 s0 w0 sA' a1 w1 := ⟨ρ1, L1 ++ L0, ab0.trans ab1.n, fun nm hn hm => by
    rcases List.mem_append.1 hm with hm | hm
    · exact hKL nm hn hm
    · exact hK0 nm hn hm, R1, st0.trans st1, hp0.step R.hp R.fresh st1⟩
  have hmb : w1.heap[bm]? = some (.map ents clock) := C1.kept hr hnm hxm m1 m2
  have hev : a1.eval (.tmp m) = .map (some bm) := by
    have := eval_ok (ρ := ρ1) (n := n) (sl := sA'.sl) (a := a1) (x := .tmp m) (fun t _ => R1.sl t) _ hm
    obtain ⟨b2, c2, g1, g2⟩ := this
    obtain ⟨ρx, Lx, _, _, _, stx, _⟩ := C1.it
    have : ρ1 nm = ρ0 nm := by rw [(st0.trans st1).rho nm hlt]
    rw [this, m1] at g1
    simp only [Option.some.injEq, Prod.mk.injEq] at g1
    obtain ⟨rfl, rfl⟩ := g1
    exact g2
  refine wpListIn_plain Fm.Rg fun K1 hK1 => ?_
  refine ⟨fun _ _ => trivial, ?_⟩
  rw [Oper.semAt_eq _ _ _ (fun c h => by rw [Fm.R] at h; cases h)]
  have hrun := run_range_map (P := P) w1 t kt et bm ents clock ht hmb
  have hexe : (execOp a1.eval oR).run P w1 = .ok (.value (.pointer (some ⟨w1.heap.size, 0, none⟩))) (w1.alloc (.mapIter (some bm) clock #[] clock)) := by
    simp [execOp, Fm.R, hev, hrun, Result.andThen]
  rw [hexe]
  refine hK1 _ _ ?_
  rw [Fm.Rd]
  -- behind the range: the loop
  obtain ⟨r, hrdef⟩ : ∃ r, w1.heap.size = r := ⟨_, rfl⟩
  rw [hrdef]
  obtain ⟨w2, hw2⟩ : ∃ w2, w1.alloc (.mapIter (some bm) clock #[] clock) = w2 := ⟨_, rfl⟩
  rw [hw2]
  have h2old : ∀ k, k < w1.heap.size → w2.heap[k]? = w1.heap[k]? := fun k hk => by rw [← hw2]; exact heap_alloc_old w1 _ hk
  have h2new : w2.heap[r]? = some (.mapIter (some bm) clock #[] clock) := by rw [← hw2, ← hrdef]; exact heap_alloc_new w1 _
  have h2size : w2.heap.size = w1.heap.size + 1 := by rw [← hw2]; simp
  unfold setS at hsI
  split at hsI <;> try (cases hsI; done)
  rename_i tI htI
  simp only [Option.some.injEq] at hsI
  simp only [putSl] at htI
  obtain ⟨tI', htI1, htI2⟩ := T.set_ok _ _ _ _ _ _ htI
  simp only [Option.some.injEq] at htI1
  subst htI1
  have hf1 : Fresh ρ1 sA'.nx := R1.fresh
  have hsub : Sub ρ1 (ext ρ1 sA'.nx r 0) := ext_sub hf1 _ _
  have R1x : Rel n (ext ρ1 sA'.nx r 0) ⟨sA'.sl, sA'.hp, sA'.nx + 1, []⟩ a1 w2 := by
    refine ⟨R1.sz, R1.df, fun t => (R1.sl t).mono hsub, ⟨fun nm x hx => ?_, fun nm nm' x y b c c' hx hy hw e1 e2 => ?_⟩, fun nm hn => ?_⟩
    · obtain ⟨b, c, o, g1, g2, g3⟩ := R1.hp.ok nm x hx
      exact ⟨b, c, o, hsub _ _ g1, (h2old b (lt_of_get g2)).trans g2, g3.mono hsub⟩
    · have n1 : nm ≠ sA'.nx := fun e => by subst e; have := C1.top sA'.nx (Nat.le_refl _); rw [this] at hx; cases hx
      have n2 : nm' ≠ sA'.nx := fun e => by subst e; have := C1.top sA'.nx (Nat.le_refl _); rw [this] at hy; cases hy
      simp only [ext, if_neg n1] at e1
      simp only [ext, if_neg n2] at e2
      exact R1.hp.inj nm nm' x y b c c' hx hy hw e1 e2
    · have hn' : sA'.nx + 1 ≤ nm := hn
      simp only [ext]
      rw [if_neg (by omega)]
      exact hf1 nm (by omega)
  have hI0' : sI = ⟨tI', sA'.hp, sA'.nx + 1, []⟩ := hsI.symm
  have RI : Rel n (ext ρ1 sA'.nx r 0) sI (a1.put (some it) (.pointer (some ⟨r, 0, none⟩))) w2 := by
    rw [hI0']
    exact R1x.put (d := it) (v := .one (.c (.ptr sA'.nx 0))) Fm.lt.1 ⟨r, 0, by simp [ext], rfl⟩ rfl rfl htI2
  have hos : w2.os = w1.os ∧ w2.tape = w1.tape ∧ w2.output = w1.output := by rw [← hw2]; exact ⟨rfl, rfl, rfl⟩
  have stI : Stp ρ1 sA'.hp.get sA'.nx w1 (ext ρ1 sA'.nx r 0) sA'.hp.get (sA'.nx + 1) w2 [] :=
    ⟨Nat.le_succ _, fun nm h => by simp only [ext]; rw [if_neg (by omega)], fun _ _ _ => rfl, by omega, fun b hb _ => h2old b hb, (fun nm b c h1 h2 => by
      simp only [ext] at h2
      split at h2
      · simp only [Option.some.injEq, Prod.mk.injEq] at h2; left; omega
      · rw [hf1 nm h1] at h2; cases h2), fun _ h => (List.not_mem_nil h).elim, hos.1, hos.2.1, hos.2.2⟩
  have hinv0 : RgInv n K pins ρ0 s0 w0 enc I ents clock bm r sA'.nx [] (l.zip ents.toList) (a1.put (some it) (.pointer (some ⟨r, 0, none⟩))) w2 := by
    have CI : Came n K (⟨sA'.nx, r, .mapIter (some bm) clock #[] clock⟩ :: pins) ρ0 s0 w0 sI (a1.put (some it) (.pointer (some ⟨r, 0, none⟩))) w2 := by
      refine ⟨ext ρ1 sA'.nx r 0, [] ++ (L1 ++ L0), (ab0.trans ab1.n).trans ⟨?_, fun nm h1 h2 => ?_, fun nm hn => ?_, fun nm h => (List.not_mem_nil h).elim⟩, fun nm hn hm => ?_, RI, (st0.trans st1).trans ?_, fun p hp => ?_⟩
      · rw [hI0']; exact Nat.le_succ _
      · rw [hI0']
      · rw [hI0'] at hn ⊢
        have hn' : sA'.nx + 1 ≤ nm := hn
        exact C1.top nm (by show sA'.nx ≤ nm; omega)
      · rcases List.mem_append.1 hm with hm | hm
        · exact (List.not_mem_nil hm).elim
        · rcases List.mem_append.1 hm with hm | hm
          · exact hKL nm hn hm
          · exact hK0 nm hn hm
      · show Stp _ _ _ _ _ sI.hp.get sI.nx _ _
        rw [hI0']; exact stI
      · rcases List.mem_cons.1 hp with rfl | hp
        · exact ⟨⟨0, by simp [ext]⟩, h2new, rfl⟩
        · obtain ⟨⟨c, g1⟩, g2, g3⟩ := (hp0.step R.hp R.fresh st1) p hp
          exact ⟨⟨c, hsub _ _ g1⟩, (h2old _ (lt_of_get g2)).trans g2, g3⟩
    have hpnI : (⟨sA'.nx, r, .mapIter (some bm) clock #[] clock⟩ :: pins : List Pin).map Pin.nm = sA'.nx :: pn := by simp [hpn]
    exact ⟨clock, Nat.le_refl _, CI.gc hr hf hpnI hI0⟩
  have hrw0 : w0.heap.size ≤ r := by rw [← hrdef]; exact (st0.trans st1).size
  clear hrun hexe
  have hpr : ∀ p ∈ pins, p.b < r := fun p hp => by
    obtain ⟨_, g2, _⟩ := (hp0.step R.hp R.fresh st1) p hp
    rw [← hrdef]; exact lt_of_get g2
  show Code.wp P (.block b _) _ _ _
  refine wp_block ?_
  refine LoopFrom.wp ?_
  -- one round
  have roundStep : ∀ (zd zr : List (α × MapEntry)) (a : Act) (w : World), (zd ++ zr).Perm (l.zip ents.toList) → RgInv n K pins ρ0 s0 w0 enc I ents clock bm r sA'.nx zd zr a w →
      (∀ x e r1 r2, zr = r1 ++ (x, e) :: r2 → ∀ a' w', RgInv n K pins ρ0 s0 w0 enc I ents clock bm r sA'.nx (zd ++ [(x, e)]) (r1 ++ r2) a' w' →
        LoopFrom P (.seq (.region jN #[oN, oX] false) (.seq (.cond (.tmp d2) .skip (.exit b)) (.block cb (.seq (.region jE opsE false) body)))) (Exit.inBlock b fun e a' w' => ∃ x s', XR x e ∧ Q x s' ∧ Came n K pins ρ0 s0 w0 s' a' w') a' w') →
      LoopFrom P (.seq (.region jN #[oN, oX] false) (.seq (.cond (.tmp d2) .skip (.exit b)) (.block cb (.seq (.region jE opsE false) body)))) (Exit.inBlock b fun e a' w' => ∃ x s', XR x e ∧ Q x s' ∧ Came n K pins ρ0 s0 w0 s' a' w') a w := by
    intro zd zr a w hp hinv next
    obtain ⟨c0, hc0, hcame⟩ := hinv.came
    obtain ⟨ρd, Ld, abd, hKd, Rd, std, hpd⟩ := hcame.it
    obtain ⟨⟨cq, q1⟩, q2, _⟩ := hpd _ (List.mem_cons_self ..)
    simp only at q1 q2
    have hmbd : w.heap[bm]? = some (.map ents clock) := hcame.kept hr hnm hxm m1 m2
    have hevit : a.eval (.tmp it) = .pointer (some ⟨r, 0, none⟩) := by
      have := eval_ok (ρ := ρd) (n := n) (sl := (I (zd.map Prod.fst)).sl) (a := a) (x := .tmp it) (fun t _ => Rd.sl t) _ (hit _)
      obtain ⟨b2, c2, g1, g2⟩ := this
      rw [q1] at g1
      simp only [Option.some.injEq, Prod.mk.injEq] at g1
      obtain ⟨rfl, rfl⟩ := g1
      exact g2
    refine LoopFrom.open ?_
    refine wp_seq (wp_region_list ?_)
    refine wpList_plain Fm.Ng fun K1 hK1 => ?_
    unfold Oper.wp
    rcases run_next_at (P := P) w oN.type r bm clock c0 (zd.map (·.2.born)).toArray ents clock q2 hmbd hborn hc0 with ⟨h0, hrun⟩ | ⟨e, he, w3, hal, hrun⟩
    · -- nothing is left
      have hzr := leftOf_none z2 hp hnodup h0
      subst hzr
      have hexe : (execOp a.eval oN).run P w = .ok (.value (.tuple #[.bool false])) w := by
        simp [execOp, Fm.N, hevit, hrun, Result.andThen]
      rw [hexe]
      refine hK1 _ _ ?_
      rw [Fm.Nd]
      refine wpList_plain Fm.Xg fun K2 hK2 => ?_
      unfold Oper.wp
      have hexx : (execOp (a.put (some d1) (.tuple #[.bool false])).eval oX).run P w = .ok (.value (.bool false)) w := by
        simp [execOp, Fm.X, put_eval Rd.sz Fm.lt.2.1, Instr.extract, Sem.run]
      rw [hexx]
      refine hK2 _ _ ?_
      rw [Fm.Xd]
      show Code.wp P _ _ _ _
      refine wp_seq (wp_cond_false (put_eval (n := n) (by rw [put_size]; exact Rd.sz) Fm.lt.2.2.1) (wp_exit ?_))
      show (if b = b then _ else _)
      rw [if_pos rfl]
      obtain ⟨Jd, hJ, hQ⟩ := done (zd.map Prod.fst) (by have := hp.map Prod.fst; rw [z1, List.append_nil] at this; exact this)
      obtain ⟨j1, j2, _, t1, j3, j4⟩ := putSl2 hJ
      refine ⟨.normal, Jd, trivial, hQ, ?_⟩
      have Ra : Rel n ρd ⟨t1, (I (zd.map Prod.fst)).hp, (I (zd.map Prod.fst)).nx, []⟩ (a.put (some d1) (.tuple #[.bool false])) w := Rd.put (v := .any) Fm.lt.2.1 trivial rfl rfl j3
      have Rb : Rel n ρd Jd ((a.put (some d1) (.tuple #[.bool false])).put (some d2) (.bool false)) w := Ra.put (v := .any) Fm.lt.2.2.1 trivial j1 j2 j4
      exact ⟨ρd, Ld, ⟨by rw [j2]; exact abd.le, fun nm h1 h2 => by rw [j1]; exact abd.keep nm h1 h2, fun nm hn => by rw [j1]; exact abd.top nm (by rw [← j2]; exact hn), fun nm hn => by rw [j2]; exact abd.lt nm hn⟩, hKd, Rb,
        by unfold StpS; rw [j1, j2]; exact std, fun p hp => hpd p (List.mem_cons_of_mem _ hp)⟩
    · -- an entry has come
      obtain ⟨x, r1, r2, hzr⟩ := leftOf_mem z2 hp he
      obtain ⟨hem, _⟩ := mem_left he
      obtain ⟨w4, hw4⟩ : ∃ w4, setBlock w3 r (.mapIter (some bm) clock ((zd.map (·.2.born)).toArray.push e.born) clock) = w4 := ⟨_, rfl⟩
      rw [hw4] at hrun
      have hr3 : w3.heap[r]? = some (.mapIter (some bm) clock (zd.map (·.2.born)).toArray c0) := by rcases hal with rfl | rfl <;> exact q2
      have hset := heap_set' (o' := .mapIter (some bm) clock ((zd.map (·.2.born)).toArray.push e.born) clock) hr3
      rw [hw4] at hset
      have h4 : ∀ k, k ≠ r → w4.heap[k]? = w.heap[k]? := fun k hk => by rw [hset.2.1 k hk]; rcases hal with rfl | rfl <;> rfl
      have h4s : w4.heap.size = w.heap.size := by rw [hset.2.2]; rcases hal with rfl | rfl <;> rfl
      have h4o : w4.os = w.os ∧ w4.tape = w.tape ∧ w4.output = w.output := by rw [← hw4]; rcases hal with rfl | rfl <;> exact ⟨rfl, rfl, rfl⟩
      have hbr : bm ≠ r := fun e => by rw [e, q2] at hmbd; cases hmbd
      have hmb4 : w4.heap[bm]? = some (.map ents clock) := (h4 bm hbr).trans hmbd
      have hexe : (execOp a.eval oN).run P w = .ok (.value (.tuple #[.bool true, e.key, e.val])) w4 := by
        simp [execOp, Fm.N, hevit, hrun, Result.andThen]
      rw [hexe]
      refine hK1 _ _ ?_
      rw [Fm.Nd]
      refine wpList_plain Fm.Xg fun K2 hK2 => ?_
      unfold Oper.wp
      have hexx : (execOp (a.put (some d1) (.tuple #[.bool true, e.key, e.val])).eval oX).run P w4 = .ok (.value (.bool true)) w4 := by
        simp [execOp, Fm.X, put_eval Rd.sz Fm.lt.2.1, Instr.extract, Sem.run]
      rw [hexx]
      refine hK2 _ _ ?_
      rw [Fm.Xd]
      show Code.wp P _ _ _ _
      have hsz4 : ((a.put (some d1) (.tuple #[.bool true, e.key, e.val])).put (some d2) (.bool true)).tmps.size = n := by rw [put_size, put_size]; exact Rd.sz
      refine wp_seq (wp_cond_true (put_eval (n := n) (by rw [put_size]; exact Rd.sz) Fm.lt.2.2.1) (wp_skip ?_))
      show Code.wp P _ _ _ _
      refine wp_block (wp_seq ((wpIn_wide (n := 0)).1 (wpIn_region_list ?_)))
      rw [Fm.E]
      refine wpListIn_plain Fm.Eg fun K3 hK3 => ?_
      refine ⟨fun _ _ => trivial, ?_⟩
      rw [Oper.semAt_eq _ _ _ (fun c h => by rw [Fm.Eo] at h; cases h)]
      have hevit4 : ((a.put (some d1) (.tuple #[.bool true, e.key, e.val])).put (some d2) (.bool true)).eval (.tmp it) = .pointer (some ⟨r, 0, none⟩) := by
        rw [put_eval_ne Fm.ne.2.1, put_eval_ne Fm.ne.1]; exact hevit
      have hent := run_entry_at (P := P) w4 r bm clock (zd.map (·.2.born)).toArray ents clock e hset.1 hmb4 hem hnodup
      have hexn : (execOp ((a.put (some d1) (.tuple #[.bool true, e.key, e.val])).put (some d2) (.bool true)).eval oE).run P w4 = .ok (.value (.tuple #[e.key, e.val])) w4 := by
        simp [execOp, Fm.Eo, hevit4, hent, Result.andThen]
      rw [hexn]
      refine hK3 _ _ ?_
      rw [Fm.Ed]
      -- the state ahead of the rest
      have hperm : ((zd.map Prod.fst) ++ x :: (r1 ++ r2).map Prod.fst).Perm l := by
        have h1 := hp.map Prod.fst
        rw [z1, hzr] at h1
        refine List.Perm.trans ?_ h1
        rw [List.map_append, List.map_append, List.map_append, List.map_cons]
        exact List.Perm.append_left _ List.perm_middle.symm
      obtain ⟨Gx, hG, keep, ord, s2, hs2, hbody⟩ := round (zd.map Prod.fst) x _ hperm
      obtain ⟨j1, j2, j0, t1, t2, j3, j4, j5⟩ := putSl3 hG
      have hz : (x, e) ∈ l.zip ents.toList := hp.mem_iff.1 (List.mem_append.2 (.inr (by rw [hzr]; exact List.mem_append.2 (.inr (List.mem_cons_self ..)))))
      obtain ⟨k1, k2⟩ := z3 _ hz
      have hsubd : Sub ρ0 ρd := std.sub hf
      have R4 : Rel n ρd (I (zd.map Prod.fst)) a w4 := ⟨Rd.sz, Rd.df, Rd.sl, ⟨(fun nm y hy => by
          obtain ⟨b', c', o', g1, g2, g3⟩ := Rd.hp.ok nm y hy
          refine ⟨b', c', o', g1, (h4 b' fun e => ?_).trans g2, g3⟩
          subst e
          rw [q2] at g2; cases g2
          have := g3.noIt
          cases this), Rd.hp.inj⟩, Rd.fresh⟩
      have Ra : Rel n ρd ⟨t1, (I (zd.map Prod.fst)).hp, (I (zd.map Prod.fst)).nx, []⟩ (a.put (some d1) (.tuple #[.bool true, e.key, e.val])) w4 := R4.put (v := .any) Fm.lt.2.1 trivial rfl rfl j3
      have Rb : Rel n ρd ⟨t2, (I (zd.map Prod.fst)).hp, (I (zd.map Prod.fst)).nx, []⟩ ((a.put (some d1) (.tuple #[.bool true, e.key, e.val])).put (some d2) (.bool true)) w4 := Ra.put (v := .any) Fm.lt.2.2.1 trivial rfl rfl j4
      have Rc : Rel n ρd Gx (((a.put (some d1) (.tuple #[.bool true, e.key, e.val])).put (some d2) (.bool true)).put (some d3) (.tuple #[e.key, e.val])) w4 :=
        Rb.put (v := .tup [.c (enc x).1, (enc x).2]) Fm.lt.2.2.2 ⟨[e.key, e.val], ⟨e.key, [e.val], k1.mono hsubd, ⟨e.val, [], k2.mono hsubd, rfl, rfl⟩, rfl⟩, rfl⟩ j1 j2 j5
      have hpin4 : PinOK (⟨sA'.nx, r, .mapIter (some bm) clock ((zd.map (·.2.born)).toArray.push e.born) clock⟩ :: pins) ρd w4 := fun p hp' => by
        rcases List.mem_cons.1 hp' with rfl | hp'
        · exact ⟨⟨cq, q1⟩, hset.1, rfl⟩
        · obtain ⟨g1, g2, g3⟩ := hpd p (List.mem_cons_of_mem _ hp')
          exact ⟨g1, (h4 p.b (fun e => by have := hpr p hp'; omega)).trans g2, g3⟩
      have std4 : StpS ρ0 s0 w0 ρd Gx w4 Ld := by
        unfold StpS
        rw [j1, j2]
        exact ⟨std.le, std.rho, std.keep, by rw [h4s]; exact std.size, fun b' hb' hL => (h4 b' (by omega)).trans (std.frame b' hb' hL), std.new, std.own, h4o.1.trans std.os, h4o.2.1.trans std.tape, h4o.2.2.trans std.out⟩
      have abG : AbsN s0 Gx Ld := ⟨by rw [j2]; exact abd.le, fun nm h1 h2 => by rw [j1]; exact abd.keep nm h1 h2, fun nm hn => by rw [j1]; exact abd.top nm (by rw [← j2]; exact hn), fun nm hn => by rw [j2]; exact abd.lt nm hn⟩
      obtain ⟨s2r, L2, e2, ab2, hw2'⟩ := opsRun_ok (z := false) (ops := opsE) call0_ok hng abG.top hs2
      unfold gcE at e2
      split at e2 <;> try (cases e2; done)
      rename_i s2g hs2g
      simp only [Option.some.injEq, Prod.mk.injEq] at e2
      obtain ⟨hk2, rfl⟩ := e2
      have hKL2 : ∀ nm ∈ K, nm ∉ L2 := fun nm hn hm => by
        have := List.all_eq_true.1 hk2 nm hn
        rw [ab2.lg] at this
        simp only [List.contains_eq_mem, List.mem_append, hm, true_or, decide_true, Bool.not_true] at this
        cases this
      refine hw2' none ρd _ w4 Rc.m _ fun a6 w6 ρ6 R6m st6 hd6 => ?_
      have R6 := R6m.rel (hd6.trans Rc.df)
      have C6 : Came n K (⟨sA'.nx, r, .mapIter (some bm) clock ((zd.map (·.2.born)).toArray.push e.born) clock⟩ :: pins) ρ0 s0 w0 s2r a6 w6 := ⟨ρ6, L2 ++ Ld, abG.trans ab2.n, fun nm hn hm => by
        rcases List.mem_append.1 hm with hm | hm
        · exact hKL2 nm hn hm
        · exact hKd nm hn hm, R6, std4.trans st6, hpin4.step Rc.hp Rc.fresh st6⟩
      have hpn' : (⟨sA'.nx, r, .mapIter (some bm) clock ((zd.map (·.2.born)).toArray.push e.born) clock⟩ :: pins : List Pin).map Pin.nm = sA'.nx :: pn := by simp [hpn]
      have C6g := C6.gc hr hf hpn' hs2g
      show Code.wp P body _ a6 w6
      have hagain : ∀ a7 w7, Came n K (⟨sA'.nx, r, .mapIter (some bm) clock ((zd.map (·.2.born)).toArray.push e.born) clock⟩ :: pins) ρ0 s0 w0 (I (zd.map Prod.fst ++ [x])) a7 w7 →
          LoopFrom P (.seq (.region jN #[oN, oX] false) (.seq (.cond (.tmp d2) .skip (.exit b)) (.block cb (.seq (.region jE opsE false) body)))) (Exit.inBlock b fun e a' w' => ∃ x s', XR x e ∧ Q x s' ∧ Came n K pins ρ0 s0 w0 s' a' w') a7 w7 := fun a7 w7 C7 =>
        next x e r1 r2 hzr a7 w7 ⟨clock, Nat.le_refl _, by simpa using C7⟩
      refine wp_mono (hbody ρ0 w0 hr hf _ hpn' a6 w6 C6g).wp fun e7 a7 w7 ⟨x7, s7, hx7, hq7, C7⟩ => ?_
      cases x7 with
      | normal =>
        cases e7 <;> simp only [XR] at hx7
        simp only at hq7
        subst hq7
        exact hagain a7 w7 C7
      | ret =>
        cases e7 <;> simp only [XR] at hx7
        exact ⟨.ret, s7, trivial, hq7, C7.drop⟩
      | exit j =>
        cases e7 <;> simp only [XR] at hx7
        subst hx7
        simp only at hq7
        by_cases hjc : j = cb
        · rw [if_pos hjc] at hq7
          subst hq7
          simp only [Exit.inBlock, hjc, if_true]
          exact hagain a7 w7 C7
        · rw [if_neg hjc] at hq7
          simp only [Exit.inBlock, hjc, if_false]
          show (if j = b then _ else _)
          by_cases hjb : j = b
          · rw [if_pos hjb] at hq7
            rw [if_pos hjb]
            exact ⟨.normal, s7, trivial, hq7, C7.drop⟩
          · rw [if_neg hjb] at hq7
            rw [if_neg hjb]
            exact ⟨X.exit j, s7, rfl, hq7, C7.drop⟩
  -- the rounds
  have key : ∀ (N : Nat) (zd zr : List (α × MapEntry)) (a : Act) (w : World), zr.length = N → (zd ++ zr).Perm (l.zip ents.toList) → RgInv n K pins ρ0 s0 w0 enc I ents clock bm r sA'.nx zd zr a w →
      LoopFrom P (.seq (.region jN #[oN, oX] false) (.seq (.cond (.tmp d2) .skip (.exit b)) (.block cb (.seq (.region jE opsE false) body)))) (Exit.inBlock b fun e a' w' => ∃ x s', XR x e ∧ Q x s' ∧ Came n K pins ρ0 s0 w0 s' a' w') a w := by
    intro N
    induction N with
    | zero =>
      intro zd zr a w hN hp hinv
      have hzr : zr = [] := List.length_eq_zero_iff.1 hN
      exact roundStep zd zr a w hp hinv fun x e r1 r2 hr => by rw [hzr] at hr; simp at hr
    | succ N ih =>
      intro zd zr a w hN hp hinv
      refine roundStep zd zr a w hp hinv fun x e r1 r2 hr a' w' hinv' => ?_
      subst hr
      refine ih (zd ++ [(x, e)]) (r1 ++ r2) a' w' ?_ ?_ hinv'
      · simp only [List.length_append, List.length_cons] at hN ⊢; omega
      · refine List.Perm.trans ?_ hp
        have hpm := List.Perm.append_left zd (List.perm_middle (a := (x, e)) (l₁ := r1) (l₂ := r2)).symm
        simpa using hpm
  exact key _ _ _ _ _ rfl (by simp) hinv0
end Go.Sx

namespace Go.Sx
open Go.RowKit
variable {P : Program}
/-! ## Contracts that only read, over few blocks, of arguments that may say more -/
/-- one path over a few blocks that writes none of them -/
theorem quiet_path {Sg : FuncId → Option SumA} (F : Fit P (fun f => (Sg f).map toSum)) {fuel : Nat} {g : FuncId} {args : List RV} {hs : T Blk} {k : Nat} {o : List (Nat × Bool)} {v : RV} {ps : List Prop} (htop : Top ⟨.nil, hs, k, []⟩)
    (h : runA P Sg fuel g args ⟨.nil, hs, k, []⟩ ⟨0, o, []⟩ (fun v s α => some (v, s.lg.isEmpty, α.ob)) = some (v, true, ps)) (hp : All ps) (ρ : Rho) (w : World) (vs : List Value) (hr : HRel ρ hs.get w) (hf : Fresh ρ k) (ha : ArgsR ρ args vs) :
    Calls P g vs.toArray w fun e w' => ∃ V ρ', e = .returned V ∧ RVR ρ' v V ∧ Below w.heap.size w w' := by
  obtain ⟨v1, s1, α', h1, h2⟩ := runA_ok h
  simp only [Option.some.injEq, Prod.mk.injEq] at h1
  obtain ⟨rfl, hl, rfl⟩ := h1
  have h3 := (h2 hp).2 (RV × S) (fun v s => some (v, s))
  obtain ⟨v2, s2, L, h4, ci⟩ := runB_info F htop h3
  simp only [Option.some.injEq, Prod.mk.injEq] at h4
  obtain ⟨rfl, rfl⟩ := h4
  have hL : L = [] := by
    have := ci.abs.lg
    rw [List.isEmpty_iff.1 hl] at this
    cases L with
    | nil => rfl
    | cons => simp at this
  subst hL
  exact (ci.run ρ w vs hr hf ha).mono fun e w' ⟨V, ρ', e1, e2, e3, e4, st⟩ => ⟨V, ρ', e1, e2, ⟨st.os, st.tape, st.out, st.size, fun b hb => st.frame b hb fun nm c hm => (List.not_mem_nil hm).elim⟩⟩

theorem CallInfo.smallX {f : FuncId} {args args0 : List RV} {v : RV} {k : Nat} {hs : T Blk} {θ : Nat → Nat} {s : S} (ht : Top s) (hfn : ∃ fn, P.funcs[f]? = some fn ∧ fn.body.isNone = false)
    (h0 : ∀ (ρ : Rho) (w : World) (vs : List Value), HRel ρ hs.get w → Fresh ρ k → ArgsR ρ args0 vs → Calls P f vs.toArray w fun e w' => ∃ V ρ', e = .returned V ∧ RVR ρ' v V ∧ Below w.heap.size w w')
    (hin : ∀ nm x, hs.get nm = some x → nm < k ∧ ∃ y, s.hp.get (θ nm) = some y ∧ ∀ ρ c o, BlkR ρ c y o → BlkR (rho0 k θ ρ) c x o)
    (hinj : ∀ ρ w, HRel ρ s.hp.get w → ∀ i j x y b c c', hs.get i = some x → hs.get j = some y → x.wr = true → ρ (θ i) = some (b, c) → ρ (θ j) = some (b, c') → i = j)
    (ha : ∀ ρ vs, ArgsR ρ args vs → ArgsR (rho0 k θ ρ) args0 vs) (hv : flatR v = true) : CallInfo P f args s v s [] := by
  refine CallInfo.quiet ht hfn fun ρ w vs hr ha' => ?_
  have hr0 : HRel (rho0 k θ ρ) hs.get w := ⟨fun nm x hx => by
      obtain ⟨hlt, y, hy, hro⟩ := hin nm x hx
      obtain ⟨b, c, o, e1, e2, e3⟩ := hr.ok _ _ hy
      exact ⟨b, c, o, by rw [rho0, if_pos hlt]; exact e1, e2, hro _ _ _ e3⟩,
    fun i j x y b c c' hx hy hw e1 e2 => by
      obtain ⟨hi, _⟩ := hin i x hx
      obtain ⟨hj, _⟩ := hin j y hy
      rw [rho0, if_pos hi] at e1
      rw [rho0, if_pos hj] at e2
      exact hinj ρ w hr i j x y b c c' hx hy hw e1 e2⟩
  have hf0 : Fresh (rho0 k θ ρ) k := fun nm h => by rw [rho0, if_neg (by omega)]
  exact (h0 _ w vs hr0 hf0 (ha ρ vs ha')).mono fun e w' ⟨V, ρ', e1, e2, b⟩ => ⟨V, e1, e2.indep hv, b⟩
theorem CallInfo.smallW {f : FuncId} {args args0 : List RV} {v : RV} {k : Nat} {hs : T Blk} {θ : Nat → Nat} {s : S} (ht : Top s) (hfn : ∃ fn, P.funcs[f]? = some fn ∧ fn.body.isNone = false)
    (h0 : ∀ (ρ : Rho) (w : World) (vs : List Value), HRel ρ hs.get w → Fresh ρ k → ArgsR ρ args0 vs → Calls P f vs.toArray w fun e w' => ∃ V ρ', e = .returned V ∧ RVR ρ' v V ∧ Below w.heap.size w w')
    (hin : ∀ nm x, hs.get nm = some x → nm < k ∧ ∃ y, s.hp.get (θ nm) = some y ∧ (x.wr = true → y.wr = true) ∧ ∀ ρ c o, BlkR ρ c y o → BlkR (rho0 k θ ρ) c x o)
    (hinj : ∀ i j x y, hs.get i = some x → hs.get j = some y → x.wr = true → θ i = θ j → i = j)
    (ha : ∀ ρ vs, ArgsR ρ args vs → ArgsR (rho0 k θ ρ) args0 vs) (hv : flatR v = true) : CallInfo P f args s v s [] :=
  CallInfo.smallX ht hfn h0 (fun nm x hx => by obtain ⟨h1, y, h2, _, h4⟩ := hin nm x hx; exact ⟨h1, y, h2, h4⟩) (fun ρ w hr i j x y b c c' hx hy hw e1 e2 => by
      obtain ⟨hi, x1, hx1, hx2, _⟩ := hin i x hx
      obtain ⟨hj, y1, hy1, _, _⟩ := hin j y hy
      exact hinj i j x y hx hy hw (hr.inj _ _ _ _ b c c' hx1 hy1 (hx2 hw) e1 e2)) ha hv

/-! ### what a cell says, weakened -/
def wkC : Cell → Cell
  | .int k n => .int k n
  | .bool b => .bool b
  | .str s => .str s
  | _ => .any
theorem CR.wk {ρ ρ' : Rho} {c : Cell} {v : Value} (h : CR ρ c v) : CR ρ' (wkC c) v := by
  cases c with
  | int => exact h
  | bool => exact h
  | str => exact h
  | _ => exact h.one
theorem CsR.wk {ρ ρ' : Rho} : ∀ {l : List Cell} {vs : List Value}, CsR ρ l vs → CsR ρ' (l.map wkC) vs
  | [], _, h => h
  | _ :: _, _, ⟨v, vs', h1, h2, h3⟩ => ⟨v, vs', h1.wk, CsR.wk h2, h3⟩
def wkA : AV → AV
  | .c x => .c (wkC x)
  | .agg l => .agg (l.map wkC)
  | .ints k l n => .ints k l n
theorem AVR.wk {ρ ρ' : Rho} {x : AV} {v : Value} (h : AVR ρ x v) : AVR ρ' (wkA x) v := by
  cases x with
  | c x => exact CR.wk h
  | agg l => obtain ⟨vs, h1, h2⟩ := h; exact ⟨vs, h1.wk, h2⟩
  | ints => exact h
def wkE (l : List (Cell × AV)) : List (Cell × AV) := l.map fun p => (wkC p.1, wkA p.2)
theorem EsR.wk {ρ ρ' : Rho} : ∀ {l : List (Cell × AV)} {es : List MapEntry}, EsR ρ l es → EsR ρ' (wkE l) es
  | [], _, h => h
  | (_, _) :: _, _, ⟨e, es', h1, h2, h3, h4⟩ => ⟨e, es', h1.wk, h2.wk, EsR.wk h3, h4⟩
theorem wkE_toEs (vk : Option IntKind) (l : List (Int × Int)) : wkE (toEs vk l) = toEs vk l := by
  unfold wkE toEs
  rw [List.map_map]
  refine List.map_congr_left fun p _ => ?_
  cases vk <;> rfl
theorem BlkR.wkMap {ρ ρ' : Rho} {c : Nat} {es : List (Cell × AV)} {o : Obj} (h : BlkR ρ c (.map es) o) : BlkR ρ' c (.mapR (wkE es)) o := by
  obtain ⟨ents, cl, h1, h2, h3⟩ := h
  exact ⟨ents, cl, h1, h2.wk, h3⟩
theorem RoOf.mapWk {k : Nat} {θ : Nat → Nat} {es : List (Cell × AV)} : RoOf k θ (.mapR (wkE es)) (.map es) := ⟨rfl, fun _ _ _ h => h.wkMap⟩
/-- a row, to be read alone, of cells as they are but for those that are let be -/
theorem RoOf.rowWk {k : Nat} {θ : Nat → Nat} {t : TypeId} {ro : Bool} {op : Option Nat} {l : List Cell} : RoOf k θ (.row t true op (.cells (l.map wkC))) (.row t ro op (.cells l)) :=
  ⟨rfl, fun _ _ _ ⟨vs, tail, fr, h1, h2, _, h4⟩ => ⟨vs, tail, fr, h1, CsR.wk h2, (fun h => by cases h), h4⟩⟩

/-- a map of int to bool, out of its entries -/
def unI : List (Cell × AV) → List (Int × Int)
  | [] => []
  | (.int .i64 k, .c (.bool b)) :: l => (k, if b then 1 else 0) :: unI l
  | _ :: l => unI l
def isI : List (Cell × AV) → Bool
  | [] => true
  | (.int .i64 _, .c (.bool _)) :: l => isI l
  | _ => false
theorem toEs_unI : ∀ {es : List (Cell × AV)}, isI es = true → toEs none (unI es) = es
  | [], _ => rfl
  | (c, v) :: l, h => by
    unfold isI at h
    split at h
    · rename_i e; cases e
    · rename_i k b l' e
      cases e
      have ih := toEs_unI h
      simp only [unI, toEs, List.map_cons] at ih ⊢
      rw [ih]
      cases b <;> rfl
    · cases h
end Go.Sx
namespace Go.Sx
/-! ### small tries -/
theorem T.get1 {α : Type} {x : α} {i : Nat} : (T.node .nil (some x) .nil : T α).get i = if i = 0 then some x else none := by
  rw [T.get_node]; split <;> simp [T.get_nil]
theorem T.get2 {α : Type} {x y : α} {i : Nat} : (T.node (.node .nil (some y) .nil) (some x) .nil : T α).get i = if i = 0 then some x else if i = 1 then some y else none := by
  rw [T.get_node, T.get1, T.get_nil]
  by_cases h : i = 0
  · rw [if_pos h, if_pos h]
  · rw [if_neg h, if_neg h]
    by_cases h1 : i % 2 = 1
    · rw [if_pos h1]
      by_cases h2 : i = 1
      · rw [if_pos (by omega), if_pos h2]
      · rw [if_neg (by omega), if_neg h2]
    · rw [if_neg h1, if_neg (by omega)]
theorem T.get3 {α : Type} {x y z : α} {i : Nat} : (T.node (.node .nil (some y) .nil) (some x) (.node .nil (some z) .nil) : T α).get i = if i = 0 then some x else if i = 1 then some y else if i = 2 then some z else none := by
  rw [T.get_node, T.get1, T.get1]
  by_cases h : i = 0
  · rw [if_pos h, if_pos h]
  · rw [if_neg h, if_neg h]
    by_cases h1 : i % 2 = 1
    · rw [if_pos h1]
      by_cases h2 : i = 1
      · rw [if_pos (by omega), if_pos h2]
      · rw [if_neg (by omega), if_neg h2, if_neg (by omega)]
    · rw [if_neg h1, if_neg (show ¬ i = 1 by omega)]
      by_cases h2 : i = 2
      · rw [if_pos (by omega), if_pos h2]
      · rw [if_neg (by omega), if_neg h2]
theorem T.get4 {α : Type} {x y z u : α} {i : Nat} : (T.node (.node (.node .nil (some u) .nil) (some y) .nil) (some x) (.node .nil (some z) .nil) : T α).get i = if i = 0 then some x else if i = 1 then some y else if i = 2 then some z else if i = 3 then some u else none := by
  rw [T.get_node, T.get_node, T.get1, T.get1, T.get_nil]
  by_cases h : i = 0
  · rw [if_pos h, if_pos h]
  · rw [if_neg h, if_neg h]
    by_cases h1 : i % 2 = 1
    · rw [if_pos h1]
      by_cases h2 : i = 1
      · rw [if_pos (by omega), if_pos h2]
      · rw [if_neg (by omega), if_neg h2, if_neg (show ¬ i = 2 by omega)]
        by_cases h3 : i = 3
        · rw [if_pos (by omega), if_pos (by omega), if_pos h3]
        · rw [if_neg h3]
          split
          · rw [if_neg (by omega)]
          · rfl
    · rw [if_neg h1, if_neg (show ¬ i = 1 by omega)]
      by_cases h2 : i = 2
      · rw [if_pos (by omega), if_pos h2]
      · rw [if_neg (by omega), if_neg h2, if_neg (show ¬ i = 3 by omega)]
end Go.Sx
