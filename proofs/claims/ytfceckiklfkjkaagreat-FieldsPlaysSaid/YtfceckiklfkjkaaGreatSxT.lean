/-
  Parts of the executor Sx over the model's code (any program), or of this seat's walks: words and proofs that the row's text uses.
-/
import Derived.Test.YtfceckiklfkjkaaGreatSxY
namespace Go.Sx
open Go.RowKit
variable {P : Program}
/-! ## Names given anew: what is kept bears the names k0, k0+1, .. -/
def idxN (nm : Nat) : List Nat → Nat → Option Nat
  | [], _ => none
  | x :: l, i => if nm = x then some i else idxN nm l (i + 1)
def invN (k0 : Nat) (ord : List Nat) (nm : Nat) : Option Nat := if nm < k0 then some nm else idxN nm ord k0
def invP (f : Nat → Option Nat) : List (Nat × Nat) → Option (List (Nat × Nat))
  | [] => some []
  | (a, b) :: l => match f a, invP f l with | some a, some l => some ((a, b) :: l) | _, _ => none
def invC (f : Nat → Option Nat) : Cell → Option Cell
  | .ptr nm off => match f nm with | some m => some (.ptr m off) | none => none
  | .sl nm off len cap => match f nm with | some m => some (.sl m off len cap) | none => none
  | .slu nm sz a len => match f nm with | some m => some (.slu m sz a len) | none => none
  | .map nm => match f nm with | some m => some (.map m) | none => none
  | .yield nm => match f nm with | some m => some (.yield m) | none => none
  | .fn g fs cs => match invP f fs, invP f cs with | some fs, some cs => some (.fn g fs cs) | _, _ => none
  | c => some c
def invL (f : Nat → Option Nat) : List Cell → Option (List Cell)
  | [] => some []
  | c :: l => match invC f c, invL f l with | some c, some l => some (c :: l) | _, _ => none
def invA (f : Nat → Option Nat) : AV → Option AV
  | .c x => match invC f x with | some x => some (.c x) | none => none
  | .agg l => match invL f l with | some l => some (.agg l) | none => none
  | .ints k l n => some (.ints k l n)
def invAs (f : Nat → Option Nat) : List AV → Option (List AV)
  | [] => some []
  | c :: l => match invA f c, invAs f l with | some c, some l => some (c :: l) | _, _ => none
def invR (f : Nat → Option Nat) : RV → Option RV
  | .one v => match invA f v with | some v => some (.one v) | none => none
  | .tup l => match invAs f l with | some l => some (.tup l) | none => none
  | .any => some .any
def invRs (f : Nat → Option Nat) : List RV → Option (List RV)
  | [] => some []
  | c :: l => match invR f c, invRs f l with | some c, some l => some (c :: l) | _, _ => none
def invE (f : Nat → Option Nat) : List (Cell × AV) → Option (List (Cell × AV))
  | [] => some []
  | (c, v) :: l => match invC f c, invA f v, invE f l with | some c, some v, some l => some ((c, v) :: l) | _, _, _ => none
def invB (f : Nat → Option Nat) : Blk → Option Blk
  | .row t ro o (.cells l) => match invL f l with | some l => some (.row t ro o (.cells l)) | none => none
  | .row t ro o (.ints k l n) => some (.row t ro o (.ints k l n))
  | .row t ro o (.bools l n) => some (.row t ro o (.bools l n))
  | .map es => match invE f es with | some es => some (.map es) | none => none
  | .win o k l => some (.win o k l)
  | .recs o k l => some (.recs o k l)
  | .mapI vk l => some (.mapI vk l)
  | .mapR es => match invE f es with | some es => some (.mapR es) | none => none
  | .loop st sl ps as bd => match invRs f sl with | some sl => some (.loop st sl ps as bd) | none => none
  | .iter s p => some (.iter s p)
  | .mapP es => match invE f es with | some es => some (.mapP es) | none => none
  | .mapV l => some (.mapV l)
  | .mapS l => some (.mapS l)

section inv
variable {f : Nat → Option Nat} {ρ ρ' : Rho} (h : ∀ nm m, f nm = some m → ρ' m = ρ nm) (hz : ∀ b l, ρ.fz b = some l → ρ'.fz b = some l)
include h hz
omit hz in
theorem CapsR.inv : ∀ {l l' : List (Nat × Nat)} {vs : List Value}, CapsR ρ l vs → invP f l = some l' → CapsR ρ' l' vs
  | [], l', vs, hr, hi => by simp only [invP, Option.some.injEq] at hi; subst hi; exact hr
  | (a, b) :: l, l', vs, ⟨bl, c, vs', h1, h2, h3⟩, hi => by
    simp only [invP] at hi
    split at hi <;> try (cases hi; done)
    rename_i a' l2 e1 e2
    simp only [Option.some.injEq] at hi; subst hi
    exact ⟨bl, c, vs', by rw [h _ _ e1]; exact h1, CapsR.inv h2 e2, h3⟩
theorem CR.inv {c c' : Cell} {v : Value} (hr : CR ρ c v) (hi : invC f c = some c') : CR ρ' c' v := by
  cases c with
  | ptr nm off =>
    simp only [invC] at hi
    split at hi <;> try (cases hi; done)
    rename_i m e
    simp only [Option.some.injEq] at hi; subst hi
    obtain ⟨b, c, h1, h2⟩ := hr
    exact ⟨b, c, by rw [h _ _ e]; exact h1, h2⟩
  | sl nm off len cap =>
    simp only [invC] at hi
    split at hi <;> try (cases hi; done)
    rename_i m e
    simp only [Option.some.injEq] at hi; subst hi
    obtain ⟨b, c, h1, h2⟩ := hr
    exact ⟨b, c, by rw [h _ _ e]; exact h1, h2⟩
  | slu nm sz a len =>
    simp only [invC] at hi
    split at hi <;> try (cases hi; done)
    rename_i m e
    simp only [Option.some.injEq] at hi; subst hi
    obtain ⟨b, c, off, h1, h2⟩ := hr
    exact ⟨b, c, off, by rw [h _ _ e]; exact h1, h2⟩
  | map nm =>
    simp only [invC] at hi
    split at hi <;> try (cases hi; done)
    rename_i m e
    simp only [Option.some.injEq] at hi; subst hi
    obtain ⟨b, c, h1, h2⟩ := hr
    exact ⟨b, c, by rw [h _ _ e]; exact h1, h2⟩
  | yield nm =>
    simp only [invC] at hi
    split at hi <;> try (cases hi; done)
    rename_i m e
    simp only [Option.some.injEq] at hi; subst hi
    obtain ⟨b, c, h1, h2⟩ := hr
    exact ⟨b, c, by rw [h _ _ e]; exact h1, h2⟩
  | fn g fs cs =>
    simp only [invC] at hi
    split at hi <;> try (cases hi; done)
    rename_i fs' cs' e1 e2
    simp only [Option.some.injEq] at hi; subst hi
    obtain ⟨us, vs, h1, h2, h3⟩ := hr
    exact ⟨us, vs, CapsR.inv h h1 e1, CapsR.inv h h2 e2, h3⟩
  | vsl l => simp only [invC, Option.some.injEq] at hi; subst hi; exact hr.imp id fun ⟨h0, b, c, h1, h2⟩ => ⟨h0, b, c, hz _ _ h1, h2⟩
  | vptr l i => simp only [invC, Option.some.injEq] at hi; subst hi; obtain ⟨b, h1, h2⟩ := hr; exact ⟨b, hz _ _ h1, h2⟩
  | _ => simp only [invC, Option.some.injEq] at hi; subst hi; exact hr
theorem CsR.inv : ∀ {l l' : List Cell} {vs : List Value}, CsR ρ l vs → invL f l = some l' → CsR ρ' l' vs
  | [], l', vs, hr, hi => by simp only [invL, Option.some.injEq] at hi; subst hi; exact hr
  | c :: l, l', vs, ⟨v, vs', h1, h2, h3⟩, hi => by
    simp only [invL] at hi
    split at hi <;> try (cases hi; done)
    rename_i c' l2 e1 e2
    simp only [Option.some.injEq] at hi; subst hi
    exact ⟨v, vs', CR.inv h hz h1 e1, CsR.inv h2 e2, h3⟩
theorem AVR.inv {x x' : AV} {v : Value} (hr : AVR ρ x v) (hi : invA f x = some x') : AVR ρ' x' v := by
  cases x with
  | c x =>
    simp only [invA] at hi
    split at hi <;> try (cases hi; done)
    rename_i m e
    simp only [Option.some.injEq] at hi; subst hi
    exact CR.inv h hz hr e
  | agg l =>
    simp only [invA] at hi
    split at hi <;> try (cases hi; done)
    rename_i m e
    simp only [Option.some.injEq] at hi; subst hi
    obtain ⟨vs, h1, h2⟩ := hr
    exact ⟨vs, CsR.inv h hz h1 e, h2⟩
  | ints => simp only [invA, Option.some.injEq] at hi; subst hi; exact hr
theorem AVsR.inv : ∀ {l l' : List AV} {vs : List Value}, AVsR ρ l vs → invAs f l = some l' → AVsR ρ' l' vs
  | [], l', vs, hr, hi => by simp only [invAs, Option.some.injEq] at hi; subst hi; exact hr
  | c :: l, l', vs, ⟨v, vs', h1, h2, h3⟩, hi => by
    simp only [invAs] at hi
    split at hi <;> try (cases hi; done)
    rename_i c' l2 e1 e2
    simp only [Option.some.injEq] at hi; subst hi
    exact ⟨v, vs', AVR.inv h hz h1 e1, AVsR.inv h2 e2, h3⟩
theorem RVR.inv {x x' : RV} {v : Value} (hr : RVR ρ x v) (hi : invR f x = some x') : RVR ρ' x' v := by
  cases x with
  | one x =>
    simp only [invR] at hi
    split at hi <;> try (cases hi; done)
    rename_i m e
    simp only [Option.some.injEq] at hi; subst hi
    exact AVR.inv h hz hr e
  | tup l =>
    simp only [invR] at hi
    split at hi <;> try (cases hi; done)
    rename_i m e
    simp only [Option.some.injEq] at hi; subst hi
    obtain ⟨vs, h1, h2⟩ := hr
    exact ⟨vs, AVsR.inv h hz h1 e, h2⟩
  | any => simp only [invR, Option.some.injEq] at hi; subst hi; trivial
theorem ArgsR.inv : ∀ {l l' : List RV} {vs : List Value}, ArgsR ρ l vs → invRs f l = some l' → ArgsR ρ' l' vs
  | [], l', vs, hr, hi => by simp only [invRs, Option.some.injEq] at hi; subst hi; exact hr
  | c :: l, l', vs, ⟨v, vs', h1, h2, h3⟩, hi => by
    simp only [invRs] at hi
    split at hi <;> try (cases hi; done)
    rename_i c' l2 e1 e2
    simp only [Option.some.injEq] at hi; subst hi
    exact ⟨v, vs', RVR.inv h hz h1 e1, ArgsR.inv h2 e2, h3⟩
theorem EsR.inv : ∀ {l l' : List (Cell × AV)} {es : List MapEntry}, EsR ρ l es → invE f l = some l' → EsR ρ' l' es
  | [], l', es, hr, hi => by simp only [invE, Option.some.injEq] at hi; subst hi; exact hr
  | (c, v) :: l, l', es, ⟨e, es', h1, h2, h3, h4⟩, hi => by
    simp only [invE] at hi
    split at hi <;> try (cases hi; done)
    rename_i c' v' l2 e1 e2 e3
    simp only [Option.some.injEq] at hi; subst hi
    exact ⟨e, es', CR.inv h hz h1 e1, AVR.inv h hz h2 e2, EsR.inv h3 e3, h4⟩
theorem BlkR.inv {c : Nat} {x x' : Blk} {o : Obj} (hr : BlkR ρ c x o) (hi : invB f x = some x') : BlkR ρ' c x' o := by
  cases x with
  | row t ro opn b =>
    obtain ⟨vs, tail, fr, h1, h2, h3⟩ := hr
    cases b with
    | cells l =>
      simp only [invB] at hi
      split at hi <;> try (cases hi; done)
      rename_i m e
      simp only [Option.some.injEq] at hi; subst hi
      exact ⟨vs, tail, fr, h1, CsR.inv h hz h2 e, h3⟩
    | ints => simp only [invB, Option.some.injEq] at hi; subst hi; exact ⟨vs, tail, fr, h1, h2, h3⟩
    | bools => simp only [invB, Option.some.injEq] at hi; subst hi; exact ⟨vs, tail, fr, h1, h2, h3⟩
  | map es =>
    simp only [invB] at hi
    split at hi <;> try (cases hi; done)
    rename_i m e
    simp only [Option.some.injEq] at hi; subst hi
    obtain ⟨ents, cl, h1, h2, h3⟩ := hr
    exact ⟨ents, cl, h1, EsR.inv h hz h2 e, h3⟩
  | iter => simp only [invB, Option.some.injEq] at hi; subst hi; exact hr
  | mapP es =>
    simp only [invB] at hi
    split at hi <;> try (cases hi; done)
    rename_i m e
    simp only [Option.some.injEq] at hi; subst hi
    obtain ⟨ents, cl, es', h1, h2, h3⟩ := hr
    exact ⟨ents, cl, es', h1, EsR.inv h hz h2 e, h3⟩
  | loop st sl ps as bd =>
    simp only [invB] at hi
    split at hi <;> try (cases hi; done)
    rename_i m e
    simp only [Option.some.injEq] at hi; subst hi
    obtain ⟨r, h1, h2, h3⟩ := hr
    exact ⟨r, h1, ArgsR.inv h hz h2 e, h3⟩
  | mapR es =>
    simp only [invB] at hi
    split at hi <;> try (cases hi; done)
    rename_i m e
    simp only [Option.some.injEq] at hi; subst hi
    obtain ⟨ents, cl, h1, h2, h3⟩ := hr
    exact ⟨ents, cl, h1, EsR.inv h hz h2 e, h3⟩
  | win => simp only [invB, Option.some.injEq] at hi; subst hi; exact hr
  | recs => simp only [invB, Option.some.injEq] at hi; subst hi; exact hr
  | mapI vk l =>
    simp only [invB, Option.some.injEq] at hi; subst hi
    obtain ⟨ents, cl, h1, h2, h3⟩ := hr
    refine ⟨ents, cl, h1, ?_, h3⟩
    refine EsR.inv h hz h2 (?_ : invE f (toEs vk l) = some (toEs vk l))
    have hc : ∀ q : Int, invC f (valI vk q) = some (valI vk q) := fun q => by cases vk <;> rfl
    clear h2
    unfold toEs
    induction l with
    | nil => rfl
    | cons p l ih => simp only [List.map_cons, invE, ih, invA, hc]; rfl
  | mapV l =>
    simp only [invB, Option.some.injEq] at hi; subst hi
    obtain ⟨ents, cl, h1, h2, h3⟩ := hr
    refine ⟨ents, cl, h1, ?_, h3⟩
    refine EsR.inv h hz h2 (?_ : invE f (toVs l) = some (toVs l))
    clear h2
    unfold toVs
    induction l with
    | nil => rfl
    | cons p l ih => simp only [List.map_cons, invE, ih, invA, invC]
  | mapS l =>
    simp only [invB, Option.some.injEq] at hi; subst hi
    obtain ⟨ents, cl, h1, h2, h3⟩ := hr
    refine ⟨ents, cl, h1, ?_, h3⟩
    refine EsR.inv h hz h2 (?_ : invE f (toSs l) = some (toSs l))
    clear h2
    unfold toSs
    induction l with
    | nil => rfl
    | cons p l ih => simp only [List.map_cons, invE, ih, invA, invC]
end inv

/-! what names only what was there stays as it is -/
section fix
variable {f : Nat → Option Nat} {ρ : Rho} {k0 : Nat} (hf : ∀ nm, k0 ≤ nm → ρ nm = none) (h : ∀ nm, nm < k0 → f nm = some nm)
include hf h
theorem fixN {nm : Nat} {b c : Nat} (hr : ρ nm = some (b, c)) : f nm = some nm := by
  rcases Nat.lt_or_ge nm k0 with h1 | h1
  · exact h nm h1
  · rw [hf nm h1] at hr; cases hr
theorem CapsR.fix : ∀ {l : List (Nat × Nat)} {vs : List Value}, CapsR ρ l vs → invP f l = some l
  | [], _, _ => rfl
  | (a, b) :: l, _, ⟨_, _, _, h1, h2, _⟩ => by simp only [invP, fixN hf h h1, CapsR.fix h2]
theorem CR.fix {c : Cell} {v : Value} (hr : CR ρ c v) : invC f c = some c := by
  cases c with
  | ptr nm off => obtain ⟨_, _, h1, _⟩ := hr; simp only [invC, fixN hf h h1]
  | sl nm off len cap => obtain ⟨_, _, h1, _⟩ := hr; simp only [invC, fixN hf h h1]
  | slu nm sz a len => obtain ⟨_, _, _, h1, _⟩ := hr; simp only [invC, fixN hf h h1]
  | map nm => obtain ⟨_, _, h1, _⟩ := hr; simp only [invC, fixN hf h h1]
  | yield nm => obtain ⟨_, _, h1, _⟩ := hr; simp only [invC, fixN hf h h1]
  | fn g fs cs => obtain ⟨_, _, h1, h2, _⟩ := hr; simp only [invC, CapsR.fix hf h h1, CapsR.fix hf h h2]
  | _ => rfl
theorem CsR.fix : ∀ {l : List Cell} {vs : List Value}, CsR ρ l vs → invL f l = some l
  | [], _, _ => rfl
  | c :: l, _, ⟨_, _, h1, h2, _⟩ => by simp only [invL, CR.fix hf h h1, CsR.fix h2]
theorem AVR.fix {x : AV} {v : Value} (hr : AVR ρ x v) : invA f x = some x := by
  cases x with
  | c x => simp only [invA, CR.fix hf h hr]
  | agg l => obtain ⟨_, h1, _⟩ := hr; simp only [invA, CsR.fix hf h h1]
  | ints => rfl
theorem AVsR.fix : ∀ {l : List AV} {vs : List Value}, AVsR ρ l vs → invAs f l = some l
  | [], _, _ => rfl
  | c :: l, _, ⟨_, _, h1, h2, _⟩ => by simp only [invAs, AVR.fix hf h h1, AVsR.fix h2]
theorem RVR.fix {x : RV} {v : Value} (hr : RVR ρ x v) : invR f x = some x := by
  cases x with
  | one x => simp only [invR, AVR.fix hf h hr]
  | tup l => obtain ⟨_, h1, _⟩ := hr; simp only [invR, AVsR.fix hf h h1]
  | any => rfl
theorem ArgsR.fix : ∀ {l : List RV} {vs : List Value}, ArgsR ρ l vs → invRs f l = some l
  | [], _, _ => rfl
  | c :: l, _, ⟨_, _, h1, h2, _⟩ => by simp only [invRs, RVR.fix hf h h1, ArgsR.fix h2]
theorem EsR.fix : ∀ {l : List (Cell × AV)} {es : List MapEntry}, EsR ρ l es → invE f l = some l
  | [], _, _ => rfl
  | (c, v) :: l, _, ⟨_, _, h1, h2, h3, _⟩ => by simp only [invE, CR.fix hf h h1, AVR.fix hf h h2, EsR.fix h3]
theorem BlkR.fix {c : Nat} {x : Blk} {o : Obj} (hr : BlkR ρ c x o) : invB f x = some x := by
  cases x with
  | row t ro opn b =>
    obtain ⟨_, _, _, _, h2, _⟩ := hr
    cases b with
    | cells l => simp only [invB, CsR.fix hf h h2]
    | ints => rfl
    | bools => rfl
  | map es => obtain ⟨_, _, _, h2, _⟩ := hr; simp only [invB, EsR.fix hf h h2]
  | mapR es => obtain ⟨_, _, _, h2, _⟩ := hr; simp only [invB, EsR.fix hf h h2]
  | loop => obtain ⟨_, _, h2, _⟩ := hr; simp only [invB, ArgsR.fix hf h h2]
  | iter => rfl
  | mapP es => obtain ⟨_, _, _, _, h2, _⟩ := hr; simp only [invB, EsR.fix hf h h2]
  | win => rfl
  | recs => rfl
  | mapI => rfl
  | mapV => rfl
  | mapS => rfl
end fix

/-! ### the state that is kept -/
noncomputable def gcSl (f : Nat → Option Nat) (keep : List Nat) (sl : T RV) : Nat → T RV → Option (T RV)
  | 0, t => some t
  | n + 1, t => match (if keep.contains n then invR f ((sl.get n).getD und) else some .any) with
    | some v => T.set depth t n (some v) fun t => gcSl f keep sl n t
    | none => none
/-- (the new name, the elder one, is it let be?) -/
noncomputable def gcT (f : Nat → Option Nat) (hp : T Blk) : List (Nat × Nat × Bool) → T Blk → Option (T Blk)
  | [], t => some t
  | (a, b, raw) :: l, t => match hp.get b with
    | none => gcT f hp l t
    | some x => match (if raw then some x else invB f x) with
      | some y => T.set depth t a (some y) fun t => gcT f hp l t
      | none => none
def srcO (k0 : Nat) (K : List Nat) : Nat → List (Nat × Nat × Bool)
  | 0 => []
  | j + 1 => (j, j, K.contains j) :: srcO k0 K j
def srcN : List Nat → Nat → List (Nat × Nat × Bool)
  | [], _ => []
  | x :: l, i => (i, x, false) :: srcN l (i + 1)
def okOrd (k0 : Nat) : List Nat → Bool
  | [] => true
  | x :: l => Nat.ble k0 x && (!l.contains x && okOrd k0 l)
def pinOK (k0 : Nat) (ord : List Nat) : List Nat → Bool
  | [] => true
  | q :: l => (match invN k0 ord q with | some m => Nat.beq m q | none => false) && pinOK k0 ord l
noncomputable def gcS (k0 : Nat) (K pn keep : List Nat) (n : Nat) (ord : List Nat) (s : S) : Option S :=
  if (okOrd k0 ord && pinOK k0 ord pn) = true then
    match gcSl (invN k0 ord) keep s.sl n .nil with
    | some sl => match gcT (invN k0 ord) s.hp (srcO k0 K k0 ++ srcN ord k0) .nil with
      | some hp => some ⟨sl, hp, k0 + ord.length, []⟩
      | none => none
    | none => none
  else none

theorem gcSl_ok {f : Nat → Option Nat} {keep : List Nat} {sl : T RV} : ∀ {n : Nat} {t r : T RV}, gcSl f keep sl n t = some r → ∀ j, if j < n then (∃ v, r.get j = some v ∧ (v = .any ∨ invR f ((sl.get j).getD und) = some v)) else r.get j = t.get j
  | 0, t, r, h, j => by simp only [gcSl, Option.some.injEq] at h; subst h; simp
  | n + 1, t, r, h, j => by
    simp only [gcSl] at h
    split at h <;> try (cases h; done)
    rename_i v hv
    obtain ⟨t', h1, h2⟩ := T.set_ok _ _ _ _ _ _ h
    have ih := gcSl_ok h1 j
    by_cases e : j < n
    · rw [if_pos e] at ih; rw [if_pos (by omega)]; exact ih
    · rw [if_neg e, h2] at ih
      by_cases e2 : j = n
      · subst e2
        rw [if_pos rfl] at ih
        rw [if_pos (by omega)]
        refine ⟨v, ih, ?_⟩
        split at hv
        · exact .inr hv
        · simp only [Option.some.injEq] at hv; exact .inl hv.symm
      · rw [if_neg e2] at ih; rw [if_neg (by omega)]; exact ih

theorem gcT_ok {f : Nat → Option Nat} {hp : T Blk} : ∀ {l : List (Nat × Nat × Bool)} {t r : T Blk}, (l.map (·.1)).Nodup → gcT f hp l t = some r →
    (∀ j, (∀ b raw, (j, b, raw) ∉ l) → r.get j = t.get j) ∧
    (∀ a b raw, (a, b, raw) ∈ l → match hp.get b with | none => r.get a = t.get a | some x => ∃ y, r.get a = some y ∧ (if raw then y = x else invB f x = some y))
  | [], t, r, _, h => by simp only [gcT, Option.some.injEq] at h; subst h; exact ⟨fun _ _ => rfl, fun _ _ _ h => by cases h⟩
  | (a, b, raw) :: l, t, r, hn, h => by
    simp only [List.map_cons, List.nodup_cons] at hn
    have hna : ∀ b raw, (a, b, raw) ∉ l := fun b raw hm => hn.1 (List.mem_map.2 ⟨_, hm, rfl⟩)
    simp only [gcT] at h
    split at h
    · rename_i hb
      obtain ⟨i1, i2⟩ := gcT_ok hn.2 h
      refine ⟨fun j hj => i1 j fun b' r' hm => hj b' r' (List.mem_cons_of_mem _ hm), fun a' b' r' hm => ?_⟩
      rcases List.mem_cons.1 hm with e | hm
      · cases e; rw [hb]; exact i1 a hna
      · exact i2 a' b' r' hm
    · rename_i x hb
      split at h <;> try (cases h; done)
      rename_i y hy
      obtain ⟨t', h1, h2⟩ := T.set_ok _ _ _ _ _ _ h
      obtain ⟨i1, i2⟩ := gcT_ok hn.2 h1
      refine ⟨fun j hj => ?_, fun a' b' r' hm => ?_⟩
      · rw [i1 j fun b' r' hm => hj b' r' (List.mem_cons_of_mem _ hm), h2, if_neg]
        intro e; subst e; exact hj b raw (List.mem_cons_self ..)
      · rcases List.mem_cons.1 hm with e | hm2
        · cases e
          rw [hb]
          refine ⟨y, by rw [i1 a hna, h2, if_pos rfl], ?_⟩
          cases raw with
          | true => simp only [if_true, Option.some.injEq] at hy; simp [hy]
          | false => simpa using hy
        · have := i2 a' b' r' hm2
          have hne : a' ≠ a := fun e => hna b' r' (e ▸ hm2)
          cases hb' : hp.get b' with
          | none => rw [hb'] at this; rw [this, h2, if_neg hne]
          | some x' => rw [hb'] at this; exact this

theorem mem_srcO {k0 : Nat} {K : List Nat} : ∀ {m a b : Nat} {raw : Bool}, (a, b, raw) ∈ srcO k0 K m ↔ a < m ∧ b = a ∧ raw = K.contains a
  | 0, _, _, _ => by simp [srcO]
  | m + 1, a, b, raw => by
    simp only [srcO, List.mem_cons, Prod.mk.injEq, mem_srcO (m := m)]
    constructor
    · rintro (⟨rfl, rfl, rfl⟩ | ⟨h1, h2, h3⟩)
      · exact ⟨by omega, rfl, rfl⟩
      · exact ⟨by omega, h2, h3⟩
    · rintro ⟨h1, h2, h3⟩
      by_cases e : a = m
      · subst e; exact .inl ⟨rfl, h2, h3⟩
      · exact .inr ⟨by omega, h2, h3⟩
theorem mem_srcN : ∀ {l : List Nat} {i a b : Nat} {raw : Bool}, (a, b, raw) ∈ srcN l i ↔ raw = false ∧ i ≤ a ∧ l[a - i]? = some b
  | [], _, _, _, _ => by simp [srcN]
  | x :: l, i, a, b, raw => by
    simp only [srcN, List.mem_cons, Prod.mk.injEq, mem_srcN (l := l)]
    constructor
    · rintro (⟨rfl, rfl, rfl⟩ | ⟨h1, h2, h3⟩)
      · exact ⟨rfl, Nat.le_refl _, by simp⟩
      · refine ⟨h1, by omega, ?_⟩
        rw [show a - i = (a - (i + 1)) + 1 by omega]; exact h3
    · rintro ⟨h1, h2, h3⟩
      by_cases e : a = i
      · subst e; simp at h3; exact .inl ⟨rfl, h3.symm, h1⟩
      · refine .inr ⟨h1, by omega, ?_⟩
        rw [show a - i = (a - (i + 1)) + 1 by omega] at h3; exact h3
theorem idxN_ok : ∀ {l : List Nat} {nm i m : Nat}, idxN nm l i = some m → i ≤ m ∧ l[m - i]? = some nm
  | [], _, _, _, h => by simp [idxN] at h
  | x :: l, nm, i, m, h => by
    simp only [idxN] at h
    split at h
    · rename_i e; simp only [Option.some.injEq] at h; subst h; subst e; exact ⟨Nat.le_refl _, by simp⟩
    · obtain ⟨h1, h2⟩ := idxN_ok h
      refine ⟨by omega, ?_⟩
      rw [show m - i = (m - (i + 1)) + 1 by omega]; exact h2
theorem okOrd_ok {k0 : Nat} : ∀ {l : List Nat}, okOrd k0 l = true → l.Nodup ∧ ∀ x ∈ l, k0 ≤ x
  | [], _ => ⟨List.nodup_nil, fun _ h => by cases h⟩
  | x :: l, h => by
    simp only [okOrd, Bool.and_eq_true] at h
    obtain ⟨h1, h2, h3⟩ := h
    obtain ⟨g1, g2⟩ := okOrd_ok h3
    refine ⟨List.nodup_cons.2 ⟨by simpa using h2, g1⟩, fun y hy => ?_⟩
    rcases List.mem_cons.1 hy with rfl | hy
    · exact Nat.le_of_ble_eq_true h1
    · exact g2 y hy
theorem srcO_fst {k0 : Nat} {K : List Nat} : ∀ {m : Nat}, ((srcO k0 K m).map (·.1)).Nodup
  | 0 => by simp [srcO]
  | m + 1 => by
    simp only [srcO, List.map_cons, List.nodup_cons]
    refine ⟨fun h => ?_, srcO_fst⟩
    obtain ⟨⟨a, b, r⟩, h1, h2⟩ := List.mem_map.1 h
    have := (mem_srcO.1 h1).1
    simp only at h2
    omega
theorem srcN_fst : ∀ {l : List Nat} {i : Nat}, ((srcN l i).map (·.1)).Nodup
  | [], _ => by simp [srcN]
  | x :: l, i => by
    simp only [srcN, List.map_cons, List.nodup_cons]
    refine ⟨fun h => ?_, srcN_fst⟩
    obtain ⟨⟨a, b, r⟩, h1, h2⟩ := List.mem_map.1 h
    have := (mem_srcN.1 h1).2.1
    simp only at h2
    omega

theorem nodup_at {l : List Nat} (h : l.Nodup) {i j : Nat} (hi : i < l.length) (hj : j < l.length) (e : l[i] = l[j]) : i = j := by
  rcases Nat.lt_trichotomy i j with h1 | h1 | h1
  · exact absurd e (List.pairwise_iff_getElem.1 h i j hi hj h1)
  · exact h1
  · exact absurd e.symm (List.pairwise_iff_getElem.1 h j i hj hi h1)
/-! ## Triples out of one origin -/
/-- names of blocks that no piece turns: iterators over maps -/
structure Pin where
  nm : Nat
  b : Nat
  o : Obj
def Obj.isIt : Obj → Bool
  | .mapIter .. => true
  | _ => false
def PinOK (pins : List Pin) (ρ : Rho) (w : World) : Prop := ∀ p ∈ pins, (∃ c, ρ p.nm = some (p.b, c)) ∧ w.heap[p.b]? = some p.o ∧ Obj.isIt p.o = true
theorem BlkR.noIt {ρ : Rho} {c : Nat} {x : Blk} {o : Obj} (h : BlkR ρ c x o) : Obj.isIt o = false := by
  cases x with
  | row => obtain ⟨_, _, _, rfl, _⟩ := h; rfl
  | map => obtain ⟨_, _, rfl, _⟩ := h; rfl
  | win => obtain ⟨_, _, _, rfl, _⟩ := h; rfl
  | recs => obtain ⟨_, _, _, rfl, _⟩ := h; rfl
  | mapI => obtain ⟨_, _, rfl, _⟩ := h; rfl
  | mapR => obtain ⟨_, _, rfl, _⟩ := h; rfl
  | loop => obtain ⟨_, rfl, _⟩ := h; rfl
  | iter => subst h; rfl
  | mapP => obtain ⟨_, _, _, rfl, _⟩ := h; rfl
  | mapV => obtain ⟨_, _, rfl, _⟩ := h; rfl
  | mapS => obtain ⟨_, _, rfl, _⟩ := h; rfl
/-- a step leaves them -/
theorem PinOK.step {pins : List Pin} {ρ ρ' : Rho} {s s' : S} {w w' : World} {L : List Nat} (h : PinOK pins ρ w) (hr : HRel ρ s.hp.get w) (hf : Fresh ρ s.nx) (st : StpS ρ s w ρ' s' w' L) : PinOK pins ρ' w' := fun p hp => by
  obtain ⟨⟨c, h1⟩, h2, h3⟩ := h p hp
  have hlt : p.nm < s.nx := by
    rcases Nat.lt_or_ge p.nm s.nx with h | h
    · exact h
    · rw [hf _ h] at h1; cases h1
  refine ⟨⟨c, by rw [st.rho _ hlt]; exact h1⟩, ?_, h3⟩
  rw [st.frame p.b (lt_of_get h2) fun nm c' hm hl he => ?_]
  · exact h2
  · obtain ⟨x, o1, _⟩ := st.own nm hm hl
    obtain ⟨b, c2, o, q1, q2, q3⟩ := hr.ok nm x o1
    rw [he] at q1
    simp only [Option.some.injEq, Prod.mk.injEq] at q1
    obtain ⟨rfl, rfl⟩ := q1
    rw [h2] at q2
    cases q2
    rw [q3.noIt] at h3; cases h3
structure Came (n : Nat) (K : List Nat) (pins : List Pin) (ρ0 : Rho) (s0 : S) (w0 : World) (s : S) (a : Act) (w : World) : Prop where
  it : ∃ ρ L, AbsN s0 s L ∧ (∀ nm ∈ K, nm ∉ L) ∧ Rel n ρ s a w ∧ StpS ρ0 s0 w0 ρ s w L ∧ PinOK pins ρ w

theorem pinOK_ok {k0 : Nat} {ord : List Nat} : ∀ {l : List Nat}, pinOK k0 ord l = true → ∀ q ∈ l, invN k0 ord q = some q
  | [], _, _, h => by cases h
  | x :: l, h, q, hq => by
    simp only [pinOK, Bool.and_eq_true] at h
    rcases List.mem_cons.1 hq with rfl | hq
    · have := h.1
      split at this
      · rename_i m e; rw [e, Nat.eq_of_beq_eq_true this]
      · cases this
    · exact pinOK_ok h.2 q hq
theorem Came.gc {n : Nat} {K keep ord pn : List Nat} {pins : List Pin} {ρ0 : Rho} {s0 s s' : S} {w0 w : World} {a : Act} (hr0 : HRel ρ0 s0.hp.get w0) (hf0 : Fresh ρ0 s0.nx) (h : Came n K pins ρ0 s0 w0 s a w) (hpn : pins.map Pin.nm = pn)
    (hg : gcS s0.nx K pn keep n ord s = some s') : Came n K pins ρ0 s0 w0 s' a w := by
  obtain ⟨ρ, L, ab, hK, R, st, hpin⟩ := h.it
  unfold gcS at hg
  split at hg <;> try (cases hg; done)
  rename_i hok
  split at hg <;> try (cases hg; done)
  rename_i sl hsl
  split at hg <;> try (cases hg; done)
  rename_i hp hhp
  simp only [Option.some.injEq] at hg
  subst hg
  rw [Bool.and_eq_true] at hok
  obtain ⟨hok, hpok⟩ := hok
  obtain ⟨hnd, hge⟩ := okOrd_ok hok
  let k0 := s0.nx
  let ρ' : Rho := ⟨fun m => if m < k0 then ρ m else match ord[m - k0]? with | some nm => ρ nm | none => none, ρ.fz⟩
  have hz : ∀ b l, ρ.fz b = some l → ρ'.fz b = some l := fun _ _ h => h
  have hinv : ∀ nm m, invN s0.nx ord nm = some m → ρ' m = ρ nm := fun nm m hm => by
    unfold invN at hm
    show (if m < s0.nx then ρ m else match ord[m - s0.nx]? with | some nm => ρ nm | none => none) = ρ nm
    split at hm
    · rename_i hlt
      simp only [Option.some.injEq] at hm; subst hm
      rw [if_pos hlt]
    · obtain ⟨g1, g2⟩ := idxN_ok hm
      rw [if_neg (by omega), g2]
  have hnod : (((srcO s0.nx K s0.nx) ++ srcN ord s0.nx).map (·.1)).Nodup := by
    rw [List.map_append, List.nodup_append]
    refine ⟨srcO_fst, srcN_fst, fun a ha b hb e => ?_⟩
    obtain ⟨⟨a1, b1, r1⟩, h1, h2⟩ := List.mem_map.1 ha
    obtain ⟨⟨a2, b2, r2⟩, h3, h4⟩ := List.mem_map.1 hb
    have q1 := (mem_srcO.1 h1).1
    have q2 := (mem_srcN.1 h3).2.1
    simp only at h2 h4
    omega
  obtain ⟨g1, g2⟩ := gcT_ok hnod hhp
  -- what stands behind a name that is kept
  have hsrc : ∀ j y, hp.get j = some y → (j < s0.nx ∧ ∃ x, s.hp.get j = some x ∧ (if K.contains j then y = x else invB (invN s0.nx ord) x = some y)) ∨ (s0.nx ≤ j ∧ ∃ nm x, ord[j - s0.nx]? = some nm ∧ s.hp.get nm = some x ∧ invB (invN s0.nx ord) x = some y) := fun j y hy => by
    by_cases hj : j < s0.nx
    · left
      have := g2 j j (K.contains j) (List.mem_append.2 (.inl (mem_srcO.2 ⟨hj, rfl, rfl⟩)))
      cases hx : s.hp.get j with
      | none => rw [hx] at this; simp only at this; rw [hy, T.get_nil] at this; cases this
      | some x =>
        rw [hx] at this
        obtain ⟨y', e1, e2⟩ := this
        rw [hy] at e1
        cases e1
        exact ⟨hj, x, rfl, e2⟩
    · right
      cases ho : ord[j - s0.nx]? with
      | none =>
        have := g1 j fun b raw hm => by
          rcases List.mem_append.1 hm with hm | hm
          · exact hj (mem_srcO.1 hm).1
          · rw [(mem_srcN.1 hm).2.2] at ho; cases ho
        rw [hy, T.get_nil] at this; cases this
      | some nm =>
        have := g2 j nm false (List.mem_append.2 (.inr (mem_srcN.2 ⟨rfl, by omega, ho⟩)))
        cases hx : s.hp.get nm with
        | none => rw [hx] at this; simp only at this; rw [hy, T.get_nil] at this; cases this
        | some x =>
          rw [hx] at this
          obtain ⟨y', e1, e2⟩ := this
          rw [hy] at e1
          cases e1
          exact ⟨by omega, nm, x, rfl, hx, by simpa using e2⟩
  have hρlt : ∀ m, m < s0.nx → ρ' m = ρ m := fun m hm => by show (if m < s0.nx then ρ m else _) = ρ m; rw [if_pos hm]
  have hρge : ∀ m nm, s0.nx ≤ m → ord[m - s0.nx]? = some nm → ρ' m = ρ nm := fun m nm hm ho => by
    show (if m < s0.nx then ρ m else match ord[m - s0.nx]? with | some nm => ρ nm | none => none) = ρ nm
    rw [if_neg (by omega), ho]
  have hsub0 : Sub ρ0 ρ' := by
    refine ⟨fun nm b hb => ?_, st.fzk⟩
    rcases Nat.lt_or_ge nm s0.nx with h1 | h1
    · rw [hρlt nm h1, st.rho nm h1]; exact hb
    · rw [hf0 nm h1] at hb; cases hb
  -- the elder name of a block that is kept, and what it is
  have hold : ∀ j y, hp.get j = some y → ∃ nm x, s.hp.get nm = some x ∧ ρ' j = ρ nm ∧ x.wr = y.wr ∧ (∀ b c o, ρ nm = some (b, c) → w.heap[b]? = some o → BlkR ρ c x o → BlkR ρ' c y o) ∧ (j < s0.nx ∧ nm = j ∨ s0.nx ≤ j ∧ ord[j - s0.nx]? = some nm) := fun j y hy => by
    have hwr : ∀ x y, invB (invN s0.nx ord) x = some y → x.wr = y.wr := fun x y hxy => by
      cases x with
      | row t ro o b =>
        cases b with
        | cells l =>
          simp only [invB] at hxy
          split at hxy <;> try (cases hxy; done)
          simp only [Option.some.injEq] at hxy; subst hxy; rfl
        | ints => simp only [invB, Option.some.injEq] at hxy; subst hxy; rfl
        | bools => simp only [invB, Option.some.injEq] at hxy; subst hxy; rfl
      | map es =>
        simp only [invB] at hxy
        split at hxy <;> try (cases hxy; done)
        simp only [Option.some.injEq] at hxy; subst hxy; rfl
      | win => simp only [invB, Option.some.injEq] at hxy; subst hxy; rfl
      | recs => simp only [invB, Option.some.injEq] at hxy; subst hxy; rfl
      | mapI => simp only [invB, Option.some.injEq] at hxy; subst hxy; rfl
      | mapV => simp only [invB, Option.some.injEq] at hxy; subst hxy; rfl
      | mapS => simp only [invB, Option.some.injEq] at hxy; subst hxy; rfl
      | iter => simp only [invB, Option.some.injEq] at hxy; subst hxy; rfl
      | mapP es =>
        simp only [invB] at hxy
        split at hxy <;> try (cases hxy; done)
        simp only [Option.some.injEq] at hxy; subst hxy; rfl
      | loop =>
        simp only [invB] at hxy
        split at hxy <;> try (cases hxy; done)
        simp only [Option.some.injEq] at hxy; subst hxy; rfl
      | mapR es =>
        simp only [invB] at hxy
        split at hxy <;> try (cases hxy; done)
        simp only [Option.some.injEq] at hxy; subst hxy; rfl
    rcases hsrc j y hy with ⟨hj, x, hx, hxy⟩ | ⟨hj, nm, x, ho, hx, hxy⟩
    · refine ⟨j, x, hx, hρlt j hj, ?_, fun b c o hb ho hB => ?_, .inl ⟨hj, rfl⟩⟩
      · split at hxy
        · rw [hxy]
        · exact hwr _ _ hxy
      · split at hxy
        · rename_i hc
          subst hxy
          have hjK : j ∈ K := by simpa using hc
          have hjL : j ∉ L := hK j hjK
          have hx0 : s0.hp.get j = some y := by rw [← ab.keep j hj hjL]; exact hx
          obtain ⟨b0, c0, o0, e1, e2, e3⟩ := hr0.ok j y hx0
          have hb' : ρ0 j = some (b, c) := by rw [← st.rho j hj]; exact hb
          rw [e1] at hb'
          simp only [Option.some.injEq, Prod.mk.injEq] at hb'
          obtain ⟨rfl, rfl⟩ := hb'
          have := st.frame b0 (lt_of_get e2) fun nm c hm hlt he => by
            obtain ⟨x1, q1, q2⟩ := st.own nm hm hlt
            exact hjL (hr0.inj nm j x1 y b0 c c0 q1 hx0 q2 he e1 ▸ hm)
          rw [this, e2] at ho
          cases ho
          exact e3.mono hsub0
        · exact hB.inv hinv hz hxy
    · exact ⟨nm, x, hx, hρge j nm hj ho, hwr _ _ hxy, fun b c o _ _ hB => hB.inv hinv hz hxy, .inr ⟨hj, ho⟩⟩
  refine ⟨ρ', L.filter (fun nm => decide (nm < s0.nx)), ⟨Nat.le_add_right _ _, fun nm h1 h2 => ?_, fun nm hn => ?_, fun nm hn => ?_⟩, fun nm hn hm => hK nm hn (List.mem_filter.1 hm).1, ⟨R.sz, R.df, fun j => ?_, ⟨fun j y hy => ?_, fun j j' y y' b c c' hy hy' hw e1 e2 => ?_, fun b l hb => ⟨(R.hp.fz b l hb).1, fun j y c hy hw he => ?_⟩⟩, fun m hm => ?_⟩,
    ⟨Nat.le_add_right _ _, fun nm h1 => ?_, fun nm h1 h2 => ?_, st.size, fun b hb hL => st.frame b hb fun nm c hm hlt => hL nm c (List.mem_filter.2 ⟨hm, by simpa using hlt⟩) hlt, fun m b c hm he => ?_, fun nm hm hlt => st.own nm (List.mem_filter.1 hm).1 hlt, st.os, st.tape, st.out, st.fzk, fun b l h => (st.fzn b l h).imp id fun h => h.imp id fun ⟨nm, c, g1, g2, g3⟩ => ⟨nm, c, List.mem_filter.2 ⟨g1, by simpa using g2⟩, g2, g3⟩⟩, fun p hp => ?_⟩
  · have hL : nm ∉ L := fun hm => h2 (List.mem_filter.2 ⟨hm, by simpa using h1⟩)
    show hp.get nm = s0.hp.get nm
    have hk := ab.keep nm h1 hL
    have := g2 nm nm (K.contains nm) (List.mem_append.2 (.inl (mem_srcO.2 ⟨h1, rfl, rfl⟩)))
    cases hx : s0.hp.get nm with
    | none => rw [hk, hx] at this; simp only at this; rw [this, T.get_nil]
    | some x =>
      rw [hk, hx] at this
      obtain ⟨y, e1, e2⟩ := this
      rw [e1]
      split at e2
      · rw [e2]
      · obtain ⟨b, c, o, q1, q2, q3⟩ := hr0.ok nm x hx
        have := q3.fix (f := invN s0.nx ord) hf0 (fun m hm => by unfold invN; rw [if_pos hm])
        rw [this] at e2
        exact e2.symm
  · show hp.get nm = none
    have hn' : s0.nx + ord.length ≤ nm := hn
    cases hy : hp.get nm with
    | none => rfl
    | some y =>
      rcases hsrc nm y hy with ⟨hj, _⟩ | ⟨_, _, _, ho, _⟩
      · omega
      · have := List.getElem?_eq_none (l := ord) (i := nm - s0.nx) (by omega)
        rw [this] at ho; cases ho
  · have := (List.mem_filter.1 hn).2
    have h3 : nm < s0.nx := by simpa using this
    show nm < s0.nx + ord.length
    omega
  · have := R.sl j
    have hs := gcSl_ok hsl j
    unfold slot at this ⊢
    by_cases hj : j < n
    · rw [if_pos hj] at this hs ⊢
      obtain ⟨v, e1, e2⟩ := hs
      show RVR ρ' ((sl.get j).getD und) _
      rw [e1]
      simp only [Option.getD_some]
      rcases e2 with rfl | e2
      · trivial
      · exact this.inv hinv hz e2
    · rw [if_neg hj] at this ⊢
      exact this.inv hinv hz rfl
  · obtain ⟨nm, x, q1, q2, _, q4, _⟩ := hold j y hy
    obtain ⟨b, c, o, e1, e2, e3⟩ := R.hp.ok nm x q1
    exact ⟨b, c, o, by rw [q2]; exact e1, e2, q4 b c o e1 e2 e3⟩
  · obtain ⟨nm, x, q1, q2, q3, _, q5⟩ := hold j y hy
    obtain ⟨nm', x', q1', q2', q3', _, q5'⟩ := hold j' y' hy'
    have hnm : nm = nm' := R.hp.inj nm nm' x x' b c c' q1 q1' (by rw [q3]; exact hw) (by rw [← q2]; exact e1) (by rw [← q2']; exact e2)
    subst hnm
    rcases q5 with ⟨a1, a2⟩ | ⟨a1, a2⟩ <;> rcases q5' with ⟨b1, b2⟩ | ⟨b1, b2⟩
    · rw [← a2, ← b2]
    · have := hge nm (List.mem_of_getElem? b2); omega
    · have := hge nm (List.mem_of_getElem? a2); omega
    · obtain ⟨l1, r1⟩ := List.getElem?_eq_some_iff.1 a2
      obtain ⟨l2, r2⟩ := List.getElem?_eq_some_iff.1 b2
      have := nodup_at hnd l1 l2 (r1.trans r2.symm)
      omega
  · obtain ⟨nm, x, q1, q2, q3, _, _⟩ := hold j y hy
    exact (R.hp.fz b l hb).2 nm x c q1 (by rw [q3]; exact hw) (by rw [← q2]; exact he)
  · have hm' : s0.nx + ord.length ≤ m := hm
    show (if m < s0.nx then ρ m else match ord[m - s0.nx]? with | some nm => ρ nm | none => none) = none
    rw [if_neg (by omega), List.getElem?_eq_none (by omega)]
  · rw [hρlt nm h1]; exact st.rho nm h1
  · have hL : nm ∉ L := fun hm => h2 (List.mem_filter.2 ⟨hm, by simpa using h1⟩)
    show hp.get nm = s0.hp.get nm
    have hk := ab.keep nm h1 hL
    have := g2 nm nm (K.contains nm) (List.mem_append.2 (.inl (mem_srcO.2 ⟨h1, rfl, rfl⟩)))
    cases hx : s0.hp.get nm with
    | none => rw [hk, hx] at this; simp only at this; rw [this, T.get_nil]
    | some x =>
      rw [hk, hx] at this
      obtain ⟨y, e1, e2⟩ := this
      rw [e1]
      split at e2
      · rw [e2]
      · obtain ⟨b, c, o, q1, q2, q3⟩ := hr0.ok nm x hx
        have := q3.fix (f := invN s0.nx ord) hf0 (fun m hm => by unfold invN; rw [if_pos hm])
        rw [this] at e2
        exact e2.symm
  · rcases Nat.lt_or_ge m s0.nx with h1 | h1
    · omega
    · have he' : (if m < s0.nx then ρ m else match ord[m - s0.nx]? with | some nm => ρ nm | none => none) = some (b, c) := he
      rw [if_neg (by omega)] at he'
      cases ho : ord[m - s0.nx]? with
      | none => rw [ho] at he'; cases he'
      | some nm =>
        rw [ho] at he'
        rcases st.new nm b c (hge nm (List.mem_of_getElem? ho)) he' with h | ⟨nm0, c0, q1, q2, q3⟩
        · exact .inl h
        · exact .inr ⟨nm0, c0, List.mem_filter.2 ⟨q1, by simpa using q2⟩, q2, q3⟩
  · obtain ⟨⟨c, p1⟩, p2, p3⟩ := hpin p hp
    exact ⟨⟨c, by rw [hinv _ _ (pinOK_ok hpok p.nm (by rw [← hpn]; exact List.mem_map_of_mem hp))]; exact p1⟩, p2, p3⟩
end Go.Sx

namespace Go.Sx
open Go.RowKit
variable {P : Program}
/-! ## The rules of triples out of one origin -/
def TO (P : Program) (n : Nat) (K pn : List Nat) (s0 : S) (c : Code) (s : S) (Q : X → S → Prop) : Prop := ∀ (ρ0 : Rho) (w0 : World), HRel ρ0 s0.hp.get w0 → Fresh ρ0 s0.nx → ∀ (pins : List Pin), pins.map Pin.nm = pn → ∀ (a : Act) (w : World), Came n K pins ρ0 s0 w0 s a w →
  WpY P c (fun e a' w' => ∃ x s', XR x e ∧ Q x s' ∧ Came n K pins ρ0 s0 w0 s' a' w') a w

theorem TO.mono {n : Nat} {K pn : List Nat} {s0 : S} {c : Code} {s : S} {Q Q' : X → S → Prop} (h : TO P n K pn s0 c s Q) (hq : ∀ x s', Q x s' → Q' x s') : TO P n K pn s0 c s Q' := fun ρ0 w0 hr hf pins hpn a w C =>
  (h ρ0 w0 hr hf pins hpn a w C).mono fun _ _ _ ⟨x, s', h1, h2, h3⟩ => ⟨x, s', h1, hq _ _ h2, h3⟩

/-- behind a piece -/
def ThenO (P : Program) (n : Nat) (K pn : List Nat) (s0 : S) (Q : X → S → Prop) (c : Code) : X → S → Prop := fun x s1 => match x with
  | .normal => TO P n K pn s0 c s1 Q
  | x => Q x s1

theorem TO.seq {n : Nat} {K pn : List Nat} {s0 : S} {c d : Code} {s : S} {Q : X → S → Prop} (h : TO P n K pn s0 c s (ThenO P n K pn s0 Q d)) : TO P n K pn s0 (.seq c d) s Q := fun ρ0 w0 hr hf pins hpn a w C => by
  refine wp_seq (wp_mono (h ρ0 w0 hr hf pins hpn a w C).wp fun e a' w' ⟨x, s', h1, h2, h3⟩ => ?_)
  cases x with
  | normal => cases e <;> simp only [XR] at h1; exact (h2 ρ0 w0 hr hf pins hpn a' w' h3).wp
  | exit id => cases e <;> simp only [XR] at h1; subst h1; exact ⟨X.exit _, s', rfl, h2, h3⟩
  | ret => cases e <;> simp only [XR] at h1; exact ⟨.ret, s', trivial, h2, h3⟩

theorem TO.block {n id : Nat} {K pn : List Nat} {s0 : S} {c : Code} {s : S} {Q : X → S → Prop} (h : TO P n K pn s0 c s fun x s' => match x with | .exit j => if j = id then Q .normal s' else Q (.exit j) s' | x => Q x s') : TO P n K pn s0 (.block id c) s Q := fun ρ0 w0 hr hf pins hpn a w C => by
  refine wp_block (wp_mono (h ρ0 w0 hr hf pins hpn a w C).wp fun e a' w' ⟨x, s', h1, h2, h3⟩ => ?_)
  cases x with
  | normal => cases e <;> simp only [XR] at h1; exact ⟨.normal, s', trivial, h2, h3⟩
  | ret => cases e <;> simp only [XR] at h1; exact ⟨.ret, s', trivial, h2, h3⟩
  | exit j =>
    cases e <;> simp only [XR] at h1
    subst h1
    simp only at h2
    by_cases hj : j = id
    · rw [if_pos hj] at h2
      simp only [Exit.inBlock, hj, if_true]
      exact ⟨.normal, s', trivial, h2, h3⟩
    · rw [if_neg hj] at h2
      simp only [Exit.inBlock, hj, if_false]
      exact ⟨.exit j, s', rfl, h2, h3⟩

theorem TO.cond {n : Nat} {K pn : List Nat} {s0 : S} {o : Operand} {c d : Code} {s : S} {t : Bool} {Q : X → S → Prop} (he : eval n s.sl o = some (.one (.c (.bool t)))) (h1 : t = true → TO P n K pn s0 c s Q) (h2 : t = false → TO P n K pn s0 d s Q) : TO P n K pn s0 (.cond o c d) s Q := fun ρ0 w0 hr hf pins hpn a w C => by
  obtain ⟨ρ, _, _, _, R, _, _⟩ := C.it
  have e : a.eval o = .bool t := eval_ok (ρ := ρ) (n := n) (sl := s.sl) (a := a) (x := o) (fun t _ => R.sl t) _ he
  cases t with
  | true => exact wp_cond_true e (h1 rfl ρ0 w0 hr hf pins hpn a w C).wp
  | false => exact wp_cond_false e (h2 rfl ρ0 w0 hr hf pins hpn a w C).wp

/-- one round more -/
theorem TO.loop {n : Nat} {K pn : List Nat} {s0 : S} {c : Code} {s : S} {Q : X → S → Prop} (h : TO P n K pn s0 c s (ThenO P n K pn s0 Q (.loop c))) : TO P n K pn s0 (.loop c) s Q := fun ρ0 w0 hr hf pins hpn a w C => by
  refine LoopFrom.open (wp_mono (h ρ0 w0 hr hf pins hpn a w C).wp fun e a' w' ⟨x, s', h1, h2, h3⟩ => ?_)
  cases x with
  | normal => cases e <;> simp only [XR] at h1; exact h2 ρ0 w0 hr hf pins hpn a' w' h3
  | exit id => cases e <;> simp only [XR] at h1; subst h1; exact ⟨X.exit _, s', rfl, h2, h3⟩
  | ret => cases e <;> simp only [XR] at h1; exact ⟨.ret, s', trivial, h2, h3⟩

/-! ## Contracts over a few blocks, names 0 .. k-1: what is there behind, and k' - k new blocks -/
def SmallN (P : Program) (f : FuncId) (args : List RV) (k : Nat) (hs : T Blk) (k' : Nat) (hs' : T Blk) (v : RV) : Prop :=
  ∀ (ρ : Rho) (w : World) (vs : List Value), HRel ρ hs.get w → Fresh ρ k → ArgsR ρ args vs → Calls P f vs.toArray w fun e w' =>
    ∃ V ρ' L, e = .returned V ∧ RVR ρ' v V ∧ HRel ρ' hs'.get w' ∧ Fresh ρ' k' ∧ Stp ρ hs.get k w ρ' hs'.get k' w' L

theorem TO.smallN {g : FuncId} {fn : Func} {c : Code} (hf : P.funcs[g]? = some fn) (hb : fn.body = some c) {args : List RV} {sl : T RV} {v : RV} {k k' : Nat} {hs hs' : T Blk} (K : List Nat) (htop : Top ⟨.nil, hs, k, []⟩)
    (hset : setArgs fn.ntmps args 0 .nil some = some sl)
    (h : TO P fn.ntmps K [] ⟨sl, hs, k, []⟩ c ⟨sl, hs, k, []⟩ fun x s1 => (x = .normal ∨ x = .ret) ∧ ∃ l, resOf P fn.ntmps s1 fn.results.toList = some l ∧ (resRV l = v ∧ s1.hp = hs' ∧ s1.nx = k')) : SmallN P g args k hs k' hs' v := by
  intro ρ w vs hr hfr ha
  obtain ⟨sl', h1, h2, h3⟩ := setArgs_ok hset
  cases h1
  obtain ⟨len, hget⟩ := ha.get
  have R0 : Rel fn.ntmps ρ ⟨sl, hs, k, []⟩ { tmps := vs.toArray ++ Array.replicate (fn.ntmps - vs.toArray.size) undef, defers := [] } w := by
    have hle : vs.length ≤ fn.ntmps := by
      rcases h3 with rfl | h3
      · simp at len; rw [len]; simp
      · omega
    refine ⟨by simp; omega, rfl, fun t => ?_, hr, hfr⟩
    unfold slot
    simp only
    rw [h2]
    simp only [Nat.zero_le, true_and, Nat.zero_add, Nat.sub_zero, T.get_nil]
    by_cases hlt : t < args.length
    · have hlt' : t < vs.length := by omega
      rw [if_pos (show t < fn.ntmps by omega), if_pos hlt]
      obtain ⟨V, e1, e2⟩ := hget t args[t] (List.getElem?_eq_getElem hlt)
      rw [List.getElem?_eq_getElem hlt]
      have : (vs.toArray ++ Array.replicate (fn.ntmps - vs.toArray.size) undef).getD t undef = V := by
        rw [Array.getD_eq_getD_getElem?, Array.getElem?_append_left (by simpa using hlt')]
        simp [e1]
      rw [this]
      exact e2
    · rw [if_neg hlt]
      have : (vs.toArray ++ Array.replicate (fn.ntmps - vs.toArray.size) undef).getD t undef = undef := by
        rw [Array.getD_eq_getD_getElem?, Array.getElem?_append_right (by simp; omega)]
        rw [Array.getElem?_replicate]
        split <;> rfl
      rw [this]
      simp only [ite_self, Option.getD_none]
      exact und_ok
  refine calls_of_wp hf hb ?_
  have C0 : Came fn.ntmps K [] ρ ⟨sl, hs, k, []⟩ w ⟨sl, hs, k, []⟩ { tmps := vs.toArray ++ Array.replicate (fn.ntmps - vs.toArray.size) undef, defers := [] } w :=
    ⟨ρ, [], ⟨Nat.le_refl _, fun _ _ _ => rfl, htop, fun _ h => absurd h List.not_mem_nil⟩, fun _ _ => List.not_mem_nil, R0, Stp.refl hfr, fun _ hp => absurd hp List.not_mem_nil⟩
  refine wp_mono (h ρ w hr hfr [] rfl _ w C0).wp fun e a' w' ⟨x, s1, hx, ⟨hx2, l, hl, hv, hh, hk⟩, C⟩ => ?_
  obtain ⟨ρ', L, ab, _, R', st, _⟩ := C.it
  obtain ⟨V, v1, v2⟩ := results_ok R' hl
  have fin : a'.defers = [] ∧ ∃ v', (results fn a'.tmps).run P w' = .ok v' w' ∧ ∃ V ρ' L, Ending.returned v' = .returned V ∧ RVR ρ' v V ∧ HRel ρ' hs'.get w' ∧ Fresh ρ' k' ∧ Stp ρ hs.get k w ρ' hs'.get k' w' L := by
    subst hh hk hv
    exact ⟨R'.df, V, v2, V, ρ', L, rfl, v1, R'.hp, R'.fresh, st⟩
  rcases hx2 with rfl | rfl
  · cases e <;> simp only [XR] at hx
    exact fin
  · cases e <;> simp only [XR] at hx
    exact fin

theorem CallInfo.frameN {f : FuncId} {args : List RV} {v : RV} {k k' : Nat} {hs hs' : T Blk} {θ : Nat → Nat} {s : S} {hp' : T Blk} {Lw : List Nat} (ht : Top s) (hfn : ∃ fn, P.funcs[f]? = some fn ∧ fn.body.isNone = false)
    (hC : SmallN P f args k hs k' hs' v) (hkk : k ≤ k') (ha : args.all (inR k) = true)
    (hin : ∀ i x, hs.get i = some x → i < k ∧ θ i < s.nx ∧ ((x.wr = true ∧ inB k x = true ∧ s.hp.get (θ i) = some (renB θ x)) ∨ (x.wr = false ∧ ∃ y, s.hp.get (θ i) = some y ∧ RoOf k θ x y)))
    (hinj : ∀ i j x y, hs.get i = some x → hs.get j = some y → x.wr = true → θ i = θ j → i = j)
    (hθ : ∀ i, k ≤ i → θ i = s.nx + (i - k))
    (hout : ∀ nm, nm < s.nx → (∀ i x, hs.get i = some x → x.wr = true → θ i ≠ nm) → hp'.get nm = s.hp.get nm)
    (hall : ∀ i x, hs.get i = some x → x.wr = true → hp'.get (θ i) = (hs'.get i).map (renB θ))
    (hnew : ∀ nm, s.nx ≤ nm → hp'.get nm = if nm < s.nx + (k' - k) then (hs'.get (nm - s.nx + k)).map (renB θ) else none)
    (hL : ∀ nm, nm ∈ Lw ↔ ∃ i x, hs.get i = some x ∧ x.wr = true ∧ θ i = nm) :
    CallInfo P f (args.map (renR θ)) s (renR θ v) { s with hp := hp', nx := s.nx + (k' - k), lg := Lw ++ s.lg } Lw := by
  have hlt : ∀ nm, nm ∈ Lw → nm < s.nx := fun nm h => by
    obtain ⟨i, x, h1, _, rfl⟩ := (hL nm).1 h
    exact (hin i x h1).2.1
  have hkeep : ∀ nm, nm < s.nx → nm ∉ Lw → hp'.get nm = s.hp.get nm := fun nm h1 h => hout nm h1 fun i x h2 h3 h4 => h ((hL nm).2 ⟨i, x, h2, h3, h4⟩)
  refine ⟨hfn, rfl, ⟨rfl, Nat.le_add_right _ _, hkeep, fun nm hn => ?_, fun nm h => Nat.lt_of_lt_of_le (hlt nm h) (Nat.le_add_right _ _)⟩, fun ρ w vs hr hf ha' => ?_⟩
  · have hn' : s.nx + (k' - k) ≤ nm := hn
    show hp'.get nm = none
    rw [hnew nm (by omega), if_neg (by omega)]
  have hr0 : HRel (rho0 k θ ρ) hs.get w := ⟨fun i x hx => by
      obtain ⟨g1, _, g2⟩ := hin i x hx
      rcases g2 with ⟨_, g3, g5⟩ | ⟨_, y, g5, _, g6⟩
      · obtain ⟨b, c, o, e1, e2, e3⟩ := hr.ok _ _ g5
        exact ⟨b, c, o, by rw [rho0_nm, if_pos g1]; exact e1, e2, e3.small g3⟩
      · obtain ⟨b, c, o, e1, e2, e3⟩ := hr.ok _ _ g5
        exact ⟨b, c, o, by rw [rho0_nm, if_pos g1]; exact e1, e2, g6 _ _ _ e3⟩,
    fun i j x y b c c' hx hy hw e1 e2 => by
      obtain ⟨g1, _, g2⟩ := hin i x hx
      obtain ⟨j1, _, j2⟩ := hin j y hy
      rw [rho0_nm, if_pos g1] at e1
      rw [rho0_nm, if_pos j1] at e2
      rcases g2 with ⟨g3, _, g5⟩ | ⟨g3, _⟩
      · rcases j2 with ⟨_, _, j5⟩ | ⟨_, y', j5, _⟩
        · exact hinj i j x y hx hy hw (hr.inj _ _ _ _ b c c' g5 j5 (by rw [renB_wr]; exact hw) e1 e2)
        · exact hinj i j x y hx hy hw (hr.inj _ _ _ _ b c c' g5 j5 (by rw [renB_wr]; exact hw) e1 e2)
      · rw [g3] at hw; (cases hw),
    fun b l hb => ⟨(hr.fz b l hb).1, fun i x c hx hw he => by
      obtain ⟨g1, _, g2⟩ := hin i x hx
      rw [rho0_nm, if_pos g1] at he
      rcases g2 with ⟨g3, _, g5⟩ | ⟨g3, _⟩
      · exact (hr.fz b l hb).2 _ _ c g5 (by rw [renB_wr]; exact hw) he
      · rw [g3] at hw; cases hw⟩⟩
  have hf0 : Fresh (rho0 k θ ρ) k := fun nm h => by rw [rho0_nm, if_neg (by omega)]
  refine (hC _ w vs hr0 hf0 (ha'.small ha)).mono fun e w' ⟨V, ρ', L, e1, e2, e3, e4, st⟩ => ?_
  -- the names behind the call
  let ρF : Rho := ⟨fun nm => if nm < s.nx then ρ nm else if nm < s.nx + (k' - k) then ρ' (nm - s.nx + k) else none, ρ'.fz⟩
  have hz : ∀ b l, ρ'.fz b = some l → ρF.fz b = some l := fun _ _ h => h
  have hFlt : ∀ nm, nm < s.nx → ρF nm = ρ nm := fun nm h => by show (if nm < s.nx then ρ nm else _) = ρ nm; rw [if_pos h]
  have hFge : ∀ nm, s.nx ≤ nm → nm < s.nx + (k' - k) → ρF nm = ρ' (nm - s.nx + k) := fun nm h h2 => by
    show (if nm < s.nx then ρ nm else if nm < s.nx + (k' - k) then ρ' (nm - s.nx + k) else none) = _
    rw [if_neg (by omega), if_pos h2]
  have hFtop : ∀ nm, s.nx + (k' - k) ≤ nm → ρF nm = none := fun nm h => by
    show (if nm < s.nx then ρ nm else if nm < s.nx + (k' - k) then ρ' (nm - s.nx + k) else none) = _
    rw [if_neg (by omega), if_neg (by omega)]
  have hlow : ∀ i, i < k → ρ' i = ρ (θ i) := fun i hi => by rw [st.rho i hi, rho0_nm, if_pos hi]
  have hup : ∀ nm b, ρ' nm = some b → ρF (θ nm) = some b := fun nm b hb => by
    rcases Nat.lt_or_ge nm k with h | h
    · rw [hlow nm h] at hb
      have : θ nm < s.nx := by
        rcases Nat.lt_or_ge (θ nm) s.nx with h' | h'
        · exact h'
        · rw [hf _ h'] at hb; cases hb
      rw [hFlt _ this]; exact hb
    · have hk' : nm < k' := by
        rcases Nat.lt_or_ge nm k' with h' | h'
        · exact h'
        · rw [e4 nm h'] at hb; cases hb
      rw [hθ nm h, hFge _ (by omega) (by omega), show s.nx + (nm - k) - s.nx + k = nm by omega]; exact hb
  -- the small name behind a name, if it is one of the few's
  have hsm : ∀ i x, hs'.get i = some x → i < k → ∃ x0, hs.get i = some x0 := fun i x hx hi => by
    by_cases hm : i ∈ L
    · obtain ⟨x0, o1, _⟩ := st.own i hm hi; exact ⟨x0, o1⟩
    · exact ⟨x, by rw [← st.keep i hi hm]; exact hx⟩
  have hwr' : ∀ i x0 x, i < k → hs.get i = some x0 → hs'.get i = some x → x0.wr = false → x = x0 ∧ i ∉ L := fun i x0 x hi h0 h1 hw => by
    by_cases hm : i ∈ L
    · obtain ⟨x2, o1, o2⟩ := st.own i hm hi
      rw [h0] at o1; cases o1; rw [hw] at o2; cases o2
    · rw [st.keep i hi hm, h0] at h1
      exact ⟨by cases h1; rfl, hm⟩
  -- an old block that is none of those that may be turned is as it was
  have hold : ∀ nm y, nm < s.nx → (∀ i x, hs.get i = some x → x.wr = true → θ i ≠ nm) → s.hp.get nm = some y → ∀ b c, ρ nm = some (b, c) → ∀ nm0 c0, nm0 ∈ L → nm0 < k → rho0 k θ ρ nm0 ≠ some (b, c0) := fun nm y _ hno hy b c hb nm0 c0 hm hlt0 he => by
    obtain ⟨x0, o1, o2⟩ := st.own nm0 hm hlt0
    obtain ⟨_, _, g2⟩ := hin nm0 x0 o1
    rw [rho0_nm, if_pos hlt0] at he
    rcases g2 with ⟨_, _, g5⟩ | ⟨g3, _⟩
    · exact hno nm0 x0 o1 o2 (hr.inj _ _ _ _ b c0 c g5 hy (by rw [renB_wr]; exact o2) he hb)
    · rw [g3] at o2; cases o2
  -- each name that is there behind: an old one that stands, or one of the few's
  have hcl : ∀ nm x, hp'.get nm = some x → (nm < s.nx ∧ (∀ i x, hs.get i = some x → x.wr = true → θ i ≠ nm) ∧ s.hp.get nm = some x) ∨ ∃ i y, hs'.get i = some y ∧ x = renB θ y ∧ θ i = nm ∧ (i < k → ∃ x0, hs.get i = some x0 ∧ x0.wr = true) ∧ (∀ b, ρF nm = some b → ρ' i = some b) := fun nm x hx => by
    rcases Nat.lt_or_ge nm s.nx with h | h
    · by_cases hc : ∃ i x0, hs.get i = some x0 ∧ x0.wr = true ∧ θ i = nm
      · obtain ⟨i, x0, g1, g2, rfl⟩ := hc
        rw [hall i x0 g1 g2] at hx
        cases hh : hs'.get i with
        | none => rw [hh] at hx; cases hx
        | some y =>
          rw [hh] at hx
          simp only [Option.map_some, Option.some.injEq] at hx
          have hik := (hin i x0 g1).1
          exact .inr ⟨i, y, hh, hx.symm, rfl, fun _ => ⟨x0, g1, g2⟩, fun b hb => by rw [hlow i hik, ← hFlt _ h]; exact hb⟩
      · have hno : ∀ i x, hs.get i = some x → x.wr = true → θ i ≠ nm := fun i x h1 h2 h3 => hc ⟨i, x, h1, h2, h3⟩
        rw [hout nm h hno] at hx
        exact .inl ⟨h, hno, hx⟩
    · rw [hnew nm h] at hx
      split at hx
      · rename_i h2
        cases hh : hs'.get (nm - s.nx + k) with
        | none => rw [hh] at hx; cases hx
        | some y =>
          rw [hh] at hx
          simp only [Option.map_some, Option.some.injEq] at hx
          exact .inr ⟨nm - s.nx + k, y, hh, hx.symm, by rw [hθ _ (by omega)]; omega, fun h => by omega, fun b hb => by rw [← hFge nm h h2]; exact hb⟩
      · cases hx
  -- an old block that stands, and one of the few's, are two
  have hap : ∀ nm y b c, nm < s.nx → (∀ i x, hs.get i = some x → x.wr = true → θ i ≠ nm) → s.hp.get nm = some y → ρ nm = some (b, c) → ∀ i c', (i < k → ∃ x0, hs.get i = some x0 ∧ x0.wr = true) → ρ' i = some (b, c') → False := fun nm y b c hnm hno hy hb i c' hik hi => by
    rcases Nat.lt_or_ge i k with h | h
    · obtain ⟨x0, g1, g2⟩ := hik h
      rw [hlow i h] at hi
      obtain ⟨_, _, g⟩ := hin i x0 g1
      rcases g with ⟨_, _, g5⟩ | ⟨g3, _⟩
      · exact hno i x0 g1 g2 (hr.inj _ _ _ _ b c' c g5 hy (by rw [renB_wr]; exact g2) hi hb)
      · rw [g3] at g2; cases g2
    · obtain ⟨b2, c2, o2, q1, q2, _⟩ := hr.ok nm y hy
      rw [hb] at q1
      simp only [Option.some.injEq, Prod.mk.injEq] at q1
      obtain ⟨rfl, rfl⟩ := q1
      rcases st.new i b c' h hi with h1 | ⟨nm0, c0, p1, p2, p3⟩
      · have := lt_of_get q2; omega
      · exact hold nm y hnm hno hy b c hb nm0 c0 p1 p2 p3
  refine ⟨V, ρF, e1, RVR.up hup hz e2, ⟨fun nm x hx => ?_, fun nm nm' x y b c c' hx hy hw h1 h2 => ?_, fun b l hb => ⟨(e3.fz b l hb).1, fun nm x c hx hw he => ?_⟩⟩, fun nm h => hFtop nm h, ⟨Nat.le_add_right _ _, fun nm h => hFlt nm h, hkeep, st.size, fun b hb hLb => st.frame b hb fun nm0 c0 hm hlt0 he => ?_, fun nm b c h1 h2 => ?_, fun nm h1 _ => ?_, st.os, st.tape, st.out, st.fzk, fun b l h => (st.fzn b l h).imp id fun h => h.imp id fun ⟨nm0, c0, hm, hlt0, he⟩ => ?_⟩⟩
  · rcases hcl nm x hx with ⟨h, hno, hs0⟩ | ⟨i, y, hy, rfl, rfl, _, _⟩
    · obtain ⟨b, c, o, q1, q2, q3⟩ := hr.ok nm x hs0
      refine ⟨b, c, o, by rw [hFlt nm h]; exact q1, by rw [st.frame b (lt_of_get q2) (hold nm x h hno hs0 b c q1)]; exact q2, q3.mono (show Sub ρ ρF from ⟨fun m b' hb' => ?_, st.fzk⟩)⟩
      rcases Nat.lt_or_ge m s.nx with h' | h'
      · rw [hFlt m h']; exact hb'
      · rw [hf m h'] at hb'; cases hb'
    · obtain ⟨b, c, o, q1, q2, q3⟩ := e3.ok i y hy
      exact ⟨b, c, o, hup _ _ q1, q2, BlkR.up hup hz q3⟩
  · have hx' : hp'.get nm = some x := hx
    have hy' : hp'.get nm' = some y := hy
    rcases hcl nm x hx' with ⟨a1, a2, a3⟩ | ⟨i, x1, a1, rfl, a3, a4, a5⟩ <;> rcases hcl nm' y hy' with ⟨b1, b2, b3⟩ | ⟨j, y1, b1, rfl, b3, b4, b5⟩
    · rw [hFlt nm a1] at h1
      rw [hFlt nm' b1] at h2
      exact hr.inj _ _ _ _ b c c' a3 b3 hw h1 h2
    · rw [hFlt nm a1] at h1
      exact (hap nm _ b c a1 a2 a3 h1 j c' b4 (b5 _ h2)).elim
    · rw [hFlt nm' b1] at h2
      exact (hap nm' _ b c' b1 b2 b3 h2 i c a4 (a5 _ h1)).elim
    · have := e3.inj i j x1 y1 b c c' a1 b1 (by rw [renB_wr] at hw; exact hw) (a5 _ h1) (b5 _ h2)
      subst this
      rw [← a3, ← b3]
  · rcases hcl nm x hx with ⟨a1, a2, a3⟩ | ⟨i, y, hy, rfl, rfl, _, a5⟩
    · have he' : ρ nm = some (b, c) := by rw [← hFlt nm a1]; exact he
      rcases st.fzn b l hb with h | h | ⟨nm0, c0, m1, m2, m3⟩
      · exact (hr.fz b l h).2 nm x c a3 hw he'
      · obtain ⟨b', c', o, q1, q2, _⟩ := hr.ok nm x a3
        rw [he'] at q1
        simp only [Option.some.injEq, Prod.mk.injEq] at q1
        obtain ⟨rfl, _⟩ := q1
        have := lt_of_get q2
        omega
      · exact hold nm x a1 a2 a3 b c he' nm0 c0 m1 m2 m3
    · exact (e3.fz b l hb).2 i y c hy (by rw [renB_wr] at hw; exact hw) (a5 _ he)
  · obtain ⟨x0, o1, o2⟩ := st.own nm0 hm hlt0
    obtain ⟨_, g4, _⟩ := hin nm0 x0 o1
    rw [rho0_nm, if_pos hlt0] at he
    exact hLb (θ nm0) c0 ((hL _).2 ⟨nm0, x0, o1, o2, rfl⟩) g4 he
  · rcases Nat.lt_or_ge nm (s.nx + (k' - k)) with h | h
    · rw [hFge nm h1 h] at h2
      rcases st.new _ b c (by omega) h2 with h3 | ⟨nm0, c0, p1, p2, p3⟩
      · exact .inl h3
      · obtain ⟨x0, o1, o2⟩ := st.own nm0 p1 p2
        rw [rho0_nm, if_pos p2] at p3
        exact .inr ⟨θ nm0, c0, (hL _).2 ⟨nm0, x0, o1, o2, rfl⟩, (hin nm0 x0 o1).2.1, p3⟩
    · rw [hFtop nm h] at h2; cases h2
  · obtain ⟨i, x, g1, g2, rfl⟩ := (hL nm).1 h1
    obtain ⟨_, _, g⟩ := hin i x g1
    rcases g with ⟨_, _, g5⟩ | ⟨g3, _⟩
    · exact ⟨_, g5, by rw [renB_wr]; exact g2⟩
    · rw [g3] at g2; cases g2
  · obtain ⟨x0, o1, o2⟩ := st.own nm0 hm hlt0
    obtain ⟨_, g4, _⟩ := hin nm0 x0 o1
    rw [rho0_nm, if_pos hlt0] at he
    exact ⟨θ nm0, c0, (hL _).2 ⟨nm0, x0, o1, o2, rfl⟩, g4, he⟩
end Go.Sx

namespace Go.Sx
open Go.RowKit
variable {P : Program}
/-! ## Trees out of one origin -/
/-- what is asked of a leaf: names in order, slots but keep forgotten -/
noncomputable def gcQ (k0 : Nat) (K pn keep : List Nat) (n : Nat) (ord : List Nat) (Q : X → S → Prop) (x : X) (s' : S) (α : A) : Option Prop :=
  match gcS k0 K pn keep n ord s' with | some g => some (All α.ob ∧ (K.all (fun nm => !s'.lg.contains nm) = true ∧ Q x g)) | none => none
theorem TO.tree {Sg : FuncId → Option SumA} (F : Fit P (fun f => (Sg f).map toSum)) {fuel n : Nat} {K pn : List Nat} {s0 : S} {c : Code} {s : S} {keep ord : List Nat} {k0 : Nat} (hk0 : s0.nx = k0) {Q : X → S → Prop}
    (hT : Okp (execA P Sg fuel n c s αT (gcQ k0 K pn keep n ord Q))) : TO P n K pn s0 c s Q := fun ρ0 w0 hr hf pins hpn a w C => by
  obtain ⟨ρ, L0, ab0, hK0, R, st0, hp0⟩ := C.it
  subst hk0
  cases he : execA P Sg fuel n c s αT (gcQ s0.nx K pn keep n ord Q) with
  | none => rw [he] at hT; exact hT.elim
  | some p =>
    rw [he] at hT
    obtain ⟨x1, s1, α', h1, h2⟩ := execA_ok Sg fuel _ _ _ _ _ _ he
    unfold gcQ at h1
    split at h1 <;> try (cases h1; done)
    rename_i g' hg
    simp only [Option.some.injEq] at h1
    subst h1
    obtain ⟨hp, hk, hq⟩ : All α'.ob ∧ (K.all (fun nm => !s1.lg.contains nm) = true ∧ Q x1 g') := hT
    have h3 := (h2 hp).2 (X × S) (fun x s => some (x, s))
    obtain ⟨x2, s2, L, m, h4, ab, hw⟩ := exec_sound F.ng F.mixed F.sums fuel _ _ _ _ _ ab0.top h3
    simp only [Option.some.injEq, Prod.mk.injEq] at h4
    obtain ⟨rfl, rfl⟩ := h4
    refine (hw ρ a w R).y.mono fun e a' w' ⟨hx, ρ', R', st⟩ => ⟨_, g', hx, hq, Came.gc hr hf (s := s2) ⟨ρ', L ++ L0, ab0.trans ab.n, fun nm hn hm => ?_, R', st0.trans st, hp0.step R.hp R.fresh st⟩ hpn hg⟩
    rcases List.mem_append.1 hm with hm | hm
    · have := List.all_eq_true.1 hk nm hn
      rw [ab.lg] at this
      simp only [List.contains_eq_mem, List.mem_append, hm, true_or, decide_true, Bool.not_true] at this
      cases this
    · exact hK0 nm hn hm
/-- what a body that works on a few blocks says at its end -/
abbrev EndSm (P : Program) (n : Nat) (res : List ResultVar) (v : RV) (hs' : T Blk) (k : Nat) : X → S → Prop := fun x s1 => (x = .normal ∨ x = .ret) ∧ ∃ l, resOf P n s1 res = some l ∧ (resRV l = v ∧ s1.hp = hs' ∧ s1.nx = k)
abbrev RetS (v : RV) (hs' : T Blk) (k : Nat) (x : X) (q : Option (List AV)) (hp : T Blk) (nx : Nat) : Prop := x = X.ret ∧ ∃ l, q = some l ∧ (resRV l = v ∧ hp = hs' ∧ nx = k)
/-- .. its first m pieces -/
theorem Tr.piecesS {Sg : FuncId → Option SumA} (F : Fit P (fun f => (Sg f).map toSum)) {fuel n m : Nat} {c : Code} {s : S} {keep : List Nat} {res : List ResultVar} {v : RV} {hs' : T Blk} {k : Nat}
    (hT : Okp (execN P Sg fuel n m c s αT (fun x s α => some (All α.ob ∧ match x with | .normal => Tr P n (tailN m c) (Sx.fgt keep n s) (EndSm P n res v hs' k) | x => RetS v hs' k x (resOf P n s res) s.hp s.nx)))) :
    Tr P n c s (EndSm P n res v hs' k) :=
  (Tr.treeNK F (Q := EndSm P n res v hs' k) m c s αT hT fun x s1 α' h => by
    cases x with
    | normal => exact ⟨h.1, Tr.pre keep h.2⟩
    | exit id => exact absurd h.2.1 (by simp)
    | ret => exact ⟨h.1, .inr rfl, h.2.2⟩).2
/-- .. its last piece -/
theorem Tr.endS {Sg : FuncId → Option SumA} (F : Fit P (fun f => (Sg f).map toSum)) {fuel n : Nat} {c : Code} {s : S} {res : List ResultVar} {v : RV} {hs' : T Blk} {k : Nat}
    (hT : Okp (execA P Sg fuel n c s αT (fun x s α => some (All α.ob ∧ RetS v hs' k x (resOf P n s res) s.hp s.nx)))) : Tr P n c s (EndSm P n res v hs' k) :=
  (Tr.treeO F (Q := fun x s => RetS v hs' k x (resOf P n s res) s.hp s.nx) hT).mono fun x s' h => by
    obtain ⟨rfl, h2⟩ := h
    exact ⟨.inr rfl, h2⟩
theorem Tr.ofTO {n : Nat} {c : Code} {s : S} {Q : X → S → Prop} (h : TO P n [] [] s c s Q) : Tr P n c s Q := fun ht ρ a w R => by
  have C0 : Came n [] [] ρ s w s a w :=
    ⟨ρ, [], ⟨Nat.le_refl _, fun _ _ _ => rfl, ht, fun _ h => absurd h List.not_mem_nil⟩, fun _ _ => List.not_mem_nil, R, Stp.refl R.fresh, fun _ hp => absurd hp List.not_mem_nil⟩
  refine (h ρ w R.hp R.fresh [] rfl a w C0).mono fun e a' w' ⟨x, s', hx, hq, C⟩ => ?_
  obtain ⟨ρ', L, ab, _, R', st, _⟩ := C.it
  exact ⟨x, s', L, hq, ab, hx, ρ', R', st⟩
theorem TO.ofTr {n : Nat} {s0 : S} {c : Code} {s : S} {Q : X → S → Prop} (h : Tr P n c s Q) : TO P n [] [] s0 c s Q := fun ρ0 w0 hr hf pins hpn a w C => by
  obtain ⟨ρ, L0, ab0, hK0, R, st0, hp0⟩ := C.it
  refine (h ab0.top ρ a w R).mono fun e a' w' ⟨x, s', L, hq, ab, hx, ρ', R', st⟩ => ⟨x, s', hx, hq, ⟨ρ', L ++ L0, ab0.trans ab, fun _ h => absurd h List.not_mem_nil, R', st0.trans st, hp0.step R.hp R.fresh st⟩⟩
end Go.Sx

namespace Go.Sx
open Go.RowKit
variable {P : Program}
/-! ## The same world, seen otherwise -/
structure See (n : Nat) (s s1 : S) : Prop where
  it : Top s → ∃ L1, AbsN s s1 L1 ∧ ∀ ρ a w, Rel n ρ s a w → ∃ ρ1, Rel n ρ1 s1 a w ∧ StpS ρ s w ρ1 s1 w L1
theorem See.step {n : Nat} {s s1 : S} {L1 : List Nat} (ab : Top s → AbsN s s1 L1) (hs : Top s → ∀ ρ a w, Rel n ρ s a w → ∃ ρ1, Rel n ρ1 s1 a w ∧ StpS ρ s w ρ1 s1 w L1) : See n s s1 := ⟨fun ht => ⟨L1, ab ht, hs ht⟩⟩
theorem Tr.see {n : Nat} {c : Code} {s s1 : S} {Q : X → S → Prop} (hs : See n s s1) (h : Tr P n c s1 Q) : Tr P n c s Q := fun ht ρ a w R => by
  obtain ⟨L1, ab, hs⟩ := hs.it ht
  obtain ⟨ρ1, R1, st1⟩ := hs ρ a w R
  refine (h ab.top ρ1 a w R1).mono fun e a' w' ⟨x, s', L, h1, h2, h3, ρ', h4, h5⟩ => ⟨x, s', L ++ L1, h1, ab.trans h2, h3, ρ', h4, st1.trans h5⟩
theorem See.nil {n : Nat} {sl : T RV} {hp : T Blk} {nx : Nat} {lg : List Nat} : See n ⟨sl, hp, nx, lg⟩ ⟨sl, hp, nx, []⟩ :=
  See.step (L1 := []) (fun ht => ⟨Nat.le_refl _, fun _ _ _ => rfl, ht, fun _ h => absurd h List.not_mem_nil⟩) (fun _ ρ a w R => ⟨ρ, ⟨R.sz, R.df, R.sl, R.hp, R.fresh⟩, Stp.refl R.fresh⟩)
noncomputable def setB (l : List (Nat × Option Blk)) (t : T Blk) : T Blk := match l with
  | [] => t
  | (i, x) :: l => match T.set (β := T Blk) depth t i x some with | some t => setB l t | none => t
/-- a block that is seen otherwise -/
noncomputable def asB (nw : Nat) (y : Blk) (s : S) : S := match s with | ⟨sl, hp, nx, _⟩ => match T.set (β := T Blk) depth hp nw (some y) some with | some t => ⟨sl, t, nx, []⟩ | none => ⟨sl, hp, nx, []⟩
theorem See.as {n : Nat} {s : S} (nw : Nat) {x : Blk} (y : Blk) (hx : s.hp.get nw = some x) (hw : x.wr = true) (hw2 : y.wr = true) (hxy : ∀ ρ c o, BlkR ρ c x o → BlkR ρ c y o) : See n s (asB nw y s) := by
  obtain ⟨sl, hp, nx, lg⟩ := s
  unfold asB
  simp only
  cases hset : T.set (β := T Blk) depth hp nw (some y) some with
  | none => exact See.nil
  | some t =>
  simp only
  obtain ⟨t', e, hg⟩ := T.set_ok _ _ _ _ _ _ hset
  simp only [Option.some.injEq] at e
  subst e
  refine See.step (L1 := [nw]) (fun ht => ⟨Nat.le_refl _, fun nm _ hn => ?_, fun nm hn => ?_, fun nm hn => ?_⟩) (fun ht ρ a w R => ?_)
  · show t'.get nm = hp.get nm
    rw [hg, if_neg (by simpa using hn)]
  · have hn' : nx ≤ nm := hn
    show t'.get nm = none
    rw [hg]
    split
    · rename_i e; subst e; rw [ht nm hn'] at hx; cases hx
    · exact ht nm hn'
  · rw [List.mem_singleton.1 hn]
    rcases Nat.lt_or_ge nw nx with h' | h'
    · exact h'
    · have : hp.get nw = none := ht nw h'
      have hx' : hp.get nw = some x := hx
      rw [this] at hx'; cases hx'
  · obtain ⟨b0, c0, o0, k1, k2, k3⟩ := R.hp.ok nw x hx
    have hr : HRel ρ t'.get w := by
      refine ⟨fun nm z hz => ?_, fun nm nm' z z' b c c' hz hz' hzw e1 e2 => ?_, R.hp.fz.of (fun _ _ h => h) (fun _ _ _ => rfl) fun nm z b c hz hzw e1 => .inl ?_⟩
      · rw [hg] at hz
        split at hz
        · rename_i e; subst e; cases hz
          exact ⟨b0, c0, o0, k1, k2, hxy _ _ _ k3⟩
        · exact R.hp.ok nm z hz
      · have q : ∀ m z, t'.get m = some z → ∃ z0, hp.get m = some z0 ∧ z0.wr = z.wr := fun m z hz => by
          rw [hg] at hz
          split at hz
          · rename_i e; subst e; cases hz; exact ⟨x, hx, by rw [hw, hw2]⟩
          · exact ⟨z, hz, rfl⟩
        obtain ⟨z0, g1, g2⟩ := q _ _ hz
        obtain ⟨z1, g3, _⟩ := q _ _ hz'
        exact R.hp.inj nm nm' z0 z1 b c c' g1 g3 (by rw [g2]; exact hzw) e1 e2
      · rw [hg] at hz
        split at hz
        · rename_i e; subst e; exact ⟨nm, x, c, hx, hw, e1⟩
        · exact ⟨nm, z, c, hz, hzw, e1⟩
    refine ⟨ρ, ⟨R.sz, R.df, R.sl, hr, R.fresh⟩, ?_⟩
    exact ⟨Nat.le_refl _, fun _ _ => rfl, fun nm _ hn => by show t'.get nm = hp.get nm; rw [hg, if_neg (by simpa using hn)], Nat.le_refl _, fun _ _ _ => rfl, (fun nm b c h1 h2 => by rw [R.fresh nm h1] at h2; cases h2), (fun nm h1 _ => by rw [List.mem_singleton.1 h1]; exact ⟨x, hx, hw⟩), rfl, rfl, rfl, fun _ _ h => h, fun _ _ h => .inl h⟩
/-! ### a row of numbers is frozen -/
end Go.Sx

namespace Go.Sx
open Go.RowKit
variable {P : Program}
/-! ## The first pieces of a body, names in order behind them -/
abbrev RetX (v : RV) : X → Option (List AV) → Prop := fun x q => x = X.ret ∧ ∃ L, q = some L ∧ resRV L = v
end Go.Sx

namespace Go.Sx
open Go.RowKit
variable {P : Program}
/-! ## A call that reads one block and lays a new one -/
def thN (nm nx : Nat) : Nat → Nat := fun i => if i = 0 then nm else nx + (i - 1)
theorem one_eq (x : Blk) : (ofL [(0, x)] : T Blk) = T.node .nil (some x) .nil := by kernel_rfl
theorem two_eq (x y : Blk) : (ofL [(0, x), (1, y)] : T Blk) = T.node (.node .nil (some y) .nil) (some x) .nil := by kernel_rfl
theorem one_get {x : Blk} {i : Nat} {y : Blk} (h : (ofL [(0, x)] : T Blk).get i = some y) : i = 0 ∧ y = x := by
  rw [one_eq, T.get_node] at h
  by_cases e : i = 0
  · rw [if_pos e] at h; cases h; exact ⟨e, rfl⟩
  · rw [if_neg e] at h
    split at h <;> (rw [T.get_nil] at h; cases h)
theorem CallInfo.newOne {f : FuncId} {args : List RV} {v : RV} {x y z : Blk} {nm : Nat} {s : S} {hp' : T Blk} (ht : Top s) (hfn : ∃ fn, P.funcs[f]? = some fn ∧ fn.body.isNone = false)
    (hC : SmallN P f args 1 (ofL [(0, x)]) 2 (ofL [(0, x), (1, y)]) v) (ha : args.all (inR 1) = true) (hz : s.hp.get nm = some z) (hro : RoOf 1 (thN nm s.nx) x z)
    (hg : ∀ i, hp'.get i = if i = s.nx then some (renB (thN nm s.nx) y) else s.hp.get i) :
    CallInfo P f (args.map (renR (thN nm s.nx))) s (renR (thN nm s.nx) v) { s with hp := hp', nx := s.nx + 1, lg := [] ++ s.lg } [] := by
  have hlt : nm < s.nx := by
    rcases Nat.lt_or_ge nm s.nx with h' | h'
    · exact h'
    · rw [ht nm h'] at hz; cases hz
  refine CallInfo.frameN (k := 1) (k' := 2) (θ := thN nm s.nx) ht hfn hC (by omega) ha (fun i w hw => ?_) (fun i j w w' hw hw' _ _ => ?_) (fun i hi => ?_) (fun m hm _ => ?_) (fun i w hw hwr => ?_) (fun m hm => ?_) (fun m => ⟨fun h => absurd h List.not_mem_nil, fun ⟨i, w, hw, hwr, _⟩ => ?_⟩)
  · obtain ⟨rfl, rfl⟩ := one_get hw
    exact ⟨by omega, hlt, .inr ⟨hro.1, z, hz, hro⟩⟩
  · obtain ⟨rfl, _⟩ := one_get hw
    obtain ⟨rfl, _⟩ := one_get hw'
    rfl
  · unfold thN; rw [if_neg (by omega)]
  · rw [hg, if_neg (by omega)]
  · obtain ⟨rfl, rfl⟩ := one_get hw
    rw [hro.1] at hwr; cases hwr
  · rw [hg]
    by_cases e : m = s.nx
    · subst e
      rw [if_pos rfl, if_pos (by omega), Nat.sub_self, Nat.zero_add, two_eq]
      rfl
    · rw [if_neg e, if_neg (by omega)]
      exact ht m hm
  · obtain ⟨rfl, rfl⟩ := one_get hw
    rw [hro.1] at hwr; cases hwr
theorem RoOf.win {k : Nat} {θ : Nat → Nat} {o : Nat} {kd : IntKind} {l : List Int} : RoOf k θ (.win o kd l) (.win o kd l) := ⟨rfl, fun _ _ _ h => h⟩
end Go.Sx

namespace Go.Sx
open Go.RowKit
variable {P : Program}
/-! ## A law: a body over two blocks, to be read alone, as a contract at every world -/
theorem two_get {x y z : Blk} {i : Nat} (h : (ofL [(0, x), (1, y)] : T Blk).get i = some z) : (i = 0 ∧ z = x) ∨ (i = 1 ∧ z = y) := by
  rw [two_eq, T.get_node] at h
  by_cases e : i = 0
  · rw [if_pos e] at h; cases h; exact .inl ⟨e, rfl⟩
  · rw [if_neg e] at h
    by_cases e2 : i % 2 = 1
    · rw [if_pos e2, T.get_node] at h
      by_cases e3 : i / 2 = 0
      · rw [if_pos e3] at h; cases h; exact .inr ⟨by omega, rfl⟩
      · rw [if_neg e3] at h
        split at h <;> (rw [T.get_nil] at h; cases h)
    · rw [if_neg e2, T.get_nil] at h; cases h
def rho2 (b0 c0 b1 c1 : Nat) : Rho := ⟨fun nm => if nm = 0 then some (b0, c0) else if nm = 1 then some (b1, c1) else none, fun _ => none⟩
theorem law_two {g : FuncId} {fn : Func} {c : Code} (hf : P.funcs[g]? = some fn) (hb : fn.body = some c) {args : List RV} {sl : T RV} {x y : Blk} {v : RV} (hset : setArgs fn.ntmps args 0 .nil some = some sl) (hx : x.wr = false) (hy : y.wr = false) (hv : flatR v = true)
    (hT : Tr P fn.ntmps c ⟨sl, ofL [(0, x), (1, y)], 2, []⟩ (EndV P fn.ntmps fn.results.toList v)) {w : World} {b0 c0 b1 c1 : Nat} {o0 o1 : Obj} (k0 : w.heap[b0]? = some o0) (r0 : BlkR (rho2 b0 c0 b1 c1) c0 x o0) (k1 : w.heap[b1]? = some o1) (r1 : BlkR (rho2 b0 c0 b1 c1) c1 y o1) {vs : List Value} (ha : ArgsR (rho2 b0 c0 b1 c1) args vs) :
    Calls P g vs.toArray w fun e w' => ∃ V, e = .returned V ∧ RVR rhoN v V ∧ Below w.heap.size w w' := by
  have hg : ∀ i z, (ofL [(0, x), (1, y)] : T Blk).get i = some z → z.wr = false := fun i z h => by
    rcases two_get h with ⟨_, rfl⟩ | ⟨_, rfl⟩
    · exact hx
    · exact hy
  have htop : Top ⟨sl, ofL [(0, x), (1, y)], 2, []⟩ := fun i hi => by
    have hi' : 2 ≤ i := hi
    show (ofL [(0, x), (1, y)] : T Blk).get i = none
    cases h : (ofL [(0, x), (1, y)] : T Blk).get i with
    | none => rfl
    | some z => rcases two_get h with ⟨rfl, _⟩ | ⟨rfl, _⟩ <;> omega
  refine (Tr.calls (s := ⟨.nil, ofL [(0, x), (1, y)], 2, []⟩) (Q := fun v' _ => v' = v) hf hb hset htop hT (rho2 b0 c0 b1 c1) w vs ?_ ?_ ha).mono fun e w' hh => ?_
  · refine ⟨fun nm z hz => ?_, fun nm nm' z z' b c c' hz _ hw _ _ => ?_, fun _ _ h => by cases h⟩
    · rcases two_get hz with ⟨rfl, rfl⟩ | ⟨rfl, rfl⟩
      · exact ⟨b0, c0, o0, rfl, k0, r0⟩
      · exact ⟨b1, c1, o1, rfl, k1, r1⟩
    · rw [hg _ _ hz] at hw; cases hw
  · intro nm hn
    have hn' : 2 ≤ nm := hn
    show (if nm = 0 then some (b0, c0) else if nm = 1 then some (b1, c1) else none) = none
    rw [if_neg (by omega), if_neg (by omega)]
  · obtain ⟨v', s', L', V, ρ', rfl, ab, e1, e2, e3, e4, st⟩ := hh
    refine ⟨V, e1, e2.indep hv, st.os, st.tape, st.out, st.size, fun q hq => st.frame q hq fun nm c hm hlt _ => ?_⟩
    obtain ⟨z, h1, h2⟩ := st.own nm hm hlt
    rw [hg _ _ h1] at h2; cases h2
theorem law_none {g : FuncId} {fn : Func} {c : Code} (hf : P.funcs[g]? = some fn) (hb : fn.body = some c) {args : List RV} {sl : T RV} {v : RV} (hset : setArgs fn.ntmps args 0 .nil some = some sl) (hv : flatR v = true)
    (hT : Tr P fn.ntmps c ⟨sl, .nil, 0, []⟩ (EndV P fn.ntmps fn.results.toList v)) {w : World} {vs : List Value} (ha : ArgsR rhoN args vs) :
    Calls P g vs.toArray w fun e w' => ∃ V, e = .returned V ∧ RVR rhoN v V ∧ Below w.heap.size w w' := by
  refine (Tr.calls (s := ⟨.nil, .nil, 0, []⟩) (Q := fun v' _ => v' = v) hf hb hset (fun _ _ => T.get_nil _) hT rhoN w vs (HRel.nil _) (fun _ _ => rfl) ha).mono fun e w' hh => ?_
  obtain ⟨v', s', L', V, ρ', rfl, ab, e1, e2, e3, e4, st⟩ := hh
  exact ⟨V, e1, e2.indep hv, st.os, st.tape, st.out, st.size, fun q hq => st.frame q hq fun nm c _ hlt _ => absurd hlt (Nat.not_lt_zero _)⟩
end Go.Sx
