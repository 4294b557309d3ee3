/-
  A part of the executor Sx over the model's code (any program): its words, or its proof; no seat's statement stands here.
-/
import Derived.Test.YtganobhodimjnaaSxE
namespace Go.Sx
variable {P : Program}

structure Rel (n : Nat) (ρ : Rho) (s : S) (a : Act) (w : World) : Prop where
  sz : a.tmps.size = n
  df : a.defers = []
  sl : ∀ t, RVR ρ (slot n s.sl t) (a.tmps.getD t undef)
  hp : HRel ρ s.hp.get w
  fresh : Fresh ρ s.nx

abbrev StpS (ρ : Rho) (s : S) (w : World) (ρ' : Rho) (s' : S) (w' : World) (L : List Nat) : Prop := Stp ρ s.hp.get s.nx w ρ' s'.hp.get s'.nx w' L

theorem put_size (a : Act) (d : Option Tmp) (v : Value) : (a.put d v).tmps.size = a.tmps.size := by cases d <;> simp [Act.put]
theorem put_defers (a : Act) (d : Option Tmp) (v : Value) : (a.put d v).defers = a.defers := by cases d <;> rfl
theorem put_getD (a : Act) (d : Option Tmp) (v : Value) (t : Nat) : (a.put d v).tmps.getD t undef = if d = some t ∧ t < a.tmps.size then v else a.tmps.getD t undef := by
  cases d with
  | none => simp [Act.put]
  | some d =>
    simp only [Act.put, Array.getD_eq_getD_getElem?, Array.getElem?_setIfInBounds, Option.some.injEq]
    by_cases h : d = t
    · subst h
      by_cases h2 : d < a.tmps.size
      · simp [h2]
      · simp [h2]
    · simp [h]

theorem OpLoc.seq {n : Nat} {ops : Array Oper} {o : Oper} {s s' : S} {nd : Need} {L : List Nat} (h : OpLoc P n ops o s nd s' L) {ρ : Rho} {a : Act} {w : World} (R : Rel n ρ s a w)
    {next : Act → World → Prop} {Q : Exit → Act → World → Prop} (hn : ∀ V w' ρ', Rel n ρ' s' (a.put o.dst V) w' → StpS ρ s w ρ' s' w' L → next (a.put o.dst V) w') :
    if Region.wanted o (yielded ops a.tmps) then o.wp P a w next Q else next (a.put o.dst undef) w := by
  refine h.run ρ w a s.hp.get R.sz (fun t _ => R.sl t) R.hp R.fresh (by cases nd <;> simp [NeedR]) next Q fun V w' ρ' h' hv hr hf st hh => ?_
  have e : h' = s'.hp.get := by
    funext nm
    by_cases hc : nm ∈ L ∨ s.nx ≤ nm
    · exact hh nm hc
    · rw [not_or] at hc
      rw [st.keep nm (by omega) hc.1, h.abs.keep nm (by omega) hc.1]
  subst e
  refine hn V w' ρ' ⟨by rw [put_size]; exact R.sz, by rw [put_defers]; exact R.df, fun t => ?_, hr, hf⟩ st
  rw [put_getD]
  by_cases hd : o.dst = some t
  · have hlt := h.dst t hd
    rw [if_pos ⟨hd, by rw [R.sz]; exact hlt⟩]
    exact hv t hd
  · rw [if_neg (fun hc => hd hc.1)]
    have : slot n s'.sl t = slot n s.sl t := by unfold slot; rw [h.other t hd]
    rw [this]
    exact (R.sl t).mono (st.sub R.fresh)

def SeqOK {β : Type} (n : Nat) (s : S) (k : S → Option β) (r : β) (wp : (Exit → Act → World → Prop) → Act → World → Prop) : Prop :=
  ∃ s' L, k s' = some r ∧ Abs s s' L ∧ ∀ (ρ : Rho) (a : Act) (w : World), Rel n ρ s a w → ∀ Q : Exit → Act → World → Prop, (∀ a' w' ρ', Rel n ρ' s' a' w' → StpS ρ s w ρ' s' w' L → Q .normal a' w') → wp Q a w

section
variable {β : Type} {z : Bool} {call : CallF β} (hcall : CallOK P call)
  (hng : ∀ (g : Nat) (fn : Func), P.funcs[g]? = some fn → (fn.name == "runtime.NumGoroutine") = false)
include hcall hng

theorem opsRun_ok {n : Nat} {ops : Array Oper} {r : β} : ∀ {rest : List Oper} {s : S} {k : S → Option β}, Top s → opsRun P z call n ops.toList rest s k = some r →
    SeqOK n s k r (fun Q => wpList P ops Q rest)
  | [], s, k, ht, h => ⟨s, [], h, Abs.refl ht, fun ρ a w R Q hQ => hQ a w ρ R (Stp.refl R.fresh)⟩
  | o :: rest, s, k, ht, h => by
    simp only [opsRun] at h
    obtain ⟨nd, s1, L1, h1, hl⟩ := opRun_ok hcall hng ht h
    obtain ⟨s2, L2, h2, ab, hw⟩ := opsRun_ok hl.abs.top h1
    refine ⟨s2, L2 ++ L1, h2, hl.abs.trans ab, fun ρ a w R Q hQ => ?_⟩
    have := hl.seq (next := wpList P ops Q rest) (Q := Q) R fun V w' ρ' R' st => hw ρ' _ w' R' Q fun a' w'' ρ'' R'' st' => hQ a' w'' ρ'' R'' (st.trans st')
    show wpList P ops Q (o :: rest) a w
    unfold wpList
    split
    · rename_i hc
      rw [if_pos hc] at this
      exact .inl this
    · rename_i hc
      rw [if_neg hc] at this
      exact this
end

/-! ## Code -/
def XR : X → Exit → Prop
  | .normal, .normal => True
  | .exit i, .exit j => i = j
  | .ret, .ret => True
  | _, _ => False

def WpX (P : Program) (m : Nat) (c : Code) (Q : Exit → Act → World → Prop) (a : Act) (w : World) : Prop :=
  match c with
  | .loop c => Code.rounds P c Q m a w
  | c => c.wp P Q a w

theorem WpX.wp {m : Nat} {c : Code} {Q : Exit → Act → World → Prop} {a : Act} {w : World} (h : WpX P m c Q a w) : c.wp P Q a w := by
  unfold WpX at h
  split at h
  · exact wp_loop_rounds m h
  · exact h

def PostX (n : Nat) (ρ : Rho) (s : S) (w : World) (x : X) (s' : S) (L : List Nat) : Exit → Act → World → Prop := fun e a' w' => XR x e ∧ ∃ ρ', Rel n ρ' s' a' w' ∧ StpS ρ s w ρ' s' w' L

def ExecOK (P : Program) {β : Type} (ex : ExecF β) : Prop := ∀ n c s k r, Top s → ex n c s k = some r → ∃ x s' L m, k x s' = some r ∧ Abs s s' L ∧
  ∀ (ρ : Rho) (a : Act) (w : World), Rel n ρ s a w → WpX P m c (PostX n ρ s w x s' L) a w

def SumOK (P : Program) (Sg : FuncId → Option Sum) : Prop := ∀ g sm, Sg g = some sm → ∀ args s v hp nx lg, Top s → sm args s.hp s.nx = some (v, hp, nx, lg) →
  CallInfo P g args s v { s with hp := hp, nx := nx, lg := lg ++ s.lg } lg

theorem setArgs_ok {β : Type} {n : Nat} : ∀ {args : List RV} {i : Nat} {sl : T RV} {k : T RV → Option β} {r : β}, setArgs n args i sl k = some r →
    ∃ sl', k sl' = some r ∧ (∀ j, sl'.get j = if i ≤ j ∧ j < i + args.length then args[j - i]? else sl.get j) ∧ (args = [] ∨ i + args.length ≤ n)
  | [], i, sl, k, r, h => ⟨sl, h, fun j => by rw [if_neg (by simp)], .inl rfl⟩
  | v :: vs, i, sl, k, r, h => by
    simp only [setArgs] at h
    split at h <;> try (cases h; done)
    rename_i hlt
    obtain ⟨t, h1, h2⟩ := T.set_ok _ _ _ _ _ _ h
    obtain ⟨sl', h3, h4, h5⟩ := setArgs_ok h1
    refine ⟨sl', h3, fun j => ?_, .inr ?_⟩
    · rw [h4, h2]
      simp only [List.length_cons]
      by_cases e : j = i
      · subst e
        rw [if_neg (by omega), if_pos rfl, if_pos (by omega)]
        simp
      · rw [if_neg e]
        by_cases hc : i + 1 ≤ j ∧ j < i + 1 + vs.length
        · rw [if_pos hc, if_pos (by omega), show j - i = (j - (i + 1)) + 1 by omega]
          rfl
        · rw [if_neg hc, if_neg (by omega)]
    · rcases h5 with rfl | h5
      · simp; omega
      · simp; omega

theorem ArgsR.get {ρ : Rho} : ∀ {l : List RV} {vs : List Value}, ArgsR ρ l vs → vs.length = l.length ∧ ∀ (i : Nat) (x : RV), l[i]? = some x → ∃ V, vs[i]? = some V ∧ RVR ρ x V
  | [], _, h => by simp only [ArgsR] at h; subst h; simp
  | _ :: _, _, ⟨v, vs', h1, h2, h3⟩ => by
    subst h3
    obtain ⟨e1, e2⟩ := h2.get
    refine ⟨by simp [e1], fun i x hx => ?_⟩
    cases i with
    | zero => simp at hx; subst hx; exact ⟨v, rfl, h1⟩
    | succ i => simp at hx; simpa using e2 i x hx

def resVar (tmps : Array Value) : ResultVar → Sem Value
  | .tmp t => pure (tmps.getD t undef)
  | .cell a t => do loadVar t (← asAddr (tmps.getD a undef))

theorem results_eq (fn : Func) (tmps : Array Value) : results fn tmps = (do
    let vs ← fn.results.mapM (resVar tmps)
    pure (if h : vs.size = 1 then vs[0] else .tuple vs)) := by
  unfold results
  congr 1

theorem resOf_ok {n : Nat} {s : S} {ρ : Rho} {a : Act} {w : World} (R : Rel n ρ s a w) : ∀ {rs : List ResultVar} {l : List AV}, resOf P n s rs = some l →
    ∃ vs, AVsR ρ l vs ∧ vs.length = l.length ∧ (rs.mapM (resVar a.tmps)).run P w = Result.ok vs w
  | [], l, h => by simp [resOf] at h; subst h; exact ⟨[], rfl, rfl, rfl⟩
  | rv :: rs, l, h => by
    simp only [resOf] at h
    split at h <;> try (cases h; done)
    rename_i v l' h1 h2
    simp only [Option.some.injEq] at h; subst h
    obtain ⟨vs, g1, g2, g3⟩ := resOf_ok R h2
    have key : ∃ V, AVR ρ v V ∧ (resVar a.tmps rv).run P w = Result.ok V w := by
      cases rv with
      | tmp t =>
        simp only [eval_tmp] at h1
        split at h1 <;> try (cases h1; done)
        rename_i v' hv'
        simp only [Option.some.injEq] at h1 hv'; subst h1
        have := R.sl t
        rw [hv'] at this
        exact ⟨_, this, rfl⟩
      | cell p t =>
        simp only [eval_tmp] at h1
        split at h1 <;> try (cases h1; done)
        rename_i nm off k hs hk
        simp only [Option.some.injEq] at hs
        split at h1 <;> try (cases h1; done)
        rename_i t' ro opn b hrow
        have := R.sl p
        rw [hs] at this
        obtain ⟨bl, c, e1, e2⟩ := this
        obtain ⟨_, bl', c', vs', tail, fr, q1, q2, q3, _, _⟩ := row_ok R.hp hrow
        rw [e1] at q1
        simp only [Option.some.injEq, Prod.mk.injEq] at q1
        obtain ⟨rfl, rfl⟩ := q1
        obtain ⟨V, p1, p2⟩ := run_loadVar' (P := P) q2 hk h1 rfl q3
        refine ⟨V, p1, ?_⟩
        simp only [resVar, e2, asAddr, Sem.run_bind, Sem.run_pure, Result.andThen_ok, p2]
    obtain ⟨V, k1, k2⟩ := key
    refine ⟨V :: vs, ⟨V, vs, k1, g1, rfl⟩, by simp [g2], ?_⟩
    simp only [List.mapM_cons, Sem.run_bind, k2, Result.andThen_ok, g3, Sem.run_pure]

theorem results_ok {n : Nat} {s : S} {ρ : Rho} {a : Act} {w : World} (R : Rel n ρ s a w) {fn : Func} {l : List AV} (h : resOf P n s fn.results.toList = some l) :
    ∃ V, RVR ρ (resRV l) V ∧ (results fn a.tmps).run P w = .ok V w := by
  obtain ⟨vs, g1, g2, g3⟩ := resOf_ok R h
  have hm : (results fn a.tmps).run P w = .ok (if h : vs.toArray.size = 1 then vs.toArray[0] else .tuple vs.toArray) w := by
    rw [results_eq, Array.mapM_eq_mapM_toList]
    simp only [Sem.run_bind, Sem.run_map, g3, Result.andThen_ok, Sem.run_pure]
  rw [hm]
  match l, vs, g1, g2 with
  | [v], [V], g1, _ =>
    obtain ⟨V', _, k1, k2, k3⟩ := g1
    simp only [AVsR] at k2
    subst k2
    simp only [List.cons.injEq, and_true] at k3
    subst k3
    exact ⟨V, k1, by simp⟩
  | [], [], _, _ => exact ⟨_, ⟨[], rfl, rfl⟩, by simp⟩
  | x :: y :: l, u :: v :: vs, g1, _ =>
    refine ⟨_, ⟨_, g1, rfl⟩, ?_⟩
    simp

end Go.Sx
