/-
  A part of the executor Sx over the model's code (any program): its words, or its proof; no seat's statement stands here.
-/
import Derived.Test.YtganobhodimjnaaSxF
namespace Go.Sx
variable {P : Program}

/-- a region, drawn or not, leaves what the executor says -/
def RegOK (P : Program) (z : Bool) : Prop := ∀ {β : Type} (call : CallF β), CallOK P call → ∀ (n id : Nat) (ops : Array Oper) (s : S) (k : S → Option β) (r : β), Top s → drawRun P z call n ops.toList s k = some r →
  SeqOK n s k r (fun Q => (Code.region id ops true).wp P Q)

section
variable {β : Type} {z : Bool} {Sg : FuncId → Option Sum} (hng : ∀ (g : Nat) (fn : Func), P.funcs[g]? = some fn → (fn.name == "runtime.NumGoroutine") = false)
  (hS : SumOK P Sg) (hdraw : RegOK P z)
include hng hS hdraw

omit hng hS hdraw in
theorem body_calls {ex : ExecF β} (hex : ExecOK P ex) {g : FuncId} {fn : Func} {c : Code} (hf : P.funcs[g]? = some fn) (hb : fn.body = some c) {args : List RV} {s : S} {k : RV → S → Option β} {r : β} (ht : Top s)
    (h : bodyRun P ex fn c args s k = some r) : ∃ v s' L, k v s' = some r ∧ CallInfo P g args s v s' L := by
  unfold bodyRun at h
  obtain ⟨sl, h1, h2, h3⟩ := setArgs_ok h
  obtain ⟨x, s1, L, m, h4, ab, hw⟩ := hex _ _ _ _ _ (by exact ht) h1
  have hx : (x = .normal ∨ x = .ret) ∧ ∃ l, resOf P fn.ntmps s1 fn.results.toList = some l ∧ k (resRV l) { s1 with sl := s.sl } = some r := by
    cases x with
    | exit id => simp [backRun] at h4
    | normal =>
      simp only [backRun] at h4
      split at h4 <;> try (cases h4; done)
      rename_i l hl
      exact ⟨.inl rfl, l, hl, h4⟩
    | ret =>
      simp only [backRun] at h4
      split at h4 <;> try (cases h4; done)
      rename_i l hl
      exact ⟨.inr rfl, l, hl, h4⟩
  obtain ⟨hx, l, hl, hk⟩ := hx
  refine ⟨resRV l, { s1 with sl := s.sl }, L, hk, ⟨⟨fn, hf, by rw [hb]; rfl⟩, rfl, ⟨ab.lg, ab.le, ab.keep, ab.top, ab.lt⟩, ?_⟩⟩
  intro ρ w vs hr hfr hargs
  obtain ⟨len, hget⟩ := hargs.get
  have R0 : Rel fn.ntmps ρ { s with sl := sl } { tmps := vs.toArray ++ Array.replicate (fn.ntmps - vs.toArray.size) undef, defers := [] } w := by
    have hle : vs.length ≤ fn.ntmps := by
      rcases h3 with rfl | h3
      · simp at len; rw [len]; simp
      · omega
    refine ⟨by simp; omega, rfl, fun t => ?_, hr, hfr⟩
    unfold slot
    simp only
    rw [h2]
    simp only [Nat.zero_le, true_and, Nat.zero_add, Nat.sub_zero, T.get_nil]
    by_cases hlt : t < args.length
    · have hlt' : t < vs.length := by omega
      rw [if_pos (show t < fn.ntmps by omega), if_pos hlt]
      obtain ⟨V, e1, e2⟩ := hget t args[t] (List.getElem?_eq_getElem hlt)
      rw [List.getElem?_eq_getElem hlt]
      have : (vs.toArray ++ Array.replicate (fn.ntmps - vs.toArray.size) undef).getD t undef = V := by
        rw [Array.getD_eq_getD_getElem?, Array.getElem?_append_left (by simpa using hlt')]
        simp [e1]
      rw [this]
      exact e2
    · rw [if_neg hlt]
      have : (vs.toArray ++ Array.replicate (fn.ntmps - vs.toArray.size) undef).getD t undef = undef := by
        rw [Array.getD_eq_getD_getElem?, Array.getElem?_append_right (by simp; omega)]
        rw [Array.getElem?_replicate]
        split <;> rfl
      rw [this]
      simp only [ite_self, Option.getD_none]
      exact und_ok
  refine calls_of_wp hf hb ?_
  refine wp_mono (hw ρ _ w R0).wp fun e a' w' hq => ?_
  obtain ⟨hxr, ρ', R', st⟩ := hq
  obtain ⟨V, v1, v2⟩ := results_ok R' hl
  have fin : a'.defers = [] ∧ ∃ v, (results fn a'.tmps).run P w' = .ok v w' ∧ ∃ V ρ', Ending.returned v = .returned V ∧ RVR ρ' (resRV l) V ∧ HRel ρ' s1.hp.get w' ∧ Fresh ρ' s1.nx ∧ Stp ρ s.hp.get s.nx w ρ' s1.hp.get s1.nx w' L :=
    ⟨R'.df, V, v2, V, ρ', rfl, v1, R'.hp, R'.fresh, st⟩
  rcases hx with rfl | rfl
  · cases e <;> simp only [XR] at hxr
    exact fin
  · cases e <;> simp only [XR] at hxr
    exact fin

omit hng hdraw in
theorem callBy_ok {ex : ExecF β} (hex : ExecOK P ex) : CallOK P (callBy P Sg ex) := by
  intro g args s k r ht h
  unfold callBy at h
  split at h <;> try (cases h; done)
  rename_i fn hf
  split at h <;> try (cases h; done)
  rename_i c hb
  split at h
  · rename_i sm hsm
    split at h
    · rename_i v hp nx lg hsum
      exact ⟨v, _, lg, h, hS g sm hsm args s v hp nx lg ht hsum⟩
    · exact body_calls hex hf hb ht h
  · exact body_calls hex hf hb ht h

omit hng hS hdraw in
theorem PostX.trans {n : Nat} {ρ ρ1 : Rho} {s s1 s2 : S} {w w1 : World} {x : X} {L1 L2 : List Nat} (st : StpS ρ s w ρ1 s1 w1 L1) {e : Exit} {a' : Act} {w' : World} (h : PostX n ρ1 s1 w1 x s2 L2 e a' w') : PostX n ρ s w x s2 (L2 ++ L1) e a' w' := by
  obtain ⟨h1, ρ', h2, h3⟩ := h
  exact ⟨h1, ρ', h2, st.trans h3⟩

omit hng hS hdraw in
theorem rounds_mono {c : Code} {Q Q' : Exit → Act → World → Prop} (h : ∀ e a w, Q e a w → Q' e a w) : ∀ m a w, Code.rounds P c Q m a w → Code.rounds P c Q' m a w
  | 0, _, _, hr => hr
  | m + 1, a, w, hr => by
    rw [rounds_succ] at hr ⊢
    refine wp_mono hr fun e a' w' hq => ?_
    cases e with
    | normal => exact rounds_mono h m a' w' hq
    | _ => exact h _ _ _ hq

theorem codeRun_ok {ex : ExecF β} (hex : ExecOK P ex) : ExecOK P (codeRun P Sg z ex) := by
  intro n c s k r ht h
  cases c with
  | skip => exact ⟨.normal, s, [], 0, h, Abs.refl ht, fun ρ a w R => wp_skip ⟨trivial, ρ, R, Stp.refl R.fresh⟩⟩
  | ret => exact ⟨.ret, s, [], 0, h, Abs.refl ht, fun ρ a w R => wp_ret ⟨trivial, ρ, R, Stp.refl R.fresh⟩⟩
  | exit id => exact ⟨.exit id, s, [], 0, h, Abs.refl ht, fun ρ a w R => wp_exit ⟨rfl, ρ, R, Stp.refl R.fresh⟩⟩
  | seq x y =>
    simp only [codeRun] at h
    obtain ⟨e1, s1, L1, m1, h1, ab1, w1⟩ := hex _ _ _ _ _ ht h
    cases e1 with
    | normal =>
      simp only [seqK] at h1
      obtain ⟨e2, s2, L2, m2, h2, ab2, w2⟩ := hex _ _ _ _ _ ab1.top h1
      refine ⟨e2, s2, L2 ++ L1, 0, h2, ab1.trans ab2, fun ρ a w R => wp_seq (wp_mono (w1 ρ a w R).wp fun e a' w' hq => ?_)⟩
      obtain ⟨hx, ρ', R', st⟩ := hq
      cases e <;> simp only [XR] at hx
      exact wp_mono (w2 ρ' a' w' R').wp fun e a'' w'' hq => hq.trans st
    | exit id =>
      refine ⟨.exit id, s1, L1, 0, h1, ab1, fun ρ a w R => wp_seq (wp_mono (w1 ρ a w R).wp fun e a' w' hq => ?_)⟩
      obtain ⟨hx, hq⟩ := hq
      cases e <;> simp only [XR] at hx
      subst hx
      exact ⟨rfl, hq⟩
    | ret =>
      refine ⟨.ret, s1, L1, 0, h1, ab1, fun ρ a w R => wp_seq (wp_mono (w1 ρ a w R).wp fun e a' w' hq => ?_)⟩
      obtain ⟨hx, hq⟩ := hq
      cases e <;> simp only [XR] at hx
      exact ⟨trivial, hq⟩
  | cond c x y =>
    simp only [codeRun] at h
    unfold condRun at h
    split at h <;> try (cases h; done)
    rename_i t hc
    have hev : ∀ (ρ : Rho) (a : Act) (w : World), Rel n ρ s a w → a.eval c = .bool t := fun ρ a w R => by
      have := eval_ok (ρ := ρ) (n := n) (sl := s.sl) (a := a) (x := c) (fun t _ => R.sl t) _ hc
      exact this
    cases t with
    | true =>
      obtain ⟨e1, s1, L1, m1, h1, ab1, w1⟩ := hex _ _ _ _ _ ht h
      exact ⟨e1, s1, L1, 0, h1, ab1, fun ρ a w R => wp_cond_true (hev ρ a w R) (w1 ρ a w R).wp⟩
    | false =>
      obtain ⟨e1, s1, L1, m1, h1, ab1, w1⟩ := hex _ _ _ _ _ ht h
      exact ⟨e1, s1, L1, 0, h1, ab1, fun ρ a w R => wp_cond_false (hev ρ a w R) (w1 ρ a w R).wp⟩
  | block id c =>
    simp only [codeRun] at h
    obtain ⟨e1, s1, L1, m1, h1, ab1, w1⟩ := hex _ _ _ _ _ ht h
    cases e1 with
    | normal =>
      refine ⟨.normal, s1, L1, 0, h1, ab1, fun ρ a w R => wp_block (wp_mono (w1 ρ a w R).wp fun e a' w' hq => ?_)⟩
      obtain ⟨hx, hq⟩ := hq
      cases e <;> simp only [XR] at hx
      exact ⟨trivial, hq⟩
    | ret =>
      refine ⟨.ret, s1, L1, 0, h1, ab1, fun ρ a w R => wp_block (wp_mono (w1 ρ a w R).wp fun e a' w' hq => ?_)⟩
      obtain ⟨hx, hq⟩ := hq
      cases e <;> simp only [XR] at hx
      exact ⟨trivial, hq⟩
    | exit j =>
      simp only [blockK] at h1
      by_cases hj : j = id
      · rw [if_pos hj] at h1
        refine ⟨.normal, s1, L1, 0, h1, ab1, fun ρ a w R => wp_block (wp_mono (w1 ρ a w R).wp fun e a' w' hq => ?_)⟩
        obtain ⟨hx, hq⟩ := hq
        cases e <;> simp only [XR] at hx
        subst hx
        simp only [Exit.inBlock, hj, if_true]
        exact ⟨trivial, hq⟩
      · rw [if_neg hj] at h1
        refine ⟨.exit j, s1, L1, 0, h1, ab1, fun ρ a w R => wp_block (wp_mono (w1 ρ a w R).wp fun e a' w' hq => ?_)⟩
        obtain ⟨hx, hq⟩ := hq
        cases e <;> simp only [XR] at hx
        subst hx
        simp only [Exit.inBlock, hj, if_false]
        exact ⟨rfl, hq⟩
  | loop c =>
    simp only [codeRun] at h
    obtain ⟨e1, s1, L1, m1, h1, ab1, w1⟩ := hex _ _ _ _ _ ht h
    cases e1 with
    | normal =>
      simp only [seqK] at h1
      obtain ⟨e2, s2, L2, m2, h2, ab2, w2⟩ := hex _ _ _ _ _ ab1.top h1
      refine ⟨e2, s2, L2 ++ L1, m2 + 1, h2, ab1.trans ab2, fun ρ a w R => ?_⟩
      show c.wp P (Exit.then (Code.rounds P c _ m2) _) a w
      refine wp_mono (w1 ρ a w R).wp fun e a' w' hq => ?_
      obtain ⟨hx, ρ', R', st⟩ := hq
      cases e <;> simp only [XR] at hx
      have := w2 ρ' a' w' R'
      exact rounds_mono (fun e a w hq => PostX.trans st hq) m2 a' w' this
    | exit id =>
      refine ⟨.exit id, s1, L1, 1, h1, ab1, fun ρ a w R => ?_⟩
      show c.wp P (Exit.then (Code.rounds P c _ 0) _) a w
      refine wp_mono (w1 ρ a w R).wp fun e a' w' hq => ?_
      obtain ⟨hx, hq⟩ := hq
      cases e <;> simp only [XR] at hx
      subst hx
      exact ⟨rfl, hq⟩
    | ret =>
      refine ⟨.ret, s1, L1, 1, h1, ab1, fun ρ a w R => ?_⟩
      show c.wp P (Exit.then (Code.rounds P c _ 0) _) a w
      refine wp_mono (w1 ρ a w R).wp fun e a' w' hq => ?_
      obtain ⟨hx, hq⟩ := hq
      cases e <;> simp only [XR] at hx
      exact ⟨trivial, hq⟩
  | region id ops draw =>
    simp only [codeRun] at h
    cases draw with
    | false =>
      simp only [regionRun] at h
      obtain ⟨s', L, h1, ab, hw⟩ := opsRun_ok (callBy_ok hS hex) hng ht h
      exact ⟨.normal, s', L, 0, h1, ab, fun ρ a w R => wp_region_list (hw ρ a w R _ fun a' w' ρ' R' st => ⟨trivial, ρ', R', st⟩)⟩
    | true =>
      simp only [regionRun] at h
      obtain ⟨s', L, h1, ab, hw⟩ := hdraw _ (callBy_ok hS hex) n id ops s _ r ht h
      exact ⟨.normal, s', L, 0, h1, ab, fun ρ a w R => hw ρ a w R _ fun a' w' ρ' R' st => ⟨trivial, ρ', R', st⟩⟩
  | _ => simp [codeRun] at h

theorem exec_ok : ∀ f, ExecOK P (exec (β := β) P Sg z f)
  | 0 => fun n c s k r _ h => by cases h
  | f + 1 => codeRun_ok hng hS hdraw (exec_ok f)

end
end Go.Sx
