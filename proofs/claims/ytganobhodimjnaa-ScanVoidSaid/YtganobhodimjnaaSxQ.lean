/-
  A part of the executor Sx over the model's code (any program): its words, or its proof; no seat's statement stands here.
-/
import Derived.Test.YtganobhodimjnaaSxP
namespace Go.Sx
variable {P : Program} {ρ : Rho} {w : World} {hp : Hp} {nx : Nat}

/-- an operation's run, and what the executor says of it -/
def OpR (P : Program) (ρ : Rho) (hp : Hp) (nx : Nat) (w : World) (s : Sem Next) (r : Res) : Prop :=
  ∃ V w' ρ', (s.run P w = .ok (.value V) w' ∨ (s.run P w = .ok .skip w' ∧ V = undef)) ∧ Out ρ hp nx w r.u r.v V ρ' w'

theorem SemR.op {s : Sem Value} {r : Res} (h : SemR P ρ hp nx w s r) : OpR P ρ hp nx w (do pure (.value (← s))) r := by
  obtain ⟨V, w', ρ', h1, h2⟩ := h
  exact ⟨V, w', ρ', .inl (by simp [h1]), h2⟩

section ops
variable {ev : Ev} {va : Operand → Value} {r : Res} (hr : HRel ρ hp w) (hf : Fresh ρ nx)
include hr hf

omit hr hf in
theorem unitOp {s : Sem Unit} (h : ∃ w' ρ', s.run P w = .ok () w' ∧ Out ρ hp nx w r.u r.v undef ρ' w') : OpR P ρ hp nx w (do s; pure .skip) r := by
  obtain ⟨w', ρ', h1, h2⟩ := h
  exact ⟨undef, w', ρ', .inr ⟨by simp [h1], rfl⟩, h2⟩

theorem builtin_ok {b : Builtin} {ts : Array TypeId} {ty : TypeId} {cs : Array Bool} {l : List RV} {vs : List Value} (h : builtinRes P hp nx b ts l = some r)
    (hv : ∀ (i : Nat) (x : RV), l[i]? = some x → ∃ V, vs[i]? = some V ∧ RVR ρ x V) (hlen : vs.length = l.length) : OpR P ρ hp nx w (builtin b ts ty cs vs.toArray) r := by
  unfold builtinRes at h
  split at h
  · rename_i x
    obtain ⟨X, e0, h0⟩ := hv 0 _ rfl
    have : vs = [X] := by
      match vs, hlen with
      | [a], _ => simp at e0; subst e0; rfl
    subst this
    exact (lenRes_ok hr hf h h0).op
  · rename_i d s
    obtain ⟨D, e0, h0⟩ := hv 0 _ rfl
    obtain ⟨S, e1, h1⟩ := hv 1 _ rfl
    have : vs = [D, S] := by
      match vs, hlen with
      | [a, b], _ => simp at e0 e1; subst e0 e1; rfl
    subst this
    exact (copyRes_ok hr hf h h0 h1).op
  · rename_i d s
    obtain ⟨D, e0, h0⟩ := hv 0 _ rfl
    obtain ⟨S, e1, h1⟩ := hv 1 _ rfl
    have : vs = [D, S] := by
      match vs, hlen with
      | [a, b], _ => simp at e0 e1; subst e0 e1; rfl
    subst this
    exact (appendRes_ok hr hf h h0 h1).op
  · split at h <;> try (cases h; done)
    rename_i v hm
    exact (minRes_ok (s := fun a => Builtin.min_ ts ty a) hr hf hm hv hlen (fun k x y => by simp [Builtin.min_, Builtin.min2]) h).op
  · split at h <;> try (cases h; done)
    rename_i v hm
    exact (minRes_ok (s := fun a => Builtin.max_ ts ty a) hr hf hm hv hlen (fun k x y => by simp [Builtin.max_, Builtin.max2]) h).op
  · rename_i m k
    obtain ⟨M, e0, h0⟩ := hv 0 _ rfl
    obtain ⟨K, e1, h1⟩ := hv 1 _ rfl
    have : vs = [M, K] := by
      match vs, hlen with
      | [a, b], _ => simp at e0 e1; subst e0 e1; rfl
    subst this
    exact (deleteRes_ok hr hf h h0 h1).op
  · cases h

theorem stCall_ok {c : Call} {ty : TypeId} (h : stCall P ev hp nx c = some r) (hx : ∀ x ∈ c.args.toList, EvR ρ ev va x) : OpR P ρ hp nx w (do let d ← resolve va c ty; invoke d.target d.args) r := by
  unfold stCall at h
  split at h <;> try (cases h; done)
  rename_i b hb
  split at h <;> try (cases h; done)
  rename_i l hl
  obtain ⟨e1, e2⟩ := evl_ok hl hx
  have hargs : c.args.map va = (c.args.toList.map va).toArray := by rw [← Array.toList_map]
  have := builtin_ok (P := P) (vs := c.args.toList.map va) (ts := c.argTypes) (ty := ty) (cs := c.args.map fun | .const _ => true | _ => false) hr hf h (fun i x hi => by
    obtain ⟨y, h1, h2⟩ := e2 i x hi
    exact ⟨va y, by simp only [List.getElem?_map, h1, Option.map_some], h2⟩) (by simp [e1])
  rw [← hargs] at this
  obtain ⟨V, w', ρ', h1, h2⟩ := this
  refine ⟨V, w', ρ', ?_, h2⟩
  simp only [resolve, hb, Sem.run_bind, Sem.run_pure, Result.andThen_ok, invoke]
  exact h1

theorem opStep_ok {o : Oper} (h : opStep P ev hp nx o.op = some r) (hx : ∀ x ∈ o.op.operands.toList, EvR ρ ev va x) : OpR P ρ hp nx w (execOp va o) r := by
  cases ho : o.op with
  | move x =>
    rw [ho] at h hx
    have := (stMove_ok (P := P) hr hf h (hx x (by simp [Op.operands]))).op
    simpa [execOp, ho] using this
  | assign x =>
    rw [ho] at h hx
    have := (stMove_ok (P := P) hr hf h (hx x (by simp [Op.operands]))).op
    simpa [execOp, ho] using this
  | pick c a b =>
    rw [ho] at h hx
    have := (stPick_ok (P := P) hr hf h (hx c (by simp [Op.operands])) (hx a (by simp [Op.operands])) (hx b (by simp [Op.operands]))).op
    obtain ⟨V, w', ρ', h1, h2⟩ := this
    exact ⟨V, w', ρ', by simp only [execOp, ho]; simpa using h1, h2⟩
  | alloc t =>
    rw [ho] at h hx
    have := (stAlloc_ok (P := P) hr hf h).op
    obtain ⟨V, w', ρ', h1, h2⟩ := this
    exact ⟨V, w', ρ', by simp only [execOp, ho]; exact h1, h2⟩
  | box t x =>
    rw [ho] at h hx
    obtain ⟨V, w', ρ', h1, h2⟩ := (stBox_ok (P := P) hr hf h (hx x (by simp [Op.operands]))).op
    exact ⟨V, w', ρ', by simp only [execOp, ho]; exact h1, h2⟩
  | build t ps =>
    rw [ho] at h hx
    obtain ⟨V, w', ρ', h1, h2⟩ := (stBuild_ok (P := P) hr hf h (fun x hx' => hx x.2 (by simp [Op.operands]; exact ⟨x.1, by simpa using hx'⟩))).op
    exact ⟨V, w', ρ', by simp only [execOp, ho]; exact h1, h2⟩
  | buildSlice t len ps =>
    rw [ho] at h hx
    obtain ⟨V, w', ρ', h1, h2⟩ := (stBuildSlice_ok (P := P) hr hf h (fun x hx' => hx x.2 (by simp [Op.operands]; exact ⟨x.1, by simpa using hx'⟩))).op
    exact ⟨V, w', ρ', by simp only [execOp, ho]; exact h1, h2⟩
  | load t a =>
    rw [ho] at h hx
    obtain ⟨V, w', ρ', h1, h2⟩ := (stLoad_ok (P := P) hr hf h (hx a (by simp [Op.operands]))).op
    exact ⟨V, w', ρ', by simp only [execOp, ho]; exact h1, h2⟩
  | store t a x =>
    rw [ho] at h hx
    obtain ⟨V, w', ρ', h1, h2⟩ := unitOp (P := P) (stStore_ok (P := P) hr hf h (hx a (by simp [Op.operands])) (hx x (by simp [Op.operands])))
    exact ⟨V, w', ρ', by simp only [execOp, ho]; exact h1, h2⟩
  | nilCheck x =>
    rw [ho] at h hx
    obtain ⟨V, w', ρ', h1, h2⟩ := stNil_ok (P := P) hr hf ho h (hx x (by simp [Op.operands]))
    exact ⟨V, w', ρ', .inl h1, h2⟩
  | binOp op t x y yt =>
    rw [ho] at h hx
    obtain ⟨V, w', ρ', h1, h2⟩ := (stBin_ok (P := P) hr hf h (hx x (by simp [Op.operands])) (hx y (by simp [Op.operands])) x y).op
    exact ⟨V, w', ρ', by simp only [execOp, ho]; exact h1, h2⟩
  | unOp op t x =>
    rw [ho] at h hx
    obtain ⟨V, w', ρ', h1, h2⟩ := (stUn_ok (P := P) hr hf h (hx x (by simp [Op.operands]))).op
    exact ⟨V, w', ρ', by simp only [execOp, ho]; exact h1, h2⟩
  | convert src dst x =>
    rw [ho] at h hx
    obtain ⟨V, w', ρ', h1, h2⟩ := (stConv_ok (P := P) hr hf h (hx x (by simp [Op.operands]))).op
    exact ⟨V, w', ρ', by simp only [execOp, ho]; exact h1, h2⟩
  | sliceToArrayPointer t x =>
    rw [ho] at h hx
    obtain ⟨V, w', ρ', h1, h2⟩ := (stArr_ok (P := P) hr hf h (hx x (by simp [Op.operands]))).op
    exact ⟨V, w', ρ', by simp only [execOp, ho]; exact h1, h2⟩
  | makeFunc fn first caps =>
    rw [ho] at h hx
    obtain ⟨V, w', ρ', h1, h2⟩ := (stFunc_ok (P := P) hr hf h (fun x hx' => hx x (by simp [Op.operands]; right; simpa using hx'))).op
    exact ⟨V, w', ρ', by simp only [execOp, ho]; exact h1, h2⟩
  | makeMap t x =>
    rw [ho] at h hx
    obtain ⟨V, w', ρ', h1, h2⟩ := (stMakeMap_ok (P := P) (va := va) (t := t) hr hf h).op
    exact ⟨V, w', ρ', by simp only [execOp, ho]; exact h1, h2⟩
  | makeSlice t l c =>
    rw [ho] at h hx
    obtain ⟨V, w', ρ', h1, h2⟩ := (stMakeSlice_ok (P := P) hr hf h (hx l (by simp [Op.operands])) (hx c (by simp [Op.operands]))).op
    exact ⟨V, w', ρ', by simp only [execOp, ho]; exact h1, h2⟩
  | slice t x lo hi mx =>
    rw [ho] at h hx
    obtain ⟨V, w', ρ', h1, h2⟩ := (stSlice_ok (P := P) hr hf h (hx x (by simp [Op.operands])) (fun y hy => hx y (by simp [Op.operands, hy])) (fun y hy => hx y (by simp [Op.operands, hy]))).op
    exact ⟨V, w', ρ', by simp only [execOp, ho]; exact h1, h2⟩
  | fieldAddr s x f =>
    rw [ho] at h hx
    obtain ⟨V, w', ρ', h1, h2⟩ := (stFieldAddr_ok (P := P) hr hf h (hx x (by simp [Op.operands]))).op
    exact ⟨V, w', ρ', by simp only [execOp, ho]; exact h1, h2⟩
  | field t x f =>
    rw [ho] at h hx
    obtain ⟨V, w', ρ', h1, h2⟩ := (stField_ok (P := P) hr hf h (hx x (by simp [Op.operands]))).op
    exact ⟨V, w', ρ', by simp only [execOp, ho]; exact h1, h2⟩
  | indexAddr t x i =>
    rw [ho] at h hx
    obtain ⟨V, w', ρ', h1, h2⟩ := (stIndexAddr_ok (P := P) hr hf h (hx x (by simp [Op.operands])) (hx i (by simp [Op.operands]))).op
    exact ⟨V, w', ρ', by simp only [execOp, ho]; exact h1, h2⟩
  | index t x i =>
    rw [ho] at h hx
    obtain ⟨V, w', ρ', h1, h2⟩ := (stIndex_ok (P := P) hr hf h (hx x (by simp [Op.operands])) (hx i (by simp [Op.operands]))).op
    exact ⟨V, w', ρ', by simp only [execOp, ho]; exact h1, h2⟩
  | lookup t m k ok =>
    rw [ho] at h hx
    obtain ⟨V, w', ρ', h1, h2⟩ := (stLookup_ok (P := P) hr hf h (hx m (by simp [Op.operands])) (hx k (by simp [Op.operands]))).op
    exact ⟨V, w', ρ', by simp only [execOp, ho]; exact h1, h2⟩
  | mapUpdate t m k x =>
    rw [ho] at h hx
    obtain ⟨V, w', ρ', h1, h2⟩ := unitOp (P := P) (stMapUpdate_ok (P := P) hr hf h (hx m (by simp [Op.operands])) (hx k (by simp [Op.operands])) (hx x (by simp [Op.operands])))
    exact ⟨V, w', ρ', by simp only [execOp, ho]; exact h1, h2⟩
  | insert t m k x =>
    rw [ho] at h hx
    obtain ⟨V, w', ρ', h1, h2⟩ := unitOp (P := P) (stMapUpdate_ok (P := P) hr hf h (hx m (by simp [Op.operands])) (hx k (by simp [Op.operands])) (hx x (by simp [Op.operands])))
    exact ⟨V, w', ρ', by simp only [execOp, ho]; exact h1, h2⟩
  | extract x i =>
    rw [ho] at h hx
    obtain ⟨V, w', ρ', h1, h2⟩ := (stExtract_ok (P := P) hr hf h (hx x (by simp [Op.operands]))).op
    exact ⟨V, w', ρ', by simp only [execOp, ho]; exact h1, h2⟩
  | call c =>
    rw [ho] at h hx
    obtain ⟨V, w', ρ', h1, h2⟩ := stCall_ok (P := P) (ty := o.type) hr hf h (fun x hx' => hx x (by
      simp only [Op.operands, Call.operands, Array.toList_append, List.mem_append]; exact .inr hx'))
    exact ⟨V, w', ρ', by simp only [execOp, ho]; exact h1, h2⟩
  | _ => rw [ho] at h; simp [opStep] at h

end ops
end Go.Sx
