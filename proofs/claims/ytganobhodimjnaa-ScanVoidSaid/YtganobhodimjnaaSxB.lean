/-
  A part of the executor Sx over the model's code (any program): its words, or its proof; no seat's statement stands here.
-/
import Derived.Test.YtganobhodimjnaaSxA
namespace Go.Sx

/-! ## Tries -/
namespace T
variable {α : Type} {β : Type}

theorem get_nil (i : Nat) : (T.nil : T α).get i = none := rfl

theorem get_node (l r : T α) (v : Option α) (i : Nat) :
    (T.node l v r).get i = if i = 0 then v else if i % 2 = 1 then l.get (i / 2) else r.get (i / 2 - 1) := by
  show Bool.rec (motive := fun _ => Option α) (Bool.rec (motive := fun _ => Option α) (r.get (Nat.pred (Nat.div i 2))) (l.get (Nat.div i 2)) (Nat.beq (Nat.mod i 2) 1)) v (Nat.beq i 0) = _
  by_cases h : i = 0
  · subst h; rfl
  · have e : Nat.beq i 0 = false := by cases i <;> simp_all [Nat.beq]
    rw [e, if_neg h]
    by_cases h2 : i % 2 = 1
    · have e2 : Nat.beq (Nat.mod i 2) 1 = true := by show Nat.beq (i % 2) 1 = true; rw [h2]; rfl
      rw [e2, if_pos h2]; rfl
    · have e2 : Nat.beq (Nat.mod i 2) 1 = false := by
        show Nat.beq (i % 2) 1 = false
        have : i % 2 = 0 := by omega
        rw [this]; rfl
      rw [e2, if_neg h2]; rfl

theorem path_ok (x : Option α) (f : Nat) : ∀ (i : Nat) (k : T α → Option β) (r : β), path x f i k = some r →
    ∃ t, k t = some r ∧ ∀ j, t.get j = if j = i then x else none := by
  induction f with
  | zero => intro i k r h; simp [path] at h
  | succ f ih =>
    intro i k r h
    have h' : Bool.rec (motive := fun _ => Option β) (Bool.rec (motive := fun _ => Option β) (path x f (Nat.pred (Nat.div i 2)) fun r => k (.node .nil none r)) (path x f (Nat.div i 2) fun l => k (.node l none .nil)) (Nat.beq (Nat.mod i 2) 1))
      (k (.node .nil x .nil)) (Nat.beq i 0) = some r := h
    by_cases h0 : i = 0
    · subst h0
      refine ⟨_, h', fun j => ?_⟩
      rw [get_node]; split <;> simp [*, get_nil]
    · have e : Nat.beq i 0 = false := by cases i <;> simp_all [Nat.beq]
      rw [e] at h'
      by_cases h2 : i % 2 = 1
      · have e2 : Nat.beq (Nat.mod i 2) 1 = true := by show Nat.beq (i % 2) 1 = true; rw [h2]; rfl
        rw [e2] at h'
        obtain ⟨t, hk, hg⟩ := ih _ _ _ h'
        refine ⟨_, hk, fun j => ?_⟩
        rw [get_node, hg, get_nil]
        have : (Nat.div i 2) = i / 2 := rfl
        rw [this]
        by_cases hj : j = i
        · subst hj; simp [h0, h2]
        · rw [if_neg hj]
          split
          · rfl
          · split
            · rw [if_neg (by omega)]
            · rfl
      · have e2 : Nat.beq (Nat.mod i 2) 1 = false := by
          show Nat.beq (i % 2) 1 = false
          have : i % 2 = 0 := by omega
          rw [this]; rfl
        rw [e2] at h'
        obtain ⟨t, hk, hg⟩ := ih _ _ _ h'
        refine ⟨_, hk, fun j => ?_⟩
        rw [get_node, hg, get_nil]
        have : (Nat.pred (Nat.div i 2)) = i / 2 - 1 := rfl
        rw [this]
        by_cases hj : j = i
        · subst hj; simp [h0, h2]
        · rw [if_neg hj]
          split
          · rfl
          · split
            · rfl
            · rw [if_neg (by omega)]

theorem set_ok (d : Nat) (t : T α) : ∀ (i : Nat) (x : Option α) (k : T α → Option β) (r : β), set d t i x k = some r →
    ∃ t', k t' = some r ∧ ∀ j, t'.get j = if j = i then x else t.get j := by
  induction t with
  | nil =>
    intro i x k r h
    obtain ⟨t, hk, hg⟩ := path_ok x d i k r h
    exact ⟨t, hk, fun j => by rw [hg, get_nil]⟩
  | node l v rr ihl ihr =>
    intro i x k r h
    have h' : Bool.rec (motive := fun _ => Option β) (Bool.rec (motive := fun _ => Option β) (set d rr (Nat.pred (Nat.div i 2)) x fun r' => k (.node l v r')) (set d l (Nat.div i 2) x fun l' => k (.node l' v rr)) (Nat.beq (Nat.mod i 2) 1))
      (k (.node l x rr)) (Nat.beq i 0) = some r := h
    by_cases h0 : i = 0
    · subst h0
      refine ⟨_, h', fun j => ?_⟩
      rw [get_node, get_node]; split <;> simp [*]
    · have e : Nat.beq i 0 = false := by cases i <;> simp_all [Nat.beq]
      rw [e] at h'
      by_cases h2 : i % 2 = 1
      · have e2 : Nat.beq (Nat.mod i 2) 1 = true := by show Nat.beq (i % 2) 1 = true; rw [h2]; rfl
        rw [e2] at h'
        obtain ⟨t, hk, hg⟩ := ihl _ _ _ _ h'
        refine ⟨_, hk, fun j => ?_⟩
        rw [get_node, get_node, hg]
        have : (Nat.div i 2) = i / 2 := rfl
        rw [this]
        by_cases hj : j = i
        · subst hj; simp [h0, h2]
        · rw [if_neg hj]
          split
          · rfl
          · split
            · rw [if_neg (by omega)]
            · rfl
      · have e2 : Nat.beq (Nat.mod i 2) 1 = false := by
          show Nat.beq (i % 2) 1 = false
          have : i % 2 = 0 := by omega
          rw [this]; rfl
        rw [e2] at h'
        obtain ⟨t, hk, hg⟩ := ihr _ _ _ _ h'
        refine ⟨_, hk, fun j => ?_⟩
        rw [get_node, get_node, hg]
        have : (Nat.pred (Nat.div i 2)) = i / 2 - 1 := rfl
        rw [this]
        by_cases hj : j = i
        · subst hj; simp [h0, h2]
        · rw [if_neg hj]
          split
          · rfl
          · split
            · rfl
            · rw [if_neg (by omega)]
end T

/-! ## Forcing is nothing -/
section force
variable {β : Type}
theorem fNat_eq (n : Nat) (k : Nat → β) : fNat n k = k n := by cases n <;> rfl
theorem fInt_eq (n : Int) (k : Int → β) : fInt n k = k n := by cases n <;> simp [fInt, fNat_eq]
theorem fBool_eq (b : Bool) (k : Bool → β) : fBool b k = k b := by cases b <;> rfl
theorem fInts_eq (l : List Int) : ∀ k : List Int → β, fInts l k = k l := by
  induction l with
  | nil => intro k; rfl
  | cons x l ih => intro k; simp [fInts, fInt_eq, ih]
theorem fCell_eq (c : Cell) (k : Cell → β) : fCell c k = k c := by cases c <;> simp [fCell, fInt_eq, fNat_eq, fBool_eq]
theorem fCells_eq (l : List Cell) : ∀ k : List Cell → β, fCells l k = k l := by
  induction l with
  | nil => intro k; rfl
  | cons x l ih => intro k; simp [fCells, fCell_eq, ih]
theorem fAV_eq (v : AV) (k : AV → β) : fAV v k = k v := by cases v <;> simp [fAV, fCell_eq, fCells_eq, fInts_eq, fNat_eq]
theorem fAVs_eq (l : List AV) : ∀ k : List AV → β, fAVs l k = k l := by
  induction l with
  | nil => intro k; rfl
  | cons x l ih => intro k; simp [fAVs, fAV_eq, ih]
theorem fRV_eq (v : RV) (k : RV → β) : fRV v k = k v := by cases v <;> simp [fRV, fAV_eq, fAVs_eq]
theorem fEs_eq (l : List (Cell × AV)) : ∀ k : List (Cell × AV) → β, fEs l k = k l := by
  induction l with
  | nil => intro k; rfl
  | cons x l ih => intro k; cases x; simp [fEs, fAV_eq, fCell_eq, ih]
theorem fBlk_eq (b : Blk) (k : Blk → β) : fBlk b k = k b := by
  cases b with
  | row t ro o b => cases b <;> simp [fBlk, fCells_eq, fInts_eq, fNat_eq]
  | map es => simp [fBlk, fEs_eq]
theorem sRV_eq (z : Bool) (v : RV) (k : RV → β) : sRV z v k = k v := by cases z <;> simp [sRV, fRV_eq]
theorem sBlk_eq (z : Bool) (v : Blk) (k : Blk → β) : sBlk z v k = k v := by cases z <;> simp [sBlk, fBlk_eq]
end force

/-! ## What names and values stand for -/
abbrev Rho := Nat → Option (Nat × Nat)

def CapsR (ρ : Rho) : List (Nat × Nat) → List Value → Prop
  | [], vs => vs = []
  | (nm, off) :: l, vs => ∃ b c vs', ρ nm = some (b, c) ∧ CapsR ρ l vs' ∧ vs = .pointer (some ⟨b, off, none⟩) :: vs'

def CR (ρ : Rho) : Cell → Value → Prop
  | .int k n, v => v = .int k n
  | .bool b, v => v = .bool b
  | .str s, v => v = .string s
  | .ptr0, v => v = .pointer none
  | .ptr nm off, v => ∃ b c, ρ nm = some (b, c) ∧ v = .pointer (some ⟨b, off, none⟩)
  | .sl0, v => v = .slice none 0 0
  | .sl nm off len cap, v => ∃ b c, ρ nm = some (b, c) ∧ v = .slice (some ⟨b, off, none⟩) len cap
  | .slu nm sz at_ len, v => ∃ b c, ρ nm = some (b, c) ∧ at_ + len ≤ c ∧ v = .slice (some ⟨b, at_ * sz, none⟩) len (c - at_)
  | .map0, v => v = .map none
  | .map nm, v => ∃ b c, ρ nm = some (b, c) ∧ v = .map (some b)
  | .fn0, v => v = .nilFunc
  | .fn f caps, v => ∃ vs, CapsR ρ caps vs ∧ v = .func (.func f) #[] vs.toArray

def CsR (ρ : Rho) : List Cell → List Value → Prop
  | [], vs => vs = []
  | c :: l, vs => ∃ v vs', CR ρ c v ∧ CsR ρ l vs' ∧ vs = v :: vs'

def AVR (ρ : Rho) : AV → Value → Prop
  | .c x, v => CR ρ x v
  | .agg l, v => ∃ vs, CsR ρ l vs ∧ v = .agg vs.toArray
  | .ints k l n, v => l.length = n ∧ v = .agg (l.map (Value.int k)).toArray

def AVsR (ρ : Rho) : List AV → List Value → Prop
  | [], vs => vs = []
  | c :: l, vs => ∃ v vs', AVR ρ c v ∧ AVsR ρ l vs' ∧ vs = v :: vs'

def RVR (ρ : Rho) : RV → Value → Prop
  | .one v, V => AVR ρ v V
  | .tup l, V => ∃ vs, AVsR ρ l vs ∧ V = .tuple vs.toArray

def BodyR (ρ : Rho) : Body → List Value → Prop
  | .cells l, vs => CsR ρ l vs
  | .ints k l n, vs => l.length = n ∧ vs = l.map (Value.int k)

def EsR (ρ : Rho) : List (Cell × AV) → List MapEntry → Prop
  | [], es => es = []
  | (c, v) :: l, es => ∃ e es', CR ρ c e.key ∧ AVR ρ v e.val ∧ EsR ρ l es' ∧ es = e :: es'

def OpnR (opn : Option Nat) (c n : Nat) (tail : List Value) : Prop :=
  match opn with
  | none => tail = []
  | some sz => n = c * sz

def BlkR (ρ : Rho) (c : Nat) : Blk → Obj → Prop
  | .row t ro opn b, o => ∃ vs tail fr, o = .cells (vs ++ tail).toArray t fr ∧ BodyR ρ b vs ∧ (ro = false → fr = (0, 0)) ∧ OpnR opn c (vs ++ tail).length tail
  | .map es, o => ∃ ents clock, o = .map ents clock ∧ EsR ρ es ents.toList

def Blk.wr : Blk → Bool
  | .row _ ro _ _ => !ro
  | .map _ => true

structure HRel (ρ : Rho) (hp : Hp) (w : World) : Prop where
  ok : ∀ nm x, hp nm = some x → ∃ b c o, ρ nm = some (b, c) ∧ w.heap[b]? = some o ∧ BlkR ρ c x o
  inj : ∀ nm nm' x y b c c', hp nm = some x → hp nm' = some y → x.wr = true → ρ nm = some (b, c) → ρ nm' = some (b, c') → nm = nm'

/-! ### more names -/
def Sub (ρ ρ' : Rho) : Prop := ∀ nm b, ρ nm = some b → ρ' nm = some b

theorem Sub.refl (ρ : Rho) : Sub ρ ρ := fun _ _ h => h
theorem Sub.trans {a b c : Rho} (h : Sub a b) (g : Sub b c) : Sub a c := fun _ _ x => g _ _ (h _ _ x)

section mono
variable {ρ ρ' : Rho} (h : Sub ρ ρ')
include h
theorem CapsR.mono : ∀ {l : List (Nat × Nat)} {vs : List Value}, CapsR ρ l vs → CapsR ρ' l vs
  | [], _, hr => hr
  | (_, _) :: _, _, ⟨b, c, vs', h1, h2, h3⟩ => ⟨b, c, vs', h _ _ h1, CapsR.mono h2, h3⟩
theorem CR.mono {c : Cell} {v : Value} (hr : CR ρ c v) : CR ρ' c v := by
  cases c <;> simp only [CR] at hr ⊢ <;> try exact hr
  · obtain ⟨b, c, h1, h2⟩ := hr; exact ⟨b, c, h _ _ h1, h2⟩
  · obtain ⟨b, c, h1, h2⟩ := hr; exact ⟨b, c, h _ _ h1, h2⟩
  · obtain ⟨b, c, h1, h2, h3⟩ := hr; exact ⟨b, c, h _ _ h1, h2, h3⟩
  · obtain ⟨b, c, h1, h2⟩ := hr; exact ⟨b, c, h _ _ h1, h2⟩
  · obtain ⟨vs, h1, h2⟩ := hr; exact ⟨vs, h1.mono h, h2⟩
theorem CsR.mono : ∀ {l : List Cell} {vs : List Value}, CsR ρ l vs → CsR ρ' l vs
  | [], _, hr => hr
  | _ :: _, _, ⟨v, vs', h1, h2, h3⟩ => ⟨v, vs', h1.mono h, CsR.mono h2, h3⟩
theorem AVR.mono {c : AV} {v : Value} (hr : AVR ρ c v) : AVR ρ' c v := by
  cases c with
  | c x => exact CR.mono h hr
  | agg l => obtain ⟨vs, h1, h2⟩ := hr; exact ⟨vs, h1.mono h, h2⟩
  | ints k l n => exact hr
theorem AVsR.mono : ∀ {l : List AV} {vs : List Value}, AVsR ρ l vs → AVsR ρ' l vs
  | [], _, hr => hr
  | _ :: _, _, ⟨v, vs', h1, h2, h3⟩ => ⟨v, vs', h1.mono h, AVsR.mono h2, h3⟩
theorem RVR.mono {c : RV} {v : Value} (hr : RVR ρ c v) : RVR ρ' c v := by
  cases c with
  | one x => exact AVR.mono h hr
  | tup l => obtain ⟨vs, h1, h2⟩ := hr; exact ⟨vs, h1.mono h, h2⟩
theorem BodyR.mono {c : Body} {v : List Value} (hr : BodyR ρ c v) : BodyR ρ' c v := by
  cases c with
  | cells l => exact CsR.mono h hr
  | ints k l n => exact hr
theorem EsR.mono : ∀ {l : List (Cell × AV)} {es : List MapEntry}, EsR ρ l es → EsR ρ' l es
  | [], _, hr => hr
  | (_, _) :: _, _, ⟨e, es', h0, h1, h2, h3⟩ => ⟨e, es', h0.mono h, h1.mono h, EsR.mono h2, h3⟩
theorem BlkR.mono {c : Nat} {x : Blk} {o : Obj} (hr : BlkR ρ c x o) : BlkR ρ' c x o := by
  cases x with
  | row t ro opn b => obtain ⟨vs, tail, fr, h1, h2, h3⟩ := hr; exact ⟨vs, tail, fr, h1, h2.mono h, h3⟩
  | map es => obtain ⟨ents, cl, h1, h2⟩ := hr; exact ⟨ents, cl, h1, h2.mono h⟩
end mono

/-! ### steps -/
structure Stp (ρ : Rho) (hp : Hp) (nx : Nat) (w : World) (ρ' : Rho) (hp' : Hp) (nx' : Nat) (w' : World) (L : List Nat) : Prop where
  le : nx ≤ nx'
  rho : ∀ nm, nm < nx → ρ' nm = ρ nm
  keep : ∀ nm, nm < nx → nm ∉ L → hp' nm = hp nm
  size : w.heap.size ≤ w'.heap.size
  frame : ∀ b, b < w.heap.size → (∀ nm c, nm ∈ L → nm < nx → ρ nm ≠ some (b, c)) → w'.heap[b]? = w.heap[b]?
  new : ∀ nm b c, nx ≤ nm → ρ' nm = some (b, c) → w.heap.size ≤ b ∨ ∃ nm0 c0, nm0 ∈ L ∧ nm0 < nx ∧ ρ nm0 = some (b, c0)
  own : ∀ nm, nm ∈ L → nm < nx → ∃ x, hp nm = some x ∧ x.wr = true
  os : w'.os = w.os
  tape : w'.tape = w.tape
  out : w'.output = w.output

def Fresh (ρ : Rho) (nx : Nat) : Prop := ∀ nm, nx ≤ nm → ρ nm = none

theorem Stp.sub {ρ ρ' : Rho} {hp hp' : Hp} {nx nx' : Nat} {w w' : World} {L : List Nat} (h : Stp ρ hp nx w ρ' hp' nx' w' L) (hf : Fresh ρ nx) : Sub ρ ρ' := by
  intro nm b hb
  by_cases hlt : nm < nx
  · rw [h.rho nm hlt]; exact hb
  · rw [hf nm (by omega)] at hb; cases hb

theorem Stp.refl {ρ : Rho} {hp : Hp} {nx : Nat} {w : World} (hf : Fresh ρ nx) : Stp ρ hp nx w ρ hp nx w [] where
  le := Nat.le_refl _
  rho := fun _ _ => rfl
  keep := fun _ _ _ => rfl
  size := Nat.le_refl _
  frame := fun _ _ _ => rfl
  new := fun nm b c h e => by rw [hf nm h] at e; cases e
  own := fun _ h => by cases h
  os := rfl
  tape := rfl
  out := rfl

/-- only draws -/
theorem Stp.draw {ρ : Rho} {hp : Hp} {nx : Nat} {w w' : World} (hf : Fresh ρ nx) (h : w'.heap = w.heap) (h1 : w'.os = w.os) (h2 : w'.tape = w.tape) (h3 : w'.output = w.output) :
    Stp ρ hp nx w ρ hp nx w' [] where
  le := Nat.le_refl _
  rho := fun _ _ => rfl
  keep := fun _ _ _ => rfl
  size := by rw [h]; exact Nat.le_refl _
  frame := fun _ _ _ => by rw [h]
  new := fun nm b c h e => by rw [hf nm h] at e; cases e
  own := fun _ h => by cases h
  os := h1
  tape := h2
  out := h3

theorem Stp.trans {ρ1 ρ2 ρ3 : Rho} {h1 h2 h3 : Hp} {n1 n2 n3 : Nat} {w1 w2 w3 : World} {L1 L2 : List Nat}
    (a : Stp ρ1 h1 n1 w1 ρ2 h2 n2 w2 L1) (b : Stp ρ2 h2 n2 w2 ρ3 h3 n3 w3 L2) : Stp ρ1 h1 n1 w1 ρ3 h3 n3 w3 (L2 ++ L1) where
  le := Nat.le_trans a.le b.le
  rho := fun nm h => by rw [b.rho nm (Nat.lt_of_lt_of_le h a.le), a.rho nm h]
  keep := fun nm h hn => by
    rw [List.mem_append, not_or] at hn
    rw [b.keep nm (Nat.lt_of_lt_of_le h a.le) hn.1, a.keep nm h hn.2]
  size := Nat.le_trans a.size b.size
  frame := fun bl hb hL => by
    have e1 := a.frame bl hb fun nm c hm hlt => hL nm c (List.mem_append.2 (.inr hm)) hlt
    have e2 := b.frame bl (Nat.lt_of_lt_of_le hb a.size) fun nm c hm hlt he => by
      by_cases h : nm < n1
      · rw [a.rho nm h] at he; exact hL nm c (List.mem_append.2 (.inl hm)) h he
      · rcases a.new nm bl c (by omega) he with h' | ⟨nm0, c0, hm0, hlt0, he0⟩
        · omega
        · exact hL nm0 c0 (List.mem_append.2 (.inr hm0)) hlt0 he0
    rw [e2, e1]
  new := fun nm bl c hle he => by
    by_cases h : nm < n2
    · rw [b.rho nm h] at he
      rcases a.new nm bl c hle he with h' | ⟨nm0, c0, hm0, hlt0, he0⟩
      · exact .inl h'
      · exact .inr ⟨nm0, c0, List.mem_append.2 (.inr hm0), hlt0, he0⟩
    · rcases b.new nm bl c (by omega) he with h' | ⟨nm0, c0, hm0, hlt0, he0⟩
      · exact .inl (Nat.le_trans a.size h')
      · by_cases h0 : nm0 < n1
        · rw [a.rho nm0 h0] at he0; exact .inr ⟨nm0, c0, List.mem_append.2 (.inl hm0), h0, he0⟩
        · rcases a.new nm0 bl c0 (by omega) he0 with h' | ⟨nm1, c1, hm1, hlt1, he1⟩
          · exact .inl h'
          · exact .inr ⟨nm1, c1, List.mem_append.2 (.inr hm1), hlt1, he1⟩
  own := fun nm hm hlt => by
    by_cases h1 : nm ∈ L1
    · exact a.own nm h1 hlt
    · rcases List.mem_append.1 hm with hm | hm
      · obtain ⟨x, h2, h3⟩ := b.own nm hm (Nat.lt_of_lt_of_le hlt a.le)
        rw [a.keep nm hlt h1] at h2
        exact ⟨x, h2, h3⟩
      · exact absurd hm h1
  os := by rw [b.os, a.os]
  tape := by rw [b.tape, a.tape]
  out := by rw [b.out, a.out]

end Go.Sx
