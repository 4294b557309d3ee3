/-
  Parts of the executor Sx over the model's code (any program), or of this seat's walks: words and proofs that the row's text uses.
-/
import Derived.Test.YtfceckiklfkjkaaGreatSxA
import Derived.Laws.StructEq
import Derived.ChangeKeysEq
namespace Go.Sx

/-! ## Tries -/
namespace T
variable {α : Type} {β : Type}

theorem get_nil (i : Nat) : (T.nil : T α).get i = none := rfl

theorem get_node (l r : T α) (v : Option α) (i : Nat) :
    (T.node l v r).get i = if i = 0 then v else if i % 2 = 1 then l.get (i / 2) else r.get (i / 2 - 1) := by
  show Bool.rec (motive := fun _ => Option α) (Bool.rec (motive := fun _ => Option α) (r.get (Nat.pred (Nat.div i 2))) (l.get (Nat.div i 2)) (Nat.beq (Nat.mod i 2) 1)) v (Nat.beq i 0) = _
  by_cases h : i = 0
  · subst h; rfl
  · have e : Nat.beq i 0 = false := by cases i <;> simp_all [Nat.beq]
    rw [e, if_neg h]
    by_cases h2 : i % 2 = 1
    · have e2 : Nat.beq (Nat.mod i 2) 1 = true := by show Nat.beq (i % 2) 1 = true; rw [h2]; rfl
      rw [e2, if_pos h2]; rfl
    · have e2 : Nat.beq (Nat.mod i 2) 1 = false := by
        show Nat.beq (i % 2) 1 = false
        have : i % 2 = 0 := by omega
        rw [this]; rfl
      rw [e2, if_neg h2]; rfl

theorem path_ok (x : Option α) (f : Nat) : ∀ (i : Nat) (k : T α → Option β) (r : β), path x f i k = some r →
    ∃ t, k t = some r ∧ ∀ j, t.get j = if j = i then x else none := by
  induction f with
  | zero => intro i k r h; simp [path] at h
  | succ f ih =>
    intro i k r h
    have h' : Bool.rec (motive := fun _ => Option β) (Bool.rec (motive := fun _ => Option β) (path x f (Nat.pred (Nat.div i 2)) fun r => k (.node .nil none r)) (path x f (Nat.div i 2) fun l => k (.node l none .nil)) (Nat.beq (Nat.mod i 2) 1))
      (k (.node .nil x .nil)) (Nat.beq i 0) = some r := h
    by_cases h0 : i = 0
    · subst h0
      refine ⟨_, h', fun j => ?_⟩
      rw [get_node]; split <;> simp [*, get_nil]
    · have e : Nat.beq i 0 = false := by cases i <;> simp_all [Nat.beq]
      rw [e] at h'
      by_cases h2 : i % 2 = 1
      · have e2 : Nat.beq (Nat.mod i 2) 1 = true := by show Nat.beq (i % 2) 1 = true; rw [h2]; rfl
        rw [e2] at h'
        obtain ⟨t, hk, hg⟩ := ih _ _ _ h'
        refine ⟨_, hk, fun j => ?_⟩
        rw [get_node, hg, get_nil]
        have : (Nat.div i 2) = i / 2 := rfl
        rw [this]
        by_cases hj : j = i
        · subst hj; simp [h0, h2]
        · rw [if_neg hj]
          split
          · rfl
          · split
            · rw [if_neg (by omega)]
            · rfl
      · have e2 : Nat.beq (Nat.mod i 2) 1 = false := by
          show Nat.beq (i % 2) 1 = false
          have : i % 2 = 0 := by omega
          rw [this]; rfl
        rw [e2] at h'
        obtain ⟨t, hk, hg⟩ := ih _ _ _ h'
        refine ⟨_, hk, fun j => ?_⟩
        rw [get_node, hg, get_nil]
        have : (Nat.pred (Nat.div i 2)) = i / 2 - 1 := rfl
        rw [this]
        by_cases hj : j = i
        · subst hj; simp [h0, h2]
        · rw [if_neg hj]
          split
          · rfl
          · split
            · rfl
            · rw [if_neg (by omega)]

theorem set_ok (d : Nat) (t : T α) : ∀ (i : Nat) (x : Option α) (k : T α → Option β) (r : β), set d t i x k = some r →
    ∃ t', k t' = some r ∧ ∀ j, t'.get j = if j = i then x else t.get j := by
  induction t with
  | nil =>
    intro i x k r h
    obtain ⟨t, hk, hg⟩ := path_ok x d i k r h
    exact ⟨t, hk, fun j => by rw [hg, get_nil]⟩
  | node l v rr ihl ihr =>
    intro i x k r h
    have h' : Bool.rec (motive := fun _ => Option β) (Bool.rec (motive := fun _ => Option β) (set d rr (Nat.pred (Nat.div i 2)) x fun r' => k (.node l v r')) (set d l (Nat.div i 2) x fun l' => k (.node l' v rr)) (Nat.beq (Nat.mod i 2) 1))
      (k (.node l x rr)) (Nat.beq i 0) = some r := h
    by_cases h0 : i = 0
    · subst h0
      refine ⟨_, h', fun j => ?_⟩
      rw [get_node, get_node]; split <;> simp [*]
    · have e : Nat.beq i 0 = false := by cases i <;> simp_all [Nat.beq]
      rw [e] at h'
      by_cases h2 : i % 2 = 1
      · have e2 : Nat.beq (Nat.mod i 2) 1 = true := by show Nat.beq (i % 2) 1 = true; rw [h2]; rfl
        rw [e2] at h'
        obtain ⟨t, hk, hg⟩ := ihl _ _ _ _ h'
        refine ⟨_, hk, fun j => ?_⟩
        rw [get_node, get_node, hg]
        have : (Nat.div i 2) = i / 2 := rfl
        rw [this]
        by_cases hj : j = i
        · subst hj; simp [h0, h2]
        · rw [if_neg hj]
          split
          · rfl
          · split
            · rw [if_neg (by omega)]
            · rfl
      · have e2 : Nat.beq (Nat.mod i 2) 1 = false := by
          show Nat.beq (i % 2) 1 = false
          have : i % 2 = 0 := by omega
          rw [this]; rfl
        rw [e2] at h'
        obtain ⟨t, hk, hg⟩ := ihr _ _ _ _ h'
        refine ⟨_, hk, fun j => ?_⟩
        rw [get_node, get_node, hg]
        have : (Nat.pred (Nat.div i 2)) = i / 2 - 1 := rfl
        rw [this]
        by_cases hj : j = i
        · subst hj; simp [h0, h2]
        · rw [if_neg hj]
          split
          · rfl
          · split
            · rfl
            · rw [if_neg (by omega)]
end T

/-! ## Forcing is nothing -/
section force
variable {β : Type}
theorem fNat_eq (n : Nat) (k : Nat → β) : fNat n k = k n := by cases n <;> rfl
theorem fInt_eq (n : Int) (k : Int → β) : fInt n k = k n := by cases n <;> simp [fInt, fNat_eq]
theorem fBool_eq (b : Bool) (k : Bool → β) : fBool b k = k b := by cases b <;> rfl
theorem fInts_eq (l : List Int) : ∀ k : List Int → β, fInts l k = k l := by
  induction l with
  | nil => intro k; rfl
  | cons x l ih => intro k; simp [fInts, fInt_eq, ih]
theorem fNats_eq (l : List Nat) : ∀ k : List Nat → β, fNats l k = k l := by
  induction l with
  | nil => intro k; rfl
  | cons x l ih => intro k; simp [fNats, fNat_eq, ih]
theorem fBools_eq (l : List Bool) : ∀ k : List Bool → β, fBools l k = k l := by
  induction l with
  | nil => intro k; rfl
  | cons x l ih => intro k; simp [fBools, fBool_eq, ih]
theorem mkS_eq (s : ByteArray) : mkS (s.data.toList.map UInt8.toNat) = s := by
  obtain ⟨⟨l⟩⟩ := s
  unfold mkS
  congr 2
  rw [List.map_map]
  conv => rhs; rw [← List.map_id l]
  refine List.map_congr_left fun x _ => ?_
  simp
theorem fStr_eq (s : ByteArray) (k : ByteArray → β) : fStr s k = k s := by
  unfold fStr
  rw [fNats_eq, mkS_eq]
theorem fCell_eq (c : Cell) (k : Cell → β) : fCell c k = k c := by cases c <;> simp [fCell, fInt_eq, fNat_eq, fBool_eq, fStr_eq]
theorem fCells_eq (l : List Cell) : ∀ k : List Cell → β, fCells l k = k l := by
  induction l with
  | nil => intro k; rfl
  | cons x l ih => intro k; simp [fCells, fCell_eq, ih]
theorem fAV_eq (v : AV) (k : AV → β) : fAV v k = k v := by cases v <;> simp [fAV, fCell_eq, fCells_eq, fInts_eq, fNat_eq]
theorem fAVs_eq (l : List AV) : ∀ k : List AV → β, fAVs l k = k l := by
  induction l with
  | nil => intro k; rfl
  | cons x l ih => intro k; simp [fAVs, fAV_eq, ih]
theorem fRV_eq (v : RV) (k : RV → β) : fRV v k = k v := by cases v <;> simp [fRV, fAV_eq, fAVs_eq]
theorem fEs_eq (l : List (Cell × AV)) : ∀ k : List (Cell × AV) → β, fEs l k = k l := by
  induction l with
  | nil => intro k; rfl
  | cons x l ih => intro k; cases x; simp [fEs, fAV_eq, fCell_eq, ih]
theorem fBlk_eq (b : Blk) (k : Blk → β) : fBlk b k = k b := by
  cases b with
  | row t ro o b => cases b <;> simp [fBlk, fCells_eq, fInts_eq, fBools_eq, fNat_eq]
  | map es => simp [fBlk, fEs_eq]
  | win => rfl
  | mapI => rfl
  | mapR es => simp [fBlk, fEs_eq]
  | loop => rfl
  | iter => simp [fBlk, fNat_eq]
  | mapP es => simp [fBlk, fEs_eq]
  | recs => rfl
  | mapV => rfl
  | mapS => rfl
theorem sRV_eq (z : Bool) (v : RV) (k : RV → β) : sRV z v k = k v := by cases z <;> simp [sRV, fRV_eq]
theorem sBlk_eq (z : Bool) (v : Blk) (k : Blk → β) : sBlk z v k = k v := by cases z <;> simp [sBlk, fBlk_eq]
end force

/-! ## What names and values stand for -/
/-- what names stand for, and which blocks are frozen, with what -/
structure Rho where
  nm : Nat → Option (Nat × Nat)
  fz : Nat → Option (List Value)
instance : CoeFun Rho (fun _ => Nat → Option (Nat × Nat)) := ⟨Rho.nm⟩
/-- nothing -/
def rhoN : Rho := ⟨fun _ => none, fun _ => none⟩

def CapsR (ρ : Rho) : List (Nat × Nat) → List Value → Prop
  | [], vs => vs = []
  | (nm, off) :: l, vs => ∃ b c vs', ρ nm = some (b, c) ∧ CapsR ρ l vs' ∧ vs = .pointer (some ⟨b, off, none⟩) :: vs'

def CR (ρ : Rho) : Cell → Value → Prop
  | .int k n, v => v = .int k n
  | .bool b, v => v = .bool b
  | .str s, v => v = .string s
  | .ptr0, v => v = .pointer none
  | .ptr nm off, v => ∃ b c, ρ nm = some (b, c) ∧ v = .pointer (some ⟨b, off, none⟩)
  | .sl0, v => v = .slice none 0 0
  | .sl nm off len cap, v => ∃ b c, ρ nm = some (b, c) ∧ v = .slice (some ⟨b, off, none⟩) len cap
  | .slu nm sz at_ len, v => ∃ b c off, ρ nm = some (b, c) ∧ at_ + len ≤ c ∧ (off = at_ * sz ∨ (at_ = c ∧ 0 < at_)) ∧ v = .slice (some ⟨b, off, none⟩) len (c - at_)
  | .map0, v => v = .map none
  | .map nm, v => ∃ b c, ρ nm = some (b, c) ∧ v = .map (some b)
  | .fn0, v => v = .nilFunc
  | .fn f fs caps, v => ∃ us vs, CapsR ρ fs us ∧ CapsR ρ caps vs ∧ v = .func (.func f) us.toArray vs.toArray
  | .any, v => v.oneCell' = true
  | .yield nm, v => ∃ b c, ρ nm = some (b, c) ∧ v = .func (.yield b) #[] #[]
  | .vsl l, v => (l = [] ∧ v = .slice none 0 0) ∨ (l ≠ [] ∧ ∃ b c, ρ.fz b = some (l.map (Value.int .i64)) ∧ v = .slice (some ⟨b, 0, none⟩) l.length c)
  | .vptr l i, v => ∃ b, ρ.fz b = some (l.map (Value.int .i64)) ∧ v = .pointer (some ⟨b, i, none⟩)

def CsR (ρ : Rho) : List Cell → List Value → Prop
  | [], vs => vs = []
  | c :: l, vs => ∃ v vs', CR ρ c v ∧ CsR ρ l vs' ∧ vs = v :: vs'

def AVR (ρ : Rho) : AV → Value → Prop
  | .c x, v => CR ρ x v
  | .agg l, v => ∃ vs, CsR ρ l vs ∧ v = .agg vs.toArray
  | .ints k l n, v => l.length = n ∧ v = .agg (l.map (Value.int k)).toArray

def AVsR (ρ : Rho) : List AV → List Value → Prop
  | [], vs => vs = []
  | c :: l, vs => ∃ v vs', AVR ρ c v ∧ AVsR ρ l vs' ∧ vs = v :: vs'

def RVR (ρ : Rho) : RV → Value → Prop
  | .one v, V => AVR ρ v V
  | .tup l, V => ∃ vs, AVsR ρ l vs ∧ V = .tuple vs.toArray
  | .any, _ => True

def BodyR (ρ : Rho) : Body → List Value → Prop
  | .cells l, vs => CsR ρ l vs
  | .ints k l n, vs => l.length = n ∧ vs = l.map (Value.int k)
  | .bools l n, vs => l.length = n ∧ vs = l.map Value.bool

def EsR (ρ : Rho) : List (Cell × AV) → List MapEntry → Prop
  | [], es => es = []
  | (c, v) :: l, es => ∃ e es', CR ρ c e.key ∧ AVR ρ v e.val ∧ EsR ρ l es' ∧ es = e :: es'

def OpnR (opn : Option Nat) (c n : Nat) (tail : List Value) : Prop :=
  match opn with
  | none => tail = []
  | some sz => n = c * sz ∧ c ≤ 9223372036854775807

def LStR : LSt → LoopState → Option Code → Prop
  | .ready, st, pd => st = .ready ∧ pd = none
  | .busy, st, _ => st = .busy
  | .done none, st, pd => st = .done ∧ pd = some .ret
  | .done (some id), st, pd => st = .done ∧ pd = some (.exit id)

def ArgsR (ρ : Rho) : List RV → List Value → Prop
  | [], vs => vs = []
  | v :: l, vs => ∃ V vs', RVR ρ v V ∧ ArgsR ρ l vs' ∧ vs = V :: vs'

/-- numbers of kinds, over and over -/
def cyc (ks : List IntKind) (l : List Int) : List Value := l.zipIdx.map fun p => Value.int (ks.getD (p.2 % ks.length) .i64) p.1
def BlkR (ρ : Rho) (c : Nat) : Blk → Obj → Prop
  | .row t ro opn b, o => ∃ vs tail fr, o = .cells (vs ++ tail).toArray t fr ∧ BodyR ρ b vs ∧ (ro = false → fr = (0, 0)) ∧ OpnR opn c (vs ++ tail).length tail
  | .map es, o => ∃ ents clock, o = .map ents clock ∧ EsR ρ es ents.toList ∧ MapKept.Stamped ents clock
  | .mapI vk l, o => ∃ ents clock, o = .map ents clock ∧ EsR ρ (toEs vk l) ents.toList ∧ MapKept.Stamped ents clock
  | .mapR es, o => ∃ ents clock, o = .map ents clock ∧ EsR ρ es ents.toList ∧ MapKept.Stamped ents clock
  | .loop st sl ps as bd, o => ∃ r : Loop, o = .loop r ∧ ArgsR ρ sl r.tmps.toList ∧ r.params.toList = ps ∧ r.assign = as ∧ r.body = bd ∧ LStR st r.state r.pending
  | .iter s pos, o => o = .stringIter s pos
  | .mapP es, o => ∃ ents clock es', o = .map ents clock ∧ EsR ρ es es' ∧ es'.Perm ents.toList ∧ MapKept.Stamped ents clock
  | .recs off ks l, o => ∃ cs t fr, o = .cells cs t fr ∧ off + l.length ≤ cs.size ∧ (cs.toList.drop off).take l.length = cyc ks l
  | .mapV l, o => ∃ ents clock, o = .map ents clock ∧ EsR ρ (toVs l) ents.toList ∧ MapKept.Stamped ents clock
  | .mapS l, o => ∃ ents clock, o = .map ents clock ∧ EsR ρ (toSs l) ents.toList ∧ MapKept.Stamped ents clock
  | .win off k l, o => ∃ cs t fr, o = .cells cs t fr ∧ off + l.length ≤ cs.size ∧ (cs.toList.drop off).take l.length = l.map (Value.int k)

def Blk.wr : Blk → Bool
  | .row _ ro _ _ => !ro
  | .map _ => true
  | .win .. => false
  | .recs .. => false
  | .mapI .. => true
  | .mapR _ => false
  | .loop .. => true
  | .iter .. => true
  | .mapP _ => false
  | .mapV _ => true
  | .mapS _ => true

/-- frozen blocks are as they were frozen, and no block that is turned is one -/
def FzC (w : World) (b : Nat) (l : List Value) : Prop := ∃ cs t fr, w.heap[b]? = some (.cells cs t fr) ∧ cs.toList.take l.length = l
def FzOK (ρ : Rho) (hp : Hp) (w : World) : Prop := ∀ b l, ρ.fz b = some l → FzC w b l ∧ ∀ nm x c, hp nm = some x → x.wr = true → ρ nm ≠ some (b, c)
structure HRel (ρ : Rho) (hp : Hp) (w : World) : Prop where
  ok : ∀ nm x, hp nm = some x → ∃ b c o, ρ nm = some (b, c) ∧ w.heap[b]? = some o ∧ BlkR ρ c x o
  inj : ∀ nm nm' x y b c c', hp nm = some x → hp nm' = some y → x.wr = true → ρ nm = some (b, c) → ρ nm' = some (b, c') → nm = nm'
  fz : FzOK ρ hp w
theorem FzC.lt {w : World} {b : Nat} {l : List Value} (h : FzC w b l) : b < w.heap.size := by
  obtain ⟨cs, t, fr, h1, _⟩ := h
  rcases Nat.lt_or_ge b w.heap.size with h' | h'
  · exact h'
  · rw [Array.getElem?_eq_none h'] at h1; cases h1
theorem FzOK.of {ρ ρ' : Rho} {hp hp' : Hp} {w w' : World} (h : FzOK ρ hp w) (e : ∀ b l, ρ'.fz b = some l → ρ.fz b = some l) (hw : ∀ b l, ρ.fz b = some l → w'.heap[b]? = w.heap[b]?)
    (hn : ∀ nm x b c, hp' nm = some x → x.wr = true → ρ' nm = some (b, c) → (∃ nm0 x0 c0, hp nm0 = some x0 ∧ x0.wr = true ∧ ρ nm0 = some (b, c0)) ∨ w.heap.size ≤ b) : FzOK ρ' hp' w' := fun b l hb => by
  obtain ⟨h1, h2⟩ := h b l (e b l hb)
  refine ⟨?_, fun nm x c hx hwr he => ?_⟩
  · obtain ⟨cs, t, fr, g1, g2⟩ := h1
    exact ⟨cs, t, fr, (hw b l (e b l hb)).trans g1, g2⟩
  · rcases hn nm x b c hx hwr he with ⟨nm0, x0, c0, k1, k2, k3⟩ | k
    · exact h2 nm0 x0 c0 k1 k2 k3
    · have := h1.lt; omega
theorem HRel.fzne {ρ : Rho} {hp : Hp} {w : World} (hr : HRel ρ hp w) {nm b0 c : Nat} {x : Blk} (hx : hp nm = some x) (hw : x.wr = true) (hb : ρ nm = some (b0, c)) {b : Nat} {l : List Value} (h : ρ.fz b = some l) : b ≠ b0 := fun e => by
  subst e; exact (hr.fz b l h).2 nm x c hx hw hb

/-! ### more names -/
structure Sub (ρ ρ' : Rho) : Prop where
  nm : ∀ nm b, ρ nm = some b → ρ' nm = some b
  fz : ∀ b l, ρ.fz b = some l → ρ'.fz b = some l
instance {ρ ρ' : Rho} : CoeFun (Sub ρ ρ') (fun _ => ∀ nm b, ρ nm = some b → ρ' nm = some b) := ⟨Sub.nm⟩

theorem Sub.refl (ρ : Rho) : Sub ρ ρ := ⟨fun _ _ h => h, fun _ _ h => h⟩
section mono
variable {ρ ρ' : Rho} (h : Sub ρ ρ')
include h
theorem CapsR.mono : ∀ {l : List (Nat × Nat)} {vs : List Value}, CapsR ρ l vs → CapsR ρ' l vs
  | [], _, hr => hr
  | (_, _) :: _, _, ⟨b, c, vs', h1, h2, h3⟩ => ⟨b, c, vs', h _ _ h1, CapsR.mono h2, h3⟩
theorem CR.mono {c : Cell} {v : Value} (hr : CR ρ c v) : CR ρ' c v := by
  cases c <;> simp only [CR] at hr ⊢ <;> try exact hr
  · obtain ⟨b, c, h1, h2⟩ := hr; exact ⟨b, c, h _ _ h1, h2⟩
  · obtain ⟨b, c, h1, h2⟩ := hr; exact ⟨b, c, h _ _ h1, h2⟩
  · obtain ⟨b, c, off, h1, h2⟩ := hr; exact ⟨b, c, off, h _ _ h1, h2⟩
  · obtain ⟨b, c, h1, h2⟩ := hr; exact ⟨b, c, h _ _ h1, h2⟩
  · obtain ⟨us, vs, h0, h1, h2⟩ := hr; exact ⟨us, vs, h0.mono h, h1.mono h, h2⟩
  · obtain ⟨b, c, h1, h2⟩ := hr; exact ⟨b, c, h _ _ h1, h2⟩
  · rcases hr with h0 | ⟨h0, b, c, h1, h2⟩
    · exact .inl h0
    · exact .inr ⟨h0, b, c, h.fz _ _ h1, h2⟩
  · obtain ⟨b, h1, h2⟩ := hr; exact ⟨b, h.fz _ _ h1, h2⟩
theorem CsR.mono : ∀ {l : List Cell} {vs : List Value}, CsR ρ l vs → CsR ρ' l vs
  | [], _, hr => hr
  | _ :: _, _, ⟨v, vs', h1, h2, h3⟩ => ⟨v, vs', h1.mono h, CsR.mono h2, h3⟩
theorem AVR.mono {c : AV} {v : Value} (hr : AVR ρ c v) : AVR ρ' c v := by
  cases c with
  | c x => exact CR.mono h hr
  | agg l => obtain ⟨vs, h1, h2⟩ := hr; exact ⟨vs, h1.mono h, h2⟩
  | ints k l n => exact hr
theorem AVsR.mono : ∀ {l : List AV} {vs : List Value}, AVsR ρ l vs → AVsR ρ' l vs
  | [], _, hr => hr
  | _ :: _, _, ⟨v, vs', h1, h2, h3⟩ => ⟨v, vs', h1.mono h, AVsR.mono h2, h3⟩
theorem RVR.mono {c : RV} {v : Value} (hr : RVR ρ c v) : RVR ρ' c v := by
  cases c with
  | one x => exact AVR.mono h hr
  | tup l => obtain ⟨vs, h1, h2⟩ := hr; exact ⟨vs, h1.mono h, h2⟩
  | any => trivial
theorem ArgsR.mono : ∀ {l : List RV} {vs : List Value}, ArgsR ρ l vs → ArgsR ρ' l vs
  | [], _, hr => hr
  | _ :: _, _, ⟨v, vs', h1, h2, h3⟩ => ⟨v, vs', h1.mono h, ArgsR.mono h2, h3⟩
theorem BodyR.mono {c : Body} {v : List Value} (hr : BodyR ρ c v) : BodyR ρ' c v := by
  cases c with
  | cells l => exact CsR.mono h hr
  | ints k l n => exact hr
  | bools l n => exact hr
theorem EsR.mono : ∀ {l : List (Cell × AV)} {es : List MapEntry}, EsR ρ l es → EsR ρ' l es
  | [], _, hr => hr
  | (_, _) :: _, _, ⟨e, es', h0, h1, h2, h3⟩ => ⟨e, es', h0.mono h, h1.mono h, EsR.mono h2, h3⟩
theorem BlkR.mono {c : Nat} {x : Blk} {o : Obj} (hr : BlkR ρ c x o) : BlkR ρ' c x o := by
  cases x with
  | row t ro opn b => obtain ⟨vs, tail, fr, h1, h2, h3⟩ := hr; exact ⟨vs, tail, fr, h1, h2.mono h, h3⟩
  | map es => obtain ⟨ents, cl, h1, h2, h3⟩ := hr; exact ⟨ents, cl, h1, h2.mono h, h3⟩
  | win => exact hr
  | recs => exact hr
  | mapI vk l => obtain ⟨ents, cl, h1, h2, h3⟩ := hr; exact ⟨ents, cl, h1, h2.mono h, h3⟩
  | mapR es => obtain ⟨ents, cl, h1, h2, h3⟩ := hr; exact ⟨ents, cl, h1, h2.mono h, h3⟩
  | loop => obtain ⟨r, h1, h2, h3⟩ := hr; exact ⟨r, h1, h2.mono h, h3⟩
  | iter => exact hr
  | mapP es => obtain ⟨ents, cl, es', h1, h2, h3⟩ := hr; exact ⟨ents, cl, es', h1, h2.mono h, h3⟩
  | mapV => obtain ⟨ents, cl, h1, h2, h3⟩ := hr; exact ⟨ents, cl, h1, h2.mono h, h3⟩
  | mapS => obtain ⟨ents, cl, h1, h2, h3⟩ := hr; exact ⟨ents, cl, h1, h2.mono h, h3⟩
end mono

/-! ### steps -/
structure Stp (ρ : Rho) (hp : Hp) (nx : Nat) (w : World) (ρ' : Rho) (hp' : Hp) (nx' : Nat) (w' : World) (L : List Nat) : Prop where
  le : nx ≤ nx'
  rho : ∀ nm, nm < nx → ρ' nm = ρ nm
  keep : ∀ nm, nm < nx → nm ∉ L → hp' nm = hp nm
  size : w.heap.size ≤ w'.heap.size
  frame : ∀ b, b < w.heap.size → (∀ nm c, nm ∈ L → nm < nx → ρ nm ≠ some (b, c)) → w'.heap[b]? = w.heap[b]?
  new : ∀ nm b c, nx ≤ nm → ρ' nm = some (b, c) → w.heap.size ≤ b ∨ ∃ nm0 c0, nm0 ∈ L ∧ nm0 < nx ∧ ρ nm0 = some (b, c0)
  own : ∀ nm, nm ∈ L → nm < nx → ∃ x, hp nm = some x ∧ x.wr = true
  os : w'.os = w.os
  tape : w'.tape = w.tape
  out : w'.output = w.output
  fzk : ∀ b l, ρ.fz b = some l → ρ'.fz b = some l
  fzn : ∀ b l, ρ'.fz b = some l → ρ.fz b = some l ∨ w.heap.size ≤ b ∨ ∃ nm c, nm ∈ L ∧ nm < nx ∧ ρ nm = some (b, c)

def Fresh (ρ : Rho) (nx : Nat) : Prop := ∀ nm, nx ≤ nm → ρ nm = none

theorem Stp.sub {ρ ρ' : Rho} {hp hp' : Hp} {nx nx' : Nat} {w w' : World} {L : List Nat} (h : Stp ρ hp nx w ρ' hp' nx' w' L) (hf : Fresh ρ nx) : Sub ρ ρ' := by
  refine ⟨?_, h.fzk⟩
  intro nm b hb
  by_cases hlt : nm < nx
  · rw [h.rho nm hlt]; exact hb
  · rw [hf nm (by omega)] at hb; cases hb

theorem Stp.refl {ρ : Rho} {hp : Hp} {nx : Nat} {w : World} (hf : Fresh ρ nx) : Stp ρ hp nx w ρ hp nx w [] where
  le := Nat.le_refl _
  rho := fun _ _ => rfl
  keep := fun _ _ _ => rfl
  size := Nat.le_refl _
  frame := fun _ _ _ => rfl
  new := fun nm b c h e => by rw [hf nm h] at e; cases e
  own := fun _ h => by cases h
  os := rfl
  tape := rfl
  out := rfl
  fzk := fun _ _ h => h
  fzn := fun _ _ h => .inl h

/-- only draws -/
theorem Stp.draw {ρ : Rho} {hp : Hp} {nx : Nat} {w w' : World} (hf : Fresh ρ nx) (h : w'.heap = w.heap) (h1 : w'.os = w.os) (h2 : w'.tape = w.tape) (h3 : w'.output = w.output) :
    Stp ρ hp nx w ρ hp nx w' [] where
  le := Nat.le_refl _
  rho := fun _ _ => rfl
  keep := fun _ _ _ => rfl
  size := by rw [h]; exact Nat.le_refl _
  frame := fun _ _ _ => by rw [h]
  new := fun nm b c h e => by rw [hf nm h] at e; cases e
  own := fun _ h => by cases h
  os := h1
  tape := h2
  out := h3
  fzk := fun _ _ h => h
  fzn := fun _ _ h => .inl h

theorem Stp.trans {ρ1 ρ2 ρ3 : Rho} {h1 h2 h3 : Hp} {n1 n2 n3 : Nat} {w1 w2 w3 : World} {L1 L2 : List Nat}
    (a : Stp ρ1 h1 n1 w1 ρ2 h2 n2 w2 L1) (b : Stp ρ2 h2 n2 w2 ρ3 h3 n3 w3 L2) : Stp ρ1 h1 n1 w1 ρ3 h3 n3 w3 (L2 ++ L1) where
  le := Nat.le_trans a.le b.le
  rho := fun nm h => by rw [b.rho nm (Nat.lt_of_lt_of_le h a.le), a.rho nm h]
  keep := fun nm h hn => by
    rw [List.mem_append, not_or] at hn
    rw [b.keep nm (Nat.lt_of_lt_of_le h a.le) hn.1, a.keep nm h hn.2]
  size := Nat.le_trans a.size b.size
  frame := fun bl hb hL => by
    have e1 := a.frame bl hb fun nm c hm hlt => hL nm c (List.mem_append.2 (.inr hm)) hlt
    have e2 := b.frame bl (Nat.lt_of_lt_of_le hb a.size) fun nm c hm hlt he => by
      by_cases h : nm < n1
      · rw [a.rho nm h] at he; exact hL nm c (List.mem_append.2 (.inl hm)) h he
      · rcases a.new nm bl c (by omega) he with h' | ⟨nm0, c0, hm0, hlt0, he0⟩
        · omega
        · exact hL nm0 c0 (List.mem_append.2 (.inr hm0)) hlt0 he0
    rw [e2, e1]
  new := fun nm bl c hle he => by
    by_cases h : nm < n2
    · rw [b.rho nm h] at he
      rcases a.new nm bl c hle he with h' | ⟨nm0, c0, hm0, hlt0, he0⟩
      · exact .inl h'
      · exact .inr ⟨nm0, c0, List.mem_append.2 (.inr hm0), hlt0, he0⟩
    · rcases b.new nm bl c (by omega) he with h' | ⟨nm0, c0, hm0, hlt0, he0⟩
      · exact .inl (Nat.le_trans a.size h')
      · by_cases h0 : nm0 < n1
        · rw [a.rho nm0 h0] at he0; exact .inr ⟨nm0, c0, List.mem_append.2 (.inl hm0), h0, he0⟩
        · rcases a.new nm0 bl c0 (by omega) he0 with h' | ⟨nm1, c1, hm1, hlt1, he1⟩
          · exact .inl h'
          · exact .inr ⟨nm1, c1, List.mem_append.2 (.inr hm1), hlt1, he1⟩
  own := fun nm hm hlt => by
    by_cases h1 : nm ∈ L1
    · exact a.own nm h1 hlt
    · rcases List.mem_append.1 hm with hm | hm
      · obtain ⟨x, h2, h3⟩ := b.own nm hm (Nat.lt_of_lt_of_le hlt a.le)
        rw [a.keep nm hlt h1] at h2
        exact ⟨x, h2, h3⟩
      · exact absurd hm h1
  os := by rw [b.os, a.os]
  tape := by rw [b.tape, a.tape]
  out := by rw [b.out, a.out]
  fzk := fun bl l h => b.fzk bl l (a.fzk bl l h)
  fzn := fun bl l h => by
    rcases b.fzn bl l h with h | h | ⟨nm, c, hm, hlt, he⟩
    · rcases a.fzn bl l h with h | h | ⟨nm, c, hm, hlt, he⟩
      · exact .inl h
      · exact .inr (.inl h)
      · exact .inr (.inr ⟨nm, c, List.mem_append.2 (.inr hm), hlt, he⟩)
    · exact .inr (.inl (Nat.le_trans a.size h))
    · by_cases h0 : nm < n1
      · rw [a.rho nm h0] at he
        exact .inr (.inr ⟨nm, c, List.mem_append.2 (.inl hm), h0, he⟩)
      · rcases a.new nm bl c (by omega) he with h' | ⟨nm1, c1, hm1, hlt1, he1⟩
        · exact .inr (.inl h')
        · exact .inr (.inr ⟨nm1, c1, List.mem_append.2 (.inr hm1), hlt1, he1⟩)

end Go.Sx

namespace Go.Sx

def upd (hp : Hp) (nm : Nat) (x : Option Blk) : Hp := fun i => if i = nm then x else hp i

theorem upd_same (hp : Hp) (nm : Nat) (x : Option Blk) : upd hp nm x nm = x := by simp [upd]
theorem upd_ne (hp : Hp) {nm i : Nat} (x : Option Blk) (h : i ≠ nm) : upd hp nm x i = hp i := by simp [upd, h]

def Upd.hp (u : Upd) (hp : Hp) (nx : Nat) : Hp :=
  match u with
  | .none => hp
  | .new b => Sx.upd hp nx (some b)
  | .wr nm b => Sx.upd hp nm (some b)
  | .mv nm b => Sx.upd (Sx.upd hp nm Option.none) nx (some b)

def Upd.nx (u : Upd) (nx : Nat) : Nat :=
  match u with
  | .new _ | .mv _ _ => nx + 1
  | _ => nx

def Upd.log : Upd → List Nat
  | .wr nm _ | .mv nm _ => [nm]
  | _ => []

structure Out (ρ : Rho) (hp : Hp) (nx : Nat) (w : World) (u : Upd) (v : RV) (V : Value) (ρ' : Rho) (w' : World) : Prop where
  val : RVR ρ' v V
  rel : HRel ρ' (u.hp hp nx) w'
  fresh : Fresh ρ' (u.nx nx)
  stp : Stp ρ hp nx w ρ' (u.hp hp nx) (u.nx nx) w' u.log

theorem Out.quiet {ρ : Rho} {hp : Hp} {nx : Nat} {w : World} {v : RV} {V : Value} (hv : RVR ρ v V) (hr : HRel ρ hp w) (hf : Fresh ρ nx) : Out ρ hp nx w .none v V ρ w :=
  ⟨hv, hr, hf, Stp.refl hf⟩

/-- one block turned -/
structure WrW (w : World) (b : Nat) (o : Obj) (w' : World) : Prop where
  size : w'.heap.size = w.heap.size
  at_ : w'.heap[b]? = some o
  other : ∀ i, i ≠ b → w'.heap[i]? = w.heap[i]?
  os : w'.os = w.os
  tape : w'.tape = w.tape
  out : w'.output = w.output

theorem HRel.wrOut {ρ : Rho} {hp : Hp} {nx : Nat} {w w' : World} {nm b c : Nat} {x y : Blk} {o : Obj} {v : RV} {V : Value} (hr : HRel ρ hp w) (hf : Fresh ρ nx)
    (hx : hp nm = some x) (hw : x.wr = true) (hb : ρ nm = some (b, c)) (ho : BlkR ρ c y o) (hW : WrW w b o w') (hv : RVR ρ v V) : Out ρ hp nx w (.wr nm y) v V ρ w' where
  val := hv
  rel := by
    constructor
    · intro i z hz
      by_cases h : i = nm
      · subst h
        simp only [Upd.hp, upd_same, Option.some.injEq] at hz
        subst hz
        exact ⟨b, c, o, hb, hW.at_, ho⟩
      · simp only [Upd.hp, upd_ne _ _ h] at hz
        obtain ⟨b', c', o', h1, h2, h3⟩ := hr.ok i z hz
        refine ⟨b', c', o', h1, ?_, h3⟩
        rw [hW.other b' fun e => ?_, h2]
        subst e
        exact h (hr.inj nm i x z b' c c' hx hz hw hb h1).symm
    · intro i j p q b1 c1 c2 hp1 hq1 hpw h1 h2
      by_cases hi : i = nm <;> by_cases hj : j = nm
      · rw [hi, hj]
      · subst hi
        simp only [Upd.hp, upd_ne _ _ hj] at hq1
        exact hr.inj _ _ _ _ _ _ _ hx hq1 hw h1 h2
      · subst hj
        simp only [Upd.hp, upd_ne _ _ hi] at hp1
        exact hr.inj _ _ _ _ _ _ _ hp1 hx hpw h1 h2
      · simp only [Upd.hp, upd_ne _ _ hi] at hp1
        simp only [Upd.hp, upd_ne _ _ hj] at hq1
        exact hr.inj _ _ _ _ _ _ _ hp1 hq1 hpw h1 h2
    · refine hr.fz.of (fun _ _ h => h) (fun b' l h => hW.other b' (hr.fzne hx hw hb h)) fun i z b' c' hz hzw he => .inl ?_
      by_cases h : i = nm
      · subst h; exact ⟨i, x, c', hx, hw, he⟩
      · simp only [Upd.hp, upd_ne _ _ h] at hz
        exact ⟨i, z, c', hz, hzw, he⟩
  fresh := hf
  stp := by
    constructor
    · exact Nat.le_refl _
    · exact fun _ _ => rfl
    · intro i _ hi
      simp only [Upd.log, List.mem_singleton] at hi
      simp [Upd.hp, upd_ne _ _ hi]
    · rw [hW.size]; exact Nat.le_refl _
    · intro i hi hL
      refine hW.other i fun e => ?_
      subst e
      by_cases hlt : nm < nx
      · exact hL nm c (by simp [Upd.log]) hlt hb
      · rw [hf nm (by omega)] at hb; cases hb
    · intro i b' c' hi he
      rw [hf i hi] at he; cases he
    · intro i hi _
      simp only [Upd.log, List.mem_singleton] at hi
      subst hi
      exact ⟨x, hx, hw⟩
    · exact hW.os
    · exact hW.tape
    · exact hW.out
    · exact fun _ _ h => h
    · exact fun _ _ h => .inl h

/-- one block more -/
structure NewW (w : World) (o : Obj) (w' : World) : Prop where
  heap : w'.heap = w.heap.push o
  os : w'.os = w.os
  tape : w'.tape = w.tape
  out : w'.output = w.output

def ext (ρ : Rho) (nx b c : Nat) : Rho := ⟨fun i => if i = nx then some (b, c) else ρ i, ρ.fz⟩

theorem ext_sub {ρ : Rho} {nx : Nat} (hf : Fresh ρ nx) (b c : Nat) : Sub ρ (ext ρ nx b c) := by
  refine ⟨?_, fun _ _ h => h⟩
  intro i x hx
  by_cases h : i = nx
  · subst h; rw [hf i (Nat.le_refl _)] at hx; cases hx
  · simp [ext, h, hx]

theorem lt_of_get {α : Type} {l : Array α} {i : Nat} {x : α} (h : l[i]? = some x) : i < l.size := by
  rcases Nat.lt_or_ge i l.size with h' | h'
  · exact h'
  · rw [Array.getElem?_eq_none h'] at h; cases h

theorem HRel.newOut {ρ : Rho} {hp : Hp} {nx : Nat} {w w' : World} {c : Nat} {y : Blk} {o : Obj} {v : RV} {V : Value} (hr : HRel ρ hp w) (hf : Fresh ρ nx)
    (ho : BlkR (ext ρ nx w.heap.size c) c y o) (hW : NewW w o w') (hv : RVR (ext ρ nx w.heap.size c) v V) : Out ρ hp nx w (.new y) v V (ext ρ nx w.heap.size c) w' := by
  have hn : ∀ x, hp nx ≠ some x := fun x hx => by
    obtain ⟨_, _, _, h, _⟩ := hr.ok nx x hx
    rw [hf nx (Nat.le_refl _)] at h; cases h
  have old : ∀ i b' c', i ≠ nx → ext ρ nx w.heap.size c i = some (b', c') → ρ i = some (b', c') := by
    intro i b' c' h e; simpa [ext, h] using e
  constructor
  · exact hv
  · constructor
    · intro i z hz
      by_cases h : i = nx
      · subst h
        simp only [Upd.hp, upd_same, Option.some.injEq] at hz
        subst hz
        exact ⟨w.heap.size, c, o, by simp [ext], by simp [hW.heap], ho⟩
      · simp only [Upd.hp, upd_ne _ _ h] at hz
        obtain ⟨b', c', o', h1, h2, h3⟩ := hr.ok i z hz
        refine ⟨b', c', o', by simp [ext, h, h1], ?_, h3.mono (ext_sub hf _ _)⟩
        have := lt_of_get h2
        rw [hW.heap, Array.getElem?_push_lt this, ← h2, Array.getElem?_eq_getElem this]
    · intro i j p q b1 c1 c2 hp1 hq1 hpw h1 h2
      by_cases hi : i = nx <;> by_cases hj : j = nx
      · rw [hi, hj]
      · subst hi
        simp only [Upd.hp, upd_ne _ _ hj] at hq1
        obtain ⟨b', c', o', g1, g2, _⟩ := hr.ok j q hq1
        rw [old j _ _ hj h2] at g1
        simp only [Option.some.injEq, Prod.mk.injEq] at g1
        have := lt_of_get g2
        simp [ext] at h1
        omega
      · subst hj
        simp only [Upd.hp, upd_ne _ _ hi] at hp1
        obtain ⟨b', c', o', g1, g2, _⟩ := hr.ok i p hp1
        rw [old i _ _ hi h1] at g1
        simp only [Option.some.injEq, Prod.mk.injEq] at g1
        have := lt_of_get g2
        simp [ext] at h2
        omega
      · simp only [Upd.hp, upd_ne _ _ hi] at hp1
        simp only [Upd.hp, upd_ne _ _ hj] at hq1
        exact hr.inj _ _ _ _ _ _ _ hp1 hq1 hpw (old i _ _ hi h1) (old j _ _ hj h2)
    · refine hr.fz.of (fun _ _ h => h) (fun b' l h => by
        have := (hr.fz b' l h).1.lt
        rw [hW.heap, Array.getElem?_push_lt this, Array.getElem?_eq_getElem this]) fun i z b' c' hz hzw he => ?_
      by_cases h : i = nx
      · subst h; simp [ext] at he; right; omega
      · simp only [Upd.hp, upd_ne _ _ h] at hz
        exact .inl ⟨i, z, c', hz, hzw, old i _ _ h he⟩
  · intro i hi
    simp only [Upd.nx] at hi
    have : i ≠ nx := by omega
    simp [ext, this, hf i (by omega)]
  · constructor
    · simp [Upd.nx]
    · intro i hi
      have : i ≠ nx := by omega
      simp [ext, this]
    · intro i hi _
      have : i ≠ nx := by omega
      simp [Upd.hp, upd_ne _ _ this]
    · rw [hW.heap]; simp
    · intro i hi _
      rw [hW.heap, Array.getElem?_push_lt hi, Array.getElem?_eq_getElem hi]
    · intro i b' c' hi he
      by_cases h : i = nx
      · subst h; simp [ext] at he; left; omega
      · have he := old i _ _ h he
        rw [hf i (by omega)] at he; cases he
    · intro i hi; cases hi
    · exact hW.os
    · exact hW.tape
    · exact hW.out
    · exact fun _ _ h => h
    · exact fun _ _ h => .inl h

end Go.Sx

namespace Go.Sx
variable {P : Program}

/-! ## Small runs -/
theorem run_tInfo {t : TypeId} {i : TypeInfo} (h : P.info? t = some i) (w : World) : (typeInfo t).run P w = .ok i w := by
  simp [typeInfo, h]
theorem run_sz {t : TypeId} {i : TypeInfo} (h : P.info? t = some i) (w : World) : (sizeOf t).run P w = .ok i.size w := by
  simp [sizeOf, run_tInfo h]

theorem run_isAgg' {t : TypeId} {d : TypeDesc} (h : P.underlying t = some d) (w : World) : (isAgg t).run P w = .ok (aggD d) w := by
  unfold isAgg
  simp only [Sem.run_bind, run_underlying h, Result.andThen_ok]
  cases d <;> rfl

def asVal (d : TypeDesc) (vs : List Value) : Value := if aggD d then .agg vs.toArray else vs.headD undef

theorem run_part' {t : TypeId} {d : TypeDesc} {i : TypeInfo} (h : P.underlying t = some d) (hi : P.info? t = some i) (vs : List Value) (off : Nat)
    (hl : off + i.size ≤ vs.length) (h1 : aggD d = false → 0 < i.size) (w : World) :
    (part t vs.toArray off).run P w = .ok (asVal d ((vs.drop off).take i.size)) w := by
  unfold part asVal
  simp only [Sem.run_bind, run_isAgg' h, Result.andThen_ok]
  cases hd : aggD d
  · have := h1 hd
    have hlt : off < vs.length := by omega
    simp only [Bool.false_eq_true, if_false]
    simp only [List.getElem?_toArray, List.getElem?_eq_getElem hlt, Sem.run_pure]
    congr 1
    have e : (vs.drop off).take i.size = vs[off] :: ((vs.drop (off + 1)).take (i.size - 1)) := by
      rw [List.drop_eq_getElem_cons hlt]
      obtain ⟨m, hm⟩ : ∃ m, i.size = m + 1 := ⟨i.size - 1, by omega⟩
      rw [hm, List.take_succ_cons]; rfl
    rw [e]; rfl
  · simp [run_sz hi, List.extract_toArray, List.extract_eq_take_drop]

/-! ## Values -/
theorem CsR.length {ρ : Rho} : ∀ {l : List Cell} {vs : List Value}, CsR ρ l vs → vs.length = l.length
  | [], _, h => by simp only [CsR] at h; subst h; rfl
  | _ :: _, _, ⟨_, _, _, h2, h3⟩ => by subst h3; simp [CsR.length h2]

theorem CsR.get {ρ : Rho} : ∀ {l : List Cell} {vs : List Value}, CsR ρ l vs → ∀ {i : Nat} {c : Cell}, l[i]? = some c → ∃ v, vs[i]? = some v ∧ CR ρ c v
  | [], _, _, _, _, hc => by simp at hc
  | _ :: _, _, ⟨v, vs', h1, h2, h3⟩, i, c, hc => by
    subst h3
    cases i with
    | zero => simp at hc; subst hc; exact ⟨v, rfl, h1⟩
    | succ i => simp at hc; obtain ⟨u, hu, hr⟩ := h2.get hc; exact ⟨u, by simpa using hu, hr⟩

theorem CsR.drop {ρ : Rho} : ∀ {l : List Cell} {vs : List Value}, CsR ρ l vs → ∀ n, CsR ρ (l.drop n) (vs.drop n)
  | [], _, h, n => by simp only [CsR] at h; subst h; simp [CsR]
  | _ :: _, _, ⟨v, vs', h1, h2, h3⟩, n => by
    subst h3
    cases n with
    | zero => exact ⟨v, vs', h1, h2, rfl⟩
    | succ n => exact h2.drop n

theorem CsR.take {ρ : Rho} : ∀ {l : List Cell} {vs : List Value}, CsR ρ l vs → ∀ n, CsR ρ (l.take n) (vs.take n)
  | [], _, h, n => by simp only [CsR] at h; subst h; simp [CsR]
  | _ :: _, _, ⟨v, vs', h1, h2, h3⟩, n => by
    subst h3
    cases n with
    | zero => simp [CsR]
    | succ n => exact ⟨v, _, h1, h2.take n, rfl⟩

theorem CsR.append {ρ : Rho} : ∀ {l m : List Cell} {vs us : List Value}, CsR ρ l vs → CsR ρ m us → CsR ρ (l ++ m) (vs ++ us)
  | [], _, _, _, h, g => by simp only [CsR] at h; subst h; simpa using g
  | _ :: _, _, _, _, ⟨v, vs', h1, h2, h3⟩, g => by subst h3; exact ⟨v, _, h1, h2.append g, rfl⟩

theorem CsR.ints {ρ : Rho} (k : IntKind) : ∀ l : List Int, CsR ρ (l.map (Cell.int k)) (l.map (Value.int k))
  | [] => rfl
  | _ :: l => ⟨_, _, rfl, CsR.ints k l, rfl⟩

theorem CsR.bools {ρ : Rho} : ∀ l : List Bool, CsR ρ (l.map Cell.bool) (l.map Value.bool)
  | [] => rfl
  | _ :: l => ⟨_, _, rfl, CsR.bools l, rfl⟩

theorem toBools_ok {ρ : Rho} : ∀ {l : List Cell} {r : List Bool} {vs : List Value}, toBools l = some r → CsR ρ l vs → vs = r.map Value.bool ∧ r.length = l.length
  | [], r, vs, h, hr => by simp [toBools] at h; subst h; simp only [CsR] at hr; subst hr; exact ⟨rfl, rfl⟩
  | c :: l, r, vs, h, ⟨v, vs', h1, h2, h3⟩ => by
    subst h3
    cases c <;> simp only [toBools] at h <;> try cases h
    split at h
    · rename_i r' hr'
      simp only [Option.some.injEq] at h
      subst h
      obtain ⟨e1, e2⟩ := toBools_ok hr' h2
      simp only [CR] at h1
      subst h1
      exact ⟨by simp [e1], by simp [e2]⟩
    · cases h

theorem toInts_ok {ρ : Rho} {k : IntKind} : ∀ {l : List Cell} {r : List Int} {vs : List Value}, toInts k l = some r → CsR ρ l vs → vs = r.map (Value.int k) ∧ r.length = l.length
  | [], r, vs, h, hr => by simp [toInts] at h; subst h; simp only [CsR] at hr; subst hr; exact ⟨rfl, rfl⟩
  | c :: l, r, vs, h, ⟨v, vs', h1, h2, h3⟩ => by
    subst h3
    cases c <;> simp only [toInts] at h <;> try cases h
    split at h
    · rename_i k' n hk
      subst hk
      split at h
      · rename_i r' hr'
        simp only [Option.some.injEq] at h
        subst h
        obtain ⟨e1, e2⟩ := toInts_ok hr' h2
        simp only [CR] at h1
        subst h1
        exact ⟨by simp [e1], by simp [e2]⟩
      · cases h
    · cases h

theorem CR.one {ρ : Rho} {c : Cell} {v : Value} (h : CR ρ c v) : v.oneCell' = true := by
  cases c <;> simp only [CR] at h
  all_goals first
    | exact h
    | (subst h; rfl)
    | (rcases h with ⟨_, rfl⟩ | ⟨_, _, _, _, rfl⟩ <;> rfl)
    | (obtain ⟨_, _, _, rfl⟩ := h; rfl)
    | (obtain ⟨_, _, rfl⟩ := h; rfl)
    | (obtain ⟨_, _, _, _, rfl⟩ := h; rfl)
    | (obtain ⟨_, _, rfl⟩ := h; rfl)
    | (obtain ⟨_, _, _, _, _, _, rfl⟩ := h; rfl)

theorem CR.cells {ρ : Rho} {c : Cell} {v : Value} (h : CR ρ c v) : v.cells = #[v] := by
  have := h.one
  cases v <;> simp_all [Value.oneCell', Value.cells]

theorem CsR.one {ρ : Rho} : ∀ {l : List Cell} {vs : List Value}, CsR ρ l vs → ∀ v ∈ vs, v.oneCell' = true
  | [], _, h, v, hv => by simp only [CsR] at h; subst h; cases hv
  | _ :: _, _, ⟨_, _, h1, h2, h3⟩, v, hv => by
    subst h3
    rcases List.mem_cons.1 hv with rfl | hv
    · exact h1.one
    · exact h2.one v hv

/-! ## Equality -/
theorem eqLeaf_ok {ρ : Rho} {t : TypeId} {d : TypeDesc} (hd : P.underlying t = some d) {xs ys : List Cell} {r : Bool} (h : eqLeaf (some d) xs ys = some r)
    {vs us : List Value} (hx : CsR ρ xs vs) (hy : CsR ρ ys us) (D : Nat) (w : World) :
    xs.length = 1 ∧ ys.length = 1 ∧ aggD d = false ∧ (Op.equalIn (D + 1) t (asVal d vs) (asVal d us)).run P w = .ok r w := by
  unfold eqLeaf at h
  split at h <;> try cases h
  · rename_i k0 k a k' b hd'
    simp only [Option.some.injEq] at hd'
    subst hd'
    split at h <;> try cases h
    rename_i hk; subst hk
    obtain ⟨v, vs', h1, h2, h3⟩ := hx
    obtain ⟨u, us', g1, g2, g3⟩ := hy
    simp only [CR] at h1 g1
    subst h3 g3 h1 g1
    exact ⟨rfl, rfl, rfl, run_equalIn_int w D t _ _ _ _ hd⟩
  · rename_i a b hd'
    simp only [Option.some.injEq] at hd'
    subst hd'
    obtain ⟨v, vs', h1, h2, h3⟩ := hx
    obtain ⟨u, us', g1, g2, g3⟩ := hy
    simp only [CR] at h1 g1
    subst h3 g3 h1 g1
    exact ⟨rfl, rfl, rfl, run_equalIn_bool' w D t _ _ hd⟩
  · rename_i a b hd'
    simp only [Option.some.injEq] at hd'
    subst hd'
    obtain ⟨v, vs', h1, h2, h3⟩ := hx
    obtain ⟨u, us', g1, g2, g3⟩ := hy
    simp only [CR] at h1 g1
    subst h3 g3 h1 g1
    refine ⟨rfl, rfl, rfl, ?_⟩
    have := run_equalIn_string w D t a b hd
    rw [← beq_toListBytes] at this
    exact this

theorem eqRow_ok {ρ : Rho} {e : TypeId} {d : TypeDesc} {i : TypeInfo} (hd : P.underlying e = some d) (hi : P.info? e = some i) (h1 : i.size = 1) (hag : aggD d = false) (D : Nat) (w : World) (vs us : List Value) :
    ∀ {xs ys : List Cell} {r : Bool} (pre : Nat), eqRow (some d) xs ys = some r → CsR ρ xs (vs.drop pre) → CsR ρ ys (us.drop pre) →
      (Op.eqItems (D + 1) e (P.cellsOf e) vs.toArray us.toArray (List.range' pre xs.length)).run P w = .ok r w
  | [], [], r, pre, h, _, _ => by
    simp [eqRow] at h; subst h; simp [Op.eqItems]
  | x :: xs, y :: ys, r, pre, h, hx, hy => by
    have hc : P.cellsOf e = 1 := by simp [Program.cellsOf, hi, h1]
    simp only [eqRow] at h
    split at h
    · rename_i a b ha hb
      simp only [Option.some.injEq] at h
      subst h
      have lx := hx.length
      have ly := hy.length
      have hlx : pre < vs.length := by simp at lx; omega
      have hly : pre < us.length := by simp at ly; omega
      obtain ⟨v, vs', c1, c2, c3⟩ := hx
      obtain ⟨u, us', g1, g2, g3⟩ := hy
      have e1 := List.drop_eq_getElem_cons hlx
      have e2 := List.drop_eq_getElem_cons hly
      rw [c3] at e1
      rw [g3] at e2
      simp only [List.cons.injEq] at e1 e2
      obtain ⟨e1a, e1b⟩ := e1
      obtain ⟨e2a, e2b⟩ := e2
      rw [e1b] at c2
      rw [e2b] at g2
      have ih := eqRow_ok hd hi h1 hag D w vs us (pre + 1) hb c2 g2
      obtain ⟨_, _, _, q⟩ := eqLeaf_ok hd ha (vs := [v]) (us := [u]) ⟨v, [], c1, rfl, rfl⟩ ⟨u, [], g1, rfl, rfl⟩ D w
      have p1 := run_part' hd hi vs pre (by omega) (fun _ => by omega) w
      have p2 := run_part' hd hi us pre (by omega) (fun _ => by omega) w
      have f1 : asVal d ((vs.drop pre).take i.size) = v := by
        simp [asVal, hag, h1, c3]
      have f2 : asVal d ((us.drop pre).take i.size) = u := by
        simp [asVal, hag, h1, g3]
      rw [f1] at p1
      rw [f2] at p2
      have q' : (Op.equalIn (D + 1) e v u).run P w = .ok a w := by simpa [asVal, hag] using q
      rw [hc] at ih ⊢
      simp only [List.length_cons, List.range'_succ, Op.eqItems, Nat.mul_one, Sem.run_bind, p1, p2, q', Result.andThen_ok]
      cases a
      · simp
      · simpa using ih
    · cases h
  | [], _ :: _, _, _, h, _, _ => by simp [eqRow] at h
  | _ :: _, [], _, _, h, _, _ => by simp [eqRow] at h

theorem leafArr_ok {e : TypeId} (h : leafArr P e = true) : ∃ d i, P.underlying e = some d ∧ P.info? e = some i ∧ i.size = 1 ∧ aggD d = false := by
  unfold leafArr at h
  split at h
  · rename_i k i h1 h2; exact ⟨_, i, h1, h2, by simpa using h, rfl⟩
  · rename_i i h1 h2; exact ⟨_, i, h1, h2, by simpa using h, rfl⟩
  · rename_i i h1 h2; exact ⟨_, i, h1, h2, by simpa using h, rfl⟩
  · cases h

/-- the values of a type's cells, as '==' takes them -/
def EqOK (P : Program) (w : World) (ρ : Rho) (d : Nat) (t : TypeId) (xs ys : List Cell) (r : Bool) : Prop :=
  ∀ D dd, P.underlying t = some dd → ∀ vs us, CsR ρ xs vs → CsR ρ ys us → (aggD dd = false → xs.length = 1 ∧ ys.length = 1) ∧ (Op.equalIn (D + d) t (asVal dd vs) (asVal dd us)).run P w = .ok r w

theorem eqFs_ok {ρ : Rho} {w : World} {d : Nat} {eq : TypeId → List Cell → List Cell → Option Bool} (hq : ∀ t xs ys r, eq t xs ys = some r → (∃ dd, P.underlying t = some dd) ∧ EqOK P w ρ d t xs ys r)
    {xs ys : List Cell} {vs us : List Value} (hx : CsR ρ xs vs) (hy : CsR ρ ys us) (D : Nat) :
    ∀ {fs : List Field} {r : Bool}, eqFs P eq xs ys fs = some r → (Op.eqFields (D + d) vs.toArray us.toArray fs).run P w = .ok r w
  | [], r, h => by simp [eqFs] at h; subst h; simp [Op.eqFields]
  | f :: fs, r, h => by
    simp only [eqFs] at h
    split at h
    · rename_i hn
      have hn : f.name = "_" := by simpa using hn
      have ih := eqFs_ok hq hx hy D h
      simp only [Op.eqFields, hn, ne_eq, not_true_eq_false, if_false]
      exact ih
    · rename_i hn
      have hn : f.name ≠ "_" := by simpa using hn
      split at h
      · rename_i i hi
        split at h
        · rename_i hl
          split at h
          · rename_i a b ha hb
            simp only [Option.some.injEq] at h
            subst h
            obtain ⟨⟨dd, hdd⟩, hk⟩ := hq _ _ _ _ ha
            have ih := eqFs_ok hq hx hy D hb
            have lx := hx.length
            have ly := hy.length
            obtain ⟨h1, h2⟩ := hk D dd hdd _ _ ((hx.drop f.offset).take i.size) ((hy.drop f.offset).take i.size)
            have sz : aggD dd = false → 0 < i.size := fun hg => by
              have := (h1 hg).1
              simp [cutC] at this
              omega
            have p1 := run_part' hdd hi vs f.offset (by omega) sz w
            have p2 := run_part' hdd hi us f.offset (by omega) sz w
            simp only [Op.eqFields, ne_eq, hn, not_false_eq_true, if_true, Sem.run_bind, p1, p2, h2, Result.andThen_ok]
            cases a
            · simp
            · simpa using ih
          · cases h
        · cases h
      · cases h

theorem eqT_ok {ρ : Rho} {w : World} : ∀ (d : Nat) (t : TypeId) (xs ys : List Cell) (r : Bool), eqT P d t xs ys = some r → (∃ dd, P.underlying t = some dd) ∧ EqOK P w ρ (d + 1) t xs ys r
  | 0, _, _, _, _, h => by simp [eqT] at h
  | d + 1, t, xs, ys, r, h => by
    simp only [eqT] at h
    split at h
    · rename_i fs hu
      split at h
      · cases h
      · rename_i hs
        refine ⟨⟨_, hu⟩, fun D dd hdd vs us hx hy => ?_⟩
        rw [hu] at hdd
        simp only [Option.some.injEq] at hdd
        subst hdd
        refine ⟨fun hg => by simp [aggD] at hg, ?_⟩
        have hf : P.fieldsOf t = fs := by simp [Program.fieldsOf, hu]
        have := eqFs_ok (P := P) (w := w) (fun t xs ys r hh => eqT_ok d t xs ys r hh) hx hy D h
        have e := run_equalIn_struct w (D + (d + 1)) t vs.toArray us.toArray (by rw [hf]; exact hu) (by simpa using hs)
        rw [hf] at e
        simp only [asVal, aggD, if_true]
        rw [show D + (d + 1 + 1) = D + (d + 1) + 1 from rfl, e]
        exact this
    · rename_i len e hu
      split at h
      · rename_i hc
        obtain ⟨hl, hxl, hyl⟩ := hc
        obtain ⟨dd', i, q1, q2, q3, q4⟩ := leafArr_ok hl
        refine ⟨⟨_, hu⟩, fun D dd hdd vs us hx hy => ?_⟩
        rw [hu] at hdd
        simp only [Option.some.injEq] at hdd
        subst hdd
        refine ⟨fun hg => by simp [aggD] at hg, ?_⟩
        rw [q1] at h
        have := eqRow_ok q1 q2 q3 q4 (D + d) w vs us 0 h hx hy
        simp only [asVal, aggD, if_true]
        rw [show D + (d + 1 + 1) = D + (d + 1) + 1 from rfl, run_equalIn_array w (D + (d + 1)) vs.toArray us.toArray hu q2, List.range_eq_range', ← hxl]
        exact this
      · cases h
    · rename_i u hn1 hn2
      cases hu : P.underlying t with
      | none => rw [hu] at h; simp [eqLeaf] at h
      | some dd =>
        rw [hu] at h
        refine ⟨⟨_, rfl⟩, fun D dd' hdd vs us hx hy => ?_⟩
        rw [hu] at hdd
        simp only [Option.some.injEq] at hdd
        subst hdd
        obtain ⟨l1, l2, l3, q⟩ := eqLeaf_ok hu h hx hy (D + (d + 1)) w
        exact ⟨fun _ => ⟨l1, l2⟩, q⟩

theorem ints_row {k : IntKind} {d : TypeDesc} (hd : ∃ k', d = .int k') : ∀ (l m : List Int), l.length = m.length → eqRow (some d) (l.map (Cell.int k)) (m.map (Cell.int k)) = some (l == m)
  | [], [], _ => rfl
  | x :: l, y :: m, h => by
    obtain ⟨k', rfl⟩ := hd
    have ih := ints_row (k := k) ⟨k', rfl⟩ l m (by simpa using h)
    simp only [List.map_cons, eqRow, eqLeaf, if_true, ih]
    simp [List.cons_beq_cons]
  | [], _ :: _, h => by simp at h
  | _ :: _, [], h => by simp at h

end Go.Sx

namespace Go.Sx
variable {P : Program} {ρ : Rho} {w : World}

/-! ## Binary operations -/
theorem run_eqGuard_other (op : BinOp) (t : TypeId) (x y : Operand) (a b : Value) (h : (∀ c, a ≠ .agg c) ∨ (∀ c, b ≠ .agg c)) (h2 : a ≠ .nilIface ∨ b ≠ .nilIface) : (eqGuard op t x y a b).run P w = .ok () w := by
  unfold eqGuard
  generalize (!(match op with | .eql | .neq => true | _ => false)) = c
  cases c
  · simp only [Bool.false_eq_true, if_false]
    split
    · exfalso; rcases h2 with h2 | h2 <;> exact h2 rfl
    · exfalso; rcases h with h | h <;> exact h _ rfl
    · rfl
  · rfl

theorem run_bits (op : BinOp) (k : IntKind) (a b n : Int) (h : bitsI op k a b = some n) : (Op.intBits op k a b).run P w = .ok (.int k n) w := by
  cases op <;> simp only [bitsI, Option.some.injEq] at h <;> first | cases h; done | (subst h; rfl)

theorem run_binInt (op : BinOp) (t : TypeId) (k : IntKind) (a b : Int) (c : Cell) (hs : isShift op = false) (h : binInt op k a b = some c) : ∃ V, CR ρ c V ∧ (binOp op t (.int k a) (.int k b)).run P w = .ok V w := by
  cases op <;> simp only [isShift, reduceCtorEq] at hs <;> simp only [binInt, Option.some.injEq] at h
  case add => subst h; exact ⟨_, rfl, by simp [binOp, Op.intArith]⟩
  case sub => subst h; exact ⟨_, rfl, by simp [binOp, Op.intArith]⟩
  case mul => subst h; exact ⟨_, rfl, by simp [binOp, Op.intArith]⟩
  case quo =>
    split at h
    · cases h
    · rename_i h0
      simp only [Option.some.injEq] at h; subst h; exact ⟨_, rfl, by simp [binOp, Op.intDiv, h0]⟩
  case rem =>
    split at h
    · cases h
    · rename_i h0
      simp only [Option.some.injEq] at h; subst h; exact ⟨_, rfl, by simp [binOp, Op.intDiv, h0]⟩
  case eql => subst h; exact ⟨_, rfl, by simp [binOp, Op.intCmp]⟩
  case neq => subst h; exact ⟨_, rfl, by simp [binOp, Op.intCmp]⟩
  case lss => subst h; exact ⟨_, rfl, by simp [binOp, Op.intCmp]⟩
  case leq => subst h; exact ⟨_, rfl, by simp [binOp, Op.intCmp]⟩
  case gtr => subst h; exact ⟨_, rfl, by simp [binOp, Op.intCmp]⟩
  case geq => subst h; exact ⟨_, rfl, by simp [binOp, Op.intCmp]⟩
  all_goals
    split at h
    · rename_i n hn
      simp only [Option.some.injEq] at h; subst h
      exact ⟨_, rfl, by simp only [binOp, ne_eq, not_true_eq_false, if_false]; exact run_bits _ _ _ _ _ hn⟩
    · cases h

theorem run_intRes (op : BinOp) (t : TypeId) (k k' : IntKind) (a b : Int) (v : AV) (h : intRes op k a k' b = some v) : ∃ V, AVR ρ v V ∧ (binOp op t (.int k a) (.int k' b)).run P w = .ok V w := by
  unfold intRes at h
  split at h
  · rename_i hs
    cases op <;> simp only [isShift, reduceCtorEq] at hs <;> simp only [shiftRes] at h
    · split at h
      · cases h
      · rename_i h0
        simp only [Option.some.injEq] at h; subst h
        exact ⟨_, rfl, by simp [binOp, Op.shift, h0]⟩
    · split at h
      · cases h
      · rename_i h0
        simp only [Option.some.injEq] at h; subst h
        exact ⟨_, rfl, by simp [binOp, Op.shift, h0]⟩
  · rename_i hs
    split at h
    · rename_i hk
      subst hk
      split at h
      · rename_i c hc
        simp only [Option.some.injEq] at h; subst h
        obtain ⟨V, h1, h2⟩ := run_binInt (ρ := ρ) (P := P) (w := w) op t k a b c hs hc
        exact ⟨V, h1, h2⟩
      · cases h
    · cases h

theorem cellOf_ok {v : Value} {c : Cell} (h : cellOf v = some c) : CR ρ c v := by
  cases v <;> simp only [cellOf] at h <;> try (cases h; done)
  all_goals first
    | (simp only [Option.some.injEq] at h; subst h; rfl)
    | (split at h <;> first | (simp only [Option.some.injEq] at h; subst h; rename_i h1; simp_all [CR]; done) | (cases h; done) | skip)
  all_goals simp_all [CR]

theorem pureCell_ok {s : Sem Value} {c : Cell} (h : pureCell s = some c) : ∃ V, CR ρ c V ∧ s.run P w = .ok V w := by
  cases s <;> simp only [pureCell] at h <;> try (cases h; done)
  exact ⟨_, cellOf_ok h, rfl⟩

theorem run_eqC (t : TypeId) (x y : Cell) (r : Bool) (h : eqC P t x y = some r) {V U : Value} (hx : CR ρ x V) (hy : CR ρ y U) (D : Nat) :
    (Op.equalIn (D + 1) t V U).run P w = .ok r w ∧ (∀ k n, V ≠ .int k n) ∧ (∀ c, V ≠ .agg c) ∧ (∀ k n, V ≠ .float k n) ∧ (∀ k n m, V ≠ .complex k n m) ∧ (∀ s, V ≠ .string s) ∧ V ≠ .nilIface := by
  unfold eqC at h
  split at h <;> try (cases h; done)
  all_goals
    rename_i hu
    simp only [Option.some.injEq] at h
    subst h
    simp only [CR] at hx hy
  · subst hx hy; exact ⟨run_equalIn_bool' w D t _ _ hu, by simp⟩
  · subst hx hy; simp [Op.equalIn, run_underlying hu]
  · obtain ⟨_, _, _, rfl⟩ := hy; subst hx; simp [Op.equalIn, run_underlying hu]
  · obtain ⟨_, _, _, rfl⟩ := hx; subst hy; simp [Op.equalIn, run_underlying hu]
  · subst hx hy; simp [Op.equalIn, run_underlying hu]
  · obtain ⟨_, _, _, rfl⟩ := hx; subst hy; simp [Op.equalIn, run_underlying hu]
  · obtain ⟨_, _, _, _, _, _, rfl⟩ := hx; subst hy; simp [Op.equalIn, run_underlying hu]
  · obtain ⟨_, _, _, rfl⟩ := hy; subst hx; simp [Op.equalIn, run_underlying hu]
  · obtain ⟨_, _, _, _, _, _, rfl⟩ := hy; subst hx; simp [Op.equalIn, run_underlying hu]
  · subst hx hy; simp [Op.equalIn, run_underlying hu]
  · obtain ⟨_, _, _, rfl⟩ := hx; subst hy; simp [Op.equalIn, run_underlying hu]
  · obtain ⟨_, _, _, rfl⟩ := hy; subst hx; simp [Op.equalIn, run_underlying hu]
  · subst hx hy; simp [Op.equalIn, run_underlying hu]
  · obtain ⟨_, _, _, _, rfl⟩ := hx; subst hy; simp [Op.equalIn, run_underlying hu]
  · obtain ⟨_, _, _, _, rfl⟩ := hy; subst hx; simp [Op.equalIn, run_underlying hu]

theorem binOp_eq (t : TypeId) (V U : Value) (h1 : ∀ k n, V ≠ .int k n) (h3 : ∀ k n, V ≠ .float k n) (h4 : ∀ k n m, V ≠ .complex k n m) (h5 : ∀ s, V ≠ .string s) :
    (binOp .eql t V U) = (do pure (.bool (← Op.equal t V U))) ∧ (binOp .neq t V U) = (do pure (.bool (!(← Op.equal t V U)))) := by
  cases V <;> first
    | exact absurd rfl (h1 _ _)
    | exact absurd rfl (h3 _ _)
    | exact absurd rfl (h4 _ _ _)
    | exact absurd rfl (h5 _)
    | exact ⟨rfl, rfl⟩

theorem run_eqTop (t : TypeId) (x y : AV) (r : Bool) (h : eqTop P t x y = some r) {V U : Value} (hx : AVR ρ x V) (hy : AVR ρ y U) (op : BinOp) (ox oy : Operand) :
    (Op.equal t V U).run P w = .ok r w ∧ (eqGuard op t ox oy V U).run P w = .ok () w ∧ (∀ k n, V ≠ .int k n) ∧ (∀ k n, V ≠ .float k n) ∧ (∀ k n m, V ≠ .complex k n m) ∧ (∀ s, V ≠ .string s) := by
  unfold eqTop at h
  split at h
  · rename_i a b
    obtain ⟨q, h1, h2, h3, h4, h5, h6⟩ := run_eqC (w := w) t a b r h hx hy 9999
    exact ⟨q, run_eqGuard_other op t ox oy V U (.inl h2) (.inl h6), h1, h3, h4, h5⟩
  · rename_i l m
    split at h
    · rename_i hg
      obtain ⟨hg, hag⟩ := hg
      obtain ⟨vs, h1, rfl⟩ := hx
      obtain ⟨us, h2, rfl⟩ := hy
      obtain ⟨⟨dd, hdd⟩, hk⟩ := eqT_ok (w := w) (ρ := ρ) 5 t l m r h
      obtain ⟨q1, q2⟩ := hk 9994 dd hdd vs us h1 h2
      refine ⟨?_, run_eqGuard_agg w op t ox oy _ _ hg, by simp, by simp, by simp, by simp⟩
      have : aggD dd = true := by simpa [aggT, hdd] using hag
      simp only [asVal, this, if_true] at q2
      exact q2
    · cases h
  · rename_i k l n k' m n'
    split at h
    · rename_i hc
      obtain ⟨rfl, rfl, hc, hg⟩ := hc
      simp only [Option.some.injEq] at h
      subst h
      obtain ⟨h1, rfl⟩ := hx
      obtain ⟨h2, rfl⟩ := hy
      refine ⟨?_, run_eqGuard_agg w op t ox oy _ _ hg, by simp, by simp, by simp, by simp⟩
      unfold eqInts at hc
      split at hc
      · rename_i len e hu
        split at hc
        · rename_i k' i hd hi
          simp only [Bool.and_eq_true, beq_iff_eq] at hc
          have hr := ints_row (k := k) (d := .int k') ⟨_, rfl⟩ l m (h1.trans h2.symm)
          have q := eqRow_ok (P := P) (ρ := ρ) hd hi hc.1 rfl 9998 w _ _ 0 hr (CsR.ints k l) (CsR.ints k m)
          show (Op.equalIn 10000 t _ _).run P w = _
          rw [run_equalIn_array w 9999 _ _ hu hi, List.range_eq_range', hc.2, ← h1]
          simpa using q
        · cases hc
      · cases hc
    · cases h
  · cases h

theorem run_binRes (op : BinOp) (t : TypeId) (x y : AV) (v : AV) (h : binRes P op t x y = some v) {X Y : Value} (hx : AVR ρ x X) (hy : AVR ρ y Y) (ox oy : Operand) :
    ∃ V, AVR ρ v V ∧ (do eqGuard op t ox oy X Y; binOp op t X Y : Sem Value).run P w = .ok V w := by
  unfold binRes at h
  split at h
  · rename_i k a k' b
    simp only [AVR, CR] at hx hy
    subst hx hy
    obtain ⟨V, h1, h2⟩ := run_intRes (ρ := ρ) (P := P) (w := w) op t k k' a b v h
    exact ⟨V, h1, by simp [run_eqGuard_other, h2]⟩
  · rename_i a b
    simp only [AVR, CR] at hx hy
    subst hx hy
    split at h
    · rename_i c hc
      simp only [Option.some.injEq] at h; subst h
      obtain ⟨V, h1, h2⟩ := pureCell_ok (ρ := ρ) (P := P) (w := w) hc
      refine ⟨V, h1, ?_⟩
      have : binOp op t (.string a) (.string b) = Op.stringOp op a b := by cases op <;> rfl
      simp [run_eqGuard_other, this, h2]
    · cases h
  · unfold eqRes at h
    split at h
    · split at h
      · rename_i b hb
        simp only [Option.some.injEq] at h; subst h
        obtain ⟨q, g, h1, h2, h3, h4⟩ := run_eqTop (w := w) t x y b hb hx hy .eql ox oy
        exact ⟨_, rfl, by simp [g, (binOp_eq t X Y h1 h2 h3 h4).1, q]⟩
      · cases h
    · split at h
      · rename_i b hb
        simp only [Option.some.injEq] at h; subst h
        obtain ⟨q, g, h1, h2, h3, h4⟩ := run_eqTop (w := w) t x y b hb hx hy .neq ox oy
        exact ⟨_, rfl, by simp [g, (binOp_eq t X Y h1 h2 h3 h4).2, q]⟩
      · cases h
    · cases h

theorem run_unRes (op : UnOp) (x : RV) (v : AV) (h : unRes op x = some v) {X : Value} (hx : RVR ρ x X) : ∃ V, AVR ρ v V ∧ (Op.unary op X).run P w = .ok V w := by
  unfold unRes at h
  split at h
  · simp only [RVR, AVR, CR] at hx; subst hx
    simp only [Option.some.injEq] at h; subst h
    exact ⟨_, rfl, by simp [Op.unary, Op.intArith]⟩
  · simp only [RVR, AVR, CR] at hx; subst hx
    split at h
    · rename_i m hm
      simp only [Option.some.injEq] at h; subst h
      exact ⟨_, rfl, by simp only [Op.unary]; exact run_bits _ _ _ _ _ hm⟩
    · cases h
  · simp only [RVR, AVR, CR] at hx; subst hx
    simp only [Option.some.injEq] at h; subst h
    exact ⟨_, rfl, by simp [Op.unary]⟩
  · cases h

end Go.Sx

namespace Go.Sx
variable {P : Program} {ρ : Rho} {w : World}

/-! ## Cells of a block -/
theorem add_off (b off n : Nat) : (⟨b, off, none⟩ : Addr).add n = ⟨b, off + n, none⟩ := by unfold Addr.add; split <;> simp_all

theorem run_loadRow {b off : Nat} {arr : Array Value} {t : TypeId} {fr : Nat × Nat} (h : w.heap[b]? = some (.cells arr t fr)) (n : Nat) (hl : off + n ≤ arr.size) :
    (loadCells ⟨b, off, none⟩ n).run P w = .ok ((arr.toList.drop off).take n).toArray w := by
  have := run_loadCells_list (P := P) w ⟨b, off, none⟩ ((arr.toList.drop off).take n) (fun j v hj => by
    rw [add_off]
    have hjn : j < n := by
      rcases Nat.lt_or_ge j n with h' | h'
      · exact h'
      · rw [List.getElem?_eq_none (by simp; omega)] at hj; cases hj
    rw [List.getElem?_take_of_lt hjn, List.getElem?_drop] at hj
    simpa [World.cell?, h] using hj)
  have e : ((arr.toList.drop off).take n).length = n := by simp; omega
  rw [e] at this
  exact this

theorem run_load1 {b off : Nat} {arr : Array Value} {t : TypeId} {fr : Nat × Nat} {v : Value} (h : w.heap[b]? = some (.cells arr t fr)) (hv : arr.toList[off]? = some v) :
    (load ⟨b, off, none⟩).run P w = .ok v w := by
  have hc : w.cell? ⟨b, off, none⟩ = some v := by simpa [World.cell?, h] using hv
  simp [run_load, hc]

theorem tk_ok {t : TypeId} {k : TK} (h : tk P t = some k) : ∃ d i, P.underlying t = some d ∧ P.info? t = some i ∧
    (match k with | .sc => aggD d = false | .ints _ n => aggD d = true ∧ i.size = n | .agg n => aggD d = true ∧ i.size = n) := by
  unfold tk at h
  split at h
  · rename_i fs i h1 h2
    simp only [Option.some.injEq] at h; subst h
    exact ⟨_, i, h1, h2, rfl, rfl⟩
  · rename_i n e i h1 h2
    split at h <;> simp only [Option.some.injEq] at h <;> subst h <;> exact ⟨_, i, h1, h2, rfl, rfl⟩
  · rename_i d i hn1 hn2 h1 h2
    simp only [Option.some.injEq] at h; subst h
    refine ⟨_, i, h1, h2, ?_⟩
    cases d <;> simp_all [aggD]
  · cases h

theorem BodyR.length {b : Body} {vs : List Value} (h : BodyR ρ b vs) : vs.length = b.size := by
  cases b with
  | cells l => exact CsR.length h
  | ints k l n => obtain ⟨h1, rfl⟩ := h; simp [Body.size, h1]
  | bools l n => obtain ⟨h1, rfl⟩ := h; simp [Body.size, h1]

theorem Body.get_ok {b : Body} {off : Nat} {k : TK} {v : AV} (h : b.get off k = some v) {vs : List Value} (hb : BodyR ρ b vs) :
    match k with
    | .sc => ∃ V, vs[off]? = some V ∧ AVR ρ v V
    | .ints _ n | .agg n => off + n ≤ vs.length ∧ AVR ρ v (.agg ((vs.drop off).take n).toArray) := by
  have hl := hb.length
  cases b with
  | ints k' l n =>
    obtain ⟨h1, rfl⟩ := hb
    cases k with
    | sc =>
      simp only [Body.get] at h
      split at h
      · rename_i hlt
        simp only [Option.some.injEq] at h; subst h
        refine ⟨_, ?_, rfl⟩
        have : off < l.length := by omega
        simp [List.getElem?_eq_getElem this, List.getD]
      · cases h
    | ints k2 m =>
      simp only [Body.get] at h
      split at h
      · rename_i hc
        simp only [Option.some.injEq] at h; subst h
        refine ⟨by simp; omega, by simp; omega, ?_⟩
        simp [List.map_take, List.map_drop]
      · cases h
    | agg m => simp [Body.get] at h
  | bools l n =>
    obtain ⟨h1, rfl⟩ := hb
    cases k with
    | sc =>
      simp only [Body.get] at h
      split at h
      · rename_i hlt
        simp only [Option.some.injEq] at h; subst h
        refine ⟨_, ?_, rfl⟩
        have : off < l.length := by omega
        simp [List.getElem?_eq_getElem this, List.getD]
      · cases h
    | _ => simp [Body.get] at h
  | cells l =>
    cases k with
    | sc =>
      simp only [Body.get] at h
      split at h
      · rename_i c hc
        simp only [Option.some.injEq] at h; subst h
        obtain ⟨V, h1, h2⟩ := CsR.get hb hc
        exact ⟨V, h1, h2⟩
      · cases h
    | agg m =>
      simp only [Body.get] at h
      split at h
      · rename_i hc
        simp only [Option.some.injEq] at h; subst h
        refine ⟨by simp [Body.size] at hl; omega, _, (CsR.drop hb off).take m, rfl⟩
      · cases h
    | ints k m =>
      simp only [Body.get] at h
      split at h
      · rename_i hc
        split at h
        · rename_i r hr
          simp only [Option.some.injEq] at h; subst h
          obtain ⟨e1, e2⟩ := toInts_ok hr ((CsR.drop hb off).take m)
          refine ⟨by simp [Body.size] at hl; omega, by simp at e2; omega, by rw [e1]⟩
        · cases h
      · cases h

theorem run_loadVar' {b off : Nat} {arr : Array Value} {t' t : TypeId} {fr : Nat × Nat} (h : w.heap[b]? = some (.cells arr t' fr)) {k : TK} (hk : tk P t = some k)
    {bd : Body} {v : AV} (hg : bd.get off k = some v) {vs tail : List Value} (ha : arr = (vs ++ tail).toArray) (hb : BodyR ρ bd vs) :
    ∃ V, AVR ρ v V ∧ (loadVar t ⟨b, off, none⟩).run P w = .ok V w := by
  obtain ⟨d, i, h1, h2, h3⟩ := tk_ok hk
  have g := Body.get_ok hg hb
  subst ha
  unfold loadVar
  simp only [Sem.run_bind, run_isAgg' h1, Result.andThen_ok]
  cases k with
  | sc =>
    obtain ⟨V, g1, g2⟩ := g
    have hlt : off < vs.length := by
      rcases Nat.lt_or_ge off vs.length with h' | h'
      · exact h'
      · rw [List.getElem?_eq_none h'] at g1; cases g1
    refine ⟨V, g2, ?_⟩
    simp only at h3
    simp only [h3, Bool.false_eq_true, if_false]
    exact run_load1 h (by simp [List.getElem?_append_left hlt, g1])
  | ints k n =>
    obtain ⟨g1, g2⟩ := g
    obtain ⟨h3, h4⟩ := h3
    refine ⟨_, g2, ?_⟩
    simp only [h3, if_true, Sem.run_bind, run_sz h2, Result.andThen_ok, h4]
    rw [run_loadRow h n (by simp; omega)]
    simp only [Result.andThen_ok, Sem.run_pure]
    rw [List.drop_append_of_le_length (by omega), List.take_append_of_le_length (by simp; omega)]
  | agg n =>
    obtain ⟨g1, g2⟩ := g
    obtain ⟨h3, h4⟩ := h3
    refine ⟨_, g2, ?_⟩
    simp only [h3, if_true, Sem.run_bind, run_sz h2, Result.andThen_ok, h4]
    rw [run_loadRow h n (by simp; omega)]
    simp only [Result.andThen_ok, Sem.run_pure]
    rw [List.drop_append_of_le_length (by omega), List.take_append_of_le_length (by simp; omega)]

/-! ## Cells of a value -/
theorem AVR.cells {v : AV} {V : Value} (h : AVR ρ v V) : BodyR ρ v.body V.cells.toList ∧ CsR ρ v.cellList V.cells.toList ∧ V.cells.size = v.size := by
  cases v with
  | c x =>
    have e := CR.cells (ρ := ρ) h
    rw [e]
    refine ⟨?_, ⟨V, [], h, rfl, rfl⟩, rfl⟩
    cases x <;> first
      | exact ⟨V, [], h, rfl, rfl⟩
      | (simp only [AVR, CR] at h; subst h; exact ⟨rfl, rfl⟩)
  | agg l =>
    obtain ⟨vs, h1, rfl⟩ := h
    exact ⟨h1, h1, by simp [Value.cells, AV.size, h1.length]⟩
  | ints k l n =>
    obtain ⟨h1, rfl⟩ := h
    exact ⟨⟨h1, rfl⟩, CsR.ints k l, by simp [Value.cells, AV.size, h1]⟩

theorem bodyFor_ok {t : TypeId} {v : AV} {V : Value} (h : AVR ρ v V) : BodyR ρ (bodyFor P t v) V.cells.toList := by
  obtain ⟨h1, h2, _⟩ := h.cells
  unfold bodyFor
  split
  · exact h1
  · exact h2
  · exact h2
  · exact h2

theorem over_length {α : Type} (l : List α) (off : Nat) (x : List α) (h : off + x.length ≤ l.length) : (over l off x).length = l.length := by
  simp [over]; omega

theorem CsR.over {l x : List Cell} {vs us : List Value} (h : CsR ρ l vs) (g : CsR ρ x us) (off : Nat) : CsR ρ (over l off x) (Sx.over vs off us) := by
  unfold Sx.over
  rw [g.length]
  exact ((h.take off).append g).append (h.drop _)

theorem Body.set_ok {b b' : Body} {off : Nat} {v : AV} (h : b.set off v = some b') {vs : List Value} (hb : BodyR ρ b vs) {V : Value} (hv : AVR ρ v V) :
    off + V.cells.toList.length ≤ vs.length ∧ BodyR ρ b' (over vs off V.cells.toList) := by
  have hl := hb.length
  obtain ⟨c1, c2, c3⟩ := hv.cells
  have c3' : V.cells.toList.length = v.size := by simpa using c3
  cases b with
  | cells l =>
    simp only [Body.set] at h
    split at h
    · rename_i hc
      simp only [Option.some.injEq] at h; subst h
      exact ⟨by simp [Body.size] at hl; omega, CsR.over hb c2 off⟩
    · cases h
  | bools l n =>
    obtain ⟨h1, rfl⟩ := hb
    cases v with
    | agg l' => simp [Body.set] at h
    | ints => simp [Body.set] at h
    | c x =>
      cases x <;> simp only [Body.set] at h <;> try (cases h; done)
      split at h
      · rename_i hc
        simp only [Option.some.injEq] at h; subst h
        simp only [AVR, CR] at hv; subst hv
        refine ⟨by simp [Value.cells]; omega, by simp [h1], ?_⟩
        simp only [Value.cells, over, List.length_cons, List.length_nil]
        apply List.ext_getElem?
        intro i
        have hlt : off < l.length := by omega
        simp only [List.getElem?_map, List.getElem?_set, List.append_assoc, List.getElem?_append, List.length_take, List.length_map, Nat.min_eq_left (Nat.le_of_lt hlt), List.getElem?_take, List.getElem?_drop]
        by_cases h2 : i < off
        · have : off ≠ i := by omega
          simp [h2, this]
        · by_cases h3 : i = off
          · subst h3; simp [hlt]
          · have h4 : off ≠ i := by omega
            have h5 : ¬ i - off < 1 := by omega
            simp only [h2, h4, if_false, List.length_singleton, h5, Nat.zero_add]
            rw [show off + 1 + (i - off - 1) = i by omega]
      · cases h
  | ints k l n =>
    obtain ⟨h1, rfl⟩ := hb
    cases v with
    | agg l' => simp [Body.set] at h
    | c x =>
      cases x <;> simp only [Body.set] at h <;> try (cases h; done)
      rename_i k' z
      split at h
      · rename_i hc
        obtain ⟨rfl, hc⟩ := hc
        simp only [Option.some.injEq] at h; subst h
        simp only [AVR, CR] at hv; subst hv
        refine ⟨by simp [Value.cells]; omega, by simp [h1], ?_⟩
        simp only [Value.cells, over, List.length_cons, List.length_nil]
        apply List.ext_getElem?
        intro i
        have hlt : off < l.length := by omega
        simp only [List.getElem?_map, List.getElem?_set, List.append_assoc, List.getElem?_append, List.length_take, List.length_map, Nat.min_eq_left (Nat.le_of_lt hlt), List.getElem?_take, List.getElem?_drop]
        by_cases h2 : i < off
        · have : off ≠ i := by omega
          simp [h2, this]
        · by_cases h3 : i = off
          · subst h3; simp [hlt]
          · have h4 : off ≠ i := by omega
            have h5 : ¬ i - off < 1 := by omega
            simp only [h2, h4, if_false, List.length_singleton, h5, Nat.zero_add]
            rw [show off + 1 + (i - off - 1) = i by omega]
      · cases h
    | ints k' x m =>
      simp only [Body.set] at h
      split at h
      · rename_i hc
        obtain ⟨rfl, hc⟩ := hc
        simp only [Option.some.injEq] at h; subst h
        obtain ⟨h2, rfl⟩ := hv
        refine ⟨by simp [Value.cells]; omega, ?_, ?_⟩
        · rw [over_length _ _ _ (by omega)]; exact h1
        · simp [Value.cells, over, List.map_append, List.map_take, List.map_drop]
      · cases h

/-! ## Stores -/
theorem setRow_WrW {b : Nat} {arr cs : Array Value} {t : TypeId} {fr : Nat × Nat} (h : w.heap[b]? = some (.cells arr t fr)) : WrW w b (.cells cs t fr) (w.setRow b cs) where
  size := by simp
  at_ := setRow_heap w b arr cs t fr h
  other := fun i hi => by simp [World.setRow, Array.getElem?_modify, Ne.symm hi]
  os := rfl
  tape := rfl
  out := rfl

/-- cells laid into a block of our own -/
theorem run_storeRow {b off : Nat} {vs tail : List Value} {t : TypeId} (h : w.heap[b]? = some (.cells (vs ++ tail).toArray t (0, 0))) (us : List Value) (hl : off + us.length ≤ vs.length) (h1 : ∀ v ∈ us, v.oneCell' = true) :
    ∃ w', (storeCells ⟨b, off, none⟩ us).run P w = .ok () w' ∧ WrW w b (.cells (over vs off us ++ tail).toArray t (0, 0)) w' := by
  refine ⟨_, run_storeCells_at P b off t us 0 _ w h (by simp; omega) h1, ?_⟩
  have e : (List.take (off + 0) (vs ++ tail).toArray.toList ++ us ++ List.drop (off + 0 + us.length) (vs ++ tail).toArray.toList) = over vs off us ++ tail := by
    simp only [Nat.add_zero, over]
    rw [List.take_append_of_le_length (by omega), List.drop_append_of_le_length (by omega)]
    simp
  rw [e]
  exact setRow_WrW h

end Go.Sx
