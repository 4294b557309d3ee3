/-
  Parts of the executor Sx over the model's code (any program), or of this seat's walks: words and proofs that the row's text uses.
-/
import Derived.Test.YtpenbfjpfmbgaaaGreatSxX
import Derived.Test.YtpenbfjpfmbgaaaGreatSxU
import Derived.Test.YtpenbfjpfmbgaaaGreatSxY
namespace Go.Sx
open Go.RowKit
variable {P : Program}
/-! ## A closed call's end, written out: what is kept of it -/
def eqIs : List Int → List Int → Bool := beqL
def eqCl : Cell → Cell → Bool
  | .int k a, .int k' b => decide (k = k') && beqI a b
  | .bool a, .bool b => match a, b with | true, true => true | false, false => true | _, _ => false
  | .str a, .str b => decide (a = b)
  | .ptr0, .ptr0 => true
  | .ptr a b, .ptr c d => Nat.beq a c && Nat.beq b d
  | .sl0, .sl0 => true
  | .sl a b c d, .sl a' b' c' d' => Nat.beq a a' && (Nat.beq b b' && (Nat.beq c c' && Nat.beq d d'))
  | .slu a b c d, .slu a' b' c' d' => Nat.beq a a' && (Nat.beq b b' && (Nat.beq c c' && Nat.beq d d'))
  | .map0, .map0 => true
  | .map a, .map b => Nat.beq a b
  | .fn0, .fn0 => true
  | _, _ => false
theorem nbeq_eq {a b : Nat} (h : Nat.beq a b = true) : a = b := Nat.eq_of_beq_eq_true h
theorem eqCl_ok {a b : Cell} (h : eqCl a b = true) : a = b := by
  unfold eqCl at h
  split at h <;> try (cases h; done)
  · simp only [Bool.and_eq_true, decide_eq_true_eq, beqI_eq, beq_iff_eq] at h; rw [h.1, h.2]
  · split at h <;> first | rfl | cases h
  · simp only [decide_eq_true_eq] at h; rw [h]
  · rfl
  · simp only [Bool.and_eq_true] at h; rw [nbeq_eq h.1, nbeq_eq h.2]
  · rfl
  · simp only [Bool.and_eq_true] at h; rw [nbeq_eq h.1, nbeq_eq h.2.1, nbeq_eq h.2.2.1, nbeq_eq h.2.2.2]
  · simp only [Bool.and_eq_true] at h; rw [nbeq_eq h.1, nbeq_eq h.2.1, nbeq_eq h.2.2.1, nbeq_eq h.2.2.2]
  · rfl
  · rw [nbeq_eq h]
  · rfl
def eqLs {α : Type} (f : α → α → Bool) : List α → List α → Bool
  | [], [] => true
  | x :: xs, y :: ys => match f x y with | true => eqLs f xs ys | false => false
  | _, _ => false
theorem eqLs_ok {α : Type} {f : α → α → Bool} (hf : ∀ a b, f a b = true → a = b) : ∀ {l m : List α}, eqLs f l m = true → l = m
  | [], [], _ => rfl
  | x :: xs, y :: ys, h => by
    unfold eqLs at h
    split at h
    · rename_i h1; rw [hf _ _ h1, eqLs_ok hf h]
    · cases h
  | [], _ :: _, h => by cases h
  | _ :: _, [], h => by cases h
theorem beqL_ok {l m : List Int} (h : beqL l m = true) : l = m := by simpa [beqL_eq] using h
def eqAv : AV → AV → Bool
  | .c a, .c b => eqCl a b
  | .agg a, .agg b => eqLs eqCl a b
  | .ints k a n, .ints k' b n' => decide (k = k') && (Nat.beq n n' && beqL a b)
  | _, _ => false
theorem eqAv_ok {a b : AV} (h : eqAv a b = true) : a = b := by
  unfold eqAv at h
  split at h <;> try (cases h; done)
  · rw [eqCl_ok h]
  · rw [eqLs_ok (fun _ _ => eqCl_ok) h]
  · simp only [Bool.and_eq_true, decide_eq_true_eq] at h; rw [h.1, nbeq_eq h.2.1, beqL_ok h.2.2]
def eqRv : RV → RV → Bool
  | .one a, .one b => eqAv a b
  | .tup a, .tup b => eqLs eqAv a b
  | _, _ => false
theorem eqRv_ok {a b : RV} (h : eqRv a b = true) : a = b := by
  unfold eqRv at h
  split at h <;> try (cases h; done)
  · rw [eqAv_ok h]
  · rw [eqLs_ok (fun _ _ => eqAv_ok) h]
def eqBd : Body → Body → Bool
  | .cells a, .cells b => eqLs eqCl a b
  | .ints k a n, .ints k' b n' => decide (k = k') && (Nat.beq n n' && beqL a b)
  | _, _ => false
theorem eqBd_ok {a b : Body} (h : eqBd a b = true) : a = b := by
  unfold eqBd at h
  split at h <;> try (cases h; done)
  · rw [eqLs_ok (fun _ _ => eqCl_ok) h]
  · simp only [Bool.and_eq_true, decide_eq_true_eq] at h; rw [h.1, nbeq_eq h.2.1, beqL_ok h.2.2]
def eqOn : Option Nat → Option Nat → Bool
  | some a, some b => Nat.beq a b
  | none, none => true
  | _, _ => false
theorem eqOn_ok {a b : Option Nat} (h : eqOn a b = true) : a = b := by
  unfold eqOn at h
  split at h <;> try (cases h; done)
  · rw [nbeq_eq h]
  · rfl
def eqEn (a b : Cell × AV) : Bool := eqCl a.1 b.1 && eqAv a.2 b.2
theorem eqEn_ok {a b : Cell × AV} (h : eqEn a b = true) : a = b := by
  simp only [eqEn, Bool.and_eq_true] at h
  exact Prod.ext (eqCl_ok h.1) (eqAv_ok h.2)
def eqBk : Blk → Blk → Bool
  | .row t ro o b, .row t' ro' o' b' => Nat.beq t t' && ((match ro, ro' with | true, true => true | false, false => true | _, _ => false) && (eqOn o o' && eqBd b b'))
  | .map a, .map b => eqLs eqEn a b
  | _, _ => false
theorem eqBk_ok {a b : Blk} (h : eqBk a b = true) : a = b := by
  unfold eqBk at h
  split at h <;> try (cases h; done)
  · simp only [Bool.and_eq_true] at h
    obtain ⟨h1, h2, h3, h4⟩ := h
    rw [nbeq_eq h1, eqOn_ok h3, eqBd_ok h4]
    split at h2 <;> first | rfl | cases h2
  · rw [eqLs_ok (fun _ _ => eqEn_ok) h]
noncomputable def hasL (hp : T Blk) : List (Nat × Blk) → Bool
  | [] => true
  | (n, b) :: l => match hp.get n with
    | some x => match eqBk x b with | true => hasL hp l | false => false
    | none => false
theorem hasL_ok {hp : T Blk} : ∀ {l : List (Nat × Blk)}, hasL hp l = true → ∀ p ∈ l, hp.get p.1 = some p.2
  | [], _, p, hp => by cases hp
  | (n, b) :: l, h, p, hm => by
    unfold hasL at h
    split at h <;> try (cases h; done)
    rename_i x hx
    split at h <;> try (cases h; done)
    rename_i he
    rcases List.mem_cons.1 hm with rfl | hm
    · rw [← eqBk_ok he]; exact hx
    · exact hasL_ok h p hm
noncomputable def layL {β : Type} : List (Nat × Blk) → T Blk → (T Blk → Option β) → Option β
  | [], t, k => k t
  | (n, b) :: l, t, k => fBlk b fun b => T.set depth t n (some b) fun t => layL l t k
theorem layL_ok {β : Type} : ∀ {l : List (Nat × Blk)} {t : T Blk} {k : T Blk → Option β} {r : β}, layL l t k = some r → ∃ t', k t' = some r ∧ ∀ i x, t'.get i = some x → (i, x) ∈ l ∨ t.get i = some x
  | [], t, k, r, h => ⟨t, h, fun _ _ h => .inr h⟩
  | (n, b) :: l, t, k, r, h => by
    unfold layL at h
    rw [fBlk_eq] at h
    obtain ⟨t1, h1, q⟩ := T.set_ok _ _ _ _ _ _ h
    obtain ⟨t2, h2, q2⟩ := layL_ok h1
    refine ⟨t2, h2, fun i x hx => ?_⟩
    rcases q2 i x hx with h3 | h3
    · exact .inl (List.mem_cons_of_mem _ h3)
    · rw [q] at h3
      split at h3
      · rename_i e; cases h3; subst e; exact .inl (List.mem_cons_self ..)
      · exact .inr h3
/-- a call from nothing: its end is told at once -/
noncomputable def cutSum (args0 : List RV) (V : RV) (H : List (Nat × Blk)) (N : Nat) : Sum := fun args hp nx =>
  match hp with
  | .nil => match Nat.beq nx 0 && (eqLs eqRv args args0 && H.all fun p => Nat.blt p.1 N) with
    | true => layL H .nil fun t => fRV V fun v => some (v, t, N, [])
    | false => none
  | _ => none
noncomputable def cutEnd (V : RV) (H : List (Nat × Blk)) (N : Nat) (v : RV) (s : S) : Option RV :=
  match eqRv v V && (Nat.beq s.nx N && hasL s.hp H) with
  | true => some und
  | false => none
theorem cutSum_ok {Sg : FuncId → Option Sum} (F : Fit P Sg) {fuel : Nat} {g : FuncId} {args0 : List RV} {V : RV} {H : List (Nat × Blk)} {N : Nat} (hrun : runF P Sg true fuel g args0 s0 (cutEnd V H N) = some und)
    (args : List RV) (s : S) (v : RV) (hp : T Blk) (nx : Nat) (lg : List Nat) (ht : Top s) (h : cutSum args0 V H N args s.hp s.nx = some (v, hp, nx, lg)) :
    CallInfo P g args s v { s with hp := hp, nx := nx, lg := lg ++ s.lg } lg := by
  unfold cutSum at h
  split at h <;> try (cases h; done)
  rename_i hhp
  split at h <;> try (cases h; done)
  rename_i hc
  simp only [Bool.and_eq_true] at hc
  obtain ⟨hn, ha, hlt⟩ := hc
  have hn := nbeq_eq hn
  have ha := eqLs_ok (fun _ _ => eqRv_ok) ha
  subst ha
  obtain ⟨t', h1, q⟩ := layL_ok h
  rw [fRV_eq] at h1
  simp only [Option.some.injEq, Prod.mk.injEq] at h1
  obtain ⟨rfl, rfl, rfl, rfl⟩ := h1
  rw [runF_eq] at hrun
  obtain ⟨v1, s1, L, k1, ci⟩ := runB_info F (fun nm _ => T.get_nil nm) hrun
  unfold cutEnd at k1
  split at k1 <;> try (cases k1; done)
  rename_i hc
  simp only [Bool.and_eq_true] at hc
  obtain ⟨c1, c2, c3⟩ := hc
  have c1 := eqRv_ok c1
  have c2 := nbeq_eq c2
  subst c1 c2
  have hget : ∀ i x, t'.get i = some x → s1.hp.get i = some x := fun i x hx => by
    rcases q i x hx with h | h
    · exact hasL_ok c3 _ h
    · rw [T.get_nil] at h; cases h
  refine ⟨ci.fn, rfl, ⟨rfl, by show s.nx ≤ s1.nx; rw [hn]; exact Nat.zero_le _, fun nm h => by rw [hn] at h; omega, fun nm hnm => ?_, fun nm h => by cases h⟩, fun ρ w vs hr hf ha => ?_⟩
  · show t'.get nm = none
    cases hx : t'.get nm with
    | none => rfl
    | some x =>
      rcases q nm x hx with h | h
      · rw [List.all_eq_true] at hlt
        have := hlt _ h
        simp only [Nat.blt_eq] at this
        have hnm' : s1.nx ≤ nm := hnm
        omega
      · rw [T.get_nil] at h; cases h
  · have hr0 : HRel ρ s0.hp.get w := by rw [hhp] at hr; exact hr
    have hf0 : Fresh ρ s0.nx := by rw [hn] at hf; exact hf
    refine (ci.run ρ w vs hr0 hf0 ha).mono fun e w' ⟨V', ρ', e1, e2, e3, e4, st⟩ => ⟨V', ρ', e1, e2, ⟨fun nm x hx => e3.ok nm x (hget nm x hx), fun nm nm' x y b c c' hx hy => e3.inj nm nm' x y b c c' (hget _ _ hx) (hget _ _ hy)⟩, e4, ?_⟩
    show Stp ρ s.hp.get s.nx w ρ' t'.get s1.nx w' []
    rw [hn]
    exact ⟨Nat.zero_le _, (fun nm h => by omega), (fun nm h => by omega), st.size, fun b hb _ => st.frame b hb fun nm c _ h => absurd h (Nat.not_lt_zero _), (fun nm b c h1 h2 => (st.new nm b c h1 h2).elim .inl fun ⟨nm0, _, _, h, _⟩ => absurd h (Nat.not_lt_zero _)), (fun nm h => by cases h), st.os, st.tape, st.out⟩

/-! ### .. of a call from some blocks -/
noncomputable def dropL {β : Type} : List Nat → T Blk → (T Blk → Option β) → Option β
  | [], t, k => k t
  | n :: l, t, k => T.set depth t n none fun t => dropL l t k
theorem dropL_ok {β : Type} : ∀ {l : List Nat} {t : T Blk} {k : T Blk → Option β} {r : β}, dropL l t k = some r → ∃ t', k t' = some r ∧ ∀ i, t'.get i = if i ∈ l then none else t.get i
  | [], t, k, r, h => ⟨t, h, fun _ => by simp⟩
  | n :: l, t, k, r, h => by
    unfold dropL at h
    obtain ⟨t1, h1, q⟩ := T.set_ok _ _ _ _ _ _ h
    obtain ⟨t2, h2, q2⟩ := dropL_ok h1
    refine ⟨t2, h2, fun i => ?_⟩
    rw [q2, q]
    by_cases e : i = n
    · subst e; simp
    · simp [e]
theorem layL_out {β : Type} : ∀ {l : List (Nat × Blk)} {t : T Blk} {k : T Blk → Option β} {r : β}, layL l t k = some r → ∃ t', k t' = some r ∧ (∀ i x, t'.get i = some x → (i, x) ∈ l ∨ t.get i = some x) ∧ (∀ i, i ∉ l.map Prod.fst → t'.get i = t.get i) ∧ (∀ i, i ∈ l.map Prod.fst → ∃ x, t'.get i = some x ∧ (i, x) ∈ l)
  | [], t, k, r, h => ⟨t, h, fun _ _ h => .inr h, fun _ _ => rfl, fun i h => by cases h⟩
  | (n, b) :: l, t, k, r, h => by
    unfold layL at h
    rw [fBlk_eq] at h
    obtain ⟨t1, h1, q⟩ := T.set_ok _ _ _ _ _ _ h
    obtain ⟨t2, h2, q2, q3, q4⟩ := layL_out h1
    refine ⟨t2, h2, fun i x hx => ?_, fun i hi => ?_, fun i hi => ?_⟩
    · rcases q2 i x hx with h3 | h3
      · exact .inl (List.mem_cons_of_mem _ h3)
      · rw [q] at h3
        split at h3
        · rename_i e; cases h3; subst e; exact .inl (List.mem_cons_self ..)
        · exact .inr h3
    · simp only [List.map_cons, List.mem_cons, not_or] at hi
      rw [q3 i hi.2, q, if_neg hi.1]
    · by_cases hl : i ∈ l.map Prod.fst
      · obtain ⟨x, h5, h6⟩ := q4 i hl
        exact ⟨x, h5, List.mem_cons_of_mem _ h6⟩
      · have : i = n := by
          simp only [List.map_cons, List.mem_cons] at hi
          exact hi.resolve_right hl
        subst this
        exact ⟨b, by rw [q3 i hl, q, if_pos rfl], List.mem_cons_self ..⟩
noncomputable def treeL (H : List (Nat × Blk)) : T Blk := match layL H .nil some with | some t => t | none => .nil
/-- what is asked once -/
noncomputable def sideL (args0 : List RV) (H1 : List (Nat × Blk)) (N1 : Nat) (H2 : List (Nat × Blk)) (N2 : Nat) : Bool :=
  hasL (treeL H1) H1 && (hasL (treeL H2) H2 && (args0.all (inR N1) && (Nat.ble N1 N2 && ((H1.all fun p => Nat.blt p.1 N1 && inB N1 p.2) && (hasL (treeL H2) (H1.filter fun p => !p.2.wr) && (H2.all fun p => Nat.blt p.1 N2 && (Nat.ble N1 p.1 || (H1.any fun q => Nat.beq q.1 p.1))))))))
/-- those that may be turned -/
def wrN (H : List (Nat × Blk)) : List Nat := (H.filter fun p => p.2.wr).map Prod.fst
theorem mem_wrN {H : List (Nat × Blk)} {i : Nat} : i ∈ wrN H ↔ ∃ x, (i, x) ∈ H ∧ x.wr = true := by
  unfold wrN
  simp only [List.mem_map, List.mem_filter]
  constructor
  · rintro ⟨p, ⟨h1, h2⟩, rfl⟩; exact ⟨p.2, h1, h2⟩
  · rintro ⟨x, h1, h2⟩; exact ⟨(i, x), ⟨h1, h2⟩, rfl⟩
noncomputable def goneL (hp : T Blk) (H2 : List (Nat × Blk)) : List (Nat × Blk) → Bool
  | [] => true
  | p :: l => (match H2.any (fun q => Nat.beq q.1 p.1) with | true => true | false => (match hp.get p.1 with | none => true | some _ => false)) && goneL hp H2 l
theorem goneL_ok {hp : T Blk} {H2 : List (Nat × Blk)} : ∀ {l : List (Nat × Blk)}, goneL hp H2 l = true → ∀ p ∈ l, p.1 ∉ H2.map Prod.fst → hp.get p.1 = none
  | [], _, p, hp, _ => by cases hp
  | q :: l, h, p, hm, hn => by
    simp only [goneL, Bool.and_eq_true] at h
    rcases List.mem_cons.1 hm with rfl | hm
    · have h1 := h.1
      split at h1
      · rename_i ha
        rw [List.any_eq_true] at ha
        obtain ⟨x, hx, he⟩ := ha
        exact absurd (List.mem_map.2 ⟨x, hx, nbeq_eq he⟩) hn
      · split at h1
        · assumption
        · cases h1
    · exact goneL_ok h.2 p hm hn
noncomputable def cutEnd2 (V : RV) (H1 H2 : List (Nat × Blk)) (N : Nat) (v : RV) (s : S) : Option RV :=
  match eqRv v V && (Nat.beq s.nx N && (hasL s.hp H2 && goneL s.hp H2 H1)) with
  | true => some und
  | false => none
noncomputable def cutSum2 (args0 : List RV) (H1 : List (Nat × Blk)) (N1 : Nat) (V : RV) (H2 : List (Nat × Blk)) (N2 : Nat) : Sum := fun args hp nx =>
  match Nat.beq nx N1 && (eqLs eqRv args args0 && hasL hp H1) with
  | true => dropL (wrN H1) hp fun t => layL H2 t fun t => fRV V fun v => some (v, t, N2, wrN H1)
  | false => none
theorem treeL_get {H : List (Nat × Blk)} (h : hasL (treeL H) H = true) : (∀ i x, (treeL H).get i = some x → (i, x) ∈ H) ∧ ∀ p ∈ H, (treeL H).get p.1 = some p.2 := by
  refine ⟨fun i x hx => ?_, hasL_ok h⟩
  unfold treeL at hx
  split at hx
  · rename_i t ht
    obtain ⟨t', h1, h2⟩ := layL_ok ht
    cases h1
    rcases h2 i x hx with h | h
    · exact h
    · rw [T.get_nil] at h; cases h
  · rw [T.get_nil] at hx; cases hx
theorem renB_idf (x : Blk) : renB (fun i => i) x = x := by
  have hc : ∀ c : Cell, renC (fun i => i) c = c := fun c => by cases c <;> simp [renC]
  have ha : ∀ a : AV, renA (fun i => i) a = a := fun a => by
    cases a with
    | c x => simp [renA, hc]
    | agg l => simp only [renA]; rw [show List.map (renC fun i => i) l = l from (List.map_congr_left fun c _ => hc c).trans (List.map_id _)]
    | ints => rfl
  have hr : ∀ r : RV, renR (fun i => i) r = r := fun r => by
    cases r with
    | one v => simp [renR, ha]
    | tup l => simp only [renR]; rw [show List.map (renA fun i => i) l = l from (List.map_congr_left fun c _ => ha c).trans (List.map_id _)]
    | any => rfl
  have he : ∀ es : List (Cell × AV), renE (fun i => i) es = es := fun es => by
    unfold renE
    exact (List.map_congr_left fun p _ => by rw [hc, ha]; rfl).trans (List.map_id _)
  cases x with
  | row t ro o b =>
    cases b with
    | cells l => simp only [renB]; rw [show List.map (renC fun i => i) l = l from (List.map_congr_left fun c _ => hc c).trans (List.map_id _)]
    | ints => rfl
  | map es => simp only [renB, he]
  | mapR es => simp only [renB, he]
  | mapP es => simp only [renB, he]
  | loop st sl ps as bd => simp only [renB]; rw [show List.map (renR fun i => i) sl = sl from (List.map_congr_left fun c _ => hr c).trans (List.map_id _)]
  | _ => rfl
theorem renR_idf (x : RV) : renR (fun i => i) x = x := by
  have hc : ∀ c : Cell, renC (fun i => i) c = c := fun c => by cases c <;> simp [renC]
  have ha : ∀ a : AV, renA (fun i => i) a = a := fun a => by
    cases a with
    | c x => simp [renA, hc]
    | agg l => simp only [renA]; rw [show List.map (renC fun i => i) l = l from (List.map_congr_left fun c _ => hc c).trans (List.map_id _)]
    | ints => rfl
  cases x with
  | one v => simp [renR, ha]
  | tup l => simp only [renR]; rw [show List.map (renA fun i => i) l = l from (List.map_congr_left fun c _ => ha c).trans (List.map_id _)]
  | any => rfl
theorem cutSmall {Sg : FuncId → Option Sum} (F : Fit P Sg) {fuel : Nat} {g : FuncId} {args0 : List RV} {V : RV} {H1 H2 : List (Nat × Blk)} {N1 N2 : Nat} (hside : sideL args0 H1 N1 H2 N2 = true)
    (hrun : runF P Sg true fuel g args0 ⟨.nil, treeL H1, N1, []⟩ (cutEnd2 V H1 H2 N2) = some und) : SmallN P g args0 N1 (treeL H1) N2 (treeL H2) V ∧ ∃ fn, P.funcs[g]? = some fn ∧ fn.body.isNone = false := by
  simp only [sideL, Bool.and_eq_true] at hside
  obtain ⟨s1, s2, s3, s4, s5, s7, s6⟩ := hside
  obtain ⟨g1, g2⟩ := treeL_get s1
  obtain ⟨g3, g4⟩ := treeL_get s2
  rw [List.all_eq_true] at s5 s6
  have htop : Top ⟨.nil, treeL H1, N1, []⟩ := fun nm hnm => by
    have hnm' : N1 ≤ nm := hnm
    show (treeL H1).get nm = none
    cases hx : (treeL H1).get nm with
    | none => rfl
    | some x =>
      have := s5 _ (g1 nm x hx)
      simp only [Bool.and_eq_true, Nat.blt_eq] at this
      omega
  rw [runF_eq] at hrun
  obtain ⟨v1, t1, L, k1, ci⟩ := runB_info F htop hrun
  unfold cutEnd2 at k1
  split at k1 <;> try (cases k1; done)
  rename_i hc
  simp only [Bool.and_eq_true] at hc
  obtain ⟨c1, c2, c3, c4⟩ := hc
  have c1 := eqRv_ok c1
  have c2 := nbeq_eq c2
  subst c1
  have hget : ∀ i x, (treeL H2).get i = some x → t1.hp.get i = some x := fun i x hx => hasL_ok c3 _ (g3 i x hx)
  have hmem : ∀ i, i ∈ H2.map Prod.fst → ∃ x, (treeL H2).get i = some x := fun i hi => by
    obtain ⟨p, hp, rfl⟩ := List.mem_map.1 hi
    exact ⟨_, g4 p hp⟩
  refine ⟨fun ρ w vs hr hf ha => ?_, ci.fn⟩
  refine (ci.run ρ w vs hr hf ha).mono fun e w' ⟨V', ρ', e1, e2, e3, e4, st⟩ => ⟨V', ρ', L, e1, e2, ⟨fun nm x hx => e3.ok nm x (hget nm x hx), fun nm nm' x y b c c' hx hy => e3.inj nm nm' x y b c c' (hget _ _ hx) (hget _ _ hy)⟩, by rw [← c2]; exact e4, ?_⟩
  refine ⟨Nat.le_of_ble_eq_true s4, st.rho, fun nm h1 h2 => ?_, st.size, st.frame, st.new, st.own, st.os, st.tape, st.out⟩
  have hk : t1.hp.get nm = (treeL H1).get nm := st.keep nm h1 h2
  cases hx : (treeL H1).get nm with
  | none =>
    cases hy : (treeL H2).get nm with
    | none => rfl
    | some y =>
      have := hget nm y hy
      rw [hk, hx] at this; cases this
  | some x =>
    have hm := g1 nm x hx
    cases hy : (treeL H2).get nm with
    | some y =>
      have := hget nm y hy
      rw [hk, hx] at this; exact this.symm
    | none =>
      have hn : nm ∉ H2.map Prod.fst := fun hi => by
        obtain ⟨y, h⟩ := hmem nm hi
        rw [hy] at h; cases h
      have := goneL_ok c4 _ hm hn
      rw [hk, hx] at this; cases this
theorem cutSum2_ok {Sg : FuncId → Option Sum} (F : Fit P Sg) {fuel : Nat} {g : FuncId} {args0 : List RV} {V : RV} {H1 H2 : List (Nat × Blk)} {N1 N2 : Nat} (hside : sideL args0 H1 N1 H2 N2 = true)
    (hrun : runF P Sg true fuel g args0 ⟨.nil, treeL H1, N1, []⟩ (cutEnd2 V H1 H2 N2) = some und)
    (args : List RV) (s : S) (v : RV) (hp : T Blk) (nx : Nat) (lg : List Nat) (ht : Top s) (h : cutSum2 args0 H1 N1 V H2 N2 args s.hp s.nx = some (v, hp, nx, lg)) :
    CallInfo P g args s v { s with hp := hp, nx := nx, lg := lg ++ s.lg } lg := by
  obtain ⟨hC, hfn⟩ := cutSmall F hside hrun
  unfold cutSum2 at h
  split at h <;> try (cases h; done)
  rename_i hc
  simp only [Bool.and_eq_true] at hc
  obtain ⟨hn, ha, hh⟩ := hc
  have hn := nbeq_eq hn
  have ha := eqLs_ok (fun _ _ => eqRv_ok) ha
  subst ha
  obtain ⟨t1, h1, q1⟩ := dropL_ok h
  obtain ⟨t2, h2, q2, q3, q4⟩ := layL_out h1
  rw [fRV_eq] at h2
  simp only [Option.some.injEq, Prod.mk.injEq] at h2
  obtain ⟨rfl, rfl, rfl, rfl⟩ := h2
  have hside' := hside
  simp only [sideL, Bool.and_eq_true] at hside'
  obtain ⟨s1, s2, s3, s4, s5, s7, s6⟩ := hside'
  obtain ⟨g1, g2⟩ := treeL_get s1
  obtain ⟨g3, g4⟩ := treeL_get s2
  rw [List.all_eq_true] at s5 s6
  have s4 := Nat.le_of_ble_eq_true s4
  have hlay : ∀ i, i ∈ H2.map Prod.fst → t2.get i = (treeL H2).get i := fun i hi => by
    obtain ⟨x, h5, h6⟩ := q4 i hi
    rw [h5, g4 _ h6]
  have hnot : ∀ i, i ∉ H2.map Prod.fst → (treeL H2).get i = none := fun i hi => by
    cases hx : (treeL H2).get i with
    | none => rfl
    | some x => exact absurd (List.mem_map.2 ⟨_, g3 i x hx, rfl⟩) hi
  have hsub : ∀ i, i ∈ H2.map Prod.fst → i < N1 → i ∈ H1.map Prod.fst := fun i hi hlt => by
    obtain ⟨p, hp, rfl⟩ := List.mem_map.1 hi
    have := s6 p hp
    simp only [Bool.and_eq_true, Bool.or_eq_true] at this
    rcases this.2 with h | h
    · have := Nat.le_of_ble_eq_true h; omega
    · rw [List.any_eq_true] at h
      obtain ⟨q, hq, he⟩ := h
      exact List.mem_map.2 ⟨q, hq, nbeq_eq he⟩
  have hlt2 : ∀ i, i ∈ H2.map Prod.fst → i < N2 := fun i hi => by
    obtain ⟨p, hp, rfl⟩ := List.mem_map.1 hi
    have := s6 p hp
    simp only [Bool.and_eq_true, Nat.blt_eq] at this
    exact this.1
  have hro : ∀ p ∈ H1, p.2.wr = false → (treeL H2).get p.1 = some p.2 := fun p hp hw => hasL_ok s7 p (List.mem_filter.2 ⟨hp, by rw [hw]; rfl⟩)
  have := CallInfo.frameN (P := P) (f := g) (args := args) (v := V) (θ := fun i => i) (s := s) (hp' := t2) (Lw := wrN H1) ht hfn hC s4 s3
    (fun i x hx => by
      have hm := g1 i x hx
      have := s5 _ hm
      simp only [Bool.and_eq_true, Nat.blt_eq] at this
      refine ⟨this.1, by rw [hn]; exact this.1, ?_⟩
      cases hw : x.wr with
      | true => exact .inl ⟨rfl, this.2, by rw [renB_idf]; exact hasL_ok hh _ hm⟩
      | false => exact .inr ⟨rfl, x, hasL_ok hh _ hm, hw, fun ρ c o hb => BlkR.small this.2 (by rw [renB_idf]; exact hb)⟩)
    (fun i j x y _ _ _ h => h)
    (fun i hi => by rw [hn]; omega)
    (fun nm h1 h2 => by
      have hnW : nm ∉ wrN H1 := fun hm => by
        obtain ⟨x, hx, hw⟩ := mem_wrN.1 hm
        exact h2 _ _ (g2 _ hx) hw rfl
      by_cases hi : nm ∈ H2.map Prod.fst
      · obtain ⟨p, hp, e⟩ := List.mem_map.1 (hsub nm hi (by rw [hn] at h1; exact h1))
        subst e
        have hw : p.2.wr = false := by
          cases hw : p.2.wr with
          | false => rfl
          | true => exact absurd (mem_wrN.2 ⟨p.2, hp, hw⟩) hnW
        rw [hlay _ hi, hro p hp hw, hasL_ok hh p hp]
      · rw [q3 nm hi, q1, if_neg hnW])
    (fun i x hx hw => by
      rw [show Option.map (renB fun i => i) ((treeL H2).get i) = (treeL H2).get i by cases (treeL H2).get i <;> simp [renB_idf]]
      by_cases hi : i ∈ H2.map Prod.fst
      · exact hlay i hi
      · rw [q3 i hi, hnot i hi, q1, if_pos (mem_wrN.2 ⟨x, g1 i x hx, hw⟩)])
    (fun nm hnm => by
      have hnH : nm ∉ wrN H1 := fun hm => by
        obtain ⟨x, hx, hw⟩ := mem_wrN.1 hm
        have := s5 _ hx
        simp only [Bool.and_eq_true, Nat.blt_eq] at this
        omega
      have hnone : s.hp.get nm = none := ht nm hnm
      rw [show nm - s.nx + N1 = nm by omega]
      rw [show Option.map (renB fun i => i) ((treeL H2).get nm) = (treeL H2).get nm by cases (treeL H2).get nm <;> simp [renB_idf]]
      by_cases hi : nm ∈ H2.map Prod.fst
      · rw [if_pos (by have := hlt2 nm hi; omega)]
        exact hlay nm hi
      · rw [q3 nm hi, q1, if_neg hnH, hnone, hnot nm hi]
        split <;> rfl)
    (fun nm => by
      constructor
      · intro hm
        obtain ⟨x, hx, hw⟩ := mem_wrN.1 hm
        exact ⟨nm, x, g2 _ hx, hw, rfl⟩
      · rintro ⟨i, x, hx, hw, rfl⟩
        exact mem_wrN.2 ⟨x, g1 i x hx, hw⟩)
  rw [show args.map (renR fun i => i) = args from (List.map_congr_left fun c _ => renR_idf c).trans (List.map_id _), renR_idf, show s.nx + (N2 - N1) = N2 by omega] at this
  exact this
end Go.Sx
