/-
  Parts of the executor Sx over the model's code (any program), or of this seat's walks: words and proofs that the row's text uses.
-/
import Derived.Test.YtfceckiklfkjkaaGreatR1
import Derived.Test.YtfceckiklfkjkaaGreatH1
import Derived.Test.YtfceckiklfkjkaaGreatSxT
namespace Go.Sx
open Go.Proofs Go.RowKit
set_option maxRecDepth 100000
noncomputable abbrev rFi_x0 (n : Nat) : Bool := decide ((↑n : Int) > 1)
noncomputable abbrev rFi_x1 (n : Nat) : Bool := decide (n ≠ 0)
noncomputable def rFi_t (t : TypeId) (L : List Int) (N n : Nat) (Q : RV → Prop) : Option Prop := (bif (rFi_x0 n) then ( (bif (rFi_x1 n) then ( (bif decide ((0 : Int) ≤ 0 ∧ (0 : Int) < (↑n : Int)) then ( (bif decide (64 ≤ N) then ( (bif isKb (List.take 64 (List.drop 0 L)) (↑n : Int) then ( some ((All [Bytes (List.take 64 (List.drop 0 L))] ∧ Q (RV.tup [AV.agg [Cell.int IntKind.i64 (oneG (List.take 64 (List.drop 0 L)) 4), Cell.int IntKind.i64 (oneG (List.take 64 (List.drop 0 L)) 6), Cell.int IntKind.i64 (oneG (List.take 64 (List.drop 0 L)) 8)], AV.c (Cell.int IntKind.i64 0), AV.c (Cell.int IntKind.i64 0)]))) ) else ( (bif (rFi_x0 n) then ( (bif (rFi_x1 n) then ( (bif decide ((0 : Int) ≤ 1 ∧ (1 : Int) < (↑n : Int)) then ( (bif decide (128 ≤ N) then ( (bif isKb (List.take 64 (List.drop 64 L)) (↑n : Int) then ( some ((All [Bytes (List.take 64 (List.drop 64 L)), Bytes (List.take 64 (List.drop 0 L))] ∧ Q (RV.tup [AV.agg [Cell.int IntKind.i64 (oneG (List.take 64 (List.drop 64 L)) 4), Cell.int IntKind.i64 (oneG (List.take 64 (List.drop 64 L)) 6), Cell.int IntKind.i64 (oneG (List.take 64 (List.drop 64 L)) 8)], AV.c (Cell.int IntKind.i64 1), AV.c (Cell.int IntKind.i64 0)]))) ) else ( some ((All [Bytes (List.take 64 (List.drop 64 L)), Bytes (List.take 64 (List.drop 0 L))] ∧ Q (RV.tup [AV.agg [Cell.int IntKind.i64 0, Cell.int IntKind.i64 0, Cell.int IntKind.i64 0], AV.c (Cell.int IntKind.i64 0), AV.c (Cell.int IntKind.i64 22)]))) )) ) else none) ) else none) ) else none) ) else ( some ((All [Bytes (List.take 64 (List.drop 0 L))] ∧ Q (RV.tup [AV.agg [Cell.int IntKind.i64 0, Cell.int IntKind.i64 0, Cell.int IntKind.i64 0], AV.c (Cell.int IntKind.i64 0), AV.c (Cell.int IntKind.i64 22)]))) )) )) ) else none) ) else none) ) else none) ) else ( some ((All [] ∧ Q (RV.tup [AV.agg [Cell.int IntKind.i64 0, Cell.int IntKind.i64 0, Cell.int IntKind.i64 0], AV.c (Cell.int IntKind.i64 0), AV.c (Cell.int IntKind.i64 22)]))) ))
theorem rFi_tree (t : TypeId) (L : List Int) (N n : Nat) (Q : RV → Prop) : rFi t L N n Q = rFi_t t L N n Q := by kernel_rfl
/-! ### Find f56, as a summary -/
theorem isKb_at (L : List Int) (n o : Nat) : isKb (blkAt L o) n = isK L n o := rfl
theorem Bytes.blk {L : List Int} (h : Bytes L) (o : Nat) : Bytes (blkAt L o) := fun x hx => h x (List.mem_of_mem_drop (List.mem_of_mem_take hx))
theorem oneG_of {b : List Int} {n : Int} (h : isKb b n = true) (i : Nat) : oneG b i = g16 (getP 1 b) i := by
  unfold isKb at h
  simp only [Bool.and_eq_true] at h
  unfold oneG sel
  rw [if_pos h.1, if_pos h.2.1]
theorem rFi_ok (t : TypeId) (L : List Int) (N n : Nat) (hl : L.length = N) (hN : N = 64 * n) (hy : Bytes L) {Q : RV → Prop} (hq : Q (.tup [.agg [.int .i64 (fndG L n 4), .int .i64 (fndG L n 6), .int .i64 (fndG L n 8)], .c (.int .i64 (fndK L n)), .c (.int .i64 (fndE L n))])) :
    Okp (rFi_t t L N n Q) := by
  have none' : fndOk L n = false → RV.tup [AV.agg [Cell.int IntKind.i64 0, Cell.int IntKind.i64 0, Cell.int IntKind.i64 0], AV.c (Cell.int IntKind.i64 0), AV.c (Cell.int IntKind.i64 22)] =
    .tup [.agg [.int .i64 (fndG L n 4), .int .i64 (fndG L n 6), .int .i64 (fndG L n 8)], .c (.int .i64 (fndK L n)), .c (.int .i64 (fndE L n))] := fun h => by
    unfold fndG fndK fndE; rw [h]; rfl
  have y0 := hy.blk 0
  have y1 := hy.blk 64
  unfold rFi_t rFi_x0 rFi_x1
  refine .fork (fun h => ?_) (fun h => ⟨trivial, ?_⟩)
  · have h2 : 2 ≤ n := by simp at h; omega
    refine .chk (by simp; omega) ?_
    refine .chk (by simp; omega) ?_
    refine .chk (by simp; omega) ?_
    refine .fork (fun h0 => ⟨⟨y0, trivial⟩, ?_⟩) (fun h0 => ?_)
    · have e := h0
      rw [show List.take 64 (List.drop 0 L) = blkAt L 0 from rfl] at e ⊢
      rw [oneG_of e, oneG_of e, oneG_of e]
      rw [isKb_at] at e
      have hok : fndOk L n = true := by unfold fndOk; rw [e]; simp; omega
      have : RV.tup [.agg [.int .i64 (fndG L n 4), .int .i64 (fndG L n 6), .int .i64 (fndG L n 8)], .c (.int .i64 (fndK L n)), .c (.int .i64 (fndE L n))] = .tup [.agg [.int .i64 (g16 (getP 1 (blkAt L 0)) 4), .int .i64 (g16 (getP 1 (blkAt L 0)) 6), .int .i64 (g16 (getP 1 (blkAt L 0)) 8)], .c (.int .i64 0), .c (.int .i64 0)] := by
        unfold fndG fndK fndE fndP sel; rw [hok, e]; simp
      rw [← this]; exact hq
    · refine .yes h ?_
      refine .chk (by simp; omega) ?_
      refine .chk (by simp; omega) ?_
      refine .chk (by simp; omega) ?_
      refine .fork (fun h1 => ⟨⟨y1, y0, trivial⟩, ?_⟩) (fun h1 => ⟨⟨y1, y0, trivial⟩, ?_⟩)
      · have e := h1
        have e0 := h0
        rw [show List.take 64 (List.drop 64 L) = blkAt L 64 from rfl] at e ⊢
        rw [show List.take 64 (List.drop 0 L) = blkAt L 0 from rfl, isKb_at] at e0
        rw [oneG_of e, oneG_of e, oneG_of e]
        rw [isKb_at] at e
        have hok : fndOk L n = true := by unfold fndOk; rw [e]; simp; omega
        have : RV.tup [.agg [.int .i64 (fndG L n 4), .int .i64 (fndG L n 6), .int .i64 (fndG L n 8)], .c (.int .i64 (fndK L n)), .c (.int .i64 (fndE L n))] = .tup [.agg [.int .i64 (g16 (getP 1 (blkAt L 64)) 4), .int .i64 (g16 (getP 1 (blkAt L 64)) 6), .int .i64 (g16 (getP 1 (blkAt L 64)) 8)], .c (.int .i64 1), .c (.int .i64 0)] := by
          unfold fndG fndK fndE fndP sel; rw [hok, e0]; simp
        rw [← this]; exact hq
      · have e1 : isK L n 64 = false := h1
        have e0 : isK L n 0 = false := h0
        rw [none' (by unfold fndOk; rw [e0, e1]; simp)]; exact hq
  · have h2 : ¬ 2 ≤ n := by simp at h; omega
    rw [none' (by unfold fndOk; simp; omega)]; exact hq
noncomputable def rFi0 (Q : RV → Prop) : Option Prop := runA Tryz.prog sgFi 300 67 [.one (.c (.sl 0 0 0 0))] ⟨.nil, .nil, 1, []⟩ αT fun v _ α => some (All α.ob ∧ Q v)
theorem rFi0_tree (Q : RV → Prop) : rFi0 Q = some (All [] ∧ Q find0) := by kernel_rfl
noncomputable def sumFindR : SumA := fun args hp nx => match args with
  | [.one (.c (.sl _ 0 0 0))] => some (find0, hp, nx, [], [])
  | [.one (.c (.slu nm 64 0 n))] => match getRow hp.get nm with
    | some (_, _, some 64, .ints .u8 L N) => some (.tup [.agg [.int .i64 (fndG L n 4), .int .i64 (fndG L n 6), .int .i64 (fndG L n 8)], .c (.int .i64 (fndK L n)), .c (.int .i64 (fndE L n))], hp, nx, [], [L.length = N, N = 64 * n, Bytes L])
    | _ => none
  | _ => none
theorem sumFindR_ok : SumAOK Tryz.prog 67 sumFindR := by
  intro args s v hp nx lg ps ht h hps
  unfold sumFindR at h
  split at h <;> try (cases h; done)
  · rename_i nm
    simp only [Option.some.injEq, Prod.mk.injEq] at h
    obtain ⟨rfl, rfl, rfl, rfl, rfl⟩ := h
    exact CallInfo.small (P := Tryz.prog) (f := 67) (args := [.one (.c (.sl 0 0 0 0))]) (v := find0) (k := 1) (hs := .nil) (θ := fun _ => nm) (s := s) ht ⟨_, Tryz.func67, rfl⟩
      (small_tree fitFi top_none (.of_eq (rFi0_tree _) (.some' ⟨trivial, rfl⟩))) (fun nm' x hx => by cases hx) (by rfl) (by rfl)
  · rename_i nm n
    split at h <;> try (cases h; done)
    rename_i t ro L N hrow
    simp only [Option.some.injEq, Prod.mk.injEq] at h
    obtain ⟨rfl, rfl, rfl, rfl, rfl⟩ := h
    have hh := getRow_some hrow
    exact CallInfo.small (P := Tryz.prog) (f := 67) (args := args43 n) (k := 1) (hs := hs43 t L N) (θ := fun _ => nm) (s := s) ht ⟨_, Tryz.func67, rfl⟩
      (small_tree fitFi top_one (.of_eq (rFi_tree t L N n _) (rFi_ok t L N n hps.1 hps.2.1 hps.2.2.1 rfl)))
      (fun nm' x hx => by
        obtain ⟨rfl, rfl⟩ := get_one hx
        exact ⟨by omega, _, hh, RoOf.ints⟩) (by rfl) (by rfl)
end Go.Sx

namespace Go.Sx
open Go.Proofs Go.RowKit
set_option maxRecDepth 100000
/-! ### the reference's image -/
abbrev StR : Type := List Int × List Bool × Int
noncomputable def rImg (a b c : Int) (n : Nat) (sc : Int) (st : StR) : T Blk := ofL [(0, .row 65 false none (.cells [.int .i64 a, .int .i64 b, .int .i64 c, .slu 1 64 0 n, .int .u32 sc, .sl 2 0 n n, .int .i64 st.2.2])), (1, .row 95 false (some 64) (.ints .u8 st.1 (64 * n))), (2, .row 4 false none (.bools st.2.1 n))]
theorem rImg_eq (a b c : Int) (n : Nat) (sc : Int) (st : StR) : rImg a b c n sc st = T.node (T.node .nil (some (.row 95 false (some 64) (.ints .u8 st.1 (64 * n)))) .nil) (some (.row 65 false none (.cells [.int .i64 a, .int .i64 b, .int .i64 c, .slu 1 64 0 n, .int .u32 sc, .sl 2 0 n n, .int .i64 st.2.2]))) (T.node .nil (some (.row 4 false none (.bools st.2.1 n))) .nil) := by kernel_rfl
def refWr (hp : Hp) (nm : Nat) : Option (Int × Int × Int × List Int × Nat × Nat × Int × Int × List Bool × Nat × Nat) :=
  match getRow hp nm with
  | some (65, false, none, .cells [.int .i64 a, .int .i64 b, .int .i64 c, .slu nl 64 0 n, .int .u32 sc, .sl nw 0 _ _, .int .i64 out]) => match getRow hp nl with
    | some (95, false, some 64, .ints .u8 L N) => match getRow hp nw with
      | some (4, false, none, .bools W _) => some (a, b, c, L, N, n, sc, out, W, nl, nw)
      | _ => none
    | _ => none
  | _ => none
theorem refWr_ok {hp : T Blk} {nm : Nat} {a b c : Int} {L : List Int} {N n : Nat} {sc out : Int} {W : List Bool} {nl nw : Nat} (h : refWr hp.get nm = some (a, b, c, L, N, n, sc, out, W, nl, nw)) :
    ∃ m1 m2 M, hp.get nm = some (.row 65 false none (.cells [.int .i64 a, .int .i64 b, .int .i64 c, .slu nl 64 0 n, .int .u32 sc, .sl nw 0 m1 m2, .int .i64 out])) ∧ hp.get nl = some (.row 95 false (some 64) (.ints .u8 L N)) ∧ hp.get nw = some (.row 4 false none (.bools W M)) := by
  unfold refWr at h
  split at h <;> try (cases h; done)
  rename_i h0
  split at h <;> try (cases h; done)
  rename_i h1
  split at h <;> try (cases h; done)
  rename_i h2
  cases h
  exact ⟨_, _, _, getRow_some h0, getRow_some h1, getRow_some h2⟩
def lenW (hp : Hp) (nm : Nat) : Option (Nat × Nat × Nat) :=
  match getRow hp nm with
  | some (_, _, _, .cells [_, _, _, _, _, .sl nw 0 m1 m2, _]) => match getRow hp nw with
    | some (_, _, _, .bools _ M) => some (m1, m2, M)
    | _ => none
  | _ => none
/-- what changes the reference's image, as a summary -/
noncomputable def sumRef (G : List RV → Int → Int → Int → Nat → Int → StR → Option (RV × StR × List Prop)) : SumA := fun args hp nx => match args with
  | .one (.c (.ptr nm 0)) :: xs => match refWr hp.get nm with
    | some (a, b, c, L, N, n, sc, out, W, nl, nw) =>
      match Nat.blt nm nx, Nat.blt nl nx, Nat.blt nw nx with
      | true, true, true => match lenW hp.get nm, G xs a b c n sc (L, W, out) with
        | some (m1, m2, M), some (v, st, ps) =>
          T.set depth hp nm (some (.row 65 false none (.cells [.int .i64 a, .int .i64 b, .int .i64 c, .slu nl 64 0 n, .int .u32 sc, .sl nw 0 m1 m2, .int .i64 st.2.2]))) fun hp =>
          T.set depth hp nl (some (.row 95 false (some 64) (.ints .u8 st.1 N))) fun hp =>
          T.set depth hp nw (some (.row 4 false none (.bools st.2.1 M))) fun hp =>
          some (v, hp, nx, [nm, nl, nw], (L.length = N) :: (N = 64 * n) :: (m1 = n) :: (m2 = n) :: (M = n) :: (W.length = n) :: ps)
        | _, _ => none
      | _, _, _ => none
    | none => none
  | _ => none
theorem lenW_ok {hp : T Blk} {nm : Nat} {a b c : Int} {n : Nat} {sc out : Int} {W : List Bool} {nl nw m1 m2 M m1' m2' M' : Nat} (h : lenW hp.get nm = some (m1, m2, M))
    (h0 : hp.get nm = some (.row 65 false none (.cells [.int .i64 a, .int .i64 b, .int .i64 c, .slu nl 64 0 n, .int .u32 sc, .sl nw 0 m1' m2', .int .i64 out]))) (h2 : hp.get nw = some (.row 4 false none (.bools W M'))) : m1 = m1' ∧ m2 = m2' ∧ M = M' := by
  unfold lenW getRow at h
  rw [h0] at h
  simp only at h
  rw [h2] at h
  simp only [Option.some.injEq, Prod.mk.injEq] at h
  exact ⟨h.1.symm, h.2.1.symm, h.2.2.symm⟩
theorem sumRef_ok {f : FuncId} (hfn : ∃ fn, Tryz.prog.funcs[f]? = some fn ∧ fn.body.isNone = false) {G : List RV → Int → Int → Int → Nat → Int → StR → Option (RV × StR × List Prop)}
    (hG : ∀ xs a b c n sc st v st' ps, G xs a b c n sc st = some (v, st', ps) → All ps → st.1.length = 64 * n → st.2.1.length = n → SmallC Tryz.prog f (.one (.c (.ptr 0 0)) :: xs) 3 (rImg a b c n sc st) (rImg a b c n sc st') v)
    (hx : ∀ xs a b c n sc st v st' ps, G xs a b c n sc st = some (v, st', ps) → xs.all flatR = true ∧ flatR v = true) : SumAOK Tryz.prog f (sumRef G) := by
  intro args s v hp nx lg ps ht h hps
  unfold sumRef at h
  split at h <;> try (cases h; done)
  rename_i nm xs
  split at h <;> try (cases h; done)
  rename_i a b c L N n sc out W nl nw hi
  split at h <;> try (cases h; done)
  rename_i b1 b2 b3
  split at h <;> try (cases h; done)
  rename_i m1 m2 M v1 st ps1 hlw hg
  obtain ⟨m1', m2', M', h1, h2, h3⟩ := refWr_ok hi
  obtain ⟨rfl, rfl, rfl⟩ := lenW_ok hlw h1 h3
  have n1 : nm < s.nx := blt_lt b1
  have n2 : nl < s.nx := blt_lt b2
  have n3 : nw < s.nx := blt_lt b3
  have d1 : nm ≠ nl := fun e => by subst e; rw [h1] at h2; cases h2
  have d2 : nm ≠ nw := fun e => by subst e; rw [h1] at h3; cases h3
  have d3 : nl ≠ nw := fun e => by subst e; rw [h2] at h3; cases h3
  obtain ⟨t1, h, q1⟩ := T.set_ok _ _ _ _ _ _ h
  obtain ⟨t2, h, q2⟩ := T.set_ok _ _ _ _ _ _ h
  obtain ⟨t3, h, q3⟩ := T.set_ok _ _ _ _ _ _ h
  simp only [Option.some.injEq, Prod.mk.injEq] at h
  obtain ⟨rfl, rfl, rfl, rfl, rfl⟩ := h
  obtain ⟨hl, hN, e1, e2, e3, hW, hps⟩ := hps
  replace e1 := e1.symm
  replace e2 := e2.symm
  replace e3 := e3.symm
  subst e1
  subst e2
  subst e3
  subst hN
  obtain ⟨hfx, hfv⟩ := hx _ _ _ _ _ _ _ _ _ _ hg
  have hget : ∀ j, t3.get j = if j = nw then some (.row 4 false none (.bools st.2.1 n)) else if j = nl then some (.row 95 false (some 64) (.ints .u8 st.1 (64 * n))) else if j = nm then some (.row 65 false none (.cells [.int .i64 a, .int .i64 b, .int .i64 c, .slu nl 64 0 n, .int .u32 sc, .sl nw 0 n n, .int .i64 st.2.2])) else s.hp.get j := fun j => by
    rw [q3 j, q2 j, q1 j]
  let θ : Nat → Nat := fun i => if i = 0 then nm else if i = 1 then nl else nw
  have ex : xs.map (renR θ) = xs := (List.map_congr_left fun c hc => renR_flat (List.all_eq_true.1 hfx c hc)).trans (List.map_id xs)
  have ea : ((.one (.c (.ptr 0 0)) : RV) :: xs).map (renR θ) = .one (.c (.ptr nm 0)) :: xs := by
    rw [List.map_cons, ex]; rfl
  have hC : SmallC Tryz.prog f (.one (.c (.ptr 0 0)) :: xs) 3 (rImg a b c n sc (L, W, out)) (rImg a b c n sc st) v1 := hG _ _ _ _ _ _ _ _ _ _ hg hps hl hW
  have := CallInfo.frame (P := Tryz.prog) (f := f) (θ := θ) (s := s) (hp' := t3) (Lw := [nm, nl, nw]) ht hfn hC
    (List.all_eq_true.2 fun c hc => by
      rcases List.mem_cons.1 hc with rfl | hc
      · rfl
      · exact inR_flat (List.all_eq_true.1 hfx c hc))
    (fun i x hx => by
      rw [rImg_eq] at hx
      rcases get_three hx with ⟨rfl, rfl⟩ | ⟨rfl, rfl⟩ | ⟨rfl, rfl⟩
      · exact ⟨by omega, rfl, rfl, n1, h1⟩
      · exact ⟨by omega, rfl, rfl, n2, h2⟩
      · exact ⟨by omega, rfl, rfl, n3, h3⟩)
    (fun i j x y hx hy he => by
      rw [rImg_eq] at hx hy
      rcases get_three hx with ⟨rfl, _⟩ | ⟨rfl, _⟩ | ⟨rfl, _⟩ <;> rcases get_three hy with ⟨rfl, _⟩ | ⟨rfl, _⟩ | ⟨rfl, _⟩ <;> first | rfl | exact absurd he d1 | exact absurd he d2 | exact absurd he d3 | exact absurd he.symm d1 | exact absurd he.symm d2 | exact absurd he.symm d3)
    (fun j hj => by
      have j0 := hj 0 _ (by rw [rImg_eq]; rfl)
      have j1 := hj 1 _ (by rw [rImg_eq]; rfl)
      have j2 := hj 2 _ (by rw [rImg_eq]; rfl)
      rw [hget, if_neg (fun e => j2 e.symm), if_neg (fun e => j1 e.symm), if_neg (fun e => j0 e.symm)])
    (fun i x hx => by
      rw [rImg_eq] at hx
      rw [hget, rImg_eq]
      rcases get_three hx with ⟨rfl, rfl⟩ | ⟨rfl, rfl⟩ | ⟨rfl, rfl⟩
      · rw [if_neg (show θ 0 ≠ nw from d2), if_neg (show θ 0 ≠ nl from d1), if_pos (show θ 0 = nm from rfl)]; rfl
      · rw [if_neg (show θ 1 ≠ nw from d3), if_pos (show θ 1 = nl from rfl)]; rfl
      · rw [if_pos (show θ 2 = nw from rfl)]; rfl)
    (fun j => by
      constructor
      · intro hj
        rcases List.mem_cons.1 hj with rfl | hj
        · exact ⟨0, _, by rw [rImg_eq]; rfl, rfl⟩
        · rcases List.mem_cons.1 hj with rfl | hj
          · exact ⟨1, _, by rw [rImg_eq]; rfl, rfl⟩
          · rcases List.mem_cons.1 hj with rfl | hj
            · exact ⟨2, _, by rw [rImg_eq]; rfl, rfl⟩
            · cases hj
      · rintro ⟨i, x, hx, rfl⟩
        rw [rImg_eq] at hx
        rcases get_three hx with ⟨rfl, _⟩ | ⟨rfl, _⟩ | ⟨rfl, _⟩ <;> simp [θ])
  rw [ea, renR_flat hfv] at this
  exact this
end Go.Sx

namespace Go.Sx
open Go.Proofs Go.RowKit
set_option maxRecDepth 100000
/-! ### the reference's In f32 -/
section
variable (a b c : Int) (n : Nat) (sc : Int) (L : List Int) (W : List Bool) (out : Int) (g s i : Int)
noncomputable def q32 : S := fgt [0, 1, 5, 6] n32 ⟨ofL [(0, .one (.c (.ptr 0 0))), (1, .one (.c (.int .i64 g))), (5, .one (.c (.int .u32 s))), (6, .one (.c (.int .i64 i)))], rImg a b c n sc (L, W, out), 3, []⟩
noncomputable def q32b : S := fgt [0, 1, 5] n32 ⟨ofL [(0, .one (.c (.ptr 0 0))), (1, .one (.c (.int .i64 g))), (5, .one (.c (.int .u32 sc)))], rImg a b c n sc (L, W, out), 3, []⟩
noncomputable def p32 (M : S → Prop) (R : X → Option (List AV) → T Blk → Nat → Prop) : Option Prop :=
  execN Tryz.prog sgFi 300 n32 3 c32 ⟨sl32 g, rImg a b c n sc (L, W, out), 3, []⟩ αT (fun x s α => some (All α.ob ∧ match x with | .normal => M (fgt [0, 1, 5] n32 s) | x => R x (resOf Tryz.prog n32 s Tryz.f83.results.toList) s.hp s.nx))
noncomputable def i32 (Q : X → S → Prop) : Option Prop := execA Tryz.prog sgFi 300 n32 (gL (gL (tailN 3 c32))) (q32b a b c n sc L W out g) αT (fun x s α => some (All α.ob ∧ match x with | .ret => False | x => Q x (fgt [0, 1, 5, 6] n32 s)))
noncomputable def t32 (Q : X → S → Prop) : Option Prop := execA Tryz.prog sgFi 300 n32 l32 (q32 a b c n sc L W out g s i) αT (fun x s α => some (All α.ob ∧ match x with | .ret => False | x => Q x (fgt [0, 1, 5, 6] n32 s)))
noncomputable def e32 (R : X → Option (List AV) → T Blk → Nat → Prop) : Option Prop := execA Tryz.prog sgFi 300 n32 (gR (tailN 3 c32)) (q32 a b c n sc L W out g s i) αT (fun x s α => some (All α.ob ∧ R x (resOf Tryz.prog n32 s Tryz.f83.results.toList) s.hp s.nx))
end
/-! ### Load f28 -/
noncomputable def sgL8 : FuncId → Option SumA := fun f => match f with | 156 => some (pureSum fGetR) | _ => none
theorem fitL8 : Fit Tryz.prog (fun f => (sgL8 f).map toSum) := ⟨fit_ng, fit_mixed, SumAOK.sum fun f sm h => by
  unfold sgL8 at h
  split at h
  · cases h; exact fGetR_ok.sum ⟨_, Tryz.func156, rfl⟩
  · cases h⟩
end Go.Sx

namespace Go.Sx
open Go.Proofs Go.RowKit
set_option maxRecDepth 100000
noncomputable def p32_t (a b c : Int) (n : Nat) (sc : Int) (L : List Int) (W : List Bool) (out g : Int) (M : S → Prop) (R : X → Option (List AV) → T Blk → Nat → Prop) : Option Prop := (bif decide (g < 0) then ( some ((All [] ∧ R (X.ret) (some [AV.c (Cell.bool false)]) (ofL [(0, Blk.row 65 false none (Body.cells [Cell.int IntKind.i64 a, Cell.int IntKind.i64 b, Cell.int IntKind.i64 c, Cell.slu 1 64 0 n, Cell.int IntKind.u32 sc, Cell.sl 2 0 n n, Cell.int IntKind.i64 out])), (1, Blk.row 95 false (some 64) (Body.ints IntKind.u8 L (64 * n))), (2, Blk.row 4 false none (Body.bools W n))]) (3))) ) else ( (bif decide (g ≥ a) then ( some ((All [] ∧ R (X.ret) (some [AV.c (Cell.bool false)]) (ofL [(0, Blk.row 65 false none (Body.cells [Cell.int IntKind.i64 a, Cell.int IntKind.i64 b, Cell.int IntKind.i64 c, Cell.slu 1 64 0 n, Cell.int IntKind.u32 sc, Cell.sl 2 0 n n, Cell.int IntKind.i64 out])), (1, Blk.row 95 false (some 64) (Body.ints IntKind.u8 L (64 * n))), (2, Blk.row 4 false none (Body.bools W n))]) (3))) ) else ( some ((All [] ∧ M (q32b a b c n sc L W out g))) )) ))
theorem p32_tree (a b c : Int) (n : Nat) (sc : Int) (L : List Int) (W : List Bool) (out g : Int) (M : S → Prop) (R : X → Option (List AV) → T Blk → Nat → Prop) : p32 a b c n sc L W out g M R = p32_t a b c n sc L W out g M R := by kernel_rfl
noncomputable def i32_t (a b c : Int) (n : Nat) (sc : Int) (L : List Int) (W : List Bool) (out g : Int) (Q : X → S → Prop) : Option Prop := some ((All [] ∧ Q (X.normal) (q32 a b c n sc L W out g sc 0)))
theorem i32_tree (a b c : Int) (n : Nat) (sc : Int) (L : List Int) (W : List Bool) (out g : Int) (Q : X → S → Prop) : i32 a b c n sc L W out g Q = i32_t a b c n sc L W out g Q := by kernel_rfl
noncomputable def t32_t (a b c : Int) (n : Nat) (sc : Int) (L : List Int) (W : List Bool) (out g : Int) (s i : Int) (Q : X → S → Prop) : Option Prop := (bif decide (i < g) then ( some ((All [] ∧ Q (X.normal) (q32 a b c n sc L W out g (IntKind.u32.wrap (s.tdiv 2)) (IntKind.i64.wrap (i + 1))))) ) else ( some ((All [] ∧ Q (X.exit 0) (q32 a b c n sc L W out g s i))) ))
theorem t32_tree (a b c : Int) (n : Nat) (sc : Int) (L : List Int) (W : List Bool) (out g : Int) (s i : Int) (Q : X → S → Prop) : t32 a b c n sc L W out g s i Q = t32_t a b c n sc L W out g s i Q := by kernel_rfl
noncomputable def e32_t (a b c : Int) (n : Nat) (sc : Int) (L : List Int) (W : List Bool) (out g : Int) (s i : Int) (R : X → Option (List AV) → T Blk → Nat → Prop) : Option Prop := some ((All [] ∧ R (X.ret) (some [AV.c (Cell.bool (s.tmod 2 == 1))]) (ofL [(0, Blk.row 65 false none (Body.cells [Cell.int IntKind.i64 a, Cell.int IntKind.i64 b, Cell.int IntKind.i64 c, Cell.slu 1 64 0 n, Cell.int IntKind.u32 sc, Cell.sl 2 0 n n, Cell.int IntKind.i64 out])), (1, Blk.row 95 false (some 64) (Body.ints IntKind.u8 L (64 * n))), (2, Blk.row 4 false none (Body.bools W n))]) (3)))
theorem e32_tree (a b c : Int) (n : Nat) (sc : Int) (L : List Int) (W : List Bool) (out g : Int) (s i : Int) (R : X → Option (List AV) → T Blk → Nat → Prop) : e32 a b c n sc L W out g s i R = e32_t a b c n sc L W out g s i R := by kernel_rfl

noncomputable def halve : Nat → Int → Int
  | 0, s => s
  | k + 1, s => halve k (IntKind.u32.wrap (s.tdiv 2))
theorem half_u32 {s : Int} (h : U32 s) : IntKind.u32.wrap (s.tdiv 2) = s / 2 ∧ U32 (s / 2) := by
  obtain ⟨h0, h1⟩ := h
  rw [Int.tdiv_eq_ediv_of_nonneg h0, wrap_u32]
  exact ⟨by omega, ⟨by omega, by omega⟩⟩
theorem halve_eq : ∀ (k : Nat) {s : Int}, U32 s → halve k s = s / 2 ^ k
  | 0, s, _ => by simp [halve]
  | k + 1, s, h => by
    obtain ⟨h1, h2⟩ := half_u32 h
    rw [halve, h1, halve_eq k h2, Int.pow_succ, Int.mul_comm, Int.ediv_ediv_of_nonneg (by decide)]
theorem bit_one {x : Int} (h : U32 x) : IntKind.u32.wrap ((BitVec.ofInt 32 x &&& BitVec.ofInt 32 1).toNat : Int) = x % 2 := by
  have h1 : (BitVec.ofInt 32 1 : BitVec 32).toNat = 1 := by decide
  rw [BitVec.toNat_and, bv_nat h, h1, Nat.and_one_is_mod, wrap_u32]
  obtain ⟨h0, h2⟩ := h
  omega
theorem inS_halve {a sc g : Int} (h0 : 0 ≤ g) (h1 : g < a) (hs : U32 sc) : inS a sc g = ((halve g.toNat sc).tmod 2 == 1) := by
  have hu : ∀ k : Nat, U32 (sc / 2 ^ k) := fun k => by
    obtain ⟨s0, s1⟩ := hs
    have hp : (0 : Int) < 2 ^ k := Int.pow_pos (by decide)
    exact ⟨Int.ediv_nonneg s0 (Int.le_of_lt hp), Int.lt_of_le_of_lt (Int.ediv_le_self _ s0) s1⟩
  have e : sc.fdiv (2 ^ (min g.toNat 32)) = sc / 2 ^ g.toNat := by
    have hp : ∀ k : Nat, (0 : Int) < 2 ^ k := fun k => Int.pow_pos (by decide)
    rw [Int.fdiv_eq_ediv_of_nonneg _ (Int.le_of_lt (hp _))]
    by_cases hg : g.toNat ≤ 32
    · rw [Nat.min_eq_left hg]
    · rw [Nat.min_eq_right (by omega)]
      obtain ⟨s0, s1⟩ := hs
      rw [Int.ediv_eq_zero_of_lt s0 (by simpa using s1)]
      have : (2 : Int) ^ 32 ≤ 2 ^ g.toNat := by
        have := Nat.pow_le_pow_right (n := 2) (by decide) (show 32 ≤ g.toNat by omega)
        exact_mod_cast this
      rw [Int.ediv_eq_zero_of_lt s0 (by omega)]
  unfold inS
  rw [e, bit_one (hu _), halve_eq _ hs, Int.tmod_eq_emod_of_nonneg (hu _).1]
  simp [h0, h1]
section
variable {a b c : Int} {n : Nat} {sc : Int} {L : List Int} {W : List Bool} {out : Int}
theorem lp32 {Q : X → S → Prop} {g : Int} (hg : g < 9223372036854775808) : ∀ (k : Nat) (i s : Int), 0 ≤ i → i + k = g → Q (.exit 0) (q32 a b c n sc L W out g (halve k s) g) → Tr Tryz.prog n32 (.loop l32) (q32 a b c n sc L W out g s i) Q
  | 0, i, s, h0, hi, hq => by
    obtain rfl : i = g := by simpa using hi
    refine Tr.loop (Tr.treeF fitFi (.of_eq (t32_tree ..) (.no (by simp) ⟨trivial, hq⟩)))
  | k + 1, i, s, h0, hi, hq => by
    push_cast at hi
    refine Tr.loop (Tr.treeF fitFi (.of_eq (t32_tree ..) (.yes (by simp; omega) ⟨trivial, ?_⟩)))
    show Tr _ _ _ _ _
    rw [IntWalk.i64_in (i + 1) (by omega)]
    exact lp32 hg k (i + 1) _ (by omega) (by omega) hq
theorem body32_eq : Tryz.f83.body = some c32 := by kernel_rfl
theorem sl32_ok (g : Int) : setArgs n32 [.one (.c (.ptr 0 0)), .one (.c (.int .i64 g))] 0 .nil some = some (sl32 g) := by kernel_rfl
theorem small32 {g : Int} (ha : a < 9223372036854775808) (hs : U32 sc) : SmallC Tryz.prog 83 [.one (.c (.ptr 0 0)), .one (.c (.int .i64 g))] 3 (rImg a b c n sc (L, W, out)) (rImg a b c n sc (L, W, out)) (.one (.c (.bool (inS a sc g)))) := by
  refine Tr.smallC (fn := Tryz.f83) (c := c32) Tryz.func83 body32_eq (by rw [rImg_eq]; exact top_three) (sl32_ok g) ?_
  refine Tr.piecesS (keep := [0, 1, 5]) fitFi (m := 3) (.of_eq (p32_tree a b c n sc L W out g (fun s => Tr Tryz.prog n32 (tailN 3 c32) s (EndSm Tryz.prog n32 Tryz.f83.results.toList (.one (.c (.bool (inS a sc g)))) (rImg a b c n sc (L, W, out)) 3)) (RetS (.one (.c (.bool (inS a sc g)))) (rImg a b c n sc (L, W, out)) 3)) ?_)
  have no : inS a sc g = false → RetS (.one (.c (.bool (inS a sc g)))) (rImg a b c n sc (L, W, out)) 3 X.ret (some [AV.c (Cell.bool false)]) (rImg a b c n sc (L, W, out)) 3 := fun e => ⟨rfl, _, rfl, by rw [e]; rfl, rfl, rfl⟩
  refine .fork (fun h => ⟨trivial, no ?_⟩) (fun h => .fork (fun h1 => ⟨trivial, no ?_⟩) (fun h1 => ⟨trivial, ?_⟩))
  · unfold inS; simp at h ⊢; omega
  · unfold inS; simp at h h1 ⊢; omega
  · have g0 : 0 ≤ g := by simpa using h
    have g1 : g < a := by simpa using h1
    refine Tr.seq (c := gL (tailN 3 c32)) (d := gR (tailN 3 c32)) (Tr.seq (c := gL (gL (tailN 3 c32))) (d := .block 0 (.loop l32)) (Tr.treeF fitFi (.of_eq (i32_tree ..) (.some' ⟨trivial, ?_⟩))))
    refine Tr.block (lp32 (by omega) g.toNat 0 sc (by omega) (by omega) ?_)
    refine Tr.endS fitFi (.of_eq (e32_tree a b c n sc L W out g _ _ (RetS (.one (.c (.bool (inS a sc g)))) (rImg a b c n sc (L, W, out)) 3)) (.some' ⟨trivial, rfl, _, rfl, ?_, rfl, rfl⟩))
    rw [inS_halve g0 g1 hs]; rfl
end
end Go.Sx
