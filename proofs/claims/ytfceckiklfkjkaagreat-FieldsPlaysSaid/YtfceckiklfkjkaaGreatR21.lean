/-
  Parts of the executor Sx over the model's code (any program), or of this seat's walks: words and proofs that the row's text uses.
-/
import Derived.Test.YtfceckiklfkjkaaGreatR15
namespace Go.Sx
open Go.Proofs Go.RowKit
set_option maxRecDepth 100000
noncomputable abbrev eA30_x0 (n : Nat) : Nat := 64 * n
noncomputable def eA30_t (a b c : Int) (n : Nat) (sc : Int) (L : List Int) (l : List (Int × Int)) (W : List Bool) (out : Int) (C : List Int) (R : X → Option (List AV) → T Blk → Nat → Prop) : Option Prop := some ((All [L.length = (eA30_x0 n), (eA30_x0 n) = (eA30_x0 n), L.length = (eA30_x0 n), (eA30_x0 n) = (eA30_x0 n), l = []] ∧ ((true = true) ∧ R (X.ret) (some [AV.c (Cell.bool (blkS L n (↑n : Int) == z64))]) (ofL [(0, Blk.row 113 false none (Body.cells [Cell.int IntKind.i64 a, Cell.int IntKind.i64 b, Cell.int IntKind.i64 c, Cell.slu 1 64 0 n, Cell.int IntKind.u32 sc, Cell.map 2, Cell.int IntKind.i64 out])), (1, Blk.row 95 false (some 64) (Body.ints IntKind.u8 L (eA30_x0 n))), (2, Blk.mapI none l), (3, Blk.row 65 false none (Body.cells [Cell.int IntKind.i64 a, Cell.int IntKind.i64 b, Cell.int IntKind.i64 c, Cell.slu 4 64 0 n, Cell.int IntKind.u32 sc, Cell.sl 5 0 n n, Cell.int IntKind.i64 out])), (4, Blk.row 95 false (some 64) (Body.ints IntKind.u8 L (eA30_x0 n))), (5, Blk.row 4 false none (Body.bools W n))]) (6))))
theorem eA30_tree (a b c : Int) (n : Nat) (sc : Int) (L : List Int) (l : List (Int × Int)) (W : List Bool) (out : Int) (C : List Int) (R : X → Option (List AV) → T Blk → Nat → Prop) : eA30 a b c n sc L l W out C R = eA30_t a b c n sc L l W out C R := by kernel_rfl
noncomputable abbrev eB30_x0 (n : Nat) : Nat := 64 * n
noncomputable def eB30_t (a b c : Int) (n : Nat) (sc : Int) (L : List Int) (l : List (Int × Int)) (W : List Bool) (out : Int) (C wl : List Int) (k : Nat) (R : X → Option (List AV) → T Blk → Nat → Prop) : Option Prop := some ((All [L.length = (eB30_x0 n), (eB30_x0 n) = (eB30_x0 n), L.length = (eB30_x0 n), (eB30_x0 n) = (eB30_x0 n), srt (List.map (fun x => x.fst) l) = wl, l.length = l.length, k = l.length, k = l.length, l.length < 9223372036854775807, l ≠ [], l.length ≤ 1000000, ∀ (p : Int × Int), p ∈ l → (Lit.int IntKind.i64 p.fst).wf = true] ∧ ((true = true) ∧ R (X.ret) (some [AV.c (Cell.bool (blkS L n (↑n : Int) == z64))]) (ofL [(0, Blk.row 113 false none (Body.cells [Cell.int IntKind.i64 a, Cell.int IntKind.i64 b, Cell.int IntKind.i64 c, Cell.slu 1 64 0 n, Cell.int IntKind.u32 sc, Cell.map 2, Cell.int IntKind.i64 out])), (1, Blk.row 95 false (some 64) (Body.ints IntKind.u8 L (eB30_x0 n))), (2, Blk.mapI none l), (3, Blk.row 65 false none (Body.cells [Cell.int IntKind.i64 a, Cell.int IntKind.i64 b, Cell.int IntKind.i64 c, Cell.slu 4 64 0 n, Cell.int IntKind.u32 sc, Cell.sl 5 0 n n, Cell.int IntKind.i64 out])), (4, Blk.row 95 false (some 64) (Body.ints IntKind.u8 L (eB30_x0 n))), (5, Blk.row 4 false none (Body.bools W n))]) (6))))
theorem eB30_tree (a b c : Int) (n : Nat) (sc : Int) (L : List Int) (l : List (Int × Int)) (W : List Bool) (out : Int) (C wl : List Int) (k : Nat) (R : X → Option (List AV) → T Blk → Nat → Prop) : eB30 a b c n sc L l W out C wl k R = eB30_t a b c n sc L l W out C wl k R := by kernel_rfl
theorem wrI_pair (W : List Bool) (n : Nat) : (wrI W n).Pairwise (· < ·) := by
  unfold wrI
  rw [List.pairwise_map]
  refine List.Pairwise.filter _ ?_
  exact (List.pairwise_lt_range).imp fun h => by exact_mod_cast h
theorem Sim.sorted {n : Nat} {st : St} {sr : StR} (h : Sim n st sr) : srt (st.2.1.map fun x => x.1) = wrI sr.2.1 n ∧ st.2.1.length = (wrI sr.2.1 n).length := by
  have hp : (keysI st.2.1).Perm (wrI sr.2.1 n) := by
    refine (List.perm_ext_iff_of_nodup h.nod ((wrI_pair _ _).imp fun h e => by omega)).2 fun x => ?_
    rw [h.key x]
    unfold wrI
    rw [List.mem_map]
    constructor
    · rintro ⟨x0, x1, x2⟩
      exact ⟨x.toNat, List.mem_filter.2 ⟨List.mem_range.2 (by omega), x2⟩, by omega⟩
    · rintro ⟨j, hj, rfl⟩
      have := List.mem_filter.1 hj
      exact ⟨by omega, by have := List.mem_range.1 this.1; omega, by simpa using this.2⟩
  refine ⟨?_, by simpa [keysI] using hp.length_eq⟩
  show srt (keysI st.2.1) = _
  rw [srt_perm hp]
  exact List.mergeSort_of_pairwise ((wrI_pair _ _).imp fun h => by simp; omega)
theorem fits49R {n : Nat} (h : n ≤ 140) : fits Tryz.prog.types[95] (0 + n) = true := by
  have e : Tryz.prog.types[95].bytes = 64 := by kernel_rfl
  unfold fits
  rw [e]
  simp [Nat.ble_eq]; omega
section
variable {a b c : Int} {n : Nat} {sc : Int} {L : List Int} {l : List (Int × Int)} {W : List Bool} {out : Int}
theorem body30_eq : Tryz.f91.body = some c30 := by kernel_rfl
theorem cut30 (h : L.length = 64 * n) : List.take 0 (List.drop 0 (repl z64 0)) ++ List.take (n * 64) (List.drop 0 L) = L := by
  rw [List.drop_zero, List.take_zero, List.nil_append, List.drop_zero, List.take_of_length_le (by omega)]
theorem pc30 {s0 : S} (h6 : s0.nx = 6) {Q : X → S → Prop} (hq : Q .normal (s30b a b c n sc L l W out L n (64 * n))) : TO Tryz.prog 94 [] [] s0 (gL (gR (gR c30))) (s30b a b c n sc L l W out L n (64 * n)) Q :=
  (TO.tree fit30 h6 (keep := [0, 1, 5]) (ord := [6]) (Q := fun x s => match x with | .ret => False | x => Q x s) (.of_eq (q30c_run a b c n sc L l W out L Q) (.no (by simp) (.no (by simp) (.no (by simp) ⟨trivial, rfl, hq⟩))))).mono fun x s' h => by
    cases x with
    | ret => exact h.elim
    | normal => exact h
    | exit id => exact h
set_option maxHeartbeats 1000000 in
theorem body30 (hl : L.length = 64 * n) (h0 : n ≠ 0) (hn : n ≤ 140) (hS : Sim n (L, l, out) (L, W, out)) :
    TO Tryz.prog 94 [] [] ⟨sl30, hs30 a b c n sc L l W out, 6, []⟩ c30 ⟨sl30, hs30 a b c n sc L l W out, 6, []⟩ fun x s1 => (x = .normal ∨ x = .ret) ∧ ∃ q, resOf Tryz.prog 94 s1 Tryz.f91.results.toList = some q ∧ (resRV q = .one (.c (.bool true)) ∧ s1.hp = hs30 a b c n sc L l W out ∧ s1.nx = 6) := by
  obtain ⟨e1, e2⟩ := hS.sorted
  have hz : (blkS L n (n : Int) == z64) = true := by unfold blkS; rw [hasS_no (by omega)]; rfl
  refine TO.seq (c := gL c30) (d := gR c30) (TO.ofTr (Tr.treeF fit30 (.of_eq (q30a_tree ..) (.some' ⟨trivial, ?_⟩))))
  refine TO.seq (c := gL (gR c30)) (d := gR (gR c30)) (TO.tree fit30 (k0 := 6) (keep := [0, 1, 5]) (ord := [7]) rfl (.of_eq (q30b_run ..) ?_))
  refine .chk (by simp; omega) (.chk (by simp; omega) (.no (by cases n <;> simp_all [Nat.beq]) (.chk (by rw [fits49R hn]; simp; omega) ⟨trivial, rfl, ?_⟩)))
  rw [cut30 hl, Nat.zero_add, Nat.zero_add, Nat.mul_comm n 64]
  refine TO.seq (c := gL (gR (gR c30))) (d := gR (gR (gR c30))) (pc30 rfl ?_)
  refine TO.seq (c := gL (gR (gR (gR c30)))) (d := tailN 4 c30) (TO.ofTr (Tr.treeF fit30 (.of_eq (q30d_tree ..) (.some' ⟨trivial, ?_⟩))))
  refine TO.seq (c := gL (tailN 4 c30)) (d := gR (tailN 4 c30)) (TO.seq (c := gL (gL (tailN 4 c30))) (d := .block 0 (.loop l30)) (TO.ofTr (Tr.treeF fit30 (.of_eq (q30e_tree ..) (.some' ⟨trivial, ?_⟩)))))
  refine TO.block (lpA rfl hl hn (fun hw => ?_) (fun hw => ?_) n 0 (by omega) rfl)
  · refine TO.tree fit30e (k0 := 6) (keep := [4]) (ord := []) rfl (.of_eq (eA30_tree a b c n sc L l W out L (fun x q hp nx => (x = .normal ∨ x = .ret) ∧ ∃ l1, q = some l1 ∧ (resRV l1 = .one (.c (.bool true)) ∧ hp = hs30 a b c n sc L l W out ∧ nx = 6))) (.some' ⟨⟨hl, rfl, hl, rfl, ?_, trivial⟩, rfl, .inr rfl, _, rfl, ?_, rfl, rfl⟩))
    · have : l.length = 0 := by rw [show l.length = _ from e2]; simp [hw]
      exact List.length_eq_zero_iff.1 this
    · rw [hz]; rfl
  · refine TO.tree fit30 (k0 := 6) (keep := [4]) (ord := []) rfl (.of_eq (eB30_tree a b c n sc L l W out L (wrI W n) (wrI W n).length (fun x q hp nx => (x = .normal ∨ x = .ret) ∧ ∃ l1, q = some l1 ∧ (resRV l1 = .one (.c (.bool true)) ∧ hp = hs30 a b c n sc L l W out ∧ nx = 6))) (.some' ⟨?_, rfl, .inr rfl, _, rfl, ?_, rfl, rfl⟩))
    · have hlen := wrI_len W n
      have e2' : l.length = (wrI W n).length := e2
      refine ⟨hl, rfl, hl, rfl, e1, rfl, e2'.symm, e2'.symm, by omega, fun e => hw (List.length_eq_zero_iff.1 (by rw [← e2', e]; rfl)), by omega, fun p hp => ?_, trivial⟩
      have := (hS.key p.1).1 (List.mem_map_of_mem hp)
      unfold Lit.wf
      simp [IntKind.min, IntKind.max, IntKind.signed, IntKind.bits]
      omega
    · rw [hz]; rfl
end
end Go.Sx

namespace Go.Sx
open Go.Proofs Go.RowKit
set_option maxRecDepth 100000
section
variable {a b c : Int} {n : Nat} {sc : Int} {L : List Int} {l : List (Int × Int)} {W : List Bool} {out : Int}
theorem hs30_eq : hs30 a b c n sc L l W out = T.node (T.node (T.node .nil (some (.row 65 false none (.cells [.int .i64 a, .int .i64 b, .int .i64 c, .slu 4 64 0 n, .int .u32 sc, .sl 5 0 n n, .int .i64 out]))) .nil) (some (.row 95 false (some 64) (.ints .u8 L (64 * n)))) (T.node .nil (some (.row 4 false none (.bools W n))) .nil))
  (some (.row 113 false none (.cells [.int .i64 a, .int .i64 b, .int .i64 c, .slu 1 64 0 n, .int .u32 sc, .map 2, .int .i64 out]))) (T.node (T.node .nil (some (.row 95 false (some 64) (.ints .u8 L (64 * n)))) .nil) (some (.mapI none l)) .nil) := by kernel_rfl
theorem get_six {x0 x1 x2 x3 x4 x5 z : Blk} {nm : Nat} (h : (T.node (T.node (T.node .nil (some x3) .nil) (some x1) (T.node .nil (some x5) .nil)) (some x0) (T.node (T.node .nil (some x4) .nil) (some x2) .nil) : T Blk).get nm = some z) :
    (nm = 0 ∧ z = x0) ∨ (nm = 1 ∧ z = x1) ∨ (nm = 2 ∧ z = x2) ∨ (nm = 3 ∧ z = x3) ∨ (nm = 4 ∧ z = x4) ∨ (nm = 5 ∧ z = x5) := by
  rw [T.get_node] at h
  by_cases e : nm = 0
  · rw [if_pos e] at h; cases h; exact .inl ⟨e, rfl⟩
  · rw [if_neg e] at h
    by_cases e2 : nm % 2 = 1
    · rw [if_pos e2] at h
      rcases get_three h with ⟨h1, h2⟩ | ⟨h1, h2⟩ | ⟨h1, h2⟩
      · exact .inr (.inl ⟨by omega, h2⟩)
      · exact .inr (.inr (.inr (.inl ⟨by omega, h2⟩)))
      · exact .inr (.inr (.inr (.inr (.inr ⟨by omega, h2⟩))))
    · rw [if_neg e2] at h
      rcases get_two h with ⟨h1, h2⟩ | ⟨h1, h2⟩
      · exact .inr (.inr (.inl ⟨by omega, h2⟩))
      · exact .inr (.inr (.inr (.inr (.inl ⟨by omega, h2⟩))))
theorem top30 : Top ⟨.nil, hs30 a b c n sc L l W out, 6, []⟩ := fun nm h => by
  cases hh : (hs30 a b c n sc L l W out).get nm with
  | none => rfl
  | some x =>
    have h' : 6 ≤ nm := h
    rw [hs30_eq] at hh
    rcases get_six hh with ⟨h1, _⟩ | ⟨h1, _⟩ | ⟨h1, _⟩ | ⟨h1, _⟩ | ⟨h1, _⟩ | ⟨h1, _⟩ <;> omega
theorem small30 (hl : L.length = 64 * n) (h0 : n ≠ 0) (hn : n ≤ 140) (hS : Sim n (L, l, out) (L, W, out)) :
    SmallC Tryz.prog 91 [.one (.c (.ptr 0 0)), .one (.c (.ptr 3 0))] 6 (hs30 a b c n sc L l W out) (hs30 a b c n sc L l W out) (.one (.c (.bool true))) :=
  TO.smallN (fn := Tryz.f91) (c := c30) Tryz.func91 body30_eq [] top30 sl30_ok (body30 hl h0 hn hS)
end
/-- two images that are alike -/
noncomputable def sum30 : SumA := fun args hp nx => match args with
  | [.one (.c (.ptr nm 0)), .one (.c (.ptr my 0))] => match imgWr hp.get nm, refWr hp.get my, lenW hp.get my with
    | some (a, b, c, L, N, n, sc, out, l, nl, nw), some (a', b', c', L', N', n', sc', out', W, ml, mw), some (m1, m2, M) =>
      match Nat.blt nm nx && Nat.blt nl nx && Nat.blt nw nx && Nat.blt my nx && Nat.blt ml nx && Nat.blt mw nx && !(Nat.beq nl ml) with
      | true =>
        T.set depth hp nw (some (.mapI none l)) fun hp =>
        some (.one (.c (.bool true)), hp, nx, [nm, nl, nw, my, ml, mw], [L.length = N, N = 64 * n, n ≠ 0, n ≤ 140, a' = a, b' = b, c' = c, sc' = sc, n' = n, N' = N, m1 = n, m2 = n, M = n, L' = L, out' = out, Sim n (L, l, out) (L', W, out')])
      | false => none
    | _, _, _ => none
  | _ => none
theorem sum30_ok : SumAOK Tryz.prog 91 sum30 := by
  intro args s v hp nx lg ps ht h hps
  unfold sum30 at h
  split at h <;> try (cases h; done)
  rename_i nm my
  split at h <;> try (cases h; done)
  rename_i a b c L N n sc out l nl nw a' b' c' L' N' n' sc' out' W ml mw m1 m2 M hi hj hlw
  split at h <;> try (cases h; done)
  rename_i hb
  simp only [Bool.and_eq_true] at hb
  obtain ⟨⟨⟨⟨⟨⟨b1, b2⟩, b3⟩, b4⟩, b5⟩, b6⟩, b7⟩ := hb
  obtain ⟨h1, h2, h3⟩ := imgWr_ok hi
  obtain ⟨m1', m2', M', g1, g2, g3⟩ := refWr_ok hj
  obtain ⟨rfl, rfl, rfl⟩ := lenW_ok hlw g1 g3
  have n1 : nm < s.nx := blt_lt b1
  have n2 : nl < s.nx := blt_lt b2
  have n3 : nw < s.nx := blt_lt b3
  have n4 : my < s.nx := blt_lt b4
  have n5 : ml < s.nx := blt_lt b5
  have n6 : mw < s.nx := blt_lt b6
  have d7 : nl ≠ ml := fun e => by subst e; simp at b7
  obtain ⟨t0, h, q0⟩ := T.set_ok _ _ _ _ _ _ h
  simp only [Option.some.injEq, Prod.mk.injEq] at h
  obtain ⟨rfl, rfl, rfl, rfl, rfl⟩ := h
  obtain ⟨hl, hN, hn0, hn, ea, eb, ec, es, en, eN, k1, k2, k3, eL, eo, hS, _⟩ := hps
  subst hN
  replace ea := ea.symm
  subst ea
  replace eb := eb.symm
  subst eb
  replace ec := ec.symm
  subst ec
  replace es := es.symm
  subst es
  replace en := en.symm
  subst en
  replace k1 := k1.symm
  subst k1
  replace k2 := k2.symm
  subst k2
  replace k3 := k3.symm
  subst k3
  replace eL := eL.symm
  subst eL
  replace eo := eo.symm
  subst eo
  subst eN
  have ht0 : Top { s with hp := t0 } := fun j hj => by
    show t0.get j = none
    have : s.nx ≤ j := hj
    rw [q0 j, if_neg (by omega)]
    exact ht j hj
  have e3 : ∀ j, j ≠ nw → t0.get j = s.hp.get j := fun j hj => (q0 j).trans (if_neg hj)
  have no3 : ∀ {j : Nat} {t : TypeId} {ro : Bool} {op : Option Nat} {bd : Body}, s.hp.get j = some (.row t ro op bd) → j ≠ nw := fun hj e => by
    subst e; rw [hj] at h3; rcases h3 with h3 | ⟨_, h3⟩ <;> cases h3
  have G0 := (e3 nm (no3 h1)).trans h1
  have G1 := (e3 nl (no3 h2)).trans h2
  have G2 : t0.get nw = some (.mapI none l) := (q0 nw).trans (if_pos rfl)
  have G3 := (e3 my (no3 g1)).trans g1
  have G4 := (e3 ml (no3 g2)).trans g2
  have G5 := (e3 mw (no3 g3)).trans g3
  have dd : ∀ {p q : Nat} {A B : Blk}, t0.get p = some A → t0.get q = some B → A ≠ B → p ≠ q := fun ha hb hne e => by subst e; rw [ha] at hb; exact hne (Option.some.inj hb)
  have d01 : nm ≠ nl := dd G0 G1 (fun e => by cases e)
  have d02 : nm ≠ nw := dd G0 G2 (fun e => by cases e)
  have d03 : nm ≠ my := dd G0 G3 (fun e => by cases e)
  have d04 : nm ≠ ml := dd G0 G4 (fun e => by cases e)
  have d05 : nm ≠ mw := dd G0 G5 (fun e => by cases e)
  have d12 : nl ≠ nw := dd G1 G2 (fun e => by cases e)
  have d13 : nl ≠ my := dd G1 G3 (fun e => by cases e)
  have d15 : nl ≠ mw := dd G1 G5 (fun e => by cases e)
  have d23 : nw ≠ my := dd G2 G3 (fun e => by cases e)
  have d24 : nw ≠ ml := dd G2 G4 (fun e => by cases e)
  have d25 : nw ≠ mw := dd G2 G5 (fun e => by cases e)
  have d34 : my ≠ ml := dd G3 G4 (fun e => by cases e)
  have d35 : my ≠ mw := dd G3 G5 (fun e => by cases e)
  have d45 : ml ≠ mw := dd G4 G5 (fun e => by cases e)
  let θ : Nat → Nat := fun i => if i = 0 then nm else if i = 1 then nl else if i = 2 then nw else if i = 3 then my else if i = 4 then ml else mw
  have ea : ([.one (.c (.ptr 0 0)), .one (.c (.ptr 3 0))] : List RV).map (renR θ) = [.one (.c (.ptr nm 0)), .one (.c (.ptr my 0))] := rfl
  have := CallInfo.frame (P := Tryz.prog) (f := 91) (θ := θ) (s := { s with hp := t0 }) (hp' := t0) (Lw := [nm, nl, nw, my, ml, mw]) ht0 ⟨_, Tryz.func91, rfl⟩ (small30 hl hn0 hn hS) (by rfl)
    (fun i x hx => by
      rw [hs30_eq] at hx
      rcases get_six hx with ⟨rfl, rfl⟩ | ⟨rfl, rfl⟩ | ⟨rfl, rfl⟩ | ⟨rfl, rfl⟩ | ⟨rfl, rfl⟩ | ⟨rfl, rfl⟩
      · exact ⟨by omega, rfl, rfl, n1, G0⟩
      · exact ⟨by omega, rfl, rfl, n2, G1⟩
      · exact ⟨by omega, rfl, rfl, n3, G2⟩
      · exact ⟨by omega, rfl, rfl, n4, G3⟩
      · exact ⟨by omega, rfl, rfl, n5, G4⟩
      · exact ⟨by omega, rfl, rfl, n6, G5⟩)
    (fun i j x y hx hy he => by
      rw [hs30_eq] at hx hy
      rcases get_six hx with ⟨rfl, _⟩ | ⟨rfl, _⟩ | ⟨rfl, _⟩ | ⟨rfl, _⟩ | ⟨rfl, _⟩ | ⟨rfl, _⟩ <;> rcases get_six hy with ⟨rfl, _⟩ | ⟨rfl, _⟩ | ⟨rfl, _⟩ | ⟨rfl, _⟩ | ⟨rfl, _⟩ | ⟨rfl, _⟩ <;> first | rfl | exact absurd he d01 | exact absurd he.symm d01 | exact absurd he d02 | exact absurd he.symm d02 | exact absurd he d03 | exact absurd he.symm d03 | exact absurd he d04 | exact absurd he.symm d04 | exact absurd he d05 | exact absurd he.symm d05 | exact absurd he d12 | exact absurd he.symm d12 | exact absurd he d13 | exact absurd he.symm d13 | exact absurd he d7 | exact absurd he.symm d7 | exact absurd he d15 | exact absurd he.symm d15 | exact absurd he d23 | exact absurd he.symm d23 | exact absurd he d24 | exact absurd he.symm d24 | exact absurd he d25 | exact absurd he.symm d25 | exact absurd he d34 | exact absurd he.symm d34 | exact absurd he d35 | exact absurd he.symm d35 | exact absurd he d45 | exact absurd he.symm d45)
    (fun j hj => rfl)
    (fun i x hx => by
      rw [hx]
      rw [hs30_eq] at hx
      rcases get_six hx with ⟨rfl, rfl⟩ | ⟨rfl, rfl⟩ | ⟨rfl, rfl⟩ | ⟨rfl, rfl⟩ | ⟨rfl, rfl⟩ | ⟨rfl, rfl⟩
      · exact G0
      · exact G1
      · exact G2
      · exact G3
      · exact G4
      · exact G5)
    (fun j => by
      constructor
      · intro hj
        simp only [List.mem_cons, List.not_mem_nil, or_false] at hj
        rcases hj with rfl | rfl | rfl | rfl | rfl | rfl
        · exact ⟨0, _, by rw [hs30_eq]; rfl, rfl⟩
        · exact ⟨1, _, by rw [hs30_eq]; rfl, rfl⟩
        · exact ⟨2, _, by rw [hs30_eq]; rfl, rfl⟩
        · exact ⟨3, _, by rw [hs30_eq]; rfl, rfl⟩
        · exact ⟨4, _, by rw [hs30_eq]; rfl, rfl⟩
        · exact ⟨5, _, by rw [hs30_eq]; rfl, rfl⟩
      · rintro ⟨i, x, hx, rfl⟩
        rw [hs30_eq] at hx
        rcases get_six hx with ⟨rfl, _⟩ | ⟨rfl, _⟩ | ⟨rfl, _⟩ | ⟨rfl, _⟩ | ⟨rfl, _⟩ | ⟨rfl, _⟩ <;> simp [θ])
  rw [ea] at this
  exact this.asI (by simp) h3 q0
end Go.Sx

namespace Go.Sx
open Go.Proofs Go.RowKit
set_option maxRecDepth 100000
noncomputable def sum31 : SumA := sumRef fun xs a b c n sc st => match xs with
  | [] => some (.tup [], runR a b c n sc st, [a < 9223372036854775808, U32 sc, 2 ≤ n, n < 9223372036854775807, Bytes st.1])
  | _ => none
theorem sum31_ok : SumAOK Tryz.prog 20 sum31 := by
  refine sumRef_ok ⟨_, Tryz.func20, rfl⟩ (fun xs a b c n sc st v st' ps h hp hl hW => ?_) (fun xs a b c n sc st v st' ps h => ?_)
  · split at h <;> try (cases h; done)
    simp only [Option.some.injEq, Prod.mk.injEq] at h
    obtain ⟨rfl, rfl, rfl⟩ := h
    exact small31 hp.1 hp.2.1 hp.2.2.1 hp.2.2.2.1 ⟨hl, hW, hp.2.2.2.2.1⟩
  · split at h <;> try (cases h; done)
    simp only [Option.some.injEq, Prod.mk.injEq] at h
    obtain ⟨rfl, rfl, rfl⟩ := h
    exact ⟨rfl, rfl⟩
end Go.Sx
