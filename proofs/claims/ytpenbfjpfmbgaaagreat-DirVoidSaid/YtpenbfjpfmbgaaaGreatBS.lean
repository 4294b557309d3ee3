/-
  Parts of the executor Sx over the model's code (any program), or of this seat's walks: words and proofs that the row's text uses.
-/
import Derived.Test.YtpenbfjpfmbgaaaGreatSxU
import Derived.Test.YtpenbfjpfmbgaaaGreatBSh
import Derived.Sort.OwnSortedInts
import Derived.Shelf.Slices.In.SortNone
import Derived.KernelRfl
namespace Go.Sx
open Go.Proofs Go.RowKit Go.Sort
/-! ### slices.Sort[[]int,int]: f312 -/
def srt (l : List Int) : List Int := l.mergeSort fun x y => decide (x ≤ y)
theorem srt_len (l : List Int) : (srt l).length = l.length := by simp [srt]
theorem srt_perm {l m : List Int} (h : l.Perm m) : srt l = srt m := by
  have h1 : (srt l).Perm (srt m) := ((List.mergeSort_perm l _).trans h).trans (List.mergeSort_perm m _).symm
  have t1 : ∀ a b c : Int, decide (a ≤ b) = true → decide (b ≤ c) = true → decide (a ≤ c) = true := fun a b c => by simp; omega
  have t2 : ∀ a b : Int, (decide (a ≤ b) || decide (b ≤ a)) = true := fun a b => by simp; omega
  have p1 := List.pairwise_mergeSort t1 t2 l
  have p2 := List.pairwise_mergeSort t1 t2 m
  refine h1.eq_of_pairwise (le := fun x y => decide (x ≤ y) = true) ?_ p1 p2
  intro a b _ _ h1 h2
  simp at h1 h2; omega
noncomputable def sumSort : SumA := fun args hp nx => match args with
  | [.one (.c .sl0)] => some (.tup [], hp, nx, [], [])
  | [.one (.c (.slu nm 1 0 len))] => match hp.get nm with
    | some (.row 3 false (some 1) (.ints .i64 l n)) =>
      T.set depth hp nm (some (.row 3 false (some 1) (.ints .i64 (srt l) n))) fun hp => some (.tup [], hp, nx, [nm], [l.length = len, n = len, len < 4611686018427387904])
    | _ => none
  | _ => none
theorem sort_info {s : S} {nm len n : Nat} {l : List Int} {t' : T Blk} (ht : Top s) (hrow : s.hp.get nm = some (.row 3 false (some 1) (.ints .i64 l n))) (p1 : l.length = len) (p2 : n = len) (p3 : len < 4611686018427387904)
    (q : ∀ i, t'.get i = if i = nm then some (.row 3 false (some 1) (.ints .i64 (srt l) n)) else s.hp.get i) :
    CallInfo Tryz.prog 138 [.one (.c (.slu nm 1 0 len))] s (.tup []) { s with hp := t', nx := s.nx, lg := [nm] ++ s.lg } [nm] := by
  have hlt := ht.lt hrow
  refine CallInfo.upd (u := .wr nm (.row 3 false (some 1) (.ints .i64 (srt l) n))) ht ⟨_, Tryz.func138, rfl⟩ (fun m hm => by rw [List.mem_singleton.1 hm]; exact hlt) (fun i => by rw [q]; rfl) rfl rfl fun ρ w vs hr hf ha => ?_
  obtain ⟨V, vs1, hV, h3, rfl⟩ := ha
  cases h3
  obtain ⟨b, c, off, b1, b2, b3, rfl⟩ := hV
  have hoff : off = 0 := by rcases b3 with b3 | ⟨_, b3⟩ <;> omega
  subst hoff
  obtain ⟨b', c', o, e1, e2, e3⟩ := hr.ok _ _ hrow
  rw [b1] at e1
  simp only [Option.some.injEq, Prod.mk.injEq] at e1
  obtain ⟨rfl, rfl⟩ := e1
  obtain ⟨vs', tail, fr, rfl, ⟨g1, rfl⟩, g3, g4⟩ := e3
  obtain rfl := g3 rfl
  have hcur : ((l.map (Value.int .i64) ++ tail).toArray).toList.take l.length = l.map (Value.int .i64) := by simp
  have hH := holds_of_blockI (ss := l) e2 hcur
  have hsz : (l.map (Value.int .i64) ++ tail).length = c * 1 := g4.1
  have hcall := Any.slices_Sort_int Tryz.lays189 b 0 (c - 0) l w hH (lt_of_get e2) (by omega)
  rw [p1] at hcall
  refine hcall.mono fun e w' ⟨q1, nn, os, q2⟩ => ?_
  have hb' := heap_sortedI (n := nn) (os := os) (srt l).toArray e2
  have hg := grownBy_sortedI (w := w) (g := b) (n := nn) (os := os) (srt l).toArray
  have hw' : w' = grow (putRow (Value.int .i64) (Sort.ahead w nn) b 0 (srt l).toArray) os := q2
  rw [← hw'] at hb' hg
  refine ⟨_, ρ, q1, HRel.wrCh hr hf hrow rfl b1 (o := _) ?_ hb' ⟨hg.size, fun k h1 h2 => hg.block k h1 (fun e => h2 e.symm), hg.os, hg.tape, hg.output⟩ ⟨[], rfl, rfl⟩⟩
  have htk := take_putCellsI (l.map (Value.int .i64) ++ tail).toArray (srt l) (by simp [srt_len])
  refine ⟨(srt l).map (Value.int .i64), (putCells (Value.int .i64) 0 (srt l).toArray (l.map (Value.int .i64) ++ tail).toArray).toList.drop (srt l).length, (0, 0), ?_, ⟨by rw [srt_len]; exact g1, rfl⟩, fun _ => rfl, ?_⟩
  · rw [← htk, List.take_append_drop]
  · refine ⟨?_, g4.2⟩
    show ((srt l).map (Value.int .i64) ++ _).length = c * 1
    rw [← htk, List.take_append_drop]
    simpa [putCells] using hsz
theorem sumSort_ok : SumAOK Tryz.prog 138 sumSort := by
  intro args s v hp nx lg ps ht h hps
  unfold sumSort at h
  split at h <;> try (cases h; done)
  · simp only [Option.some.injEq, Prod.mk.injEq] at h
    obtain ⟨rfl, rfl, rfl, rfl, rfl⟩ := h
    refine CallInfo.quiet ht ⟨_, Tryz.func138, rfl⟩ fun ρ w vs hr ha => ?_
    obtain ⟨V, vs1, hV, h3, rfl⟩ := ha
    cases h3; cases hV
    exact (Any.slices_Sort_int_none Tryz.lays189 none 0 w).mono fun e w' ⟨e1, e2⟩ => ⟨_, e1, ⟨[], rfl, rfl⟩, by rw [e2]; exact Below.refl _ _⟩
  · rename_i nm len
    split at h <;> try (cases h; done)
    rename_i l n hrow
    obtain ⟨t', h, q⟩ := T.set_ok _ _ _ _ _ _ h
    simp only [Option.some.injEq, Prod.mk.injEq] at h
    obtain ⟨rfl, rfl, rfl, rfl, rfl⟩ := h
    obtain ⟨p1, p2, p3, _⟩ := hps
    exact sort_info ht hrow p1 p2 p3 q
end Go.Sx

namespace Go.Sx
open Go.Proofs Go.RowKit Go.Sort
set_option maxRecDepth 100000
noncomputable def zR : Code → Code | .seq _ b => b | .block _ c => c | .loop c => c | .cond _ _ e => e | c => c
noncomputable def zL : Code → Code | .seq a _ => a | .block _ c => c | .loop c => c | .cond _ t _ => t | c => c
noncomputable def zB (f : Nat) : Code := match Tryz.prog.funcs[f]? with | some fn => (match fn.body with | some c => c | none => .skip) | none => .skip
theorem zng : ∀ (g : Nat) (fn : Func), Tryz.prog.funcs[g]? = some fn → (fn.name == "runtime.NumGoroutine") = false := by
  have h : Tryz.prog.funcs.toList.all (fun fn => !(fn.name == "runtime.NumGoroutine")) = true := by kernel_rfl
  intro g fn hf
  rw [List.all_eq_true] at h
  have := h fn (by obtain ⟨hg, rfl⟩ := Array.getElem?_eq_some_iff.1 hf; simp)
  simpa using this
theorem zmixed : Tryz.prog.follows .mixedOrders = true := by kernel_rfl
/-! ### graph.ids: f231 -/
structure Pt where
  id : Int
  at_ : Int
  off : Int
  kind : Int
  owner : Int
  child : Int
  wr : Bool
def Pt.cells (p : Pt) : List Cell := [.int .i64 p.id, .int .i64 p.at_, .int .i64 p.off, .any, .int .i64 p.kind, .any, .int .i64 p.owner, .int .i64 p.child, .bool p.wr]
def encP (p : Int × Pt) : Cell × AV := (.int .i64 p.1, .agg p.2.cells)
noncomputable def hsI (last : Int) (ps : List (Int × Pt)) (ext : List (Nat × Blk)) : T Blk := ofL ((0, .row 179 true none (.cells [.int .i64 last, .map 1])) :: (1, .mapR (ps.map encP)) :: ext)
noncomputable def c231 : Code := zB 80
theorem body231 : Tryz.f80.body = some c231 := by kernel_rfl
noncomputable def regOps : Code → Array Oper | .region _ ops _ => ops | _ => #[]
noncomputable def rg231 : Code := zL (zR (zR (zR c231)))
noncomputable def opsA231 : Array Oper := regOps (zL rg231)
noncomputable def lb231 : Code := zL (zL (zR rg231))     -- the loop's body
noncomputable def oN231 : Oper := (regOps (zL lb231))[0]!
noncomputable def oX231 : Oper := (regOps (zL lb231))[1]!
noncomputable def bE231 : Code := zL (zR (zR lb231))      -- behind the test
noncomputable def opsE231 : Array Oper := regOps (zL bE231)
noncomputable def bd231 : Code := zR bE231
theorem rg231_eq : rg231 = rangeCode 4 opsA231 0 5 oN231 oX231 17 1 6 opsE231 bd231 := by kernel_rfl
noncomputable def pre231 : List Oper := opsA231.toList.take 4
noncomputable def oR231 : Oper := opsA231[4]!
noncomputable def oE231 : Oper := opsE231[0]!
noncomputable def rE231 : List Oper := opsE231.toList.drop 1
theorem form231 : RangeForm 31 opsA231 pre231 oR231 oN231 oX231 oE231 opsE231 rE231 177 14 15 16 17 18 where
  A := by kernel_rfl
  R := by kernel_rfl
  Rd := by kernel_rfl
  Rg := by kernel_rfl
  N := by kernel_rfl
  Nd := by kernel_rfl
  Ng := by kernel_rfl
  X := by kernel_rfl
  Xd := by kernel_rfl
  Xg := by kernel_rfl
  E := by kernel_rfl
  Eo := by kernel_rfl
  Ed := by kernel_rfl
  Eg := by kernel_rfl
  lt := by decide
  ne := by decide
theorem under304 : Tryz.prog.underlying 177 = some (.map 3 86) := by kernel_rfl
noncomputable def sgS : FuncId → Option SumA := fun f => match f with | 138 => some sumSort | _ => none
theorem fitS : Fit Tryz.prog (fun f => (sgS f).map toSum) := ⟨zng, zmixed, SumAOK.sum fun f sm h => by
  unfold sgS at h
  split at h
  · cases h; exact sumSort_ok
  · cases h⟩
def selB (B : Pt → Bool) (d : List (Int × Pt)) : List Int := (d.filter fun p => B p.2).map Prod.fst
theorem selB_snoc {B : Pt → Bool} {d : List (Int × Pt)} {x : Int × Pt} : selB B (d ++ [x]) = selB B d ++ (if B x.2 then [x.1] else []) := by
  unfold selB
  rw [List.filter_append, List.map_append]
  cases h : B x.2 <;> simp [h]
theorem selB_perm {B : Pt → Bool} {d l : List (Int × Pt)} (h : d.Perm l) : (selB B d).Perm (selB B l) := (h.filter _).map _
theorem selB_le {B : Pt → Bool} {d : List (Int × Pt)} : (selB B d).length ≤ d.length := by
  unfold selB; rw [List.length_map]; exact List.length_filter_le ..
theorem fits3 {m : Nat} (h : m ≤ 1000000000) : decide (fits Tryz.prog.types[3]! (m + 1) = true) = true := by
  have e : Tryz.prog.types[3]!.bytes = 8 := by kernel_rfl
  unfold fits
  rw [e]
  simp only [decide_eq_true_eq, Bool.and_eq_true, Nat.ble_eq]
  omega
end Go.Sx

namespace Go.Sx
open Go.Proofs Go.RowKit Go.Sort
set_option maxRecDepth 100000
/-! ### the closures that graph.ids is called with -/
theorem fit0z : Fit Tryz.prog (fun f => ((fun _ => none : FuncId → Option SumA) f).map toSum) := ⟨zng, zmixed, SumAOK.sum fun f sm h => by cases h⟩
abbrev ptC (a b c : Int) (d : Cell) (e : Int) (g : Cell) (h i : Int) (j : Bool) : List Cell := [.int .i64 a, .int .i64 b, .int .i64 c, d, .int .i64 e, g, .int .i64 h, .int .i64 i, .bool j]
theorem pt_wk {ρ ρ' : Rho} {a b c e h i : Int} {d g : Cell} {j : Bool} {V : Value} (hr : RVR ρ (.one (.agg (ptC a b c d e g h i j))) V) : RVR ρ' (.one (.agg (Pt.cells ⟨a, b, c, e, h, i, j⟩))) V := by
  obtain ⟨vs, ⟨v1, _, rfl, ⟨v2, _, rfl, ⟨v3, _, rfl, ⟨v4, _, h4, ⟨v5, _, rfl, ⟨v6, _, h6, ⟨v7, _, rfl, ⟨v8, _, rfl, ⟨v9, _, rfl, rfl, rfl⟩, rfl⟩, rfl⟩, rfl⟩, rfl⟩, rfl⟩, rfl⟩, rfl⟩, rfl⟩, rfl⟩ := hr
  exact ⟨_, ⟨_, _, rfl, ⟨_, _, rfl, ⟨_, _, rfl, ⟨_, _, h4.one, ⟨_, _, rfl, ⟨_, _, h6.one, ⟨_, _, rfl, ⟨_, _, rfl, ⟨_, _, rfl, rfl, rfl⟩, rfl⟩, rfl⟩, rfl⟩, rfl⟩, rfl⟩, rfl⟩, rfl⟩, rfl⟩, rfl⟩
noncomputable abbrev rc (f : Nat) (ar : List RV) (hp : T Blk) (nx : Nat) (o : List (Nat × Bool)) := runA Tryz.prog (fun _ => none) 300 f ar ⟨.nil, hp, nx, []⟩ ⟨0, o, []⟩ (fun v s α => some (v, s.lg.isEmpty, α.ob))
noncomputable def sumB0 (B : Pt → Bool) : SumA := fun args hp nx => match args with
  | [.one (.agg [.int .i64 a, .int .i64 b, .int .i64 c, _, .int .i64 e, _, .int .i64 h, .int .i64 i, .bool j])] => some (.one (.c (.bool (B ⟨a, b, c, e, h, i, j⟩))), hp, nx, [], [])
  | _ => none
theorem sumB0_ok {f : Nat} {B : Pt → Bool} (hfn : ∃ fn, Tryz.prog.funcs[f]? = some fn ∧ fn.body.isNone = false) (h : ∀ p : Pt, rc f [.one (.agg p.cells)] .nil 0 [] = some (.one (.c (.bool (B p))), true, [])) : SumAOK Tryz.prog f (sumB0 B) := by
  intro args s v hp nx lg ps ht hs _
  unfold sumB0 at hs
  split at hs <;> try (cases hs; done)
  simp only [Option.some.injEq, Prod.mk.injEq] at hs
  obtain ⟨rfl, rfl, rfl, rfl, rfl⟩ := hs
  refine CallInfo.smallW (k := 0) (hs := .nil) (θ := id) (args0 := [.one (.agg (Pt.cells ⟨_, _, _, _, _, _, _⟩))]) ht hfn (fun ρ w vs hr hf ha => quiet_path fit0z (fun _ _ => rfl) (h _) trivial ρ w vs hr hf ha) (fun _ _ h => by rw [T.get_nil] at h; cases h) (fun _ _ _ _ h => by rw [T.get_nil] at h; cases h) (fun ρ vs ⟨V, vs', h1, h2, h3⟩ => ⟨V, vs', pt_wk h1, h2, h3⟩) rfl
/-- .. with a box of a number -/
noncomputable def sumB1 (B : Pt → Int → Bool) : SumA := fun args hp nx => match args with
  | [.one (.agg [.int .i64 a, .int .i64 b, .int .i64 c, _, .int .i64 e, _, .int .i64 h, .int .i64 i, .bool j]), .one (.c (.ptr nm 0))] => match hp.get nm with
    | some (.row _ _ _ (.ints .i64 [x] 1)) => some (.one (.c (.bool (B ⟨a, b, c, e, h, i, j⟩ x))), hp, nx, [], [])
    | _ => none
  | _ => none
theorem sumB1_ok {f : Nat} {B : Pt → Int → Bool} (hfn : ∃ fn, Tryz.prog.funcs[f]? = some fn ∧ fn.body.isNone = false)
    (h : ∀ (p : Pt) (x : Int) (t : TypeId) (op : Option Nat), ∃ o ps, rc f [.one (.agg p.cells), .one (.c (.ptr 0 0))] (.node .nil (some (.row t true op (.ints .i64 [x] 1))) .nil) 1 o = some (.one (.c (.bool (B p x))), true, ps) ∧ All ps) : SumAOK Tryz.prog f (sumB1 B) := by
  intro args s v hp nx lg ps ht hs _
  unfold sumB1 at hs
  split at hs <;> try (cases hs; done)
  split at hs <;> try (cases hs; done)
  rename_i nm _ t ro op x hrow
  simp only [Option.some.injEq, Prod.mk.injEq] at hs
  obtain ⟨rfl, rfl, rfl, rfl, rfl⟩ := hs
  refine CallInfo.smallW (k := 1) (hs := .node .nil (some (.row t true op (.ints .i64 [x] 1))) .nil) (θ := fun _ => nm) (args0 := [.one (.agg (Pt.cells ⟨_, _, _, _, _, _, _⟩)), .one (.c (.ptr 0 0))]) ht hfn
    (fun ρ w vs hr hf ha => by obtain ⟨o, ps, h1, h2⟩ := h _ x t op; exact quiet_path fit0z (fun i hi => by have hi' : 1 ≤ i := hi; show T.get _ i = none; rw [T.get1, if_neg (by omega)]) h1 h2 ρ w vs hr hf ha) ?_ ?_ ?_ rfl
  · intro i y hy
    rw [T.get1] at hy
    split at hy <;> cases hy
    rename_i e; subst e
    exact ⟨by omega, _, hrow, (fun h => by cases h), RoOf.ints.2⟩
  · intro i j y z hy _ hw
    rw [T.get1] at hy
    split at hy <;> cases hy
    cases hw
  · rintro ρ vs ⟨V, vs', h1, ⟨V2, vs2, ⟨b, c, h3, h4⟩, h5, h6⟩, h7⟩
    exact ⟨V, vs', pt_wk h1, ⟨V2, vs2, ⟨b, c, by rw [rho0, if_pos (by omega)]; exact h3, h4⟩, h5, h6⟩, h7⟩
theorem sumOwner_ok : SumAOK Tryz.prog 81 (sumB1 fun p x => p.owner == x) := sumB1_ok ⟨_, Tryz.func81, rfl⟩ fun p x t op => ⟨[], [], by kernel_rfl, trivial⟩
theorem open_T (p : Pt) (x : Int) (t : TypeId) (op : Option Nat) : rc 202 [.one (.agg p.cells), .one (.c (.ptr 0 0))] (.node .nil (some (.row t true op (.ints .i64 [x] 1))) .nil) 1 [(1, true), (2, true), (3, true), (4, true)] = some (.one (.c (.bool (!p.wr))), true, [(p.at_ == x) = true, (p.at_ == x) = true, (p.at_ == x) = true, (p.at_ == x) = true]) := by kernel_rfl
theorem open_F (p : Pt) (x : Int) (t : TypeId) (op : Option Nat) : rc 202 [.one (.agg p.cells), .one (.c (.ptr 0 0))] (.node .nil (some (.row t true op (.ints .i64 [x] 1))) .nil) 1 [(1, false), (2, false), (3, false), (4, false)] = some (.one (.c (.bool false)), true, [(p.at_ == x) = false, (p.at_ == x) = false, (p.at_ == x) = false, (p.at_ == x) = false]) := by kernel_rfl
theorem sumOpen_ok : SumAOK Tryz.prog 202 (sumB1 fun p x => p.at_ == x && !p.wr) := sumB1_ok ⟨_, Tryz.func202, rfl⟩ fun p x t op => by
  cases h : (p.at_ == x) with
  | true => exact ⟨_, _, open_T p x t op, h, h, h, h, trivial⟩
  | false => exact ⟨_, _, open_F p x t op, h, h, h, h, trivial⟩
/-- .. with a box of a map -/
noncomputable def mapOf (hp : T Blk) (m : Nat) : Option (List (Cell × AV)) := match hp.get m with | some (.map es) => some es | some (.mapR es) => some es | _ => none
theorem mapOf_ok {hp : T Blk} {m : Nat} {es : List (Cell × AV)} (h : mapOf hp m = some es) : hp.get m = some (.map es) ∨ hp.get m = some (.mapR es) := by
  unfold mapOf at h
  split at h <;> cases h
  · left; assumption
  · right; assumption
noncomputable def sumB2 : SumA := fun args hp nx => match args with
  | [.one (.agg [.int .i64 a, .int .i64 _, .int .i64 _, _, .int .i64 _, _, .int .i64 _, .int .i64 _, .bool _]), .one (.c (.ptr nm 0))] => match hp.get nm with
    | some (.row _ _ _ (.cells [.map m])) => match mapOf hp m with
      | some es => some (.one (.c (.bool (getI (unI es) a != 0))), hp, nx, [], [isI es = true])
      | none => none
    | _ => none
  | _ => none
end Go.Sx
