/-
  Parts of the executor Sx over the model's code (any program), or of this seat's walks: words and proofs that the row's text uses.
-/
import Derived.Test.YtpenbfjpfmbgaaaGreatBIOw
import Derived.WalkKit
import Derived.Handy
import Derived.Defers
import Derived.Shelf.Spec.SlicesInsertGrow
namespace Go.Sx
open Go.Proofs Go.RowKit
set_option maxRecDepth 100000
set_option maxHeartbeats 2000000 in
theorem closeUse (b eb : Nat) (used : Int) (u : FrameMode) (w : World) (he : w.cell? ⟨eb, 0, none⟩ = some (.int .i64 0)) (sb : Nat) (hs : w.cell? ⟨sb, 0, none⟩ = some (.pointer (some ⟨b, 0, none⟩))) (h1 : w.cell? ⟨b, 1, none⟩ = some (.int .i64 used)) (hf : w.frozen? ⟨b, 1, none⟩ = false) :
    CallsD Tryz.prog 231 #[.pointer (some ⟨eb, 0, none⟩), .pointer (some ⟨sb, 0, none⟩)] u w fun e u' w' => u' = u ∧ (e = .returned (.tuple #[]) ∧ w' = w.setCell ⟨b, 1, none⟩ (.int .i64 (wrap64 (used + 1)))) := by
  go_enter_d Tryz.func231, Tryz.ntmps231
  go_wp2
  go_end0
  exact ⟨rfl, rfl⟩
set_option maxHeartbeats 4000000 in
theorem use_walk (b : Nat) (used : Int) (w : World) (h0 : w.cell? ⟨b, 0, none⟩ = some (.int .i64 (-1))) (h1 : w.cell? ⟨b, 1, none⟩ = some (.int .i64 used)) (h2 : w.cell? ⟨b, 2, none⟩ = some (.bool false)) (hf : w.frozen? ⟨b, 1, none⟩ = false) (hb : b < w.heap.size) :
    Calls Tryz.prog 194 #[.pointer (some ⟨b, 0, none⟩)] w fun e w' => e = .returned (.int .i64 0) ∧ ∃ w1, Below w.heap.size w w1 ∧ w' = w1.setCell ⟨b, 1, none⟩ (.int .i64 (wrap64 (used + 1))) := by
  have hmf : ∀ (fn : Fn) (first cap : Array Value) (w : World), (Instr.makeFunc fn first cap).run Tryz.prog w = .ok (.func fn first cap) w := fun _ _ _ _ => rfl
  go_enter_defers Tryz.func194, Tryz.ntmps194
  go_wp2
  obtain ⟨w1, hw1⟩ : ∃ w1, (w.alloc (Obj.cells #[Value.pointer (some ⟨b, 0, none⟩)] 49)).alloc (Obj.cells #[Value.int IntKind.i64 0] 26) = w1 := ⟨_, rfl⟩
  have hB : Below w.heap.size w w1 := by rw [← hw1]; exact ((Below.refl _ _).alloc (Nat.le_refl _) _).alloc (by simp) _
  have hn1 : w1.heap[w.heap.size + 1]? = some (Obj.cells #[Value.int IntKind.i64 0] 26) := by
    rw [← hw1]
    have := heap_alloc_new (w.alloc (Obj.cells #[Value.pointer (some ⟨b, 0, none⟩)] 49)) (Obj.cells #[Value.int IntKind.i64 0] 26)
    rwa [World.size_alloc] at this
  have hn0 : w1.heap[w.heap.size]? = some (Obj.cells #[Value.pointer (some ⟨b, 0, none⟩)] 49) := by
    rw [← hw1]
    exact (Below.heap_alloc _ _ _ (by simp)).trans (heap_alloc_new w _)
  have he : w1.cell? ⟨w.heap.size + 1, 0, none⟩ = some (.int .i64 0) := by simp only [World.cell?, hn1]; rfl
  have hs : w1.cell? ⟨w.heap.size, 0, none⟩ = some (.pointer (some ⟨b, 0, none⟩)) := by simp only [World.cell?, hn0]; rfl
  clear hn0 hn1
  have h1' : w1.cell? ⟨b, 1, none⟩ = some (.int .i64 used) := (hB.cell (p := ⟨b, 1, none⟩) hb).trans h1
  have hf' : w1.frozen? ⟨b, 1, none⟩ = false := (hB.frozen (p := ⟨b, 1, none⟩) hb).trans hf
  rw [hw1]
  refine leaves_cons (f := 231) (args := #[.pointer (some ⟨w.heap.size + 1, 0, none⟩), .pointer (some ⟨w.heap.size, 0, none⟩)]) (by simp) (by simp [go_sem]) ?_
  refine (closeUse b (w.heap.size + 1) used .returning _ he w.heap.size hs h1' hf').mono ?_
  rintro e u' w'' ⟨rfl, rfl, rfl⟩
  have he2 : (w1.setCell ⟨b, 1, none⟩ (.int .i64 (wrap64 (used + 1)))).cell? ⟨w.heap.size + 1, 0, none⟩ = some (.int .i64 0) := by
    rw [World.cell?_setCell_other (h := fun e => by have := congrArg Addr.block e; simp at this; omega)]; exact he
  refine ⟨.int .i64 0, ?_, rfl, w1, hB, rfl⟩
  simp [results, Tryz.results194, go_sem, he2]
end Go.Sx

namespace Go.Sx
open Go.Proofs Go.RowKit Go.Sort
set_option maxRecDepth 100000
/-! ### slices.Insert and slices.Delete at []int: f375, f373 -/
theorem setCell_wr {w : World} {b off : Nat} {t : TypeId} {fr : Nat × Nat} {vs : List Value} {v : Value} (h : w.heap[b]? = some (.cells vs.toArray t fr)) (ho : off < vs.length) :
    WrW w b (.cells (vs.take off ++ v :: vs.drop (off + 1)).toArray t fr) (w.setCell ⟨b, off, none⟩ v) where
  size := by simp [World.setCell]
  at_ := by
    simp only [World.setCell, Array.getElem?_modify, if_true, h, Option.map_some, Option.isSome_none, Bool.false_eq_true, if_false]
    congr 2
    have e := List.set_eq_take_append_cons_drop (l := vs) (i := off) (a := v)
    rw [if_pos ho] at e
    rw [← e]
    simp [Array.setIfInBounds, ho]
  other := fun i hi => by simp [World.setCell, Array.getElem?_modify, Ne.symm hi]
  os := rfl
  tape := rfl
  out := rfl
theorem setCells_wr {b : Nat} {t : TypeId} {fr : Nat × Nat} : ∀ (us : List Value) (off : Nat) (w : World) (vs : List Value), w.heap[b]? = some (.cells vs.toArray t fr) → off + us.length ≤ vs.length →
    WrW w b (.cells (vs.take off ++ (us ++ vs.drop (off + us.length))).toArray t fr) (w.setCells b off us)
  | [], off, w, vs, h, _ => ⟨rfl, by rw [show w.setCells b off [] = w from rfl]; simpa using h, fun _ _ => rfl, rfl, rfl, rfl⟩
  | u :: us, off, w, vs, h, hl => by
    simp only [List.length_cons] at hl
    have h1 := setCell_wr (off := off) (v := u) h (by omega)
    have h2 := setCells_wr us (off + 1) (w.setCell ⟨b, off, none⟩ u) _ h1.at_ (by simp only [List.length_append, List.length_take, List.length_cons, List.length_drop]; omega)
    refine ⟨h2.size.trans h1.size, ?_, fun i hi => (h2.other i hi).trans (h1.other i hi), h2.os.trans h1.os, h2.tape.trans h1.tape, h2.out.trans h1.out⟩
    rw [show w.setCells b off (u :: us) = (w.setCell ⟨b, off, none⟩ u).setCells b (off + 1) us from rfl, h2.at_]
    congr 3
    have e1 : (List.take off vs ++ u :: List.drop (off + 1) vs).take (off + 1) = vs.take off ++ [u] := by
      rw [List.take_append, List.take_of_length_le (by simp; omega)]
      congr 1
      rw [show off + 1 - (vs.take off).length = 1 by simp; omega]
      simp
    have e2 : (List.take off vs ++ u :: List.drop (off + 1) vs).drop (off + 1 + us.length) = vs.drop (off + (us.length + 1)) := by
      rw [List.drop_append, List.drop_of_length_le (by simp; omega)]
      rw [show off + 1 + us.length - (vs.take off).length = us.length + 1 by simp; omega]
      simp; congr 1; omega
    rw [e1, e2]
    simp
theorem WrW.drewL {w w' : World} {b : Nat} {o : Obj} (h : WrW w.drew b o w') : WrW w b o w' := ⟨h.size, h.at_, h.other, h.os, h.tape, h.out⟩
theorem WrW.ch {w w' : World} {b : Nat} {o : Obj} (h : WrW w b o w') : ChW w w' (some b) := ⟨Nat.le_of_eq h.size.symm, fun k _ hk => h.other k (fun e => hk (by rw [e])), h.os, h.tape, h.out⟩
theorem cell_row {w : World} {b j : Nat} {t : TypeId} {fr : Nat × Nat} {vs : List Value} {v : Value} (h : w.heap[b]? = some (.cells vs.toArray t fr)) (hv : vs[j]? = some v) : w.cell? ⟨b, j, none⟩ = some v := by
  simp [World.cell?, h, hv]
theorem frozen_row {w : World} {b j : Nat} {t : TypeId} {vs : List Value} (h : w.heap[b]? = some (.cells vs.toArray t (0, 0))) : w.frozen? ⟨b, j, none⟩ = false := by
  simp [World.frozen?, h]
/-- what Insert of one at the front leaves -/
def InsR (w : World) (b : Option Nat) (n : Nat) (x : Int) (cs : List Value) (e : Ending) (w' : World) : Prop :=
  ∃ b' c' tl, e = .returned (.slice (some ⟨b', 0, none⟩) (n + 1) c') ∧ w'.heap[b']? = some (.cells ((.int .i64 x :: cs) ++ tl).toArray 3 (0, 0)) ∧ ((Value.int .i64 x :: cs) ++ tl).length = c' ∧ n + 1 ≤ c' ∧ c' ≤ 9223372036854775807 ∧ (w.heap.size ≤ b' ∨ b = some b') ∧ ChW w w' b
theorem alloc_new {w : World} {b : Option Nat} {n G : Nat} {x : Int} {cs : List Value} {w' : World} {e : Ending} (hG1 : n + 1 ≤ G) (hG2 : G ≤ 9223372036854775807) (hcl : cs.length = n) (he : e = .returned (.slice (some ⟨w.heap.size, 0, none⟩) (n + 1) G))
    (h1 : w'.heap[w.heap.size]? = some (.cells ((.int .i64 x :: cs) ++ List.replicate (G - (n + 1)) (Value.int .i64 0)).toArray 3 (0, 0))) (hs : w.heap.size ≤ w'.heap.size) (h2 : ∀ k, k < w.heap.size → w'.heap[k]? = w.heap[k]?) (h3 : w'.os = w.os) (h4 : w'.tape = w.tape) (h5 : w'.output = w.output) : InsR w b n x cs e w' :=
  ⟨_, _, _, he, h1, by simp; omega, hG1, hG2, .inl (Nat.le_refl _), ⟨hs, fun k hk _ => h2 k hk, h3, h4, h5⟩⟩
theorem zeroCells_int (k : Nat) : Builtin.zeroCells (Value.int .i64 0).cells k = (List.replicate k (Value.int .i64 0)).toArray := by
  apply Array.toList_inj.1
  simp only [Builtin.zeroCells, Value.cells]
  apply List.ext_getElem
  · simp
  · intro i h1 h2
    simp [Nat.mod_one]
section
variable {w : World} {b n c vb vc : Nat} {x : Int} {cs tl vtl : List Value} {tv : TypeId}
  (hv : w.heap[vb]? = some (.cells (Value.int .i64 x :: vtl).toArray tv (0, 0)))
include hv
theorem vs_at : ∀ j v, [Value.int .i64 x][j]? = some v → w.cell? ⟨vb, 0 + j, none⟩ = some v := by
  intro j v h
  rw [Nat.zero_add]
  refine cell_row hv ?_
  cases j with
  | zero => simpa using h
  | succ j => simp at h
theorem ins_nil : Calls Tryz.prog 246 #[.slice none 0 0, .int .i64 0, .slice (some ⟨vb, 0, none⟩) 1 vc] w (InsR w none 0 x []) := by
  have h := Any2.slices_Insert_int_end_grow Tryz.laysNm221 none 0 0 vb 0 1 vc [] [.int .i64 x] w (by omega) (by omega) (by omega) (by omega) rfl rfl (fun _ => rfl) (fun a h => by cases h) (vs_at hv) (by simp [Value.oneCell'])
  refine h.mono ?_
  rintro e w' ⟨rfl, rfl⟩
  have hg1 := grownCap_ge w (0 + 1) 0 3
  have hg2 := grownCap_le_maxLen w (0 + 1) 0 3 (by simp [maxLen])
  refine alloc_new hg1 (by simpa [maxLen] using hg2) rfl rfl ?_ ?_ ?_ rfl rfl rfl
  · have := heap_alloc_new w.drew (.cells (([] ++ [Value.int .i64 x]).toArray ++ Builtin.zeroCells (Value.int .i64 0).cells (grownCap w (0 + 1) 0 3 - (0 + 1))) 3)
    rw [show w.heap.size = w.drew.heap.size from rfl]
    refine this.trans ?_
    rw [zeroCells_int]
    simp
  · exact Nat.le_trans (Nat.le_succ _) (Nat.le_of_eq (World.size_alloc w.drew _).symm)
  · intro k hk
    exact Below.heap_alloc w.drew _ _ hk
theorem ins_row (hb : w.heap[b]? = some (.cells (cs ++ tl).toArray 3 (0, 0))) (hcl : cs.length = n) (hsz : (cs ++ tl).length = c) (hc : c ≤ 9223372036854775807) (hn : n ≤ 1000000000) (hne : vb ≠ b) (h1c : ∀ v ∈ cs, v.oneCell' = true) :
    Calls Tryz.prog 246 #[.slice (some ⟨b, 0, none⟩) n c, .int .i64 0, .slice (some ⟨vb, 0, none⟩) 1 vc] w (InsR w (some b) n x cs) := by
  have hsz' := hsz
  simp only [List.length_append, hcl] at hsz'
  have hcs : ∀ j v, cs[j]? = some v → w.cell? ⟨b, 0 + j, none⟩ = some v := by
    intro j v h
    rw [Nat.zero_add]
    refine cell_row hb ?_
    rw [List.getElem?_append_left (List.getElem?_eq_some_iff.1 h).1]; exact h
  have hsp : ∀ j, j < c → (w.cell? ⟨b, 0 + j, none⟩).isSome = true := by
    intro j hj
    rw [Nat.zero_add, cell_row hb (List.getElem?_eq_getElem (by omega))]; rfl
  have hG1 := grownCap_ge w (n + 1) c 3
  have hG2 := grownCap_le_maxLen w (n + 1) c 3 (by simp [maxLen]; omega)
  simp only [maxLen] at hG2
  have hG2 : grownCap w (n + 1) c 3 ≤ 9223372036854775807 := hG2
  rcases Nat.eq_zero_or_pos n with rfl | hpos
  · obtain rfl : cs = [] := List.length_eq_zero_iff.1 hcl
    by_cases hroom : 0 + 1 ≤ c
    · have h := Any2.slices_Insert_int_end_room Tryz.laysNm221 b 0 0 c vb 0 1 vc [.int .i64 x] w (by omega) hroom hc rfl (fun j hj => by have := hsp j (by omega); simpa using this) (fun j _ => frozen_row hb) (vs_at hv) (by simp [Value.oneCell'])
      refine h.mono ?_
      rintro e w' ⟨rfl, rfl⟩
      have hw := setCells_wr [.int .i64 x] (0 + 0) w _ hb (by rw [hsz]; simpa using hroom)
      refine ⟨b, c, tl.drop 1, rfl, ?_, ?_, hroom, hc, .inr rfl, hw.ch⟩
      · rw [hw.at_]; simp
      · simp at hsz' ⊢; omega
    · have h := Any2.slices_Insert_int_end_grow Tryz.laysNm221 (some ⟨b, 0, none⟩) 0 c vb 0 1 vc [] [.int .i64 x] w (by omega) (by omega) (by omega) (by omega) rfl rfl (fun h => by cases h) (fun a h j v hj => by simp at hj) (vs_at hv) (by simp [Value.oneCell'])
      refine h.mono ?_
      rintro e w' ⟨rfl, rfl⟩
      refine alloc_new hG1 hG2 rfl rfl ?_ ?_ ?_ rfl rfl rfl
      · have := heap_alloc_new w.drew (.cells (([] ++ [Value.int .i64 x]).toArray ++ Builtin.zeroCells (Value.int .i64 0).cells (grownCap w (0 + 1) c 3 - (0 + 1))) 3)
        rw [show w.heap.size = w.drew.heap.size from rfl]
        refine this.trans ?_
        rw [zeroCells_int]
        simp
      · exact Nat.le_trans (Nat.le_succ _) (Nat.le_of_eq (World.size_alloc w.drew _).symm)
      · intro k hk
        exact Below.heap_alloc w.drew _ _ hk
  · by_cases hroom : n + 1 ≤ c
    · have h := Any2.slices_Insert_int_shift Tryz.laysNm221 b 0 n c 0 vb 0 1 vc cs [.int .i64 x] w hpos (by omega) hroom hc hne hcl rfl hcs (fun j hj => hsp j (by omega)) (fun j _ => frozen_row hb) (vs_at hv) h1c (by simp [Value.oneCell'])
        tv 3 (vtl.length + 1) c (by simp [World.shape?, hv]) (by simp [World.shape?, hb, ← hsz]) (by omega) (frozen_row hv) (frozen_row hv)
      refine h.mono ?_
      rintro e w' ⟨rfl, rfl⟩
      have hb' : w.drew.heap[b]? = some (.cells (cs ++ tl).toArray 3 (0, 0)) := hb
      have hw1 := setCells_wr (cs.drop 0) (0 + (0 + 1)) w.drew _ hb' (by simp; omega)
      have hw2 := setCells_wr [.int .i64 x] (0 + 0) _ _ hw1.at_ (by simp; omega)
      have hW : WrW w b _ _ := ⟨hw2.size.trans hw1.size, hw2.at_, fun i hi => (hw2.other i hi).trans (hw1.other i hi), hw2.os.trans hw1.os, hw2.tape.trans hw1.tape, hw2.out.trans hw1.out⟩
      refine ⟨b, c, tl.drop 1, rfl, ?_, by simp; omega, hroom, hc, .inr rfl, hW.ch⟩
      rw [hw2.at_]
      congr 3
      simp only [Nat.zero_add, List.drop_zero, List.take_zero, List.nil_append, List.length_singleton, List.singleton_append, List.cons_append, List.cons.injEq, true_and]
      have e1 : ((cs ++ tl).take 1).length = 1 := by simp; omega
      rw [List.drop_append, List.drop_of_length_le (by omega), e1]
      simp only [List.nil_append, Nat.sub_self, List.drop_zero]
      rw [List.drop_append, List.drop_of_length_le (by omega)]
      simp [hcl]
    · have h := Any2.slices_Insert_int_grow Tryz.laysNm221 b 0 n c 0 vb 0 1 vc cs [.int .i64 x] w hpos (by omega) (by omega) (by omega) (by omega) hcl rfl hcs (vs_at hv) h1c (by simp [Value.oneCell'])
      refine h.mono ?_
      rintro e w' ⟨rfl, rfl⟩
      obtain ⟨row, hrow⟩ : ∃ row, row = (cs.take 0).toArray ++ Builtin.zeroCells (Value.int .i64 0).cells (n + 1 - 0) ++ Builtin.zeroCells (Value.int .i64 0).cells (grownCap w (n + 1) c 3 - (n + 1)) := ⟨_, rfl⟩
      have hrl : row = (List.replicate (n + 1) (Value.int .i64 0) ++ List.replicate (grownCap w (n + 1) c 3 - (n + 1)) (Value.int .i64 0)).toArray := by
        rw [hrow, zeroCells_int, zeroCells_int]; simp
      obtain ⟨w1, hw1⟩ : ∃ w1, w1 = (w.alloc (.cells row 3)).drew := ⟨_, rfl⟩
      have h1 : w1.heap[w.heap.size]? = some (.cells row 3 (0, 0)) := by rw [hw1]; exact heap_alloc_new w _
      rw [hrl] at h1
      have s1 : w1.heap.size = w.heap.size + 1 := by rw [hw1]; exact World.size_alloc w _
      have hk1 : ∀ k, k < w.heap.size → w1.heap[k]? = w.heap[k]? := fun k hk => by rw [hw1]; exact Below.heap_alloc w _ _ hk
      have g1 := setCells_wr [.int .i64 x] 0 w1 _ h1 (by simp; omega)
      have g1' : (w1.setCells w.heap.size 0 [.int .i64 x]).drew.heap[w.heap.size]? = _ := g1.at_
      have g2 := setCells_wr (cs.drop 0) (0 + 1) _ _ g1' (by simp; omega)
      have fin : InsR w (some b) n x cs (.returned (.slice (some ⟨w.heap.size, 0, none⟩) (n + 1) (grownCap w (n + 1) c 3))) ((w1.setCells w.heap.size 0 [.int .i64 x]).drew.setCells w.heap.size (0 + 1) (cs.drop 0)) := by
        refine alloc_new hG1 hG2 hcl rfl ?_ ?_ ?_ ?_ ?_ ?_
        · rw [g2.at_]
          congr 3
          simp [hcl, List.replicate_succ]
          rw [show 1 + n = n + 1 by omega, List.drop_succ_cons, List.drop_replicate]
          congr 1; omega
        · rw [g2.size]; show w.heap.size ≤ (w1.setCells w.heap.size 0 [.int .i64 x]).heap.size; rw [g1.size]; omega
        · intro k hk
          rw [g2.other k (by omega)]
          exact (g1.other k (by omega)).trans (hk1 k hk)
        · rw [g2.os]; refine g1.os.trans ?_; rw [hw1]; rfl
        · rw [g2.tape]; refine g1.tape.trans ?_; rw [hw1]; rfl
        · rw [g2.out]; refine g1.out.trans ?_; rw [hw1]; rfl
      rw [hw1, hrow] at fin
      exact fin
end
end Go.Sx
