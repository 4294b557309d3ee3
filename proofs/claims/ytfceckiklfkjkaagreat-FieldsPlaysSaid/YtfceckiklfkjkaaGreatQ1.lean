/-
  Parts of the executor Sx over the model's code (any program), or of this seat's walks: words and proofs that the row's text uses.
-/
import Derived.Test.YtfceckiklfkjkaaGreatW1
import Derived.Test.YtfceckiklfkjkaaGreatK1
namespace Go.Sx
open Go.Proofs Go.RowKit Go.Maps Go.Shelf

noncomputable def stp8 (r : Nat) : Nat := stp (stp (stp (stp (stp (stp (stp (stp r)))))))
noncomputable def sumStep : Sum := fun args hp nx =>
  match args with
  | [.one (.c (.int .u32 (.ofNat r))), .one (.c (.int .i64 (.ofNat m)))] => if Nat.beq m 8 && Nat.blt r 4294967296 then fNat (stp8 r) fun x => some (.one (.c (.int .u32 (.ofNat x))), hp, nx, []) else none
  | _ => none

theorem sumStep_ok {f : FuncId} (hfn : ∃ fn, Tryz.prog.funcs[f]? = some fn ∧ fn.body.isNone = false)
    (hc : ∀ (r n : Nat) (_ : r < 4294967296) (_ : n ≤ 1000000000000) (w : World), Calls Tryz.prog f #[.int .u32 r, .int .i64 n] w fun e w' => e = .returned (.int .u32 (iter stp n r)) ∧ w' = w)
    (args : List RV) (s : S) (v : RV) (hp : T Blk) (nx : Nat) (lg : List Nat) (ht : Top s) (h : sumStep args s.hp s.nx = some (v, hp, nx, lg)) :
    CallInfo Tryz.prog f args s v { s with hp := hp, nx := nx, lg := lg ++ s.lg } lg := by
  unfold sumStep at h
  split at h <;> try (cases h; done)
  rename_i r m
  split at h <;> try (cases h; done)
  rename_i hg
  rw [fNat_eq] at h
  simp only [Option.some.injEq, Prod.mk.injEq] at h
  obtain ⟨rfl, rfl, rfl, rfl⟩ := h
  simp only [Bool.and_eq_true, Nat.blt_eq] at hg
  obtain ⟨hm, hr⟩ := hg
  obtain rfl := Nat.eq_of_beq_eq_true hm
  refine CallInfo.quiet ht hfn fun ρ w vs hr' ha => ?_
  obtain ⟨V, vs1, hV, ⟨V2, vs2, hV2, h3, rfl⟩, rfl⟩ := ha
  cases hV; cases hV2; cases h3
  exact (hc r 8 hr (by omega) w).mono fun e w' ⟨e1, e2⟩ => ⟨_, e1, rfl, by rw [e2]; exact Below.refl _ _⟩

noncomputable def sumCollect : Sum := fun args hp nx =>
  match args with
  | [.one (.c (.fn 188 [] [(bx, 0)]))] => match getRow hp.get bx with
    | some (_, _, _, .cells [.map nm]) => match hp.get nm with
      | some (.map []) => some (.one (.c .sl0), hp, nx, [])
      | _ => none
    | _ => none
  | _ => none

theorem ownsMap_nil {H : Type} {w : World} {b : Nat} {es : Array MapEntry} {clock : Nat} (h : w.heap[b]? = some (.map es clock)) (he : es.toList = []) :
    w.ownsMap (H := H) Tryz.prog 3 (fun _ => none) b 0 (.map []) := by
  obtain rfl : es = #[] := by simpa using he
  exact ⟨#[], clock, h, ⟨Nat.zero_le _, Go.MapKept.stamped_empty clock, by simp⟩, Nat.le_refl _, rfl⟩

theorem collect_nil {w : World} {bx mb : Nat} {es : Array MapEntry} {clock : Nat} (hc : w.cell? ⟨bx, 0, none⟩ = some (.map (some mb))) (hm : w.heap[mb]? = some (.map es clock)) (he : es.toList = []) :
    Calls Tryz.prog 186 #[.func (.func 188) #[] #[.pointer (some ⟨bx, 0, none⟩)]] w fun e w' => e = .returned (.slice none 0 0) ∧ Below w.heap.size w w' := by
  refine (callsIn_wide (n := 6)).1 ?_
  have hown : w.ownsMap (H := Unit) Tryz.prog 3 (fun _ => none) mb 0 (.map []) := ownsMap_nil hm he
  have hbx : bx < w.heap.size := by
    unfold World.cell? at hc
    split at hc <;> try (cases hc; done)
    rename_i h
    exact (Array.getElem?_eq_some_iff.1 h).1
  have hseq := Ky.keys_gives Fence.wide 4 trivial rfl (by omega) bx mb 0 _ w hbx hc hown
  refine (Ky.collect_in Fence.wide 6 trivial trivial rfl (by omega) 188 #[.pointer (some ⟨bx, 0, none⟩)] trivial (enters_of Tryz.func188 (by kernel_rfl) rfl) _ _ (Nat.zero_le _) (by simp) w hseq).mono ?_
  rintro e w' ⟨v, ss, rfl, hS, _, hn, hb⟩
  have : ss = [] := List.perm_nil.1 hS
  exact ⟨by rw [hn.2 this], hb⟩

theorem sumCollect_ok (args : List RV) (s : S) (v : RV) (hp : T Blk) (nx : Nat) (lg : List Nat) (ht : Top s) (h : sumCollect args s.hp s.nx = some (v, hp, nx, lg)) :
    CallInfo Tryz.prog 186 args s v { s with hp := hp, nx := nx, lg := lg ++ s.lg } lg := by
  unfold sumCollect at h
  split at h <;> try (cases h; done)
  rename_i bx
  split at h <;> try (cases h; done)
  rename_i t ro o nm hrow
  split at h <;> try (cases h; done)
  rename_i hmap
  simp only [Option.some.injEq, Prod.mk.injEq] at h
  obtain ⟨rfl, rfl, rfl, rfl⟩ := h
  refine CallInfo.quiet ht ⟨_, Tryz.func186, rfl⟩ fun ρ w vs hr ha => ?_
  obtain ⟨V, vs1, hV, h3, rfl⟩ := ha
  cases h3
  obtain ⟨us, cs, h0, ⟨b, c, vs2, hb, h4, rfl⟩, rfl⟩ := hV
  cases h4; cases h0
  unfold getRow at hrow
  split at hrow <;> try (cases hrow; done)
  rename_i h5
  cases hrow
  obtain ⟨b', c', ob, e1, e2, e3⟩ := hr.ok _ _ h5
  rw [hb] at e1
  cases e1
  obtain ⟨vs, tail, fr, rfl, ⟨mv, _, ⟨mb, mc, m1, rfl⟩, rfl, rfl⟩, _, _⟩ := e3
  obtain ⟨mb', mc', om, g1, g2, g3⟩ := hr.ok _ _ hmap
  rw [m1] at g1
  cases g1
  obtain ⟨ents, clock, rfl, hes, _⟩ := g3
  have hcell : w.cell? ⟨b, 0, none⟩ = some (.map (some mb)) := by simp [World.cell?, e2]
  exact (collect_nil hcell g2 hes).mono fun e w' ⟨q1, q2⟩ => ⟨_, q1, rfl, q2⟩

set_option maxRecDepth 100000 in
set_option maxHeartbeats 2000000 in
theorem len64_zero (w : World) : Calls Tryz.prog 271 #[.int .u64 0] w fun e w' => e = .returned (.int .i64 0) ∧ w' = w := by
  go_enter Tryz.func271, Tryz.ntmps271
  go_wp2
  go_ret
  exact ⟨by kernel_rfl, rfl⟩
noncomputable def sumLen : Sum := fun args hp nx =>
  match args with
  | [.one (.c (.int .u64 (.ofNat 0)))] => some (.one (.c (.int .i64 0)), hp, nx, [])
  | _ => none
theorem sumLen_ok (args : List RV) (s : S) (v : RV) (hp : T Blk) (nx : Nat) (lg : List Nat) (ht : Top s) (h : sumLen args s.hp s.nx = some (v, hp, nx, lg)) :
    CallInfo Tryz.prog 271 args s v { s with hp := hp, nx := nx, lg := lg ++ s.lg } lg := by
  unfold sumLen at h
  split at h <;> try (cases h; done)
  simp only [Option.some.injEq, Prod.mk.injEq] at h
  obtain ⟨rfl, rfl, rfl, rfl⟩ := h
  refine CallInfo.quiet ht ⟨_, Tryz.func271, rfl⟩ fun ρ w vs hr' ha => ?_
  obtain ⟨V, vs1, hV, h3, rfl⟩ := ha
  cases hV; cases h3
  exact (len64_zero w).mono fun e w' ⟨e1, e2⟩ => ⟨_, e1, rfl, by rw [e2]; exact Below.refl _ _⟩

noncomputable def sg0 : FuncId → Option Sum := fun f => match f with | 302 => some sumStep | 277 => some sumStep | 186 => some sumCollect | 271 => some sumLen | _ => none
theorem sg0_ok : SumOK Tryz.prog sg0 := by
  intro g sm h args s v hp nx lg ht hs
  unfold sg0 at h
  split at h
  · cases h; exact sumStep_ok ⟨_, Tryz.func302, rfl⟩ stepped_any args s v hp nx lg ht hs
  · cases h; exact sumStep_ok ⟨_, Tryz.func277, rfl⟩ step_any args s v hp nx lg ht hs
  · cases h; exact sumCollect_ok args s v hp nx lg ht hs
  · cases h; exact sumLen_ok args s v hp nx lg ht hs
  · cases h
end Go.Sx

namespace Go.Sx
open Go.Proofs Go.RowKit
theorem fit_ng : ∀ (g : Nat) (fn : Func), Tryz.prog.funcs[g]? = some fn → (fn.name == "runtime.NumGoroutine") = false := by
  have h : Tryz.prog.funcs.toList.all (fun fn => !(fn.name == "runtime.NumGoroutine")) = true := by kernel_rfl
  intro g fn hf
  rw [List.all_eq_true] at h
  have := h fn (by obtain ⟨hg, rfl⟩ := Array.getElem?_eq_some_iff.1 hf; simp)
  simpa using this
theorem fit_mixed : Tryz.prog.follows .mixedOrders = true := by kernel_rfl
theorem fit0 : Fit Tryz.prog sg0 := ⟨fit_ng, fit_mixed, sg0_ok⟩
end Go.Sx

