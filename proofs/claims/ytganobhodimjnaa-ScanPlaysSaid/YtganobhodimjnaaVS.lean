/-
  Parts of the executor Sx over the model's code (any program), or of this seat's walks: words and proofs that the row's text uses.
-/
import Derived.Test.YtganobhodimjnaaH1
import Derived.Test.YtganobhodimjnaaRows
import Derived.Test.YtganobhodimjnaaChecked
import Derived.WalkKit
import Derived.ProofKit
import Derived.OpenShut
import Derived.ShutString
import Derived.ChangeOld
import Derived.Below
import Derived.Deep.Slices
import Derived.Test.YtganobhodimjnaaS6
namespace Go.Proofs.Ytganobhodimjnaa
open Go.ChangeShapes Go.WideShapes Go.ChangeAt Go.RowKit
set_option linter.unusedVariables false
set_option maxRecDepth 100000

theorem own : ownKnob Try.prog.godebug = none := by kernel_rfl
theorem laidOut : laidOutB Try.prog = true := by kernel_rfl

/-! ### a row that lies somewhere begins in it -/
theorem rowAt_off {P : Program} {fits : TypeId → Bool} {d : Nat} {e : TypeId} {count off n : Nat} (h : rowAt P fits d e count off n = true) : off ≤ count * P.cellsOf e := by
  cases d with
  | zero => unfold rowAt at h; cases h
  | succ d =>
    unfold rowAt at h
    simp only at h
    split at h
    · cases h
    · rename_i hs
      have hdiv := Nat.div_add_mod off (P.cellsOf e)
      have hmod := Nat.mod_lt off (Nat.pos_of_ne_zero hs)
      have hle : off / P.cellsOf e < count ∨ (off % P.cellsOf e = 0 ∧ off / P.cellsOf e ≤ count) := by
        simp only [Bool.or_eq_true, Bool.and_eq_true, decide_eq_true_eq, beq_iff_eq] at h
        rcases h with h | h
        · exact .inr ⟨h.1.1, by have := h.1.2; omega⟩
        · exact .inl h.1
      rcases hle with h1 | ⟨h1, h2⟩
      · have := Nat.mul_le_mul_left (P.cellsOf e) h1
        rw [Nat.mul_succ] at this
        rw [Nat.mul_comm count]; omega
      · have := Nat.mul_le_mul_left (P.cellsOf e) h2
        rw [Nat.mul_comm count]; omega
theorem lies_off {P : Program} : ∀ {d : Nat} {e : TypeId} {count off : Nat} {u : TypeId} {n : Nat}, liesAt P d e count off u n = true → off ≤ count * P.cellsOf e
  | 0, _, _, _, _, _, h => by unfold liesAt at h; cases h
  | d + 1, e, count, off, u, n, h => by
    unfold liesAt at h
    simp only [Bool.or_eq_true] at h
    rcases h with h | h
    · exact rowAt_off h
    · split at h
      · exact lies_off h
      · cases h

/-- a slice of sectors, opened -/
theorem open_secs {H : Type} {enc : TypeId × Value → H} {W : World} {v0 : Value} {d0 : DataW H} {p0 : List MemPlace} (hv : Value.okWide Try.prog W .any 0 34 v0) (h0 : DataW.Trod enc Try.prog W 0 (fun _ => true) true 34 v0 d0 p0) :
    v0 = .slice none 0 0 ∨ ∃ (b off n cap : Nat) (cs : Array Value) (t : TypeId) (fr : Nat × Nat) (L : List Int), v0 = .slice (some ⟨b, off, none⟩) n cap ∧ n ≤ cap ∧ W.heap[b]? = some (.cells cs t fr) ∧ L.length = n * 64 ∧ off + n * 64 ≤ cs.size ∧ (cs.toList.drop off).take (n * 64) = L.map (Value.int .u8) ∧ Go.Sx.Bytes L := by
  obtain ⟨a0, n, cap, rfl⟩ := okWide_slice Try.underlying34 hv
  obtain ⟨fu, hf⟩ := h0
  rcases Go.Deep.open_slice Try.underlying34 hf with ⟨hcs, _⟩ | ⟨a, len', cap', m, fu', D, Pl, hcs, _, hle, _, hm, _, hel⟩
  · left
    simp [Value.cells] at hcs
    obtain ⟨rfl, rfl, rfl⟩ := hcs
    rfl
  · right
    simp [Value.cells] at hcs
    obtain ⟨rfl, rfl, rfl⟩ := hcs
    simp only [if_true] at hm
    subst hm
    -- the block
    have hok : Cell.ok Try.prog W .any 0 34 (.slice (some a) n m) := by
      unfold Value.okWide at hv
      rw [Try.underlying34] at hv
      simp only at hv
      unfold Cell.okWide at hv
      rw [Try.underlying34] at hv
      exact hv
    unfold Cell.ok at hok
    rw [Try.underlying34] at hok
    obtain ⟨_, _, _, hspot, row, cells, hshape, hlies⟩ := hok
    obtain ⟨b, off, spot⟩ := a
    have hspot' : spot = none := hspot
    subst hspot'
    unfold World.shape? at hshape
    split at hshape <;> try (cases hshape; done)
    rename_i cs t fr hheap
    have hheap' : W.heap[b]? = some (.cells cs t fr) := hheap
    simp only [Option.some.injEq, Prod.mk.injEq] at hshape
    obtain ⟨rfl, rfl⟩ := hshape
    have hoff : off ≤ cs.size := Nat.le_trans (lies_off hlies) (Nat.div_mul_le_self _ _)
    have c49 : Try.prog.cellsOf 49 = 64 := by kernel_rfl
    have c5 : Try.prog.cellsOf 5 = 1 := by kernel_rfl
    have hcell : ∀ j, j < n * 64 → ∃ z : Int, cs[off + j]? = some (.int .u8 z) ∧ (0 ≤ z ∧ z < 256) := fun j hj => by
      obtain ⟨cs', h1, h2⟩ := hel (j / 64) (by omega)
      rw [c49] at h1
      obtain ⟨_, hlen, hget⟩ := World.cells?_some h1
      obtain ⟨xs, fm, _, _, _, hxl, hx⟩ := DataW.trod_array Try.underlying49 h2
      have hx' := hx (j % 64) (by omega)
      rw [c5, Nat.mul_one, List.getElem?_eq_getElem (by omega)] at hx'
      obtain ⟨z, hz, _, hwf⟩ := DataW.trod_int Try.underlying5 hx'
      have hj' := hget (j % 64) (by omega)
      have hcz : cs'[j % 64]? = some (.int .u8 z) := by
        have : (cs'.drop (j % 64)).take 1 = [Value.int .u8 z] := hz
        have h3 : ((cs'.drop (j % 64)).take 1)[0]? = some (Value.int .u8 z) := by rw [this]; rfl
        rw [List.getElem?_take_of_lt (by omega), List.getElem?_drop, Nat.add_zero] at h3
        exact h3
      rw [hcz] at hj'
      refine ⟨z, ?_, by
        unfold Lit.wf at hwf
        simp [IntKind.min, IntKind.max, IntKind.signed, IntKind.bits] at hwf
        omega⟩
      rw [Go.Deep.add_add, show j / 64 * 64 + j % 64 = j by omega] at hj'
      unfold World.cell? at hj'
      have hb : ((⟨b, off, none⟩ : Addr).add j).block = b := by unfold Addr.add; split <;> rfl
      have ho : ((⟨b, off, none⟩ : Addr).add j).off = off + j := by unfold Addr.add; split <;> simp_all
      have hsp : ((⟨b, off, none⟩ : Addr).add j).spot = none := by unfold Addr.add; split <;> rfl
      rw [hb, hheap'] at hj'
      simp only [hsp, ho] at hj'
      exact hj'
    obtain ⟨Z, hZ⟩ := Go.Deep.choose_lt hcell
    have hsz : off + n * 64 ≤ cs.size := by
      rcases Nat.eq_zero_or_pos (n * 64) with h | h
      · omega
      · have := (hZ (n * 64 - 1) (by omega)).1
        have := (Array.getElem?_eq_some_iff.1 this).1
        omega
    refine ⟨b, off, n, m, cs, t, fr, (List.range (n * 64)).map Z, rfl, hle, hheap', by simp, hsz, ?_, fun x hx => by
      obtain ⟨j, hj, rfl⟩ := List.mem_map.1 hx
      exact (hZ j (List.mem_range.1 hj)).2⟩
    apply List.ext_getElem?
    intro j
    by_cases hj : j < n * 64
    · rw [List.getElem?_take_of_lt hj, List.getElem?_drop, Array.getElem?_toList, (hZ j hj).1]
      simp [hj]
    · rw [List.getElem?_eq_none (by simp; omega), List.getElem?_eq_none (by simp; omega)]

end Go.Proofs.Ytganobhodimjnaa

namespace Go.Proofs.Ytganobhodimjnaa
open Go.ChangeShapes Go.WideShapes Go.ChangeAt Go.RowKit
set_option linter.unusedVariables false
set_option maxRecDepth 100000


/-- a slice of acts, opened -/
theorem open_acts {H : Type} {enc : TypeId × Value → H} {W : World} {v0 : Value} {d0 : DataW H} {p0 : List MemPlace} (hv : Value.okWide Try.prog W .any 0 63 v0) (h0 : DataW.Trod enc Try.prog W 0 (fun _ => true) true 63 v0 d0 p0) :
    v0 = .slice none 0 0 ∨ ∃ (b off n cap : Nat) (cs : Array Value) (t : TypeId) (fr : Nat × Nat) (A : List Int), v0 = .slice (some ⟨b, off, none⟩) n cap ∧ n ≤ cap ∧ W.heap[b]? = some (.cells cs t fr) ∧ A.length = 56 * n ∧ off + 56 * n ≤ cs.size ∧ (cs.toList.drop off).take A.length = Go.Sx.cyc Go.Sx.ksA A ∧
      ∀ i t : Nat, i < n → 2 ≤ t → t < 56 → 0 ≤ A.getD (i * 56 + t) 0 ∧ A.getD (i * 56 + t) 0 < 256 := by
  have u63 : Try.prog.underlying 63 = some (.slice 57) := by kernel_rfl
  have u57 : ∃ f0 f1 f2, Try.prog.underlying 57 = some (.struct #[f0, f1, f2]) ∧ f0.offset = 0 ∧ f0.type = 3 ∧ f1.offset = 1 ∧ f1.type = 3 ∧ f2.offset = 2 ∧ f2.type = 55 := ⟨_, _, _, Try.underlying57, rfl, rfl, rfl, rfl, rfl, rfl⟩
  have u55 : Try.prog.underlying 55 = some (.array 54 5) := by kernel_rfl
  have u3 : Try.prog.underlying 3 = some (.int .i64) := by kernel_rfl
  obtain ⟨a0, n, cap, rfl⟩ := okWide_slice u63 hv
  obtain ⟨fu, hf⟩ := h0
  rcases Go.Deep.open_slice u63 hf with ⟨hcs, _⟩ | ⟨a, len', cap', m, fu', D, Pl, hcs, _, hle, _, hm, _, hel⟩
  · left
    simp [Value.cells] at hcs
    obtain ⟨rfl, rfl, rfl⟩ := hcs
    rfl
  · right
    simp [Value.cells] at hcs
    obtain ⟨rfl, rfl, rfl⟩ := hcs
    simp only [if_true] at hm
    subst hm
    have hok : Cell.ok Try.prog W .any 0 63 (.slice (some a) n m) := by
      unfold Value.okWide at hv
      rw [u63] at hv
      simp only at hv
      unfold Cell.okWide at hv
      rw [u63] at hv
      exact hv
    unfold Cell.ok at hok
    rw [u63] at hok
    obtain ⟨_, _, _, hspot, row, cells, hshape, hlies⟩ := hok
    obtain ⟨b, off, spot⟩ := a
    have hspot' : spot = none := hspot
    subst hspot'
    unfold World.shape? at hshape
    split at hshape <;> try (cases hshape; done)
    rename_i cs t fr hheap
    have hheap' : W.heap[b]? = some (.cells cs t fr) := hheap
    simp only [Option.some.injEq, Prod.mk.injEq] at hshape
    obtain ⟨rfl, rfl⟩ := hshape
    have hoff : off ≤ cs.size := Nat.le_trans (lies_off hlies) (Nat.div_mul_le_self _ _)
    have c57 : Try.prog.cellsOf 57 = 56 := by kernel_rfl
    have c55 : Try.prog.cellsOf 55 = 54 := by kernel_rfl
    have c3 : Try.prog.cellsOf 3 = 1 := by kernel_rfl
    have c5 : Try.prog.cellsOf 5 = 1 := by kernel_rfl
    obtain ⟨f0, f1, f2, u57, o0, t0, o1, t1, o2, t2⟩ := u57
    have hcell : ∀ j, j < n * 56 → ∃ z : Int, cs[off + j]? = some (.int (Go.Sx.ksA.getD (j % 56) .i64) z) ∧ (2 ≤ j % 56 → 0 ≤ z ∧ z < 256) := fun j hj => by
      obtain ⟨cs', h1, h2⟩ := hel (j / 56) (by omega)
      rw [c57] at h1
      obtain ⟨_, hlen, hget⟩ := World.cells?_some h1
      obtain ⟨xs, fm, _, _, _, hxl, hx⟩ := DataW.trod_struct u57 h2
      have hxl' : xs.length = 3 := hxl
      have hj' := hget (j % 56) (by omega)
      have hcz : ∃ z : Int, cs'[j % 56]? = some (.int (Go.Sx.ksA.getD (j % 56) .i64) z) ∧ (2 ≤ j % 56 → 0 ≤ z ∧ z < 256) := by
        have pick : ∀ (o : Nat) (z : Int) (k : IntKind), (cs'.drop o).take 1 = [Value.int k z] → cs'[o]? = some (.int k z) := fun o z k h => by
          have h3 : ((cs'.drop o).take 1)[0]? = some (Value.int k z) := by rw [h]; rfl
          rw [List.getElem?_take_of_lt (by omega), List.getElem?_drop, Nat.add_zero] at h3
          exact h3
        by_cases e0 : j % 56 = 0
        · have h := hx 0 f0 rfl
          rw [o0, t0, c3, List.getElem?_eq_getElem (by omega)] at h
          obtain ⟨z, hz, _, _⟩ := DataW.trod_int u3 h
          rw [e0]
          exact ⟨z, pick 0 z _ hz, fun h => by omega⟩
        · by_cases e1 : j % 56 = 1
          · have h := hx 1 f1 rfl
            rw [o1, t1, c3, List.getElem?_eq_getElem (by omega)] at h
            obtain ⟨z, hz, _, _⟩ := DataW.trod_int u3 h
            rw [e1]
            exact ⟨z, pick 1 z _ hz, fun h => by omega⟩
          · have h := hx 2 f2 rfl
            rw [o2, t2, c55, List.getElem?_eq_getElem (by omega)] at h
            obtain ⟨ys, fq, _, _, _, hyl, hy⟩ := DataW.trod_array u55 h
            have h := hy (j % 56 - 2) (by omega)
            rw [c5, Nat.mul_one, List.getElem?_eq_getElem (by omega)] at h
            obtain ⟨z, hz, _, hwf⟩ := DataW.trod_int Try.underlying5 h
            refine ⟨z, ?_, fun _ => by
              unfold Lit.wf at hwf
              simp [IntKind.min, IntKind.max, IntKind.signed, IntKind.bits] at hwf
              omega⟩
            have hk : Go.Sx.ksA.getD (j % 56) .i64 = .u8 := by
              obtain ⟨q, hq⟩ : ∃ q, j % 56 = q + 2 := ⟨j % 56 - 2, by omega⟩
              rw [hq]
              have : q < 54 := by omega
              show (List.replicate 54 IntKind.u8).getD q .i64 = .u8
              rw [List.getD_eq_getElem?_getD, List.getElem?_replicate, if_pos this]; rfl
            rw [hk]
            rw [List.drop_take, List.drop_drop, List.take_take, Nat.min_eq_left (by omega), show 2 + (j % 56 - 2) = j % 56 by omega] at hz
            exact pick _ z _ hz
      obtain ⟨z, hcz, hz⟩ := hcz
      rw [hcz] at hj'
      refine ⟨z, ?_, hz⟩
      rw [Go.Deep.add_add, show j / 56 * 56 + j % 56 = j by omega] at hj'
      unfold World.cell? at hj'
      have hb : ((⟨b, off, none⟩ : Addr).add j).block = b := by unfold Addr.add; split <;> rfl
      have ho : ((⟨b, off, none⟩ : Addr).add j).off = off + j := by unfold Addr.add; split <;> simp_all
      have hsp : ((⟨b, off, none⟩ : Addr).add j).spot = none := by unfold Addr.add; split <;> rfl
      rw [hb, hheap'] at hj'
      simp only [hsp, ho] at hj'
      exact hj'
    obtain ⟨Z, hZ⟩ := Go.Deep.choose_lt hcell
    have hsz : off + 56 * n ≤ cs.size := by
      rcases Nat.eq_zero_or_pos (n * 56) with h | h
      · omega
      · have := (hZ (n * 56 - 1) (by omega)).1
        have := (Array.getElem?_eq_some_iff.1 this).1
        omega
    have hAl : ((List.range (n * 56)).map Z).length = n * 56 := by simp
    have hAg : ∀ j, j < n * 56 → ((List.range (n * 56)).map Z).getD j 0 = Z j := fun j hj => by simp [List.getD, hj]
    refine ⟨b, off, n, m, cs, t, fr, (List.range (n * 56)).map Z, rfl, hle, hheap', by rw [hAl]; omega, hsz, ?_, fun i t hi h2 ht => ?_⟩
    · apply List.ext_getElem?
      intro j
      rw [hAl]
      by_cases hj : j < n * 56
      · rw [List.getElem?_take_of_lt hj, List.getElem?_drop, Array.getElem?_toList, (hZ j hj).1]
        simp [Go.Sx.cyc, hj, Go.Sx.ksA]
      · rw [List.getElem?_eq_none (by simp; omega), List.getElem?_eq_none (by simp [Go.Sx.cyc]; omega)]
    · rw [hAg _ (by omega)]
      have e : (i * 56 + t) % 56 = t := by omega
      have := (hZ (i * 56 + t) (by omega)).2
      rw [e] at this
      exact this h2
end Go.Proofs.Ytganobhodimjnaa
