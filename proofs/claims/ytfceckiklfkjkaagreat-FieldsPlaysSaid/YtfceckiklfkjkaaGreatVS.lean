/-
  Parts of the executor Sx over the model's code (any program), or of this seat's walks: words and proofs that the row's text uses.
-/
import Derived.Test.YtfceckiklfkjkaaGreatH1
import Derived.Test.YtfceckiklfkjkaaGreatRows
import Derived.Test.YtfceckiklfkjkaaGreatChecked
import Derived.WalkKit
import Derived.ProofKit
import Derived.OpenShut
import Derived.ShutString
import Derived.ChangeOld
import Derived.Below
import Derived.Deep.Slices
namespace Go.Proofs.YtfceckiklfkjkaaGreat
open Go.ChangeShapes Go.WideShapes Go.ChangeAt Go.RowKit
set_option linter.unusedVariables false
set_option maxRecDepth 100000

theorem own : ownKnob Tryz.prog.godebug = none := by kernel_rfl
theorem laidOut : laidOutB Tryz.prog = true := by kernel_rfl

/-! ### a row that lies somewhere begins in it -/
theorem rowAt_off {P : Program} {fits : TypeId → Bool} {d : Nat} {e : TypeId} {count off n : Nat} (h : rowAt P fits d e count off n = true) : off ≤ count * P.cellsOf e := by
  cases d with
  | zero => unfold rowAt at h; cases h
  | succ d =>
    unfold rowAt at h
    simp only at h
    split at h
    · cases h
    · rename_i hs
      have hdiv := Nat.div_add_mod off (P.cellsOf e)
      have hmod := Nat.mod_lt off (Nat.pos_of_ne_zero hs)
      have hle : off / P.cellsOf e < count ∨ (off % P.cellsOf e = 0 ∧ off / P.cellsOf e ≤ count) := by
        simp only [Bool.or_eq_true, Bool.and_eq_true, decide_eq_true_eq, beq_iff_eq] at h
        rcases h with h | h
        · exact .inr ⟨h.1.1, by have := h.1.2; omega⟩
        · exact .inl h.1
      rcases hle with h1 | ⟨h1, h2⟩
      · have := Nat.mul_le_mul_left (P.cellsOf e) h1
        rw [Nat.mul_succ] at this
        rw [Nat.mul_comm count]; omega
      · have := Nat.mul_le_mul_left (P.cellsOf e) h2
        rw [Nat.mul_comm count]; omega
theorem lies_off {P : Program} : ∀ {d : Nat} {e : TypeId} {count off : Nat} {u : TypeId} {n : Nat}, liesAt P d e count off u n = true → off ≤ count * P.cellsOf e
  | 0, _, _, _, _, _, h => by unfold liesAt at h; cases h
  | d + 1, e, count, off, u, n, h => by
    unfold liesAt at h
    simp only [Bool.or_eq_true] at h
    rcases h with h | h
    · exact rowAt_off h
    · split at h
      · exact lies_off h
      · cases h

/-- a slice of sectors, opened -/
theorem open_secs {H : Type} {enc : TypeId × Value → H} {W : World} {v0 : Value} {d0 : DataW H} {p0 : List MemPlace} (hv : Value.okWide Tryz.prog W .any 0 22 v0) (h0 : DataW.Trod enc Tryz.prog W 0 (fun _ => true) true 22 v0 d0 p0) :
    v0 = .slice none 0 0 ∨ ∃ (b off n cap : Nat) (cs : Array Value) (t : TypeId) (fr : Nat × Nat) (L : List Int), v0 = .slice (some ⟨b, off, none⟩) n cap ∧ n ≤ cap ∧ W.heap[b]? = some (.cells cs t fr) ∧ L.length = n * 64 ∧ off + n * 64 ≤ cs.size ∧ (cs.toList.drop off).take (n * 64) = L.map (Value.int .u8) ∧ Go.Sx.Bytes L := by
  obtain ⟨a0, n, cap, rfl⟩ := okWide_slice Tryz.underlying22 hv
  obtain ⟨fu, hf⟩ := h0
  rcases Go.Deep.open_slice Tryz.underlying22 hf with ⟨hcs, _⟩ | ⟨a, len', cap', m, fu', D, Pl, hcs, _, hle, _, hm, _, hel⟩
  · left
    simp [Value.cells] at hcs
    obtain ⟨rfl, rfl, rfl⟩ := hcs
    rfl
  · right
    simp [Value.cells] at hcs
    obtain ⟨rfl, rfl, rfl⟩ := hcs
    simp only [if_true] at hm
    subst hm
    -- the block
    have hok : Cell.ok Tryz.prog W .any 0 22 (.slice (some a) n m) := by
      unfold Value.okWide at hv
      rw [Tryz.underlying22] at hv
      simp only at hv
      unfold Cell.okWide at hv
      rw [Tryz.underlying22] at hv
      exact hv
    unfold Cell.ok at hok
    rw [Tryz.underlying22] at hok
    obtain ⟨_, _, _, hspot, row, cells, hshape, hlies⟩ := hok
    obtain ⟨b, off, spot⟩ := a
    have hspot' : spot = none := hspot
    subst hspot'
    unfold World.shape? at hshape
    split at hshape <;> try (cases hshape; done)
    rename_i cs t fr hheap
    have hheap' : W.heap[b]? = some (.cells cs t fr) := hheap
    simp only [Option.some.injEq, Prod.mk.injEq] at hshape
    obtain ⟨rfl, rfl⟩ := hshape
    have hoff : off ≤ cs.size := Nat.le_trans (lies_off hlies) (Nat.div_mul_le_self _ _)
    have c95 : Tryz.prog.cellsOf 95 = 64 := by kernel_rfl
    have c5 : Tryz.prog.cellsOf 5 = 1 := by kernel_rfl
    have hcell : ∀ j, j < n * 64 → ∃ z : Int, cs[off + j]? = some (.int .u8 z) ∧ (0 ≤ z ∧ z < 256) := fun j hj => by
      obtain ⟨cs', h1, h2⟩ := hel (j / 64) (by omega)
      rw [c95] at h1
      obtain ⟨_, hlen, hget⟩ := World.cells?_some h1
      obtain ⟨xs, fm, _, _, _, hxl, hx⟩ := DataW.trod_array Tryz.underlying95 h2
      have hx' := hx (j % 64) (by omega)
      rw [c5, Nat.mul_one, List.getElem?_eq_getElem (by omega)] at hx'
      obtain ⟨z, hz, _, hwf⟩ := DataW.trod_int Tryz.underlying5 hx'
      have hj' := hget (j % 64) (by omega)
      have hcz : cs'[j % 64]? = some (.int .u8 z) := by
        have : (cs'.drop (j % 64)).take 1 = [Value.int .u8 z] := hz
        have h3 : ((cs'.drop (j % 64)).take 1)[0]? = some (Value.int .u8 z) := by rw [this]; rfl
        rw [List.getElem?_take_of_lt (by omega), List.getElem?_drop, Nat.add_zero] at h3
        exact h3
      rw [hcz] at hj'
      refine ⟨z, ?_, by
        unfold Lit.wf at hwf
        simp [IntKind.min, IntKind.max, IntKind.signed, IntKind.bits] at hwf
        omega⟩
      rw [Go.Deep.add_add, show j / 64 * 64 + j % 64 = j by omega] at hj'
      unfold World.cell? at hj'
      have hb : ((⟨b, off, none⟩ : Addr).add j).block = b := by unfold Addr.add; split <;> rfl
      have ho : ((⟨b, off, none⟩ : Addr).add j).off = off + j := by unfold Addr.add; split <;> simp_all
      have hsp : ((⟨b, off, none⟩ : Addr).add j).spot = none := by unfold Addr.add; split <;> rfl
      rw [hb, hheap'] at hj'
      simp only [hsp, ho] at hj'
      exact hj'
    obtain ⟨Z, hZ⟩ := Go.Deep.choose_lt hcell
    have hsz : off + n * 64 ≤ cs.size := by
      rcases Nat.eq_zero_or_pos (n * 64) with h | h
      · omega
      · have := (hZ (n * 64 - 1) (by omega)).1
        have := (Array.getElem?_eq_some_iff.1 this).1
        omega
    refine ⟨b, off, n, m, cs, t, fr, (List.range (n * 64)).map Z, rfl, hle, hheap', by simp, hsz, ?_, fun x hx => by
      obtain ⟨j, hj, rfl⟩ := List.mem_map.1 hx
      exact (hZ j (List.mem_range.1 hj)).2⟩
    apply List.ext_getElem?
    intro j
    by_cases hj : j < n * 64
    · rw [List.getElem?_take_of_lt hj, List.getElem?_drop, Array.getElem?_toList, (hZ j hj).1]
      simp [hj]
    · rw [List.getElem?_eq_none (by simp; omega), List.getElem?_eq_none (by simp; omega)]

/-- the kinds of a row's cells -/
def kindsOf (P : Program) : List TypeId → Option (List IntKind)
  | [] => some []
  | t :: ts => match P.underlying t, kindsOf P ts with
    | some (.int k), some ks => some (k :: ks)
    | _, _ => none

theorem kindsOf_get {P : Program} : ∀ {ts : List TypeId} {ks : List IntKind}, kindsOf P ts = some ks → ts.length = ks.length ∧ ∀ (i : Nat) (t : TypeId), ts[i]? = some t → ∃ k, ks[i]? = some k ∧ P.underlying t = some (.int k)
  | [], ks, h => by cases h; simp
  | t :: ts, ks, h => by
    simp only [kindsOf] at h
    split at h <;> try (cases h; done)
    rename_i k ks' h1 h2
    cases h
    obtain ⟨e1, e2⟩ := kindsOf_get h2
    refine ⟨by simp [e1], fun i u hu => ?_⟩
    cases i with
    | zero => simp at hu; subst hu; exact ⟨k, rfl, h1⟩
    | succ i => simp at hu; simpa using e2 i u hu

theorem cell_int {P : Program} {w : World} {r : Reach} {b : Nat} {t : TypeId} {k : IntKind} {v : Value} (ht : P.underlying t = some (.int k)) (h : Cell.okWide P w r b t v) : ∃ z, v = .int k z ∧ k.has z := by
  unfold Cell.okWide at h
  rw [ht] at h
  have h2 : Cell.ok P w r b t v := by
    revert h
    cases v <;> exact id
  unfold Cell.ok at h2
  rw [ht] at h2
  cases v <;> simp only at h2
  obtain ⟨rfl, h3⟩ := h2
  exact ⟨_, rfl, h3⟩

/-- an aggregate of integers, cell by cell -/
theorem open_flat {P : Program} {w : World} {r : Reach} {b : Nat} {t : TypeId} {v : Value} {ts : List TypeId} {ks : List IntKind} (ht : (match P.underlying t with | some (.struct _) => true | some (.array _ _) => true | _ => false) = true)
    (hts : P.cellTypes P.depth t = some ts) (hks : kindsOf P ts = some ks) (hc : P.cellsOf t = ks.length) (h : Value.okWide P w r b t v) :
    ∃ l : List Int, l.length = ks.length ∧ v = .agg ((ks.zip l).map fun p => Value.int p.1 p.2).toArray ∧ ∀ (i : Nat) (k : IntKind) (z : Int), ks[i]? = some k → l[i]? = some z → k.has z := by
  obtain ⟨cs, rfl, hsz, ts', hts', _, hcell⟩ : ∃ cs, v = .agg cs ∧ cs.size = P.cellsOf t ∧ Row.okWide P w r b t cs := by
    unfold Value.okWide at h
    split at h <;> first | exact h | (simp_all; done)
  rw [hts] at hts'
  cases hts'
  obtain ⟨e1, e2⟩ := kindsOf_get hks
  have key : ∀ i, i < ks.length → ∃ k z, ks[i]? = some k ∧ cs[i]? = some (.int k z) ∧ k.has z := fun i hi => by
    have hget : cs[i]? = some cs[i] := Array.getElem?_eq_getElem (by omega)
    obtain ⟨u, h1, h2⟩ := hcell i _ hget
    rw [Nat.mod_eq_of_lt (by omega)] at h1
    obtain ⟨k, h3, h4⟩ := e2 i u h1
    obtain ⟨z, h5, h6⟩ := cell_int h4 h2
    exact ⟨k, z, h3, by rw [hget, h5], h6⟩
  refine ⟨(List.range ks.length).map fun i => match (cs[i]? : Option Value) with | some (Value.int _ z) => z | _ => (0 : Int), by simp, ?_, ?_⟩
  · congr 1
    apply Array.ext
    · simp; omega
    · intro i h1 h2
      have hi : i < ks.length := by omega
      obtain ⟨k, z, g1, g2, _⟩ := key i hi
      have hk : ks[i] = k := by rw [List.getElem?_eq_getElem hi] at g1; simpa using g1
      have hz : cs[i] = .int k z := by rw [Array.getElem?_eq_getElem h1] at g2; simpa using g2
      simp [hk, hz, g2]
  · intro i k z h1 h2
    have hi : i < ks.length := (List.getElem?_eq_some_iff.1 h1).1
    obtain ⟨k', z', g1, g2, g3⟩ := key i hi
    rw [h1] at g1
    cases g1
    simp [List.getElem?_map, hi, g2] at h2
    rw [← h2]; exact g3

theorem list9 {l : List Int} (h : l.length = 9) : ∃ a b c d e f g i j, l = [a, b, c, d, e, f, g, i, j] := by
  match l, h with
  | [a, b, c, d, e, f, g, i, j], _ => exact ⟨a, b, c, d, e, f, g, i, j, rfl⟩

end Go.Proofs.YtfceckiklfkjkaaGreat
