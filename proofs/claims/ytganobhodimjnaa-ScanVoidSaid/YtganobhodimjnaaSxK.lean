/-
  A part of the executor Sx over the model's code (any program): its words, or its proof; no seat's statement stands here.
-/
import Derived.Test.YtganobhodimjnaaSxJ
namespace Go.Sx
variable {P : Program}

theorem allLogs_ok : ∀ (fps : List FP) (acc : List Nat), ∃ L, allLogs fps acc = L ++ acc ∧ ∀ x, x ∈ L ↔ ∃ f ∈ fps, x ∈ f.wr
  | [], acc => ⟨[], rfl, by simp⟩
  | f :: r, acc => by
    obtain ⟨L, h1, h2⟩ := allLogs_ok r (f.wr ++ acc)
    refine ⟨L ++ f.wr, by rw [allLogs, h1, List.append_assoc], fun x => ?_⟩
    rw [List.mem_append, h2]
    simp only [List.mem_cons, exists_eq_or_imp]
    exact Or.comm

section
variable {n : Nat} {ops : Array Oper} {St : Nat → S} {nd : Nat → Need} (H : DR P n ops St nd)
include H

omit H in
theorem getD_set (listed : Array Bool) (i j : Nat) (h : i < listed.size) : (listed.setIfInBounds i true).getD j false = if j = i then true else listed.getD j false := by
  rw [Array.getD_eq_getD_getElem?, Array.getD_eq_getD_getElem?, Array.getElem?_setIfInBounds]
  by_cases e : i = j
  · subst e; simp [h]
  · rw [if_neg e, if_neg (fun h => e h.symm)]

theorem DR.all {ρ0 : Rho} {w0 : World} {Q : Exit → Act → World → Prop} (hQ : ∀ D ρ Hh a w, (∀ j, j < ops.size → D j = true) → Inv ops n St ρ0 w0 D ρ Hh a w → Q .normal a w) :
    ∀ (fuel : Nat) (listed : Array Bool) (ρ : Rho) (Hh : Hp) (a : Act) (w : World), listed.size = ops.size → Inv ops n St ρ0 w0 (fun j => listed.getD j false) ρ Hh a w → ops.size ≤ fuel + cnt (fun j => listed.getD j false) ops.size →
      wpAny P .any ops Q fuel listed a w := by
  intro fuel
  induction fuel with
  | zero =>
    intro listed ρ Hh a w hs I hc
    have hall : ∀ j, j < ops.size → listed.getD j false = true := cnt_all (fun j => listed.getD j false) _ (by rw [Nat.zero_add] at hc; exact hc)
    refine ⟨?_, hQ _ ρ Hh a w hall I⟩
    apply List.eq_nil_iff_forall_not_mem.2
    intro j hj
    rw [mem_ready] at hj
    obtain ⟨h0, o, ho, _⟩ := hj
    have hlt := lt_of_get ho
    have := hall j hlt
    rw [Array.getD_eq_getD_getElem?, Array.getElem?_eq_getElem (by omega)] at h0 this
    simp at h0 this
    rw [h0] at this; cases this
  | succ fuel ih =>
    intro listed ρ Hh a w hs I hc
    refine ⟨fun hr => ?_, fun i hi => ?_⟩
    · -- all is done
      refine hQ _ ρ Hh a w ?_ I
      have key : ∀ j, j < ops.size → (∀ k, k < j → listed.getD k false = true) → listed.getD j false = true := by
        intro j hj hk
        cases hl : listed.getD j false with
        | true => rfl
        | false =>
          exfalso
          have hmem : j ∈ Region.ready .any ops listed := by
            rw [mem_ready]
            refine ⟨?_, ops[j], Array.getElem?_eq_getElem hj, fun e he hb => hk _ (H.back j _ (Array.getElem?_eq_getElem hj) e he hb)⟩
            rw [Array.getD_eq_getD_getElem?, Array.getElem?_eq_getElem (by omega)] at hl ⊢
            simpa using hl
          rw [hr] at hmem; cases hmem
      intro j hj
      induction j using Nat.strongRecOn with
      | _ j ihj => exact key j hj fun k hk => ihj k hk (by omega)
    · rw [mem_ready] at hi
      obtain ⟨h0, o, ho, hre⟩ := hi
      have hlt := lt_of_get ho
      have hnot : listed.getD i false = false := by
        rw [Array.getD_eq_getD_getElem?, Array.getElem?_eq_getElem (by omega)] at h0 ⊢
        simpa using h0
      have hset := fun j => getD_set listed i j (by omega)
      have := H.step (D' := fun j => (listed.setIfInBounds i true).getD j false) (Q := Q) (next := wpAny P .any ops Q fuel (listed.setIfInBounds i true)) I ⟨ho, hnot, hre⟩ hset fun V w' ρ' Hh' I' =>
        ih (listed.setIfInBounds i true) ρ' Hh' _ w' (by simpa using hs) I' (by
          have := cnt_set (f := fun j => listed.getD j false) (g := fun j => (listed.setIfInBounds i true).getD j false) (j := i) hset hlt hnot
          omega)
      unfold wpOp
      rw [ho]
      simp only
      split
      · rename_i hw
        rw [if_pos hw] at this
        exact .inl this
      · rename_i hw
        rw [if_neg hw] at this
        exact this

end

theorem draw_ok {z : Bool} (hng : ∀ (g : Nat) (fn : Func), P.funcs[g]? = some fn → (fn.name == "runtime.NumGoroutine") = false) (hm : P.follows .mixedOrders = true) : RegOK P z := by
  intro β call hcall n id ops s k r ht h
  unfold drawRun at h
  split at h <;> try (cases h; done)
  rename_i hring
  obtain ⟨St, nd, e0, hloc, hk⟩ := drawGo_ok hcall hng (ops := ops) (rest := ops.toList) ht h
  simp only [List.nil_append] at hk
  split at hk <;> try (cases hk; done)
  rename_i hpairs
  have hlen : ops.toList.length = ops.size := by simp
  rw [hlen] at hk hpairs
  have toL : ∀ {i : Nat} {o : Oper}, ops[i]? = some o → ops.toList[i]? = some o := fun h => by simpa using h
  have H : DR P n ops St nd := by
    refine ⟨by rw [e0]; exact ht, fun i o ho => hloc i o (toL ho), fun i o ho e he hb => ?_, fun i j oi oj hlt hoi hoj => ?_⟩
    · have := noRing_ok hring i o (toL ho) e he hb
      simpa using this
    · have hjs := lt_of_get hoj
      have his := lt_of_get hoi
      have hbl : (befs ops.toList []).length = ops.size := by rw [befs_len]; simp
      have hmj : (befs ops.toList [])[j]? = some ((befs ops.toList []).getD j 0) := by
        rw [List.getD_eq_getElem?_getD, List.getElem?_eq_getElem (by omega)]; rfl
      have hfj : ∀ j, j < ops.size → ((List.range ops.size).map fun i => (⟨nd i, (St (i + 1)).lg, (St i).nx, (St (i + 1)).nx⟩ : FP))[j]? = some ⟨nd j, (St (j + 1)).lg, (St j).nx, (St (j + 1)).nx⟩ := fun j hj => by
        rw [List.getElem?_map, List.getElem?_range hj]; rfl
      rcases pairsAll_ok hpairs rfl j oj _ _ (toL hoj) hmj (hfj j hjs) i oi _ (by simpa using hlt) (by simpa using toL hoi) (by rw [List.nil_append]; exact hfj i his) with h1 | h1
      · refine .inl fun D hcl hre => ?_
        obtain ⟨_, g2⟩ := befs_ok (D := D) ops.toList [] (by intro j i _ h; simp at h) (fun j o ho hD e he hb => hcl j o (by simpa using hD) (by simpa using ho) e he hb)
        exact g2 j oj (toL hoj) hre i (by simpa using h1)
      · exact .inr h1
  obtain ⟨L, hL1, hL2⟩ := allLogs_ok ((List.range ops.size).map fun i => (⟨nd i, (St (i + 1)).lg, (St i).nx, (St (i + 1)).nx⟩ : FP)) s.lg
  have hmemL : ∀ x, x ∈ L ↔ ∃ j, j < ops.size ∧ x ∈ (St (j + 1)).lg := by
    intro x
    rw [hL2]
    constructor
    · rintro ⟨f, hf, hx⟩
      rw [List.mem_map] at hf
      obtain ⟨j, hj, rfl⟩ := hf
      exact ⟨j, List.mem_range.1 hj, hx⟩
    · rintro ⟨j, hj, hx⟩
      exact ⟨_, List.mem_map.2 ⟨j, List.mem_range.2 hj, rfl⟩, hx⟩
  have hkeep : ∀ nm, nm < s.nx → nm ∉ L → (St ops.size).hp.get nm = s.hp.get nm := by
    intro nm h1 h2
    rw [H.hp_same (nm := nm) (m := 0) (i := ops.size) (by omega) (Nat.le_refl _) (by rw [e0]; exact h1), e0]
    intro j _ hj ht
    rcases ht with ht | ht
    · exact h2 ((hmemL nm).2 ⟨j, hj, ht⟩)
    · have := H.le (show 0 ≤ j by omega) (by omega)
      rw [e0] at this
      omega
  have hle : s.nx ≤ (St ops.size).nx := by
    have := H.le (show 0 ≤ ops.size by omega) (Nat.le_refl _)
    rwa [e0] at this
  refine ⟨_, L, hk, ⟨hL1, hle, hkeep, H.tops (Nat.le_refl _), fun nm hm => ?_⟩, fun ρ a w R Q hQ => ?_⟩
  · obtain ⟨j, hj, hx⟩ := (hmemL nm).1 hm
    exact Nat.lt_of_lt_of_le ((H.abs hj).lt nm hx) (H.le (show j + 1 ≤ ops.size by omega) (Nat.le_refl _))
  · refine wp_region_any hm ?_
    let w1 : World := { w with drawn := w.drawn + 1 }
    have rst_eq : ∀ m, s.nx ≤ m → Sub ρ (rst ρ m) := by
      intro m hm nm b hb
      unfold rst
      rw [if_pos]
      · exact hb
      · rcases Nat.lt_or_ge nm s.nx with h1 | h1
        · omega
        · rw [R.fresh nm h1] at hb; cases hb
    have I0 : Inv ops n St ρ w1 (fun j => (Array.replicate ops.size false).getD j false) ρ s.hp.get a w1 := by
      have hD : ∀ j, (Array.replicate ops.size false).getD j false = false := fun j => by
        rw [Array.getD_eq_getD_getElem?, Array.getElem?_replicate]; split <;> rfl
      have no : ∀ {j : Nat} {p : Prop}, (Array.replicate ops.size false).getD j false = true → p := fun h => by rw [hD] at h; cases h
      refine ⟨fun j o h => no h, fun j h => no h, R.sz, R.df, fun t => ⟨0, by omega, ?_, fun j h => no h, .inl rfl⟩, fun nm => ⟨0, by omega, by rw [e0], fun j h => no h, .inl rfl, fun x hx => ?_⟩, R.hp.inj, fun nm b hb => ?_, fun _ _ => rfl, Nat.le_refl _, fun _ _ _ => rfl, fun nm b c h1 h2 => ?_, fun j nm h => no h, rfl, rfl, rfl⟩
      · rw [e0]; exact (R.sl t).mono (rst_eq _ (Nat.le_refl _))
      · obtain ⟨b, c, o, g1, g2, g3⟩ := R.hp.ok nm x hx
        exact ⟨b, c, o, g1, g2, g3.mono (rst_eq _ (by rw [e0]; exact Nat.le_refl _))⟩
      · left
        rw [e0]
        rcases Nat.lt_or_ge nm s.nx with h1 | h1
        · exact h1
        · rw [R.fresh nm h1] at hb; cases hb
      · rw [e0] at h1
        rw [R.fresh nm h1] at h2; cases h2
    refine H.all (ρ0 := ρ) (w0 := w1) (fun D ρ' Hh a' w' hall I => ?_) ops.size _ ρ s.hp.get a w1 (by simp) I0 (by omega)
    -- all is done
    have hlast : ∀ t m, m ≤ ops.size → (∀ j, D j = true → Writes ops j t → j < m) → (St ops.size).sl.get t = (St m).sl.get t := fun t m hm hw => H.slot_same hm (Nat.le_refl _) fun j h1 h2 h3 => by
      have := hw j (hall j h2) h3; omega
    have hheap : Hh = (St ops.size).hp.get := by
      funext nm
      obtain ⟨m, m1, m2, m3, m4, _⟩ := I.heap nm
      rw [m2]
      by_cases hlt : nm < (St m).nx
      · exact (H.hp_same m1 (Nat.le_refl _) hlt fun j h1 h2 h3 => by
          have := m3 j (hall j h2) h3; omega).symm
      · rw [H.tops m1 nm (by omega)]
        by_cases hlt2 : nm < (St ops.size).nx
        · exfalso
          have key : ∀ k, m + k ≤ ops.size → nm < (St (m + k)).nx → ∃ j, m ≤ j ∧ j < ops.size ∧ Turns St j nm := by
            intro k
            induction k with
            | zero => intro _ h; exact absurd h hlt
            | succ k ih =>
              intro h1 h2
              by_cases h3 : nm < (St (m + k)).nx
              · exact ih (by omega) h3
              · exact ⟨m + k, by omega, by omega, .inr ⟨by omega, h2⟩⟩
          obtain ⟨j, j1, j2, j3⟩ := key (ops.size - m) (by omega) (by rw [show m + (ops.size - m) = ops.size by omega]; exact hlt2)
          have := m3 j (hall j j2) j3
          omega
        · rw [H.tops (Nat.le_refl _) nm (by omega)]
    have hfresh : Fresh ρ' (St ops.size).nx := by
      intro nm hnm
      cases hb : ρ' nm with
      | none => rfl
      | some b =>
        rcases I.dom nm b hb with h1 | ⟨j, d1, _, d2⟩
        · rw [e0] at h1; omega
        · have hj := I.inside j d1
          have := H.le (show j + 1 ≤ ops.size by omega) (Nat.le_refl _)
          omega
    refine hQ a' w' ρ' ⟨I.sz, I.df, fun t => ?_, ⟨fun nm x hx => ?_, ?_⟩, hfresh⟩ ⟨hle, fun nm h1 => I.rho0 nm (by rw [e0]; exact h1), hkeep, I.size, fun b h1 h2 => ?_, fun nm b c h1 h2 => ?_, fun nm h1 h2 => ?_, I.os, I.tape, I.out⟩
    · obtain ⟨m, m1, m2, m3, _⟩ := I.slots t
      have e : slot n (St ops.size).sl t = slot n (St m).sl t := by unfold slot; rw [hlast t m m1 m3]
      show RVR ρ' (slot n (St ops.size).sl t) _
      rw [e]
      exact m2.mono rst_sub
    · have hx : Hh nm = some x := by rw [hheap]; exact hx
      obtain ⟨m, _, _, _, _, m5⟩ := I.heap nm
      obtain ⟨b, c, o, g1, g2, g3⟩ := m5 x hx
      exact ⟨b, c, o, g1, g2, g3.mono rst_sub⟩
    · intro nm nm' x y b c c' hx hy
      exact I.inj nm nm' x y b c c' (by rw [hheap]; exact hx) (by rw [hheap]; exact hy)
    · refine I.frame b h1 fun j nm c hj hm hlt => h2 nm c ((hmemL nm).2 ⟨j, I.inside j hj, hm⟩) (by rw [e0] at hlt; exact hlt)
    · rcases I.new nm b c (by rw [e0]; exact h1) h2 with h3 | ⟨j, nm0, c0, d1, d2, d3, d4⟩
      · exact .inl h3
      · exact .inr ⟨nm0, c0, (hmemL nm0).2 ⟨j, I.inside j d1, d2⟩, by rw [e0] at d3; exact d3, d4⟩
    · obtain ⟨j, hj, hx⟩ := (hmemL nm).1 h1
      have := I.own j nm (hall j hj) hx (by rw [e0]; exact h2)
      rwa [e0] at this

/-- **The executor is sound.** -/
theorem exec_sound {β : Type} {z : Bool} {Sg : FuncId → Option Sum} (hng : ∀ (g : Nat) (fn : Func), P.funcs[g]? = some fn → (fn.name == "runtime.NumGoroutine") = false) (hm : P.follows .mixedOrders = true) (hS : SumOK P Sg) (f : Nat) :
    ExecOK P (exec (β := β) P Sg z f) := exec_ok hng hS (draw_ok hng hm) f

end Go.Sx
