/-
  A part of the executor Sx over the model's code (any program): its words, or its proof; no seat's statement stands here.
-/
import Derived.Test.YtganobhodimjnaaSxQ
namespace Go.Sx
variable {P : Program} {hp h' : Hp} {nx : Nat} {ev : Ev} {r : Res}

theorem getRow_loc {nm : Nat} (h : h' nm = hp nm) : getRow h' nm = getRow hp nm := by unfold getRow; rw [h]

theorem stLoad_loc {t : TypeId} {a : Operand} (h : stLoad P ev hp t a = some r) (hn : ∀ nm ∈ r.need, h' nm = hp nm) : stLoad P ev h' t a = some r := by
  unfold stLoad at h ⊢
  split at h <;> try (cases h; done)
  rename_i nm off hv
  split at h <;> try (cases h; done)
  rename_i k hk
  split at h <;> try (cases h; done)
  rename_i t' ro opn b hrow
  split at h <;> try (cases h; done)
  rename_i v hg
  have e := h
  simp only [Option.some.injEq] at h; subst h
  rw [getRow_loc (hn nm (by simp)), hrow]
  simp only [hg]

theorem stStore_loc {t : TypeId} {a x : Operand} (h : stStore P ev hp t a x = some r) (hn : ∀ nm ∈ r.need, h' nm = hp nm) : stStore P ev h' t a x = some r := by
  unfold stStore at h ⊢
  split at h <;> try (cases h; done)
  rename_i nm off hv
  split at h <;> try (cases h; done)
  rename_i v hvx
  split at h <;> try (cases h; done)
  rename_i ti hti
  split at h <;> try (cases h; done)
  rename_i hsz
  split at h <;> try (cases h; done)
  rename_i u hu
  simp only [Option.some.injEq] at h; subst h
  have : setAt h' nm off v = setAt hp nm off v := by unfold setAt; rw [getRow_loc (hn nm (by simp))]
  simp only [hsz, if_true, this, hu]

theorem stLookup_loc {t : TypeId} {m k : Operand} {ok : Bool} (h : stLookup P ev hp t m k ok = some r) (hn : ∀ nm ∈ r.need, h' nm = hp nm) : stLookup P ev h' t m k ok = some r := by
  unfold stLookup at h ⊢
  split at h <;> try (cases h; done)
  split at h <;> try (cases h; done)
  rename_i mc hmc
  split at h <;> try (cases h; done)
  split at h <;> try (cases h; done)
  split at h <;> try (cases h; done)
  rename_i es nd hes
  split at h <;> try (cases h; done)
  rename_i hko
  have hnd : r.need = nd := by
    unfold lookRes at h
    split at h <;> first | (simp only [Option.some.injEq] at h; subst h; rfl) | (cases h; done)
  have : mapEs h' mc = mapEs hp mc := by
    unfold mapEs at hes ⊢
    split at hes <;> try rfl
    rename_i nm
    split at hes <;> try (cases hes; done)
    rename_i es' hblk
    simp only [Option.some.injEq, Prod.mk.injEq] at hes
    rw [hn nm (by rw [hnd, ← hes.2]; simp), hblk]
  simp only [this, hes, hko, if_true]
  exact h

theorem stMapUpdate_loc {t : TypeId} {m k x : Operand} (h : stMapUpdate P ev hp t m k x = some r) (hn : ∀ nm ∈ r.need, h' nm = hp nm) : stMapUpdate P ev h' t m k x = some r := by
  unfold stMapUpdate at h ⊢
  split at h <;> try (cases h; done)
  rename_i nm hmc
  split at h <;> try (cases h; done)
  split at h <;> try (cases h; done)
  split at h <;> try (cases h; done)
  rename_i es hblk
  split at h <;> try (cases h; done)
  rename_i hko
  have hnd : nm ∈ r.need := by
    unfold mapPut at h
    split at h <;> first | (simp only [Option.some.injEq] at h; subst h; simp) | (cases h; done)
  simp only [hn nm hnd, hblk, hko, if_true]
  exact h

theorem srcBody_loc {s : Nat} {n : Option Nat} {x : Cell} {from_ : Option Nat} {m : Nat} {b : Option Body} (h : srcBody hp s n x = some (from_, m, b)) (hn : ∀ nm ∈ needOf from_, h' nm = hp nm) :
    srcBody h' s n x = some (from_, m, b) := by
  unfold srcBody at h ⊢
  split at h
  · exact h
  · split at h <;> try (cases h; done)
    · exact h
    · rename_i nm off len hs
      split at h <;> try (cases h; done)
      rename_i t ro o bd hrow
      split at h <;> try (cases h; done)
      rename_i b2 hcut
      have e := h
      simp only [Option.some.injEq, Prod.mk.injEq] at e
      obtain ⟨e1, e2, e3⟩ := e
      subst e1
      simp only [getRow_loc (hn nm (by simp [needOf])), hrow, hcut]
      exact h

theorem rowCut_loc {nm off n : Nat} (h : h' nm = hp nm) : rowCut h' nm off n = rowCut hp nm off n := by unfold rowCut; rw [getRow_loc h]

theorem lenRes_loc {ts : Array TypeId} {x : RV} (h : lenRes P hp ts x = some r) (hn : ∀ nm ∈ r.need, h' nm = hp nm) : lenRes P h' ts x = some r := by
  unfold lenRes at h ⊢
  split at h <;> try (cases h; done)
  split at h <;> try (cases h; done)
  · exact h
  · exact h
  · unfold lenMap at h ⊢
    split at h <;> try (cases h; done)
    · exact h
    · rename_i nm
      split at h <;> try (cases h; done)
      rename_i es hblk
      have e := h
      simp only [intQ, Option.some.injEq] at e; subst e
      simp only [hn nm (by simp), hblk]
      exact h
  · exact h

theorem copyRes_loc {ts : Array TypeId} {d s : RV} (h : copyRes P hp ts d s = some r) (hn : ∀ nm ∈ r.need, h' nm = hp nm) : copyRes P h' ts d s = some r := by
  unfold copyRes at h ⊢
  split at h <;> try (cases h; done)
  rename_i dt dc sc ht
  split at h <;> try (cases h; done)
  rename_i e hu
  split at h <;> try (cases h; done)
  rename_i ti hti
  split at h <;> try (cases h; done)
  · split at h <;> try (cases h; done)
    rename_i f m b hsrc
    simp only [Option.some.injEq] at h; subst h
    simp only [srcBody_loc hsrc hn]
  · rename_i nm off len hp0
    unfold copyTo at h ⊢
    split at h <;> try (cases h; done)
    rename_i f m b hsrc
    split at h
    · simp only [Option.some.injEq] at h; subst h
      simp only [srcBody_loc hsrc hn]
    · rename_i m
      split at h <;> try (cases h; done)
      rename_i xb
      split at h <;> try (cases h; done)
      rename_i t o bd hrow
      split at h <;> try (cases h; done)
      rename_i bd' hput
      simp only [Option.some.injEq] at h; subst h
      have := srcBody_loc (h' := h') hsrc (fun nm' hm => hn nm' (List.mem_cons_of_mem _ hm))
      simp only [this, getRow_loc (hn nm (by simp)), hrow, hput]

theorem deleteRes_loc {ts : Array TypeId} {m k : RV} (h : deleteRes P hp ts m k = some r) (hn : ∀ nm ∈ r.need, h' nm = hp nm) : deleteRes P h' ts m k = some r := by
  unfold deleteRes at h ⊢
  split at h <;> try (cases h; done)
  rename_i t nm kc ht
  split at h <;> try (cases h; done)
  rename_i es hblk
  split at h <;> try (cases h; done)
  rename_i hko
  have hnd : nm ∈ r.need := by
    unfold delRes at h
    split at h <;> first | (simp only [Option.some.injEq] at h; subst h; simp) | (cases h; done)
  simp only [hn nm hnd, hblk, hko, if_true]
  exact h

theorem appendRes_loc {ts : Array TypeId} {d s : RV} (h : appendRes P hp nx ts d s = some r) (hn : ∀ nm ∈ r.need, h' nm = hp nm) : appendRes P h' nx ts d s = some r := by
  unfold appendRes at h ⊢
  split at h <;> try (cases h; done)
  rename_i dt dc sc ht
  split at h <;> try (cases h; done)
  rename_i e hu
  split at h <;> try (cases h; done)
  rename_i ti hti
  split at h <;> try (cases h; done)
  rename_i z hz
  split at h <;> try (cases h; done)
  rename_i hcond
  simp only [hcond, and_self, if_true]
  unfold appGo at h ⊢
  split at h <;> try (cases h; done)
  rename_i f n x hsrc
  split at h
  · have hnd : ∀ nm ∈ needOf f, nm ∈ r.need := by
      intro nm hm
      unfold appNil at h
      split at h
      · simp only [Option.some.injEq] at h; subst h; exact hm
      · split at h <;> try (cases h; done)
        split at h <;> try (cases h; done)
        simp only [Option.some.injEq] at h; subst h; exact hm
    simp only [srcBody_loc hsrc fun nm hm => hn nm (hnd nm hm)]
    exact h
  · rename_i nm off len cap
    unfold appSl at h
    split at h
    · split at h <;> try (cases h; done)
      rename_i hle
      simp only [Option.some.injEq] at h; subst h
      simp only [srcBody_loc hsrc hn, appSl, hle, if_true]
    · rename_i m
      split at h <;> try (cases h; done)
      rename_i hc
      have hnd : r.need = nm :: needOf f := by
        unfold appNew at h
        split at h <;> try (cases h; done)
        split at h <;> try (cases h; done)
        simp only [Option.some.injEq] at h; subst h; rfl
      simp only [srcBody_loc hsrc fun nm' hm => hn nm' (by rw [hnd]; exact List.mem_cons_of_mem _ hm), appSl]
      rw [rowCut_loc (hn nm (by rw [hnd]; simp)), if_pos hc]
      exact h
  · rename_i nm sz a len
    unfold appSlu at h
    split at h
    · simp only [Option.some.injEq] at h; subst h
      simp only [srcBody_loc hsrc hn, appSlu]
    · rename_i m
      split at h <;> try (cases h; done)
      rename_i hc
      split at h <;> try (cases h; done)
      rename_i t sz' bd hrow
      split at h <;> try (cases h; done)
      rename_i hc2
      have hnd : r.need = nm :: needOf f := by
        unfold appMv at h
        split at h <;> try (cases h; done)
        split at h <;> try (cases h; done)
        simp only [Option.some.injEq] at h; subst h; rfl
      simp only [srcBody_loc hsrc fun nm' hm => hn nm' (by rw [hnd]; exact List.mem_cons_of_mem _ hm), appSlu]
      rw [getRow_loc (hn nm (by rw [hnd]; simp)), hrow, if_pos hc]
      simp only [hc2, and_self, if_true]
      obtain ⟨rfl, rfl⟩ := hc2
      exact h
  · cases h

theorem stCall_loc {c : Call} (h : stCall P ev hp nx c = some r) (hn : ∀ nm ∈ r.need, h' nm = hp nm) : stCall P ev h' nx c = some r := by
  unfold stCall at h ⊢
  split at h <;> try (cases h; done)
  split at h <;> try (cases h; done)
  rename_i l hl
  unfold builtinRes at h ⊢
  split at h
  · exact lenRes_loc h hn
  · exact copyRes_loc h hn
  · exact appendRes_loc h hn
  · exact h
  · exact h
  · exact deleteRes_loc h hn
  · cases h

theorem opStep_loc {o : Op} (h : opStep P ev hp nx o = some r) (hn : ∀ nm ∈ r.need, h' nm = hp nm) : opStep P ev h' nx o = some r := by
  cases o with
  | load t a => exact stLoad_loc h hn
  | store t a x => exact stStore_loc h hn
  | lookup t m k ok => exact stLookup_loc h hn
  | mapUpdate t m k x => exact stMapUpdate_loc h hn
  | insert t m k x => exact stMapUpdate_loc h hn
  | call c => exact stCall_loc h hn
  | _ => exact h

end Go.Sx
