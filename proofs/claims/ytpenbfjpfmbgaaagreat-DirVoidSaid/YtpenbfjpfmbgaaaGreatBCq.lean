/-
  Parts of the executor Sx over the model's code (any program), or of this seat's walks: words and proofs that the row's text uses.
-/
import Derived.Test.YtpenbfjpfmbgaaaGreatBQ22
import Derived.Test.YtpenbfjpfmbgaaaGreatBCp
namespace Go.Sx
open Go.Proofs Go.RowKit Go.Sort
set_option maxRecDepth 100000
noncomputable def need82 : List (Nat × Blk) := [(274, .map es82), (275, .row 179 false none (.cells [.int .i64 (.ofNat 3), .map 274]))]
noncomputable def sumCp : Sum := fun args hp nx => match Nat.beq nx 1326 && (eqLs eqRv args args82 && hasL hp need82) with
  | true => fBlk (.mapP es82) fun b => T.set depth hp 1326 (some b) fun hp => fBlk rw82 fun b => T.set depth hp 1327 (some b) fun hp => some (.one (.c (.ptr 1327 0)), hp, 1328, [])
  | false => none
theorem in82 : inB 1326 (.mapR es82) = true := by kernel_rfl
theorem args82_in : args82.all (inR 1326) = true := by kernel_rfl
theorem sumCp_ok (args : List RV) (s : S) (v : RV) (hp : T Blk) (nx : Nat) (lg : List Nat) (ht : Top s) (h : sumCp args s.hp s.nx = some (v, hp, nx, lg)) :
    CallInfo Tryz.prog 82 args s v { s with hp := hp, nx := nx, lg := lg ++ s.lg } lg := by
  unfold sumCp at h
  split at h <;> try (cases h; done)
  rename_i hc
  simp only [Bool.and_eq_true] at hc
  obtain ⟨hn, ha, hh⟩ := hc
  have hn := nbeq_eq hn
  have ha := eqLs_ok (fun _ _ => eqRv_ok) ha
  subst ha
  have h1 := hasL_ok hh (274, .map es82) (by simp [need82])
  have h2 := hasL_ok hh (275, .row 179 false none (.cells [.int .i64 (.ofNat 3), .map 274])) (by simp [need82])
  simp only [fBlk_eq] at h
  obtain ⟨t1, h, q1⟩ := T.set_ok _ _ _ _ _ _ h
  obtain ⟨t2, h, q2⟩ := T.set_ok _ _ _ _ _ _ h
  simp only [Option.some.injEq, Prod.mk.injEq] at h
  obtain ⟨rfl, rfl, rfl, rfl⟩ := h
  have := CallInfo.frameRO (P := Tryz.prog) (f := 82) (args := args82) (v := .one (.c (.ptr 1327 0))) (θ := fun i => i) (s := s) (hp' := t2) (nx' := 1328) ht ⟨_, Tryz.func82, rfl⟩ copySmall (by decide) args82_in
    (fun i x hx => by
      have := ofL_mem hx
      simp only [List.mem_cons, Prod.mk.injEq, List.not_mem_nil, or_false] at this
      rcases this with ⟨rfl, rfl⟩ | ⟨rfl, rfl⟩
      · exact ⟨by decide, _, h1, rfl, fun ρ c o hb => BlkR.small in82 (by rw [renB_idf]; exact hb)⟩
      · exact ⟨by decide, _, h2, RoOf.cells (l := [.int .i64 (.ofNat 3), .map 274]) rfl⟩)
    (fun i hi => by rw [hn]; omega) (by rw [hn])
    (fun nm => by
      rw [q2, q1, hn]
      by_cases e1 : nm = 1327
      · subst e1
        rw [if_pos rfl, if_neg (by decide), if_pos (by decide)]
        rw [show 1327 - 1326 + 1326 = 1327 from rfl, show hs82.get 1327 = some rw82 from g4_82 _ _, Option.map_some, renB_idf]
      · rw [if_neg e1]
        by_cases e2 : nm = 1326
        · subst e2
          rw [if_pos rfl, if_neg (by decide), if_pos (by decide)]
          rw [show 1326 - 1326 + 1326 = 1326 from rfl, show hs82.get 1326 = some (.mapP es82) from g3_82 _ _, Option.map_some, renB_idf]
        · rw [if_neg e2]
          split
          · rfl
          · rename_i h3
            rw [if_neg (by omega)]
            exact ht nm (by show s.nx ≤ nm; omega))
  rw [show args82.map (renR fun i => i) = args82 from (List.map_congr_left fun c _ => renR_idf c).trans (List.map_id _), renR_idf] at this
  exact this
noncomputable def sg22b : FuncId → Option Sum := fun f => match f with | 82 => some sumCp | f => sg22 f
theorem sg22b_ok : SumOK Tryz.prog sg22b := by
  intro g sm h args s v hp nx lg ht hs
  unfold sg22b at h
  split at h
  · cases h; exact sumCp_ok args s v hp nx lg ht hs
  · exact sg22_ok _ sm h args s v hp nx lg ht hs
theorem fit22b : Fit Tryz.prog sg22b := ⟨fit_ng, fit_mixed, sg22b_ok⟩
end Go.Sx
