/-
  Parts of the executor Sx over the model's code (any program), or of this seat's walks: words and proofs that the row's text uses.
-/
import Derived.Test.YtfceckiklfkjkaaGreatH1
namespace Go.Sx
open Go.Proofs Go.RowKit
set_option maxRecDepth 100000
/-! ### a slice whose room is not known, where a contract holds at every room -/
theorem CallInfo.alt {P : Program} {f : FuncId} {args : List RV} {s s' : S} {v : RV} {L : List Nat} (A : Nat → List RV) (h : ∀ cap, CallInfo P f (A cap) s v s' L)
    (hA : ∀ (ρ : Rho) (vs : List Value), ArgsR ρ args vs → ∃ cap, ArgsR ρ (A cap) vs) : CallInfo P f args s v s' L where
  fn := (h 0).fn
  sl := (h 0).sl
  abs := (h 0).abs
  run := fun ρ w vs hr hf ha => by
    obtain ⟨cap, h1⟩ := hA ρ vs ha
    exact (h cap).run ρ w vs hr hf h1
theorem CR.slu_sl {ρ : Rho} {nm sz a n : Nat} {v : Value} (hn : n ≠ 0) (h : CR ρ (.slu nm sz a n) v) : ∃ cap, CR ρ (.sl nm (a * sz) n cap) v := by
  obtain ⟨b, c, off, h1, h2, h3, rfl⟩ := h
  obtain rfl := h3.resolve_right (by omega)
  exact ⟨_, b, c, h1, rfl⟩
noncomputable def sumOf2 : SumA := fun args hp nx => match args with
  | [.one (.c (.slu nm sz a n))] => match sumOf [.one (.c (.sl nm (a * sz) n 0))] hp nx with
    | some (v, hp, nx, lg, ps) => some (v, hp, nx, lg, (n ≠ 0) :: ps)
    | none => none
  | args => sumOf args hp nx
theorem sumOf2_ok : SumAOK Tryz.prog 218 sumOf2 := by
  intro args s v hp nx lg ps ht h hps
  unfold sumOf2 at h
  split at h
  · rename_i nm sz a n
    split at h <;> try (cases h; done)
    rename_i v hp nx lg ps' h1
    simp only [Option.some.injEq, Prod.mk.injEq] at h
    obtain ⟨rfl, rfl, rfl, rfl, rfl⟩ := h
    obtain ⟨hn, hps⟩ := hps
    refine CallInfo.alt (fun cap => [.one (.c (.sl nm (a * sz) n cap))]) (fun cap => ?_) (fun ρ vs ha => ?_)
    · exact sumOf_ok [.one (.c (.sl nm (a * sz) n cap))] s v hp nx lg ps' ht (by rw [← h1]; rfl) hps
    · obtain ⟨V, vs', h2, h3, rfl⟩ := ha
      obtain ⟨cap, h4⟩ := CR.slu_sl hn h2
      exact ⟨cap, V, vs', h4, h3, rfl⟩
  · exact sumOf_ok _ _ _ _ _ _ _ ht h hps
/-! ### the reference's seal: Put f67, Next f57 -/
noncomputable def sgPR : FuncId → Option SumA := fun f => match f with | 218 => some sumOf2 | _ => none
theorem fitPR : Fit Tryz.prog (fun f => (sgPR f).map toSum) := ⟨fit_ng, fit_mixed, SumAOK.sum fun f sm h => by
  unfold sgPR at h
  split at h
  · cases h; exact sumOf2_ok
  · cases h⟩
noncomputable def rPutR (kind turn : Int) (p : List Int) (Q : RV → Prop) : Option Prop := runA Tryz.prog sgPR 300 148 [.one (.c (.int .i64 kind)), .one (.c (.int .u32 turn)), .one (.ints .u8 p 54)] s0 αT fun v _ α => some (All α.ob ∧ Q v)
noncomputable abbrev rPutR_x0 (kind turn : Int) (p : List Int) : List Int := List.take ((0 + 54 + 2) * 1) (List.drop 0 (List.take ((0 + 54) * 1) (List.drop 0 (List.take 0 (List.drop 0 (repl [0] 0)) ++ List.take 54 (List.drop 0 p))) ++ List.take 2 (List.drop 0 (((repl [0] 2).set 0 (IntKind.u8.wrap kind)).set 1 (IntKind.u8.wrap (IntKind.i64.wrap (255 - kind))))))) ++ List.take 4 (List.drop 0 (((((repl [0] 4).set 0 (IntKind.u8.wrap (turn.tmod 256))).set 1 (IntKind.u8.wrap ((IntKind.u32.wrap (turn.tdiv 256)).tmod 256))).set 2 (IntKind.u8.wrap ((IntKind.u32.wrap (turn.tdiv 65536)).tmod 256))).set 3 (IntKind.u8.wrap (IntKind.u32.wrap (turn.tdiv 16777216)))))
noncomputable abbrev rPutR_x1 (kind turn : Int) (p : List Int) : List Int := List.drop 0 (rPutR_x0 kind turn p)
noncomputable abbrev rPutR_x2 (kind turn : Int) (p : List Int) : Int := crcR (List.take (0 + 54 + 2 + 4) (rPutR_x1 kind turn p))
noncomputable def rPutR_t (kind turn : Int) (p : List Int) (Q : RV → Prop) : Option Prop := (bif decide (kind ≥ 1) then ( (bif !decide (kind ≤ 6) then ( some ((All [] ∧ Q (RV.tup [AV.ints IntKind.u8 z64 64, AV.c (Cell.int IntKind.i64 2)]))) ) else ( some ((All [0 + 54 + 2 + 4 ≠ 0, (rPutR_x0 kind turn p).length = (0 + 54 + 2) * 1 + 4, 0 + (0 + 54 + 2 + 4) ≤ (0 + 54 + 2) * 1 + 4, 0 + 54 + 2 + 4 ≤ 1000000000000] ∧ Q (RV.tup [AV.ints IntKind.u8 (List.take 64 (List.drop 0 (over z64 0 (List.take 64 (List.drop 0 (List.take ((0 + 54 + 2 + 4) * 1) (rPutR_x1 kind turn p) ++ List.take 4 (List.drop 0 (((((repl [0] 4).set 0 (IntKind.u8.wrap ((rPutR_x2 kind turn p).tmod 256))).set 1 (IntKind.u8.wrap ((IntKind.u32.wrap ((rPutR_x2 kind turn p).tdiv 256)).tmod 256))).set 2 (IntKind.u8.wrap ((IntKind.u32.wrap ((rPutR_x2 kind turn p).tdiv 65536)).tmod 256))).set 3 (IntKind.u8.wrap (IntKind.u32.wrap ((rPutR_x2 kind turn p).tdiv 16777216))))))))))) 64, AV.c (Cell.int IntKind.i64 0)]))) )) ) else ( some ((All [] ∧ Q (RV.tup [AV.ints IntKind.u8 z64 64, AV.c (Cell.int IntKind.i64 2)]))) ))
theorem rPutR_tree (kind turn : Int) (p : List Int) (Q : RV → Prop) : rPutR kind turn p Q = rPutR_t kind turn p Q := by kernel_rfl

theorem set4 (a b c d : Int) : ((((repl [(0 : Int)] 4).set 0 a).set 1 b).set 2 c).set 3 d = [a, b, c, d] := rfl
theorem set2 (a b : Int) : ((repl [(0 : Int)] 2).set 0 a).set 1 b = [a, b] := rfl
theorem u8_in {x : Int} (h0 : 0 ≤ x) (h1 : x < 256) : IntKind.u8.wrap x = x := by unfold IntKind.wrap; simp only [IntKind.bits, IntKind.signed]; simp; omega
theorem u8_mod (x : Int) : IntKind.u8.wrap x = x % 256 := by unfold IntKind.wrap; simp [IntKind.bits, IntKind.signed]
theorem put32R {t : Int} (h : U32 t) : [IntKind.u8.wrap (t.tmod 256), IntKind.u8.wrap ((IntKind.u32.wrap (t.tdiv 256)).tmod 256), IntKind.u8.wrap ((IntKind.u32.wrap (t.tdiv 65536)).tmod 256), IntKind.u8.wrap (IntKind.u32.wrap (t.tdiv 16777216))] = put32 t := by
  obtain ⟨h0, h1⟩ := h
  rw [put32_eq ⟨h0, h1⟩]
  have e1 : t.tdiv 256 = t / 256 := Int.tdiv_eq_ediv_of_nonneg h0
  have e2 : t.tdiv 65536 = t / 65536 := Int.tdiv_eq_ediv_of_nonneg h0
  have e3 : t.tdiv 16777216 = t / 16777216 := Int.tdiv_eq_ediv_of_nonneg h0
  rw [e1, e2, e3, wrap_u32, wrap_u32, wrap_u32, Int.tmod_eq_emod_of_nonneg h0, Int.tmod_eq_emod_of_nonneg (by omega), Int.tmod_eq_emod_of_nonneg (by omega)]
  simp only [u8_mod]
  refine congr (congrArg _ ?_) (congr (congrArg _ ?_) (congr (congrArg _ ?_) (congr (congrArg _ ?_) rfl))) <;> omega
theorem x0_eq {kind turn : Int} {p : List Int} (hk : mayK kind = true) (ht : U32 turn) (hp : p.length = 54) : rPutR_x0 kind turn p = sealH kind turn p := by
  have hk' : 1 ≤ kind ∧ kind ≤ 6 := by simpa [mayK] using hk
  unfold rPutR_x0
  rw [set4, set2, put32R ht, IntWalk.i64_in (255 - kind) (by omega), u8_in (by omega) (by omega), u8_in (by omega) (by omega)]
  simp only [List.drop_zero, List.take_zero, List.nil_append]
  rw [List.take_of_length_le (show p.length ≤ 54 by omega), List.take_of_length_le (show p.length ≤ (0 + 54) * 1 by omega), List.take_of_length_le (show [kind, 255 - kind].length ≤ 2 from Nat.le_refl _), List.take_of_length_le (show (p ++ [kind, 255 - kind]).length ≤ (0 + 54 + 2) * 1 by simp [hp]), List.take_of_length_le (show (put32 turn).length ≤ 4 by rw [put32_len]; decide)]
  simp [sealH]
theorem sealH_len {kind turn : Int} {p : List Int} (hp : p.length = 54) : (sealH kind turn p).length = 60 := by simp [sealH, hp, put32_len]
noncomputable def fPutR (args : List RV) : Option (RV × List Prop) := match args with
  | [.one (.c (.int .i64 kind)), .one (.c (.int .u32 turn)), .one (.ints .u8 p 54)] => some (.tup [.ints .u8 (putB kind turn p) 64, .c (.int .i64 (putE kind))], [U32 turn])
  | _ => none
theorem fPutR_ok : PureOK Tryz.prog 148 fPutR := by
  intro args v ps h hp ρ w vs ha
  unfold fPutR at h
  split at h <;> try (cases h; done)
  rename_i kind turn p
  simp only [Option.some.injEq, Prod.mk.injEq] at h
  obtain ⟨rfl, rfl⟩ := h
  obtain ⟨ht, _⟩ := hp
  have hlen : p.length = 54 := by
    obtain ⟨_, _, _, ⟨_, _, _, ⟨_, _, h3, _⟩, _⟩, _⟩ := ha
    exact h3.1
  refine pure_tree fitPR (by rfl) (by rfl) (.of_eq (rPutR_tree kind turn p _) ?_) ρ w vs ha
  refine .fork (fun h1 => .fork (fun h2 => ⟨trivial, ?_⟩) (fun h2 => ?_)) (fun h1 => ⟨trivial, ?_⟩)
  · have hk : mayK kind = false := by simp [mayK] at h1 h2 ⊢; omega
    unfold putB putE; rw [hk]; rfl
  · have hk : mayK kind = true := by simp [mayK] at h1 h2 ⊢; omega
    have hl := sealH_len (kind := kind) (turn := turn) hlen
    unfold rPutR_x2 rPutR_x1
    rw [x0_eq hk ht hlen]
    refine ⟨⟨by decide, hl, by decide, by decide, trivial⟩, ?_⟩
    simp only [List.drop_zero]
    rw [set4, List.take_of_length_le (show (sealH kind turn p).length ≤ 0 + 54 + 2 + 4 by omega)]
    rw [put32R (show U32 (crcR (sealH kind turn p)) by unfold crcR; exact wrap_u32_b _), List.take_of_length_le (show (put32 _).length ≤ 4 by rw [put32_len]; decide), ← crc_same]
    have e : sealH kind turn p ++ put32 (crcOf (sealH kind turn p)) = sealB kind turn p := by simp [sealH, sealB]
    have e2 : List.take 64 (sealB kind turn p) = sealB kind turn p := List.take_of_length_le (by rw [sealB_len hlen]; decide)
    rw [e, e2, over_z64 (sealB_len hlen), e2]
    unfold putB putE; rw [hk]; rfl
  · have hk : mayK kind = false := by simp [mayK] at h1 ⊢; omega
    unfold putB putE; rw [hk]; rfl
noncomputable def sgNR : FuncId → Option SumA := fun f => match f with | 220 => some (pureSum fKind) | 156 => some (pureSum fGetR) | 148 => some (pureSum fPutR) | _ => none
theorem fitNR : Fit Tryz.prog (fun f => (sgNR f).map toSum) := ⟨fit_ng, fit_mixed, SumAOK.sum fun f sm h => by
  unfold sgNR at h
  split at h
  · cases h; exact fKind_ok.sum ⟨_, Tryz.func220, rfl⟩
  · cases h; exact fGetR_ok.sum ⟨_, Tryz.func156, rfl⟩
  · cases h; exact fPutR_ok.sum ⟨_, Tryz.func148, rfl⟩
  · cases h⟩
noncomputable def rNextR (kind : Int) (b p : List Int) (Q : RV → Prop) : Option Prop := runA Tryz.prog sgNR 300 155 [.one (.c (.int .i64 kind)), .one (.ints .u8 b 64), .one (.ints .u8 p 54)] s0 αT fun v _ α => some (All α.ob ∧ Q v)
end Go.Sx

namespace Go.Sx
open Go.Proofs Go.RowKit
set_option maxRecDepth 100000
noncomputable abbrev rNextR_x0 (b : List Int) : Int := IntKind.u32.wrap (getT (kindB (List.take 64 (List.drop 0 b))) (List.take 64 (List.drop 0 b)) + 1)
noncomputable def rNextR_t (kind : Int) (b p : List Int) (Q : RV → Prop) : Option Prop := (bif kindB (List.take 64 (List.drop 0 b)) != 0 then ( some ((All [U32 (rNextR_x0 b), Bytes (List.take 64 (List.drop 0 b)), Bytes (List.take 64 (List.drop 0 b))] ∧ Q (RV.tup [AV.ints IntKind.u8 (List.take 64 (List.drop 0 (over z64 0 (putB kind (rNextR_x0 b) (List.take 54 (List.drop 0 p)))))) 64, AV.c (Cell.int IntKind.i64 (putE kind))]))) ) else ( some ((All [U32 1, Bytes (List.take 64 (List.drop 0 b))] ∧ Q (RV.tup [AV.ints IntKind.u8 (List.take 64 (List.drop 0 (over z64 0 (putB kind 1 (List.take 54 (List.drop 0 p)))))) 64, AV.c (Cell.int IntKind.i64 (putE kind))]))) ))
theorem rNextR_tree (kind : Int) (b p : List Int) (Q : RV → Prop) : rNextR kind b p Q = rNextR_t kind b p Q := by kernel_rfl
theorem kindB_nz {b : List Int} : (kindB b != 0) = rightB b := by
  unfold kindB
  cases h : rightB b with
  | true =>
    have := right_may h
    have h' : 1 ≤ b54 b ∧ b54 b ≤ 6 := by simpa [mayK] using this
    simp; omega
  | false => rfl
theorem getT_kind {b : List Int} (h : rightB b = true) : getT (kindB b) b = turnB b := by
  have hk := right_may h
  have e : kindB b = b54 b := by unfold kindB; rw [h]; rfl
  unfold getT
  rw [isB_kind (by rw [e]; exact hk)]
  simp
noncomputable def fNextR (args : List RV) : Option (RV × List Prop) := match args with
  | [.one (.c (.int .i64 kind)), .one (.ints .u8 b 64), .one (.ints .u8 p 54)] => some (.tup [.ints .u8 (nextB kind b p) 64, .c (.int .i64 (putE kind))], [Bytes b])
  | _ => none
theorem fNextR_ok : PureOK Tryz.prog 155 fNextR := by
  intro args v ps h hp ρ w vs ha
  unfold fNextR at h
  split at h <;> try (cases h; done)
  rename_i kind b p
  simp only [Option.some.injEq, Prod.mk.injEq] at h
  obtain ⟨rfl, rfl⟩ := h
  obtain ⟨hy, _⟩ := hp
  obtain ⟨hb, hl⟩ : b.length = 64 ∧ p.length = 54 := by obtain ⟨_, _, _, ⟨_, _, h, ⟨_, _, h2, _⟩, _⟩, _⟩ := ha; exact ⟨h.1, h2.1⟩
  refine pure_tree fitNR (by rfl) (by rfl) (.of_eq (rNextR_tree kind b p _) ?_) ρ w vs ha
  unfold rNextR_t rNextR_x0
  rw [take_all hb, take_all hl, kindB_nz]
  have fin : ∀ t, RV.tup [AV.ints IntKind.u8 (List.take 64 (List.drop 0 (over z64 0 (putB kind t p)))) 64, AV.c (Cell.int IntKind.i64 (putE kind))] = RV.tup [AV.ints IntKind.u8 (putB kind t p) 64, AV.c (Cell.int IntKind.i64 (putE kind))] := fun t => by
    rw [over_z64 (putB_len hl), take_all (putB_len hl)]
  refine .fork (fun h => ⟨⟨wrap_u32_b _, hy, hy, trivial⟩, (fin _).trans ?_⟩) (fun h => ⟨⟨⟨by decide, by decide⟩, hy, trivial⟩, (fin _).trans ?_⟩)
  · rw [getT_kind h]
    unfold nextB; rw [if_pos h, Int.add_comm]
  · unfold nextB; rw [h]; rfl
/-! ### the reference's super: Put f59, Get f102 -/
noncomputable def sgSR : FuncId → Option SumA := fun f => match f with | 111 => some (pureSum fGeo) | _ => none
theorem fitSR : Fit Tryz.prog (fun f => (sgSR f).map toSum) := ⟨fit_ng, fit_mixed, SumAOK.sum fun f sm h => by
  unfold sgSR at h
  split at h
  · cases h; exact (fGeo_ok 111 refGeoCheck).sum ⟨_, Tryz.func111, rfl⟩
  · cases h⟩
noncomputable def rSupR (x y z : Int) (Q : RV → Prop) : Option Prop := runA Tryz.prog sgSR 300 80 [.one (.agg [.int .i64 x, .int .i64 y, .int .i64 z])] s0 αT fun v _ α => some (All α.ob ∧ Q v)
noncomputable def rHeadR (g : Int) (Q : RV → Prop) : Option Prop := runA Tryz.prog sgSR 300 84 [.one (.c (.int .i64 g))] s0 αT fun v _ α => some (All α.ob ∧ Q v)
end Go.Sx

namespace Go.Sx
open Go.Proofs Go.RowKit
set_option maxRecDepth 100000
abbrev z53 : List Int := 0 :: z52
noncomputable abbrev rSupR_x0 (x y z : Int) : List Int := List.take ((4 + 2 + 2) * 1) (List.drop 0 (List.take ((4 + 2) * 1) (List.drop 0 (List.take 4 (List.drop 0 (((((repl [0] 4).set 0 83).set 1 67).set 2 85).set 3 80)) ++ List.take 2 (List.drop 0 (((repl [0] 2).set 0 (IntKind.u8.wrap ((IntKind.u16.wrap x).tmod 256))).set 1 (IntKind.u8.wrap (IntKind.u16.wrap ((IntKind.u16.wrap x).tdiv 256))))))) ++ List.take 2 (List.drop 0 (((repl [0] 2).set 0 (IntKind.u8.wrap ((IntKind.u16.wrap y).tmod 256))).set 1 (IntKind.u8.wrap (IntKind.u16.wrap ((IntKind.u16.wrap y).tdiv 256))))))) ++ List.take 2 (List.drop 0 (((repl [0] 2).set 0 (IntKind.u8.wrap ((IntKind.u16.wrap z).tmod 256))).set 1 (IntKind.u8.wrap (IntKind.u16.wrap ((IntKind.u16.wrap z).tdiv 256)))))
noncomputable def rSupR_t (x y z : Int) (Q : RV → Prop) : Option Prop := (bif errI (geoB x y z) != 0 then ( some ((All [] ∧ Q (RV.tup [AV.ints IntKind.u8 z54 54, AV.c (Cell.int IntKind.i64 (errI (geoB x y z)))]))) ) else ( some ((All [] ∧ Q (RV.tup [AV.ints IntKind.u8 (83 :: 67 :: 85 :: 80 :: (rSupR_x0 x y z).getD 4 0 :: (rSupR_x0 x y z).getD 5 0 :: (rSupR_x0 x y z).getD 6 0 :: (rSupR_x0 x y z).getD 7 0 :: (rSupR_x0 x y z).getD 8 0 :: (rSupR_x0 x y z).getD 9 0 :: z44) 54, AV.c (Cell.int IntKind.i64 0)]))) ))
theorem rSupR_tree (x y z : Int) (Q : RV → Prop) : rSupR x y z Q = rSupR_t x y z Q := by kernel_rfl
noncomputable def rHeadR_t (g : Int) (Q : RV → Prop) : Option Prop := (bif decide (g < 0) then ( some ((All [] ∧ Q (RV.tup [AV.ints IntKind.u8 z54 54, AV.c (Cell.int IntKind.i64 2)]))) ) else ( (bif decide (g > 7) then ( some ((All [] ∧ Q (RV.tup [AV.ints IntKind.u8 z54 54, AV.c (Cell.int IntKind.i64 2)]))) ) else ( some ((All [] ∧ Q (RV.tup [AV.ints IntKind.u8 (IntKind.u8.wrap g :: z53) 54, AV.c (Cell.int IntKind.i64 0)]))) )) ))
theorem rHeadR_tree (g : Int) (Q : RV → Prop) : rHeadR g Q = rHeadR_t g Q := by kernel_rfl
theorem small_bR {x : Int} (h : 0 ≤ x ∧ x ≤ 200) : IntKind.u8.wrap ((IntKind.u16.wrap x).tmod 256) = x ∧ IntKind.u8.wrap (IntKind.u16.wrap ((IntKind.u16.wrap x).tdiv 256)) = 0 := by
  have h1 : IntKind.u16.wrap x = x := by unfold IntKind.wrap; simp only [IntKind.bits, IntKind.signed]; simp; omega
  rw [h1, Int.tmod_eq_emod_of_nonneg (by omega), Int.tdiv_eq_ediv_of_nonneg (by omega), u8_mod, u8_mod, wrap_u16]
  omega
theorem fSupR_ok : PureOK Tryz.prog 80 fSup := by
  intro args v ps h hp ρ w vs ha
  unfold fSup at h
  split at h <;> try (cases h; done)
  rename_i x y z
  cases h
  refine pure_tree fitSR (by rfl) (by rfl) (.of_eq (rSupR_tree x y z _) ?_) ρ w vs ha
  refine .fork (fun h => ⟨trivial, ?_⟩) (fun h => ⟨trivial, ?_⟩)
  · rw [errI_nz] at h
    have hg : geoB x y z = false := by simpa using h
    unfold sup; rw [hg]; rfl
  · rw [errI_nz] at h
    have hg : geoB x y z = true := by simpa using h
    obtain ⟨h1, h2, h3, h4, h5, h6⟩ := geoB_iff.1 hg
    unfold sup
    rw [if_pos hg, hg, errI_true]
    have e : rSupR_x0 x y z = [83, 67, 85, 80, x, 0, y, 0, z, 0] := by
      unfold rSupR_x0
      rw [(small_bR (x := x) (by omega)).1, (small_bR (x := x) (by omega)).2, (small_bR (x := y) (by omega)).1, (small_bR (x := y) (by omega)).2, (small_bR (x := z) (by omega)).1, (small_bR (x := z) (by omega)).2]
      rfl
    rw [e]; rfl
theorem fHeadR_ok : PureOK Tryz.prog 84 fHead := by
  intro args v ps h hp ρ w vs ha
  unfold fHead at h
  split at h <;> try (cases h; done)
  rename_i g
  simp only [Option.some.injEq, Prod.mk.injEq] at h
  obtain ⟨rfl, rfl⟩ := h
  refine pure_tree fitSR (by rfl) (by rfl) (.of_eq (rHeadR_tree g _) ?_) ρ w vs ha
  have no : inG g = false → RV.tup [AV.ints IntKind.u8 z54 54, AV.c (Cell.int IntKind.i64 2)] = RV.tup [AV.ints IntKind.u8 (headB g) 54, AV.c (Cell.int IntKind.i64 (if inG g then 0 else 2))] := fun e => by unfold headB; rw [e]; rfl
  refine .fork (fun h => ⟨trivial, no (by unfold inG; simp at h ⊢; omega)⟩) (fun h => .fork (fun h1 => ⟨trivial, no (by unfold inG; simp at h1 ⊢; omega)⟩) (fun h1 => ⟨trivial, ?_⟩))
  have e : inG g = true := by unfold inG; simp at h h1 ⊢; omega
  have h8 : IntKind.u8.wrap g = g := u8_in (by simp at h; omega) (by simp at h1; omega)
  unfold headB; rw [e, h8]; rfl
noncomputable def sgS2 : FuncId → Option SumA := fun f => match f with | 80 => some (pureSum fSup) | _ => none
theorem fitS2 : Fit Tryz.prog (fun f => (sgS2 f).map toSum) := ⟨fit_ng, fit_mixed, SumAOK.sum fun f sm h => by
  unfold sgS2 at h
  split at h
  · cases h; exact fSupR_ok.sum ⟨_, Tryz.func80, rfl⟩
  · cases h⟩
noncomputable def rSGR (p : List Int) (Q : RV → Prop) : Option Prop := runA Tryz.prog sgS2 300 190 [.one (.ints .u8 p 54)] s0 αT fun v _ α => some (All α.ob ∧ Q v)
end Go.Sx

namespace Go.Sx
open Go.Proofs Go.RowKit
set_option maxRecDepth 100000
noncomputable abbrev rSGR_x0 (p : List Int) : Int := IntKind.i64.wrap (IntKind.u16.wrap (IntKind.u64.wrap (IntKind.u64.wrap (256 * IntKind.u64.wrap (0 + IntKind.u64.wrap (p.getD 5 0))) + IntKind.u64.wrap (p.getD 4 0))))
noncomputable abbrev rSGR_x1 (p : List Int) : Int := IntKind.i64.wrap (IntKind.u16.wrap (IntKind.u64.wrap (IntKind.u64.wrap (256 * IntKind.u64.wrap (0 + IntKind.u64.wrap (p.getD 7 0))) + IntKind.u64.wrap (p.getD 6 0))))
noncomputable abbrev rSGR_x2 (p : List Int) : Int := IntKind.i64.wrap (IntKind.u16.wrap (IntKind.u64.wrap (IntKind.u64.wrap (256 * IntKind.u64.wrap (0 + IntKind.u64.wrap (p.getD 9 0))) + IntKind.u64.wrap (p.getD 8 0))))
noncomputable def rSGR_t (p : List Int) (Q : RV → Prop) : Option Prop := (bif errI (geoB (rSGR_x0 p) (rSGR_x1 p) (rSGR_x2 p)) != 0 then ( some ((All [] ∧ Q (RV.tup [AV.agg [Cell.int IntKind.i64 0, Cell.int IntKind.i64 0, Cell.int IntKind.i64 0], AV.c (Cell.int IntKind.i64 22)]))) ) else ( (bif !List.take 54 (List.drop 0 (over z54 0 (sup (rSGR_x0 p) (rSGR_x1 p) (rSGR_x2 p)))) == List.take 54 (List.drop 0 p) then ( some ((All [] ∧ Q (RV.tup [AV.agg [Cell.int IntKind.i64 0, Cell.int IntKind.i64 0, Cell.int IntKind.i64 0], AV.c (Cell.int IntKind.i64 22)]))) ) else ( some ((All [] ∧ Q (RV.tup [AV.agg [Cell.int IntKind.i64 (rSGR_x0 p), Cell.int IntKind.i64 (rSGR_x1 p), Cell.int IntKind.i64 (rSGR_x2 p)], AV.c (Cell.int IntKind.i64 0)]))) )) ))
theorem rSGR_tree (p : List Int) (Q : RV → Prop) : rSGR p Q = rSGR_t p Q := by kernel_rfl
theorem wrap_i64s {x : Int} (h0 : 0 ≤ x) (h1 : x < 65536) : IntKind.i64.wrap (IntKind.u16.wrap x) = x := by
  rw [wrap_u16, Int.emod_eq_of_lt h0 h1]
  exact IntWalk.i64_in _ (by omega)
theorem le16_num {a b : Int} (ha : 0 ≤ a ∧ a < 256) (hb : 0 ≤ b ∧ b < 256) : le16 a b = a + 256 * b := by
  unfold le16
  rw [(shl_eq ha).1, (shl_eq hb).2.1]
  have k0 : or32 0 a = 0 + a := or32_add (a := a) 0 (by omega) (by decide) (by omega) (by simp) ⟨by omega, by omega⟩ ⟨by omega, by omega⟩ ⟨by omega, by omega⟩
  rw [k0, Int.zero_add]
  have k1 : or32 a (256 * b) = a + 256 * b := or32_add (a := b) 8 (by omega) (by simpa using ha.2) (by omega) (by simp) ⟨by omega, by omega⟩ ⟨by omega, by omega⟩ ⟨by omega, by omega⟩
  rw [k1]
  exact wrap_i64s (by omega) (by omega)
theorem ref16 {a b : Int} (ha : 0 ≤ a ∧ a < 256) (hb : 0 ≤ b ∧ b < 256) :
    IntKind.i64.wrap (IntKind.u16.wrap (IntKind.u64.wrap (IntKind.u64.wrap (256 * IntKind.u64.wrap (0 + IntKind.u64.wrap b)) + IntKind.u64.wrap a))) = le16 a b := by
  rw [le16_num ha hb]
  have e : IntKind.u64.wrap (IntKind.u64.wrap (256 * IntKind.u64.wrap (0 + IntKind.u64.wrap b)) + IntKind.u64.wrap a) = a + 256 * b := by simp only [wrap_u64]; omega
  rw [e]
  exact wrap_i64s (by omega) (by omega)
noncomputable def fSupGR (args : List RV) : Option (RV × List Prop) := match args with
  | [.one (.ints .u8 p 54)] => some (.tup [.agg [.int .i64 (sel (supOk p) (g16 p 4)), .int .i64 (sel (supOk p) (g16 p 6)), .int .i64 (sel (supOk p) (g16 p 8))], .c (.int .i64 (if supOk p then 0 else 22))], [Bytes p])
  | _ => none
theorem fSupGR_ok : PureOK Tryz.prog 190 fSupGR := by
  intro args v ps h hp ρ w vs ha
  unfold fSupGR at h
  split at h <;> try (cases h; done)
  rename_i p
  simp only [Option.some.injEq, Prod.mk.injEq] at h
  obtain ⟨rfl, rfl⟩ := h
  obtain ⟨hy, _⟩ := hp
  have hl : p.length = 54 := args1_len ha
  refine pure_tree fitS2 (by rfl) (by rfl) (.of_eq (rSGR_tree p _) ?_) ρ w vs ha
  have e4 : rSGR_x0 p = g16 p 4 := ref16 (hy.getD 4) (hy.getD 5)
  have e6 : rSGR_x1 p = g16 p 6 := ref16 (hy.getD 6) (hy.getD 7)
  have e8 : rSGR_x2 p = g16 p 8 := ref16 (hy.getD 8) (hy.getD 9)
  unfold rSGR_t
  rw [e4, e6, e8]
  have e1 : over z54 0 (gSup p) = gSup p := over_z54 (sup_len _ _ _)
  have e2 : t54 (gSup p) = gSup p := take_all (sup_len _ _ _)
  have e3 : t54 p = p := take_all hl
  have no : supOk p = false → RV.tup [AV.agg [Cell.int IntKind.i64 0, Cell.int IntKind.i64 0, Cell.int IntKind.i64 0], AV.c (Cell.int IntKind.i64 22)] = .tup [.agg [.int .i64 (sel (supOk p) (g16 p 4)), .int .i64 (sel (supOk p) (g16 p 6)), .int .i64 (sel (supOk p) (g16 p 8))], .c (.int .i64 (if supOk p then 0 else 22))] := fun e => by rw [e]; rfl
  refine .fork (fun h => ⟨trivial, no ?_⟩) (fun h => .fork (fun h1 => ⟨trivial, no ?_⟩) (fun h1 => ⟨trivial, ?_⟩))
  · rw [errI_nz] at h
    unfold supOk
    rw [show gOk p = false from by simpa using h]; rfl
  · have h1' : (!(t54 (over z54 0 (gSup p)) == t54 p)) = true := h1
    rw [e1, e2, e3] at h1'
    unfold supOk
    rw [show (gSup p == p) = false from by simpa using h1', Bool.and_false]
  · rw [errI_nz] at h
    have h1' : (!(t54 (over z54 0 (gSup p)) == t54 p)) = false := h1
    rw [e1, e2, e3] at h1'
    have : supOk p = true := by
      unfold supOk
      rw [show gOk p = true from by simpa using h, show (gSup p == p) = true from by simpa using h1']; rfl
    rw [this]; rfl
/-! ### Find f56 -/
noncomputable def sgFR : FuncId → Option SumA := fun f => match f with | 156 => some (pureSum fGetR) | 190 => some (pureSum fSupGR) | 147 => some (pureSum fTot) | _ => none
theorem fitFR : Fit Tryz.prog (fun f => (sgFR f).map toSum) := ⟨fit_ng, fit_mixed, SumAOK.sum fun f sm h => by
  unfold sgFR at h
  split at h
  · cases h; exact fGetR_ok.sum ⟨_, Tryz.func156, rfl⟩
  · cases h; exact fSupGR_ok.sum ⟨_, Tryz.func190, rfl⟩
  · cases h; exact (fTot_ok 147 refTotal).sum ⟨_, Tryz.func147, rfl⟩
  · cases h⟩
noncomputable def rOne (b : List Int) (n : Int) (Q : RV → Prop) : Option Prop := runA Tryz.prog sgFR 300 133 [.one (.ints .u8 b 64), .one (.c (.int .i64 n))] s0 αT fun v _ α => some (All α.ob ∧ Q v)
end Go.Sx

namespace Go.Sx
open Go.Proofs Go.RowKit
set_option maxRecDepth 100000
noncomputable abbrev rOne_x0 (b : List Int) : List Int := List.take 54 (List.drop 0 (over z54 0 (getP 1 (List.take 64 (List.drop 0 b)))))
noncomputable abbrev rOne_x1 (b : List Int) : Bool := supOk (rOne_x0 b)
noncomputable abbrev rOne_x2 (b : List Int) : Int := sel (rOne_x1 b) (g16 (rOne_x0 b) 4)
noncomputable abbrev rOne_x3 (b : List Int) : Int := sel (rOne_x1 b) (g16 (rOne_x0 b) 6)
noncomputable abbrev rOne_x4 (b : List Int) : Int := sel (rOne_x1 b) (g16 (rOne_x0 b) 8)
noncomputable def rOne_t (b : List Int) (n : Int) (Q : RV → Prop) : Option Prop := (bif getE 1 (List.take 64 (List.drop 0 b)) != 0 then ( some ((All [Bytes (List.take 64 (List.drop 0 b))] ∧ Q (RV.tup [AV.agg [Cell.int IntKind.i64 0, Cell.int IntKind.i64 0, Cell.int IntKind.i64 0], AV.c (Cell.bool false)]))) ) else ( (bif (if (rOne_x1 b) = true then (0 : Int) else 22) == 0 then ( some ((All [Bytes (rOne_x0 b), Bytes (List.take 64 (List.drop 0 b))] ∧ Q (RV.tup [AV.agg [Cell.int IntKind.i64 (rOne_x2 b), Cell.int IntKind.i64 (rOne_x3 b), Cell.int IntKind.i64 (rOne_x4 b)], AV.c (Cell.bool (tot (rOne_x2 b) (rOne_x3 b) (rOne_x4 b) == n))]))) ) else ( some ((All [Bytes (rOne_x0 b), Bytes (List.take 64 (List.drop 0 b))] ∧ Q (RV.tup [AV.agg [Cell.int IntKind.i64 (rOne_x2 b), Cell.int IntKind.i64 (rOne_x3 b), Cell.int IntKind.i64 (rOne_x4 b)], AV.c (Cell.bool false)]))) )) ))
theorem rOne_tree (b : List Int) (n : Int) (Q : RV → Prop) : rOne b n Q = rOne_t b n Q := by kernel_rfl
theorem Bytes.t54 {b : List Int} (h : Bytes b) : Bytes (t54 b) := fun x hx => h x (List.mem_of_mem_drop (List.mem_of_mem_take hx))
theorem Bytes.getP {k : Int} {b : List Int} (h : Bytes b) : Bytes (getP k b) := by
  unfold Sx.getP
  split
  · exact h.t54
  · intro x hx
    have : ∀ x ∈ z54, (0 : Int) ≤ x ∧ x < 256 := by decide
    exact this x hx
/-- what a sector tells of a disk of n sectors -/
noncomputable def isKb (b : List Int) (n : Int) : Bool := (getE 1 b == 0) && (supOk (getP 1 b) && (tot (g16 (getP 1 b) 4) (g16 (getP 1 b) 6) (g16 (getP 1 b) 8) == n))
noncomputable def oneG (b : List Int) (i : Nat) : Int := if getE 1 b == 0 then sel (supOk (getP 1 b)) (g16 (getP 1 b) i) else 0
noncomputable def fOne (args : List RV) : Option (RV × List Prop) := match args with
  | [.one (.ints .u8 b 64), .one (.c (.int .i64 n))] => some (.tup [.agg [.int .i64 (oneG b 4), .int .i64 (oneG b 6), .int .i64 (oneG b 8)], .c (.bool (isKb b n))], [Bytes b])
  | _ => none
theorem fOne_ok : PureOK Tryz.prog 133 fOne := by
  intro args v ps h hp ρ w vs ha
  unfold fOne at h
  split at h <;> try (cases h; done)
  rename_i b n
  simp only [Option.some.injEq, Prod.mk.injEq] at h
  obtain ⟨rfl, rfl⟩ := h
  obtain ⟨hy, _⟩ := hp
  have hb : b.length = 64 := by obtain ⟨_, _, h, _⟩ := ha; exact h.1
  refine pure_tree fitFR (by rfl) (by rfl) (.of_eq (rOne_tree b n _) ?_) ρ w vs ha
  have e0 : rOne_x0 b = getP 1 b := by
    unfold rOne_x0
    rw [take_all hb, over_z54 (getP_len hb)]
    exact take_all (getP_len hb)
  unfold rOne_t rOne_x4 rOne_x3 rOne_x2 rOne_x1
  rw [e0, take_all hb]
  refine .fork (fun h => ⟨⟨hy, trivial⟩, ?_⟩) (fun h => ?_)
  · have h' : (getE 1 b == 0) = false := by rw [bne] at h; simpa using h
    unfold oneG isKb; rw [h']; rfl
  · have h' : (getE 1 b == 0) = true := by rw [bne] at h; simpa using h
    refine .fork (fun h1 => ⟨⟨hy.getP, hy, trivial⟩, ?_⟩) (fun h1 => ⟨⟨hy.getP, hy, trivial⟩, ?_⟩)
    · have hs : supOk (getP 1 b) = true := by
        cases hs : supOk (getP 1 b) with
        | true => rfl
        | false => rw [hs] at h1; simp at h1
      unfold oneG isKb; rw [h', hs]; rfl
    · have hs : supOk (getP 1 b) = false := by
        cases hs : supOk (getP 1 b) with
        | false => rfl
        | true => rw [hs] at h1; simp at h1
      unfold oneG isKb; rw [h', hs]; rfl
noncomputable def sgFi : FuncId → Option SumA := fun f => match f with | 133 => some (pureSum fOne) | _ => none
theorem fitFi : Fit Tryz.prog (fun f => (sgFi f).map toSum) := ⟨fit_ng, fit_mixed, SumAOK.sum fun f sm h => by
  unfold sgFi at h
  split at h
  · cases h; exact fOne_ok.sum ⟨_, Tryz.func133, rfl⟩
  · cases h⟩
noncomputable def rFi (t : TypeId) (L : List Int) (N n : Nat) (Q : RV → Prop) : Option Prop := runA Tryz.prog sgFi 300 67 [.one (.c (.slu 0 64 0 n))] ⟨.nil, hs43 t L N, 1, []⟩ αT fun v _ α => some (All α.ob ∧ Q v)
noncomputable def c32 : Code := gB 83
noncomputable def l32 : Code := match gR (gL (gR (gR (gR c32)))) with | .block _ (.loop c) => c | _ => .skip
abbrev n32 : Nat := 32
noncomputable def sl32 (g : Int) : T RV := match setArgs n32 [.one (.c (.ptr 0 0)), .one (.c (.int .i64 g))] 0 .nil some with | some t => t | none => .nil
end Go.Sx
