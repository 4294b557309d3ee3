/-
  Parts of the executor Sx over the model's code (any program), or of this seat's walks: words and proofs that the row's text uses.
-/
import Derived.Test.YtganobhodimjnaaH5
namespace Go.Sx
open Go.Proofs Go.RowKit
set_option maxRecDepth 100000
section
variable {off : Nat} {L F2 : List Int} {p q r : Int} {F G H : List Int} {m N : Nat} {a b c sc out i : Int} {l : List (Int × Int)} {wk wg wi : Int} {inn : Bool}
theorem take_bk {X : List Int} : List.take 64 (List.drop (0 + i.toNat * 64) X) = bk X i := by rw [Nat.zero_add]; rfl
theorem in_facts (hN : N = 64 * m) (h0 : 0 ≤ i) (h1 : i < m) : decide (m ≠ 0) = true ∧ decide (0 ≤ i ∧ i < (m : Int)) = true ∧ decide (0 + i.toNat * 64 + 64 ≤ N) = true := by
  refine ⟨?_, ?_, ?_⟩ <;> (simp; try omega)
theorem rndCt_ok (hN : N = 64 * m) (h0 : 0 ≤ i) (h1 : i < m) (hB : Bytes (bk H i)) (hk1 : wk ≠ 0 → kindB (bk H i) = wk) (hk3 : wk = 0 → bk H i = bk F i) {Q : X → S → Prop}
    (hq : Q .normal (s4d off L F2 p q r F G H m N a b c sc out i l wk wg wi true)) : Okp (rndCt off L F2 p q r F G H m N a b c sc out i l wk wg wi Q) := by
  obtain ⟨e0, e1, e4⟩ := in_facts hN h0 h1
  rw [rndCt_tree]; unfold rndCt_t
  revert hq
  generalize s4d off L F2 p q r F G H m N a b c sc out i l wk wg wi true = S0
  intro hq
  have e5 : rndCt_x5 H i = bk H i := take_bk
  have e7 : rndCt_x7 F H i = !(bk H i == bk F i) := by show (!(List.take 64 _ == List.take 64 _)) = _; rw [take_bk, take_bk]
  simp only [e0, e1, e4, cond_true, e5, e7, rndCt_x6]
  by_cases h : wk = 0
  · subst h
    simp [hk3 rfl, Okp, All, hq]
  · have := hk1 h
    have hb : (wk == 0) = false := by simpa using h
    simp [hb, h, this, Okp, All, hq, hB]
theorem rndCf_ok (hN : N = 64 * m) (h0 : 0 ≤ i) (h1 : i < m) (hk : bk H i = bk F i) {Q : X → S → Prop}
    (hq : Q .normal (s4d off L F2 p q r F G H m N a b c sc out i l wk wg wi false)) : Okp (rndCf off L F2 p q r F G H m N a b c sc out i l wk wg wi Q) := by
  obtain ⟨e0, e1, e4⟩ := in_facts hN h0 h1
  rw [rndCf_tree]; unfold rndCf_t
  revert hq
  generalize s4d off L F2 p q r F G H m N a b c sc out i l wk wg wi false = S0
  intro hq
  have e5 : rndCf_x5 F H i = !(bk H i == bk F i) := by show (!(List.take 64 _ == List.take 64 _)) = _; rw [take_bk, take_bk]
  simp only [e0, e1, e4, cond_true, e5]
  by_cases h : wk = 0
  · subst h
    simp [hk, Okp, All, hq]
  · have hb : (wk == 0) = false := by simpa using h
    simp [hb, hk, Okp, All, hq]
theorem rndD_ok (hN : N = 64 * m) (h0 : 0 ≤ i) (h1 : i < m) (hB : Bytes (bk F i)) (hk : wk = 3 ∨ wk = 4 → kindB (bk F i) = wk → bk H i = bk F i) {Q : X → S → Prop}
    (hq : Q .normal (s4f off L F2 p q r F G H m N a b c sc out i l wk wg wi)) : Okp (rndD off L F2 p q r F G H m N a b c sc out i l wk wg wi inn Q) := by
  obtain ⟨e0, e1, e4⟩ := in_facts hN h0 h1
  rw [rndD_tree]; unfold rndD_t
  revert hq
  generalize s4f off L F2 p q r F G H m N a b c sc out i l wk wg wi = S0
  intro hq
  have e5 : rndD_x5 F i = bk F i := take_bk
  have e6 : rndD_x6 F i wk = (kindB (bk F i) == wk) := by show (kindB (List.take 64 _) == _) = _; rw [take_bk]
  have e7 : rndD_x7 F H i = !(bk H i == bk F i) := by show (!(List.take 64 _ == List.take 64 _)) = _; rw [take_bk, take_bk]
  simp only [e0, e1, e4, cond_true, e5, e6, e7]
  by_cases h3 : wk = 3
  · subst h3
    by_cases hx : kindB (bk F i) = 3
    · simp [hx, hk (.inl rfl) hx, Okp, All, hq, hB]
    · have hb : (kindB (bk F i) == 3) = false := by simpa using hx
      simp [hb, Okp, All, hq, hB]
  · by_cases h4 : wk = 4
    · subst h4
      by_cases hx : kindB (bk F i) = 4
      · simp [hx, hk (.inr rfl) hx, Okp, All, hq, hB]
      · have hb : (kindB (bk F i) == 4) = false := by simpa using hx
        simp [hb, Okp, All, hq, hB]
    · have hb : (wk == 3) = false := by simpa using h3
      have hc : (wk == 4) = false := by simpa using h4
      simp [hb, hc, Okp, All, hq]
end
section
variable (off : Nat) (L F2 : List Int) (p q r : Int) (F G H : List Int) (m N : Nat) (a b c sc out i : Int) (l : List (Int × Int)) (wk wg wi : Int)
theorem s4c_nx : (s4c off L F2 p q r F G H m N a b c sc out i (.mapI none l)).nx = 12 := by kernel_rfl
theorem s4f_nx : (s4f off L F2 p q r F G H m N a b c sc out i l wk wg wi).nx = 14 := by kernel_rfl
theorem s4f_low : low n4 12 (s4f off L F2 p q r F G H m N a b c sc out i l wk wg wi) = s4c off L F2 p q r F G H m N a b c sc out i (.mapI none l) := by kernel_rfl
end
/-- what a sector has to be behind the first phase -/
structure Rt (a b c sc : Int) (F H : List Int) (i : Int) : Prop where
  bf : Bytes (bk F i)
  bh : Bytes (bk H i)
  k1 : (i < 2 ∨ inS a sc (pl a b c i).2.1 = true) → (pl a b c i).1 ≠ 0 → kindB (bk H i) = (pl a b c i).1
  k2 : ¬ i < 2 → inS a sc (pl a b c i).2.1 = false → bk H i = bk F i
  k3 : (pl a b c i).1 = 0 → bk H i = bk F i
  k4 : (pl a b c i).1 = 3 ∨ (pl a b c i).1 = 4 → kindB (bk F i) = (pl a b c i).1 → bk H i = bk F i
section
variable {off : Nat} {L F2 : List Int} {p q r : Int} {F G H : List Int} {m N : Nat} {a b c sc out : Int} {l : List (Int × Int)}
theorem loop4 (hN : N = 64 * m) (hm : m ≤ 140) (hR : ∀ i : Int, 0 ≤ i → i < m → Rt a b c sc F H i) : ∀ (k : Nat) (i : Int), 0 ≤ i → i + k = m → Tr Try.prog n4 (.loop lp4) (s4c off L F2 p q r F G H m N a b c sc out i (.mapI none l)) (fun x s' => x = .exit 0 ∧ s' = s4c off L F2 p q r F G H m N a b c sc out m (.mapI none l))
  | 0, i, h0, hk => by
    have : i = m := by simpa using hk
    subst this
    refine Tr.loop (Tr.seq (c := gL lp4) (d := gR lp4) (Tr.treeL fit4 (m := 12) (by rw [s4c_nx]; exact Nat.le_refl _) (.of_eq (rndA_tree ..) (.no (by simp) ⟨trivial, rfl, ?_⟩))))
    exact ⟨rfl, rfl⟩
  | k + 1, i, h0, hk => by
    push_cast at hk
    have h1 : i < m := by omega
    have ih := loop4 hN hm hR k (i + 1) (by omega) (by omega)
    have R := hR i h0 h1
    refine Tr.loop (Tr.seq (c := gL lp4) (d := gR lp4) (Tr.treeL fit4 (m := 12) (by rw [s4c_nx]; exact Nat.le_refl _) (.of_eq (rndA_tree ..) (.yes (by simp; exact h1) ⟨trivial, rfl, ?_⟩))))
    refine Tr.seq (c := .block 1 bk4) (d := gR (gR lp4)) (Tr.low (m := 12) (by rw [s4c_nx]; exact Nat.le_refl _) (Tr.block ?_))
    refine Tr.seq (c := gL bk4) (d := gR bk4) (Tr.treeF fit4 (.of_eq (rndB1_tree ..) ⟨trivial, ?_⟩))
    have last : ∀ inn : Bool, (inn = true → i < 2 ∨ inS a sc (pl a b c i).2.1 = true) → (inn = false → ¬ i < 2 ∧ inS a sc (pl a b c i).2.1 = false) → ∀ Q' : X → S → Prop, Q' .normal (s4f off L F2 p q r F G H m N a b c sc out i l (pl a b c i).1 (pl a b c i).2.1 (pl a b c i).2.2.1) →
        Tr Try.prog n4 (gR (gR bk4)) (s4d off L F2 p q r F G H m N a b c sc out i l (pl a b c i).1 (pl a b c i).2.1 (pl a b c i).2.2.1 inn) Q' := fun inn ht hf Q' hq => by
      have tail : ∀ inn : Bool, Tr Try.prog n4 (gR (gR (gR bk4))) (s4d off L F2 p q r F G H m N a b c sc out i l (pl a b c i).1 (pl a b c i).2.1 (pl a b c i).2.2.1 inn) Q' := fun inn => Tr.treeF fit4 (rndD_ok hN h0 h1 R.bf R.k4 hq)
      refine Tr.seq (c := gL (gR (gR bk4))) (d := gR (gR (gR bk4))) ?_
      cases inn with
      | true => exact Tr.treeF fit4 (rndCt_ok hN h0 h1 R.bh (R.k1 (ht rfl)) R.k3 (tail true))
      | false => exact Tr.treeF fit4 (rndCf_ok hN h0 h1 (R.k2 (hf rfl).1 (hf rfl).2) (tail false))
    have next : Tr Try.prog n4 (gR (gR lp4)) (s4c off L F2 p q r F G H m N a b c sc out i (.mapI none l)) (Then Try.prog n4 (s4c off L F2 p q r F G H m N a b c sc out i (.mapI none l)) (fun x s' => x = .exit 0 ∧ s' = s4c off L F2 p q r F G H m N a b c sc out m (.mapI none l)) (.loop lp4)) := by
      refine Tr.treeFL fit4 (m := 12) (by rw [s4c_nx]; exact Nat.le_refl _) (.of_eq (rndE_tree ..) ⟨trivial, rfl, ?_⟩)
      have hi1 : IntKind.i64.wrap (i + 1) = i + 1 := IntWalk.i64_in _ (by omega)
      rw [hi1]
      exact ih
    refine Tr.seq (c := gL (gR bk4)) (d := gR (gR bk4)) (Tr.treeF fit4 (.of_eq (rndB2_tree ..) (.fork (fun h2 => ⟨trivial, ?_⟩) (fun h2 => ⟨trivial, ?_⟩))))
    · exact last true (fun _ => .inl (by simpa using h2)) (fun h => by cases h) _ ⟨by rw [s4f_nx]; omega, by rw [s4f_low]; exact next⟩
    · have h2' : ¬ i < 2 := by simpa using h2
      exact last (inS a sc (pl a b c i).2.1) (fun h => .inr h) (fun h => ⟨h2', h⟩) _ ⟨by rw [s4f_nx]; omega, by rw [s4f_low]; exact next⟩
end
end Go.Sx

namespace Go.Sx
open Go.Proofs Go.RowKit
set_option maxRecDepth 100000
section
variable {a b c sc : Int} {m : Nat} {F : List Int}
theorem rt_all (hg : geoB a b c = true) (hm : (m : Int) = 2 + a * (2 + b + c)) (hl : F.length = 64 * m) (hy : ∀ i : Int, 0 ≤ i → i < m → Bytes (bk F i)) (i : Int) (h0 : 0 ≤ i) (h1 : i < m) : Rt a b c sc F (runS a b c m sc (F, [], 0)).1 i := by
  have h := (runS_inv (sc := sc) (st0 := (F, [], 0)) hg hm hl).blk i h0 h1
  rw [if_pos h1] at h
  have h' : bk (runS a b c m sc (F, [], 0)).1 i = fnS a b c sc i (bk F i) := h
  refine ⟨hy i h0 h1, ?_, ?_, ?_, ?_, ?_⟩
  · rw [h']; exact bytes_fin (hy i h0 h1)
  · intro h2 h3; rw [h']; exact fin_kind hg h0 _ h2 h3
  · intro h2 h3; rw [h']; exact fin_out _ h2 h3
  · intro h2; rw [h']; exact fin_raw hg h0 _ h2
  · intro h2 h3; rw [h']; exact fin_was hg h0 _ h2 h3
theorem again (hg : geoB a b c = true) (hm : (m : Int) = 2 + a * (2 + b + c)) (hl : F.length = 64 * m) : (runS a b c m sc ((runS a b c m sc (F, [], 0)).1, [], 0)).2.1 = [] := by
  have h := runS_inv (sc := sc) (st0 := (F, [], 0)) hg hm hl
  refine (runS_inv (sc := sc) (st0 := ((runS a b c m sc (F, [], 0)).1, [], 0)) hg hm h.len).map fun s s0 s1 => ?_
  have e : bk (runS a b c m sc (F, [], 0)).1 s = fnS a b c sc s (bk F s) := by
    have := h.blk s s0 s1
    rw [if_pos s1] at this
    exact this
  show quS a b c sc s (bk (runS a b c m sc (F, [], 0)).1 s)
  rw [e]
  exact fin_quiet hg s0 _
theorem found (hg : geoB a b c = true) (hm : (m : Int) = 2 + a * (2 + b + c)) (hl : F.length = 64 * m) : fndE (runS a b c m sc (F, [], 0)).1 m = 0 ∧ fndG (runS a b c m sc (F, [], 0)).1 m 4 = a ∧ fndG (runS a b c m sc (F, [], 0)).1 m 6 = b ∧ fndG (runS a b c m sc (F, [], 0)).1 m 8 = c := by
  have hb := mul_bd hg
  have h := (runS_inv (sc := sc) (st0 := (F, [], 0)) hg hm hl).blk 0 (by omega) (by omega)
  rw [if_pos (by omega)] at h
  have h' : bk (runS a b c m sc (F, [], 0)).1 0 = wrB 1 (sup a b c) (bk F 0) := by
    rw [h]; unfold fnS; rw [if_pos (by omega)]
  refine find_sup hg (by unfold tot; rw [if_pos hg]; exact hm.symm) ?_
  have e : blkAt (runS a b c m sc (F, [], 0)).1 0 = wrB 1 (sup a b c) (bk F 0) := h'
  rw [e]
  exact wrB_is rfl supL_len
theorem outside (hg : geoB a b c = true) (hm : (m : Int) = 2 + a * (2 + b + c)) (hl : F.length = 64 * m) : (runS a b c m sc (F, [], 0)).2.2 = 0 ∧ (runS a b c m sc (F, [], 0)).1.length = 64 * m :=
  ⟨(runS_inv (sc := sc) (st0 := (F, [], 0)) hg hm hl).out, (runS_inv (sc := sc) (st0 := (F, [], 0)) hg hm hl).len⟩
end
abbrev End4 : X → S → Prop := EndV Try.prog n4 Try.f4.results.toList (.one (.c (.bool true)))
abbrev R4 : X → Option (List AV) → Prop := fun x q => x = X.ret ∧ ∃ L, q = some L ∧ resRV L = .one (.c (.bool true))
theorem clone_eq {X : List Int} {k : Nat} (h : X.length = 64 * k) : List.take 0 (List.drop 0 (repl z64 0)) ++ List.take (k * 64) (List.drop 0 X) = X := by
  show [] ++ List.take (k * 64) (List.drop 0 X) = X
  rw [List.nil_append, List.drop_zero, List.take_of_length_le (by omega)]
section
variable {off : Nat} {L F2 : List Int} {p q r : Int} {F G H : List Int} {m N : Nat} {a b c sc out : Int} {l : List (Int × Int)}
/-- behind the loop -/
theorem after4b (hN : N = 64 * m) (hm0 : 0 < m) (hm : m ≤ 140) (hg : geoB a b c = true) (hG : G.length = 64 * m) (he : fndE G m = 0 ∧ fndG G m 4 = a ∧ fndG G m 6 = b ∧ fndG G m 8 = c) (hr : (runS a b c m sc (G, [], 0)).2.1 = []) (ho : out = 0) :
    Tr Try.prog n4 v4 (s4c off L F2 p q r F G H m N a b c sc out m (.mapI none l)) End4 := by
  obtain ⟨e0, e1, e2, e3⟩ := he
  have hc := clone_eq hG
  refine Tr.pieces fit4 (keep := [5, 12, 13]) (m := 1) (.of_eq (end4_tree off L F2 p q r F G H m N a b c sc out m l (fun s => Tr Try.prog n4 (tailN 1 v4) s End4) R4) ?_)
  unfold end4_t
  have x4 : end4_x4 G m = G := hc
  have x1 : end4_x1 m = N := by show 0 + m * 64 = N; omega
  have x2 : end4_x2 m = m := Nat.zero_add m
  have x3 : end4_x3 m = true := by show fits Try.prog.types[49]! (end4_x2 m) = true; rw [x2]; exact fits49 hm
  have x5 : end4_x5 G m = 0 := by show fndE (end4_x4 G m) (end4_x2 m) = 0; rw [x4, x2]; exact e0
  have x6 : end4_x6 m = m * 64 := by show end4_x2 m * 64 = _; rw [x2]
  have x7 : end4_x7 m = N := by show 0 + end4_x6 m = N; rw [x6]; omega
  have x8 : end4_x8 m = m := by show 0 + end4_x2 m = m; rw [x2]; omega
  have x9 : end4_x9 m = true := by show fits Try.prog.types[49]! (end4_x8 m) = true; rw [x8]; exact fits49 hm
  simp only [x4, x1, x2, x3, x5, x6, x7, x8, x9]
  have hb : m.beq 0 = false := beq0 hm0
  rw [hb]
  refine .chk (by simp; omega) (.chk (by simp) (.no rfl (.chk (by simp; omega) (.no (by decide) (.chk (by simp; omega) (.chk (by simp) (.no rfl (.chk (by simp; omega) ?_))))))))
  refine ⟨⟨by rw [hG, hN], hN, trivial⟩, ?_⟩
  rw [e1, e2, e3]
  refine Tr.treeV fit4 (.of_eq (fin4_tree off L F2 p q r F G H m N a b c sc out l G G m N N a b c 0 (RetV (.one (.c (.bool true))))) ?_)
  refine .no (by decide) ⟨⟨hr, by rw [hG, hN], hN, hg, trivial⟩, .inr rfl, _, rfl, ?_⟩
  subst ho; rfl
end
end Go.Sx

namespace Go.Sx
open Go.Proofs Go.RowKit
set_option maxRecDepth 100000
section
variable {off : Nat} {L F2 : List Int} {p q r : Int} {F : List Int} {m N : Nat} {a b c sc : Int}
theorem after4a (hN : N = 64 * m) (hm0 : 0 < m) (hm : m ≤ 140) (hg : geoB a b c = true) (hma : (m : Int) = 2 + a * (2 + b + c)) (hF : F.length = 64 * m) (hy : ∀ i : Int, 0 ≤ i → i < m → Bytes (bk F i)) :
    Tr Try.prog n4 t4 (s4a off L F2 p q r F F m N a b c sc 0 (.map [])) End4 := by
  obtain ⟨ho, hG⟩ := outside (sc := sc) hg hma hF
  have hc := clone_eq hG
  refine Tr.pieces fit4 (keep := [0, 1, 5, 7]) (m := 2) (.of_eq (mid4_tree off L F2 p q r F F m N a b c sc (fun s => Tr Try.prog n4 (tailN 2 t4) s End4) R4) ?_)
  unfold mid4_t
  have x0 : mid4_x0 m = m * 64 := rfl
  have x1 : mid4_x1 m = N := by show 0 + m * 64 = N; omega
  have x2 : mid4_x2 F m a b c sc = (runS a b c m sc (F, [], 0)).1 := rfl
  have x3 : mid4_x3 m = m := Nat.zero_add m
  have x4 : mid4_x4 m = true := by show fits Try.prog.types[49]! (mid4_x3 m) = true; rw [x3]; exact fits49 hm
  have hb : m.beq 0 = false := beq0 hm0
  rw [hb]
  refine .chk (by simp; omega) (.chk (by rw [x1]; simp) (.no rfl (.chk (by rw [x3, x4]; simp; omega) ⟨⟨by rw [hF, hN], hN, hg, trivial⟩, ?_⟩)))
  rw [x1, x3, x0, x2, hc]
  show Tr Try.prog n4 u4 _ End4
  refine Tr.seq (c := gL u4) (d := v4) ?_
  refine Tr.seq (c := gL (gL u4)) (d := .block 0 (.loop lp4)) (Tr.treeL fit4 (m := 12) (Nat.le_refl _) (.of_eq (ini4_tree off L F2 p q r F (runS a b c m sc (F, [], 0)).1 (runS a b c m sc (F, [], 0)).1 m N a b c sc (runS a b c m sc (F, [], 0)).2.2 (runS a b c m sc (F, [], 0)).2.1 _) ⟨trivial, rfl, ?_⟩))
  refine Tr.block ((loop4 hN hm (rt_all hg hma hF hy) m 0 (by omega) (by omega)).mono fun x s' hx => ?_)
  obtain ⟨rfl, rfl⟩ := hx
  simp only [if_true]
  exact after4b hN hm0 hm hg hG (found hg hma hF) (again hg hma hF) ho
end
theorem bytes_bk {L : List Int} (h : Bytes L) (i : Int) : Bytes (bk L i) := fun x hx => h x (List.mem_of_mem_drop (List.mem_of_mem_take hx))
theorem body4 {n off cap : Nat} {sc : Int} {L : List Int} (hL : L.length = n * 64) (hc : n ≤ cap) (hy : Bytes L) : Tr Try.prog n4 c4 ⟨sl4 n off cap sc, ofL [(0, .win off .u8 L)], 1, []⟩ End4 := by
  refine Tr.pieces fit4 (keep := [0, 1, 5]) (m := 5) (.of_eq (pre4_tree n off cap sc L (fun s => Tr Try.prog n4 (tailN 5 c4) s End4) R4) ?_)
  unfold pre4_t
  obtain ⟨k, hk⟩ : ∃ k, k = min n 140 := ⟨_, rfl⟩
  have x0 : pre4_x0 n = (k : Int) := by show (if (140 : Int) < (n : Int) then (140 : Int) else (n : Int)) = _; split <;> omega
  have x1 : pre4_x1 off cap = off := by show (if cap = 0 then off else off + 0) = off; split <;> rfl
  have x2 : pre4_x2 off cap = 0 := by show pre4_x1 off cap - off = 0; rw [x1]; omega
  have x3 : pre4_x3 n = k := by show (pre4_x0 n).toNat - 0 = k; rw [x0]; simp
  have x4 : pre4_x4 n = k * 64 := by show pre4_x3 n * 64 = _; rw [x3]
  have x5 : pre4_x5 n off cap = k * 64 := by show pre4_x2 off cap + pre4_x4 n = _; rw [x2, x4]; omega
  have x6 : pre4_x6 n = k := by show 0 + pre4_x3 n = k; rw [x3]; omega
  have x7 : pre4_x7 n = true := by show fits Try.prog.types[49]! (pre4_x6 n) = true; rw [x6]; exact fits49 (by omega)
  have x8 : pre4_x8 n = (k : Int) := by show ((pre4_x6 n : Nat) : Int) = k; rw [x6]
  have x9 : pre4_x9 n = (k : Int) := by show (if (140 : Int) < pre4_x8 n then (140 : Int) else pre4_x8 n) = _; rw [x8]; split <;> omega
  have x10 : pre4_x10 n = k := by show (pre4_x9 n).toNat - 0 = k; rw [x9]; simp
  have x11 : pre4_x11 n = k * 64 := by show pre4_x10 n * 64 = _; rw [x10]
  have x12 : pre4_x12 n = k * 64 := by show 0 + pre4_x11 n = _; rw [x11]; omega
  have x13 : pre4_x13 n = k * 64 := by show 0 + pre4_x4 n = _; rw [x4]; omega
  have x14 : pre4_x14 n = k := by show 0 + pre4_x10 n = k; rw [x10]; omega
  have x15 : pre4_x15 n = true := by show fits Try.prog.types[49]! (pre4_x14 n) = true; rw [x14]; exact fits49 (by omega)
  have x19 : pre4_x19 n = k * 64 := by show pre4_x14 n * 64 = _; rw [x14]
  have x20 : pre4_x20 n = k * 64 := by show 0 + pre4_x19 n = _; rw [x19]; omega
  have x21 : pre4_x21 n = k := by show 0 + pre4_x14 n = k; rw [x14]; omega
  have x22 : pre4_x22 n = true := by show fits Try.prog.types[49]! (pre4_x21 n) = true; rw [x21]; exact fits49 (by omega)
  have hF : (L.take (k * 64)).length = 64 * k := by simp; omega
  have x16 : pre4_x16 n off cap L = L.take (k * 64) := by
    show [] ++ List.take (pre4_x4 n) (List.drop (pre4_x2 off cap) L) = _
    rw [x4, x2, List.drop_zero, List.nil_append]
  have x17 : pre4_x17 n off cap L = L.take (k * 64) := by
    show [] ++ List.take (pre4_x11 n) (List.drop 0 (pre4_x16 n off cap L)) = _
    rw [x11, x16]; exact clone_eq hF
  have hcl : List.take 0 (List.drop 0 (repl z64 0)) ++ List.take (pre4_x19 n) (List.drop 0 (pre4_x17 n off cap L)) = L.take (k * 64) := by rw [x19, x17]; exact clone_eq hF
  have hyF : ∀ i : Int, 0 ≤ i → i < k → Bytes (bk (L.take (k * 64)) i) := fun i _ _ => bytes_bk (fun x hx => hy x (List.mem_of_mem_take hx)) i
  refine .chk (by rw [x0]; simp; omega) (.chk (by rw [x1, x5]; simp; omega) ?_)
  rw [x3]
  by_cases hk0 : k = 0
  · refine .yes (by rw [hk0]; rfl) ⟨trivial, rfl, _, rfl, rfl⟩
  · have hb : k.beq 0 = false := beq0 (by omega)
    refine .no hb (.chk (by rw [x6, x7]; simp; omega) (.chk (by rw [x9, x8]; simp) (.chk (by rw [x10]; simp; exact hk0) (.chk (by rw [x12, x13]; simp) (.no (by rw [x10]; exact hb) (.chk (by rw [x14, x15]; simp; omega) ?_))))))
    have x18 : pre4_x18 n off cap L = (fndE (L.take (k * 64)) k != 0) := by show (fndE (pre4_x17 n off cap L) (pre4_x14 n) != 0) = _; rw [x17, x14]
    have hob : All [(pre4_x17 n off cap L).length = pre4_x12 n, pre4_x12 n = 64 * pre4_x14 n] := ⟨by rw [x17, x12, hF]; omega, by rw [x12, x14]; omega, trivial⟩
    rw [x18]
    cases he : (fndE (L.take (k * 64)) k != 0) with
    | true => exact .yes rfl (.yes rfl ⟨hob, rfl, _, rfl, rfl⟩)
    | false =>
      have hok := find_ok he
      have hg := find_geo hok
      have ht := find_tot hok
      unfold tot at ht
      rw [if_pos hg] at ht
      refine .no rfl (.chk (by rw [x14]; simp; exact hk0) (.chk (by rw [x20, x12]; simp) (.no (by rw [x14]; exact hb) (.chk (by rw [x21, x22]; simp; omega) (.no rfl ⟨hob, ?_⟩)))))
      rw [hcl, x6, x21, x20, x12, x13, x14, x16, x17]
      exact after4a (N := k * 64) (by omega) (by omega) (by omega) hg ht.symm hF hyF
theorem body4_eq : Try.f4.body = some c4 := by kernel_rfl
section
variable {n off cap : Nat} {sc : Int} {L : List Int} {w : World} {b : Nat} {cs : Array Value} {t : TypeId} {fr : Nat × Nat}
theorem law4_win (hb : w.heap[b]? = some (.cells cs t fr)) (hL : L.length = n * 64) (hsz : off + n * 64 ≤ cs.size) (hcs : (cs.toList.drop off).take (n * 64) = L.map (Value.int .u8)) (hc : n ≤ cap) (hy : Bytes L) :
    Calls Try.prog 4 #[.slice (some ⟨b, off, none⟩) n cap, .int .u32 sc] w fun e w' => e = .returned (.bool true) ∧ Below w.heap.size w w' := by
  refine (Tr.calls (s := ⟨.nil, ofL [(0, .win off .u8 L)], 1, []⟩) (Q := fun v _ => v = .one (.c (.bool true))) Try.func4 body4_eq (sl4_ok n off cap sc) (by rw [win_eq]; exact top_one) (body4 hL hc hy)
    (fun nm => if nm = 0 then some (b, 0) else none) w [.slice (some ⟨b, off, none⟩) n cap, .int .u32 sc] ?_ ?_ ?_).mono fun e w' hh => ?_
  · rw [win_eq]
    refine ⟨fun nm x hx => ?_, fun nm nm' x y b c c' hx hy hw _ _ => ?_⟩
    · obtain ⟨rfl, rfl⟩ := get_one hx
      exact ⟨b, 0, _, rfl, hb, cs, t, fr, rfl, by rw [hL]; exact hsz, by rw [hL]; exact hcs⟩
    · obtain ⟨rfl, rfl⟩ := get_one hx
      cases hw
  · intro nm hn
    have : 1 ≤ nm := hn
    simp only []
    rw [if_neg (by omega)]
  · exact ⟨_, _, ⟨b, 0, rfl, rfl⟩, ⟨_, _, rfl, rfl, rfl⟩, rfl⟩
  · obtain ⟨v', s', L', V, ρ', rfl, ab, e1, e2, e3, e4, st⟩ := hh
    cases e2
    refine ⟨e1, st.os, st.tape, st.out, st.size, fun q hq => st.frame q hq fun nm c hm hlt _ => ?_⟩
    obtain ⟨x, h1, h2⟩ := st.own nm hm hlt
    have h1' : (ofL [(0, Blk.win off .u8 L)] : T Blk).get nm = some x := h1
    rw [win_eq] at h1'
    obtain ⟨rfl, rfl⟩ := get_one h1'
    cases h2
noncomputable def args4n (sc : Int) : List RV := [.one (.c .sl0), .one (.c (.int .u32 sc))]
theorem nil_run4 (sc : Int) : runA Try.prog sg4 300 4 (args4n sc) s0 ⟨0, [], []⟩ (fun v _ α => some (v, α.ob)) = some (.one (.c (.bool true)), []) := by kernel_rfl
theorem law4_nil : Calls Try.prog 4 #[.slice none 0 0, .int .u32 sc] w fun e w' => e = .returned (.bool true) ∧ Below w.heap.size w w' := by
  refine (pure_path fit4 (by rfl) (by rfl) (nil_run4 sc) trivial (fun _ => none) w [.slice none 0 0, .int .u32 sc] ?_).mono fun e w' ⟨V, e1, e2, e3⟩ => ⟨by cases e2; exact e1, e3⟩
  exact ⟨_, _, rfl, ⟨_, _, rfl, rfl, rfl⟩, rfl⟩
end
#print axioms law4_win
end Go.Sx
