/-
  Parts of the executor Sx over the model's code (any program), or of this seat's walks: words and proofs that the row's text uses.
-/
import Derived.Test.YtfceckiklfkjkaaGreatR10
import Derived.Test.YtfceckiklfkjkaaGreatH6
import Derived.Test.YtfceckiklfkjkaaGreatJ8
namespace Go.Sx
open Go.Proofs Go.RowKit
set_option maxRecDepth 100000
/-! ### the image and the reference's go alike -/
def keysI (l : List (Int × Int)) : List Int := l.map (·.1)
theorem putI_keys (l : List (Int × Int)) (g v : Int) : keysI (putI l g v) = if g ∈ keysI l then keysI l else keysI l ++ [g] := by
  induction l with
  | nil => simp [putI, keysI]
  | cons p r ih =>
    obtain ⟨x, y⟩ := p
    unfold putI
    by_cases h : x = g
    · rw [if_pos h, if_pos (by simp [keysI, h])]
      simp [keysI, h]
    · rw [if_neg h]
      have e : keysI ((x, y) :: putI r g v) = x :: keysI (putI r g v) := rfl
      have e2 : keysI ((x, y) :: r) = x :: keysI r := rfl
      rw [e, e2, ih]
      have hx : ¬ g = x := fun e => h e.symm
      simp only [List.mem_cons, hx, false_or]
      split <;> simp
structure Sim (n : Nat) (st : St) (sr : StR) : Prop where
  img : st.1 = sr.1
  out : st.2.2 = sr.2.2
  wro : sr.2.1.length = n
  nod : (keysI st.2.1).Nodup
  key : ∀ x, x ∈ keysI st.2.1 ↔ 0 ≤ x ∧ x < n ∧ sr.2.1.getD x.toNat false = true
section
variable {a b c sc : Int} {n : Nat} {st : St} {sr : StR}
theorem Sim.wr (h : Sim n st sr) (g k : Int) (p : List Int) : (wrEnd a b c n sc st.2.2 st.1 st.2.1 g k p).1 = (wrF a b c n sc sr g k p).1 ∧ Sim n (wr1 a b c n sc st g k p) (wrF a b c n sc sr g k p).2 := by
  show _ ∧ Sim n (wrEnd a b c n sc st.2.2 st.1 st.2.1 g k p).2 _
  unfold wrEnd wrF
  rw [h.img]
  cases hs : hasS n g with
  | false => exact ⟨rfl, ⟨rfl, h.out, h.wro, h.nod, h.key⟩⟩
  | true =>
    rw [if_pos rfl, Bool.true_and]
    have hh := hasS_iff.1 hs
    cases hk : mayK k with
    | false =>
      have h1 : ldOk sr.1 n g k = false := by unfold ldOk getE; rw [hk]; simp
      rw [h1, Bool.false_and, if_neg (by simp)]
      have h2 : (putE k != 0) = true := by unfold putE; rw [hk]; rfl
      rw [h2, if_pos rfl]
      exact ⟨rfl, ⟨h.img.symm ▸ rfl, h.out, h.wro, h.nod, h.key⟩⟩
    | true =>
      have h2 : (putE k != 0) = false := putE_may.2 hk
      rw [if_pos rfl, h2]
      cases h3 : (ldOk sr.1 n g k && (ldP sr.1 n g k == p)) with
      | true => exact ⟨rfl, ⟨rfl, h.out, h.wro, h.nod, h.key⟩⟩
      | false =>
        simp only [Bool.false_eq_true, if_false]
        cases h4 : (decide (g ≥ 2) && !inS a sc (pl a b c g).2.1) with
        | true => exact ⟨rfl, ⟨rfl, by show IntKind.i64.wrap (st.2.2 + 1) = IntKind.i64.wrap (sr.2.2 + 1); rw [h.out], h.wro, h.nod, h.key⟩⟩
        | false =>
          simp only [Bool.false_eq_true, if_false]
          refine ⟨trivial, rfl, h.out, by simp [h.wro], ?_, fun x => ?_⟩
          · show (keysI (putI st.2.1 g 1)).Nodup
            rw [putI_keys]
            split
            · exact h.nod
            · rename_i hn
              rw [List.nodup_append]
              exact ⟨h.nod, by simp, fun x hx y hy e => hn (by simp at hy; subst hy; subst e; exact hx)⟩
          · show x ∈ keysI (putI st.2.1 g 1) ↔ 0 ≤ x ∧ x < n ∧ (sr.2.1.set g.toNat true).getD x.toNat false = true
            have hm : x ∈ keysI (putI st.2.1 g 1) ↔ x = g ∨ x ∈ keysI st.2.1 := by
              rw [putI_keys]
              split
              · rename_i hg
                exact ⟨.inr, fun h => h.elim (fun e => e ▸ hg) id⟩
              · simp [or_comm]
            rw [hm, h.key x]
            have hw := h.wro
            constructor
            · rintro (rfl | ⟨x0, x1, x2⟩)
              · refine ⟨hh.1, hh.2, ?_⟩
                simp [List.getD, List.getElem?_set_self (show x.toNat < sr.2.1.length by omega)]
              · refine ⟨x0, x1, ?_⟩
                by_cases e : g.toNat = x.toNat
                · rw [← e]; simp [List.getD, List.getElem?_set_self (show g.toNat < sr.2.1.length by omega)]
                · rw [List.getD, List.getElem?_set_ne e]; exact x2
            · rintro ⟨x0, x1, x2⟩
              by_cases e : g.toNat = x.toNat
              · exact .inl (by omega)
              · rw [List.getD, List.getElem?_set_ne e] at x2; exact .inr ⟨x0, x1, x2⟩
theorem Sim.sec (h : Sim n st sr) {i : Int} (hk : (pl a b c i).1 ≠ 0) (hk2 : (pl a b c i).1 ≠ 2) (hin : inS a sc (pl a b c i).2.1 = true) : Sim n (sec1 a b c n sc st i) (secF a b c n sc sr i) := by
  have e : secF a b c n sc sr i = if ldOk sr.1 n i (pl a b c i).1 then sr else (wrF a b c n sc sr i (pl a b c i).1 z54).2 := by
    unfold secF
    rw [if_pos hin, if_neg (show ¬ ((pl a b c i).1 == 0) = true by simpa using hk), if_neg (show ¬ ((pl a b c i).1 == 2) = true by simpa using hk2)]
  rw [e]
  unfold sec1
  rw [h.img]
  split
  · exact h
  · exact (h.wr i _ _).2
theorem secF_raw {i : Int} (hk : (pl a b c i).1 = 0) : secF a b c n sc sr i = sr := by unfold secF; rw [hk]; simp
theorem secF_out {i : Int} (hin : inS a sc (pl a b c i).2.1 = false) : secF a b c n sc sr i = sr := by unfold secF; rw [hin]; simp
theorem secsF_add : ∀ (m1 m2 : Nat) (sr : StR) (i : Int), secsF a b c n sc (m1 + m2) sr i = secsF a b c n sc m2 (secsF a b c n sc m1 sr i) (i + m1)
  | 0, m2, sr, i => by simp [secsF]
  | m1 + 1, m2, sr, i => by
    rw [show m1 + 1 + m2 = (m1 + m2) + 1 by omega, secsF, secsF_add m1 m2, secsF]
    congr 1
    push_cast; omega
theorem secsF_same : ∀ (m : Nat) (sr : StR) (i : Int), (∀ j, i ≤ j → j < i + m → ∀ q, secF a b c n sc q j = q) → secsF a b c n sc m sr i = sr
  | 0, _, _, _ => rfl
  | m + 1, sr, i, h => by
    rw [secsF, h i (by omega) (by push_cast; omega)]
    exact secsF_same m sr (i + 1) fun j h1 h2 q => h j (by omega) (by push_cast; omega) q
theorem Sim.secs (hg : geoB a b c = true) {g : Int} (h0 : 0 ≤ g) (h1 : g < a) (hin : inS a sc g = true) : ∀ (m : Nat) (j : Int) (st : St) (sr : StR), 1 ≤ j → j + m ≤ 2 + b → Sim n st sr → Sim n (Sx.secs a b c n sc m st (2 + g * (2 + b + c) + j)) (secsF a b c n sc m sr (2 + g * (2 + b + c) + j))
  | 0, j, st, sr, _, _, h => h
  | m + 1, j, st, sr, hj, hm, h => by
    obtain ⟨g1, g2, g3, g4, g5, g6⟩ := geoB_iff.1 hg
    push_cast at hm
    have hp := pl_at hg h0 h1 (j := j) (by omega) (by omega)
    rw [if_neg (by omega)] at hp
    rw [Sx.secs, secsF]
    have := Sim.secs hg h0 h1 hin m (j + 1) _ _ (by omega) (by omega) (h.sec (a := a) (b := b) (c := c) (sc := sc) (i := 2 + g * (2 + b + c) + j)
      (by
        rw [hp]
        split
        · simp
        · rw [if_pos (by omega)]; simp)
      (by
        rw [hp]
        split
        · simp
        · rw [if_pos (by omega)]; simp)
      (by
        rw [hp]
        split
        · exact hin
        · rw [if_pos (by omega)]; exact hin))
    rw [show 2 + g * (2 + b + c) + (j + 1) = 2 + g * (2 + b + c) + j + 1 by omega] at this
    exact this
theorem Sim.grp (hg : geoB a b c = true) {g : Int} (h0 : 0 ≤ g) (h1 : g < a) (h : Sim n st sr) : Sim n (grp1 a b c n sc st g) (secsF a b c n sc (2 + b + c).toNat sr (2 + g * (2 + b + c))) := by
  obtain ⟨g1, g2, g3, g4, g5, g6⟩ := geoB_iff.1 hg
  have hgp : ∀ s, 2 + g * (2 + b + c) ≤ s → s < 2 + g * (2 + b + c) + (2 + b + c) → (pl a b c s).2.1 = g := fun s s0 s1 => by
    have := pl_at hg h0 h1 (j := s - (2 + g * (2 + b + c))) (by omega) (by omega)
    rw [show 2 + g * (2 + b + c) + (s - (2 + g * (2 + b + c))) = s by omega] at this
    rw [this]
    split
    · rfl
    · split
      · rfl
      · split <;> rfl
  unfold grp1
  cases hin : inS a sc g with
  | false =>
    rw [if_neg (by simp), secsF_same _ _ _ fun j j0 j1 q => secF_out (by rw [hgp j j0 (by omega)]; exact hin)]
    exact h
  | true =>
    rw [if_pos rfl]
    have hfst : fstS a b c g = 2 + g * (2 + b + c) := by
      unfold fstS
      rw [if_pos (by unfold fstB; rw [hg]; simp; omega)]
    unfold Sx.grp
    rw [hfst, show (2 + b + c).toNat = 1 + ((b + 1).toNat + c.toNat) by omega, secsF_add, secsF_add]
    have p0 := pl_at hg h0 h1 (j := 0) (by omega) (by omega)
    rw [if_pos rfl, Int.add_zero] at p0
    have e1 : secsF a b c n sc 1 sr (2 + g * (2 + b + c)) = (wrF a b c n sc sr (2 + g * (2 + b + c)) 2 (headB g)).2 := by
      show secF a b c n sc sr _ = _
      unfold secF
      rw [p0]
      simp only
      rw [if_pos hin, if_neg (by decide), if_pos (by decide)]
    rw [e1]
    have hs := Sim.secs (n := n) (sc := sc) hg h0 h1 hin (b + 1).toNat 1 _ _ (by omega) (by omega) (h.wr (a := a) (b := b) (c := c) (sc := sc) (2 + g * (2 + b + c)) 2 (headB g)).2
    rw [show 2 + g * (2 + b + c) + ((1 : Nat) : Int) = 2 + g * (2 + b + c) + 1 from rfl]
    rw [secsF_same c.toNat _ _ fun j j0 j1 q => secF_raw ?_]
    · exact hs
    · have hp := pl_at hg h0 h1 (j := j - (2 + g * (2 + b + c))) (by omega) (by omega)
      rw [show 2 + g * (2 + b + c) + (j - (2 + g * (2 + b + c))) = j by omega, if_neg (by omega), if_neg (by omega), if_neg (by omega)] at hp
      rw [hp]
theorem Sim.grps (hg : geoB a b c = true) : ∀ (m : Nat) (g : Int) (st : St) (sr : StR), 0 ≤ g → g + m = a → Sim n st sr → Sim n (Sx.grps a b c n sc m st g) (secsF a b c n sc (m * (2 + b + c).toNat) sr (2 + g * (2 + b + c)))
  | 0, g, st, sr, _, _, h => by rw [Nat.zero_mul]; exact h
  | m + 1, g, st, sr, h0, hm, h => by
    obtain ⟨g1, g2, g3, g4, g5, g6⟩ := geoB_iff.1 hg
    push_cast at hm
    rw [Sx.grps, show (m + 1) * (2 + b + c).toNat = (2 + b + c).toNat + m * (2 + b + c).toNat by rw [Nat.add_mul]; omega, secsF_add]
    have := Sim.grps hg m (g + 1) _ _ (by omega) (by omega) (h.grp (sc := sc) hg h0 (by omega))
    rw [show 2 + (g + 1) * (2 + b + c) = 2 + g * (2 + b + c) + ((2 + b + c).toNat : Int) by rw [Int.add_mul]; omega] at this
    exact this
theorem Sim.run (hg : geoB a b c = true) (hm : (n : Int) = 2 + a * (2 + b + c)) (h : Sim n st sr) : Sim n (runS a b c n sc st) (runR a b c n sc sr) := by
  obtain ⟨g1, g2, g3, g4, g5, g6⟩ := geoB_iff.1 hg
  unfold runS runR
  have h2 := ((h.wr (a := a) (b := b) (c := c) (sc := sc) 0 1 (sup a b c)).2.wr (a := a) (b := b) (c := c) (sc := sc) 1 1 (sup a b c)).2
  have := Sim.grps (sc := sc) hg a.toNat 0 _ _ (by omega) (by omega) h2
  rw [Int.zero_mul, Int.add_zero, show a.toNat * (2 + b + c).toNat = n - 2 from ?_] at this
  · exact this
  · have : ((a.toNat * (2 + b + c).toNat : Nat) : Int) = a * (2 + b + c) := by
      rw [Int.natCast_mul, Int.toNat_of_nonneg (by omega), Int.toNat_of_nonneg (by omega)]
    omega
end
end Go.Sx

namespace Go.Sx
open Go.Proofs Go.RowKit
set_option maxRecDepth 100000
/-! ### SameInts f58, of two that are the same -/
noncomputable def c58 : Code := gB 35
noncomputable def l58 : Code := match gR (gL (gR (gR c58))) with | .block _ (.loop c) => c | _ => .skip
noncomputable def hs58 (A B : List Int) (n : Nat) : T Blk := ofL [(0, .row 3 true (some 1) (.ints .i64 A n)), (1, .row 3 true (some 1) (.ints .i64 B n))]
noncomputable def sl58 (n : Nat) : T RV := match setArgs 26 [.one (.c (.slu 0 1 0 n)), .one (.c (.slu 1 1 0 n))] 0 .nil some with | some t => t | none => .nil
theorem sl58_ok (n : Nat) : setArgs 26 [.one (.c (.slu 0 1 0 n)), .one (.c (.slu 1 1 0 n))] 0 .nil some = some (sl58 n) := by kernel_rfl
noncomputable def sgNo : FuncId → Option SumA := fun _ => none
theorem fitNo : Fit Tryz.prog (fun f => (sgNo f).map toSum) := ⟨fit_ng, fit_mixed, SumAOK.sum fun f sm h => by cases h⟩
section
variable (A B : List Int) (n : Nat) (i : Int)
noncomputable def s58 : S := fgt [0, 1, 5] 26 ⟨ofL [(0, .one (.c (.slu 0 1 0 n))), (1, .one (.c (.slu 1 1 0 n))), (5, .one (.c (.int .i64 i)))], hs58 A B n, 2, []⟩
noncomputable def s58a : S := fgt [0, 1] 26 ⟨ofL [(0, .one (.c (.slu 0 1 0 n))), (1, .one (.c (.slu 1 1 0 n)))], hs58 A B n, 2, []⟩
noncomputable def p58 (M : S → Prop) (R : X → Option (List AV) → Prop) : Option Prop :=
  execN Tryz.prog sgNo 300 26 2 c58 ⟨sl58 n, hs58 A B n, 2, []⟩ αT (fun x s α => some (All α.ob ∧ match x with | .normal => M (fgt [0, 1] 26 s) | x => R x (resOf Tryz.prog 26 s Tryz.f35.results.toList)))
noncomputable def i58 (Q : X → S → Prop) : Option Prop := execA Tryz.prog sgNo 300 26 (gL (gL (gR (gR c58)))) (s58a A B n) αT (fun x s α => some (All α.ob ∧ match x with | .ret => False | x => Q x (fgt [0, 1, 5] 26 s)))
noncomputable def t58 (Q : X → S → Prop) : Option Prop := execA Tryz.prog sgNo 300 26 l58 (s58 A B n i) αT (fun x s α => some (All α.ob ∧ Q x (fgt [0, 1, 5] 26 s)))
noncomputable def e58 (R : X → Option (List AV) → Prop) : Option Prop := execA Tryz.prog sgNo 300 26 (gR (gR (gR c58))) (s58 A B n i) αT (fun x s α => some (All α.ob ∧ R x (resOf Tryz.prog 26 s Tryz.f35.results.toList)))
noncomputable def z58 (Q : RV → Prop) : Option Prop := runA Tryz.prog sgNo 300 35 [.one (.c .sl0), .one (.c (.sl 0 0 0 0))] ⟨.nil, .nil, 1, []⟩ αT fun v _ α => some (All α.ob ∧ Q v)
theorem z58_tree (Q : RV → Prop) : z58 Q = some (All [] ∧ Q (.one (.c (.bool true)))) := by kernel_rfl
end
end Go.Sx

namespace Go.Sx
open Go.Proofs Go.RowKit
set_option maxRecDepth 100000
noncomputable def p58_t (A B : List Int) (n : Nat) (M : S → Prop) (R : X → Option (List AV) → Prop) : Option Prop := (bif (↑n : Int) != (↑n : Int) then ( some ((All [] ∧ R (X.ret) (some [AV.c (Cell.bool false)]))) ) else ( some ((All [] ∧ M (s58a A B n))) ))
theorem p58_tree (A B : List Int) (n : Nat) (M : S → Prop) (R : X → Option (List AV) → Prop) : p58 A B n M R = p58_t A B n M R := by kernel_rfl
noncomputable def i58_t (A B : List Int) (n : Nat) (Q : X → S → Prop) : Option Prop := some ((All [] ∧ Q (X.normal) (s58 A B n 0)))
theorem i58_tree (A B : List Int) (n : Nat) (Q : X → S → Prop) : i58 A B n Q = i58_t A B n Q := by kernel_rfl
noncomputable abbrev t58_x0 (n : Nat) : Bool := decide (n ≠ 0)
noncomputable abbrev t58_x1 (n : Nat) (i : Int) : Bool := decide ((0 : Int) ≤ i ∧ i < (↑n : Int))
noncomputable abbrev t58_x2 (i : Int) : Nat := 0 + i.toNat * 1
noncomputable abbrev t58_x3 (n : Nat) (i : Int) : Bool := decide ((t58_x2 i) < n)
noncomputable def t58_t (A B : List Int) (n : Nat) (i : Int) (Q : X → S → Prop) : Option Prop := (bif decide (i < (↑n : Int)) then ( (bif (t58_x0 n) then ( (bif (t58_x1 n i) then ( (bif (t58_x3 n i) then ( (bif (t58_x0 n) then ( (bif (t58_x1 n i) then ( (bif (t58_x3 n i) then ( (bif A.getD (t58_x2 i) 0 != B.getD (t58_x2 i) 0 then ( some ((All [] ∧ Q (X.ret) (fgt [0, 1, 5] 26 ⟨ofL [(0, RV.one (AV.c (Cell.slu 0 1 0 n))), (1, RV.one (AV.c (Cell.slu 1 1 0 n))), (5, RV.one (AV.c (Cell.int IntKind.i64 i)))], ofL [(0, Blk.row 3 true (some 1) (Body.ints IntKind.i64 A n)), (1, Blk.row 3 true (some 1) (Body.ints IntKind.i64 B n))], 2, []⟩))) ) else ( some ((All [] ∧ Q (X.normal) (s58 A B n (IntKind.i64.wrap (i + 1))))) )) ) else none) ) else none) ) else none) ) else none) ) else none) ) else none) ) else ( some ((All [] ∧ Q (X.exit 0) (s58 A B n i))) ))
theorem t58_tree (A B : List Int) (n : Nat) (i : Int) (Q : X → S → Prop) : t58 A B n i Q = t58_t A B n i Q := by kernel_rfl
noncomputable def e58_t (A B : List Int) (n : Nat) (i : Int) (R : X → Option (List AV) → Prop) : Option Prop := some ((All [] ∧ R (X.ret) (some [AV.c (Cell.bool true)])))
theorem e58_tree (A B : List Int) (n : Nat) (i : Int) (R : X → Option (List AV) → Prop) : e58 A B n i R = e58_t A B n i R := by kernel_rfl
theorem lp58 (A : List Int) (n : Nat) (hn : n < 9223372036854775807) {Q : X → S → Prop} (hq : Q (.exit 0) (s58 A A n n)) : ∀ (k : Nat) (i : Int), 0 ≤ i → i + k = n → Tr Tryz.prog 26 (.loop l58) (s58 A A n i) Q
  | 0, i, h0, hi => by
    obtain rfl : i = n := by simpa using hi
    exact Tr.loop (Tr.tree fitNo (.of_eq (t58_tree ..) (.no (by simp) ⟨trivial, hq⟩)))
  | k + 1, i, h0, hi => by
    push_cast at hi
    have t0 : t58_x0 n = true := by show decide (n ≠ 0) = true; simp; omega
    have t1 : t58_x1 n i = true := by show decide ((0 : Int) ≤ i ∧ i < (n : Int)) = true; simp; omega
    have t3 : t58_x3 n i = true := by show decide (0 + i.toNat * 1 < n) = true; simp; omega
    refine Tr.loop (Tr.tree fitNo (.of_eq (t58_tree ..) (.yes (by simp; omega) ?_)))
    refine .chk t0 (.chk t1 (.chk t3 (.chk t0 (.chk t1 (.chk t3 (.no (by simp) ⟨trivial, ?_⟩))))))
    show Tr _ _ _ _ _
    rw [IntWalk.i64_in (i + 1) (by omega)]
    exact lp58 A n hn hq k (i + 1) (by omega) (by omega)
theorem body58_eq : Tryz.f35.body = some c58 := by kernel_rfl
theorem top58 (A B : List Int) (n : Nat) : Top ⟨.nil, hs58 A B n, 2, []⟩ := fun nm h => by
  cases hh : (hs58 A B n).get nm with
  | none => rfl
  | some x =>
    have h' : 2 ≤ nm := h
    rcases get_two hh with ⟨h1, _⟩ | ⟨h1, _⟩ <;> omega
theorem body58 (A : List Int) (n : Nat) (hn : n < 9223372036854775807) : Tr Tryz.prog 26 c58 ⟨sl58 n, hs58 A A n, 2, []⟩ (EndV Tryz.prog 26 Tryz.f35.results.toList (.one (.c (.bool true)))) := by
  refine Tr.pieces (keep := [0, 1]) fitNo (m := 2) (.of_eq (p58_tree A A n (fun s => Tr Tryz.prog 26 (tailN 2 c58) s (EndV Tryz.prog 26 Tryz.f35.results.toList (.one (.c (.bool true))))) (fun x q => x = X.ret ∧ ∃ L, q = some L ∧ resRV L = .one (.c (.bool true)))) (.no (by simp) ⟨trivial, ?_⟩))
  refine Tr.seq (c := gL (tailN 2 c58)) (d := gR (tailN 2 c58)) (Tr.seq (c := gL (gL (tailN 2 c58))) (d := .block 0 (.loop l58)) (Tr.treeF fitNo (.of_eq (i58_tree ..) (.some' ⟨trivial, ?_⟩))))
  refine Tr.block (lp58 A n hn ?_ n 0 (by omega) (by omega))
  exact Tr.treeV fitNo (.of_eq (e58_tree A A n n (RetV (.one (.c (.bool true))))) (.some' ⟨trivial, .inr rfl, _, rfl, rfl⟩))
noncomputable def sum58 : SumA := fun args hp nx => match args with
  | [.one (.c .sl0), .one (.c (.sl _ 0 0 0))] => some (.one (.c (.bool true)), hp, nx, [], [])
  | [.one (.c (.slu na 1 0 n)), .one (.c (.slu nb 1 0 m))] => match getRow hp.get na, getRow hp.get nb with
    | some (3, _, some 1, .ints .i64 A N), some (3, _, some 1, .ints .i64 B M) => some (.one (.c (.bool true)), hp, nx, [], [A = B, N = n, M = n, m = n, n < 9223372036854775807])
    | _, _ => none
  | _ => none
theorem sum58_ok : SumAOK Tryz.prog 35 sum58 := by
  intro args s v hp nx lg ps ht h hps
  unfold sum58 at h
  split at h <;> try (cases h; done)
  · rename_i nm
    simp only [Option.some.injEq, Prod.mk.injEq] at h
    obtain ⟨rfl, rfl, rfl, rfl, rfl⟩ := h
    exact CallInfo.small (P := Tryz.prog) (f := 35) (args := [.one (.c .sl0), .one (.c (.sl 0 0 0 0))]) (v := .one (.c (.bool true))) (k := 1) (hs := .nil) (θ := fun _ => nm) (s := s) ht ⟨_, Tryz.func35, rfl⟩
      (small_tree fitNo top_none (.of_eq (z58_tree _) (.some' ⟨trivial, rfl⟩))) (fun nm' x hx => by cases hx) (by rfl) (by rfl)
  · rename_i na n nb m
    split at h <;> try (cases h; done)
    rename_i ro1 A N ro2 B M h1 h2
    simp only [Option.some.injEq, Prod.mk.injEq] at h
    obtain ⟨rfl, rfl, rfl, rfl, rfl⟩ := h
    obtain ⟨rfl, e1, e2, e3, hn, _⟩ := hps
    replace e1 := e1.symm
    replace e2 := e2.symm
    replace e3 := e3.symm
    subst e1
    subst e2
    subst e3
    have g1 := getRow_some h1
    have g2 := getRow_some h2
    have := CallInfo.small (P := Tryz.prog) (f := 35) (args := [.one (.c (.slu 0 1 0 n)), .one (.c (.slu 1 1 0 n))]) (v := .one (.c (.bool true))) (k := 2) (hs := hs58 A A n) (θ := fun i => if i = 0 then na else nb) (s := s) ht ⟨_, Tryz.func35, rfl⟩
      (Tr.small (fn := Tryz.f35) (c := c58) Tryz.func35 body58_eq (top58 A A n) (sl58_ok n) (body58 A n hn))
      (fun nm' x hx => by
        rcases get_two hx with ⟨rfl, rfl⟩ | ⟨rfl, rfl⟩
        · exact ⟨by omega, _, g1, RoOf.ints⟩
        · exact ⟨by omega, _, g2, RoOf.ints⟩) (by rfl) (by rfl)
    exact this
end Go.Sx

namespace Go.Sx
open Go.Proofs Go.RowKit
set_option maxRecDepth 100000
/-! ### alikeIs f30 -/
noncomputable def sg30 : FuncId → Option SumA := fun f => match f with | 162 => some sumBlk | 121 => some sumSorted | 35 => some sum58 | 271 => some sumLenA | _ => none
theorem fit30 : Fit Tryz.prog (fun f => (sg30 f).map toSum) := ⟨fit_ng, fit_mixed, SumAOK.sum fun f sm h => by
  unfold sg30 at h
  split at h
  · cases h; exact sumBlk_ok
  · cases h; exact sumSorted_ok
  · cases h; exact sum58_ok
  · cases h; exact sumLenA_ok
  · cases h⟩
noncomputable def sg30e : FuncId → Option SumA := fun f => match f with | 162 => some sumBlk | 186 => some sumCollE | 35 => some sum58 | 271 => some sumLenA | _ => none
theorem fit30e : Fit Tryz.prog (fun f => (sg30e f).map toSum) := ⟨fit_ng, fit_mixed, SumAOK.sum fun f sm h => by
  unfold sg30e at h
  split at h
  · cases h; exact sumBlk_ok
  · cases h; exact sumCollE_ok
  · cases h; exact sum58_ok
  · cases h; exact sumLenA_ok
  · cases h⟩
noncomputable def c30 : Code := gB 91
noncomputable def l30 : Code := match gR (gL (tailN 4 c30)) with | .block _ (.loop c) => c | _ => .skip
noncomputable def b30 : Code := match gL (gR l30) with | .block _ c => c | _ => .skip
noncomputable def sl30 : T RV := match setArgs 94 [.one (.c (.ptr 0 0)), .one (.c (.ptr 3 0))] 0 .nil some with | some t => t | none => .nil
theorem sl30_ok : setArgs 94 [.one (.c (.ptr 0 0)), .one (.c (.ptr 3 0))] 0 .nil some = some sl30 := by kernel_rfl
section
variable (a b c : Int) (n : Nat) (sc : Int) (L : List Int) (l : List (Int × Int)) (W : List Bool) (out i : Int) (C wl : List Int) (k : Nat)
abbrev two30 (rest : List (Nat × Blk)) : List (Nat × Blk) := [(0, .row 113 false none (.cells [.int .i64 a, .int .i64 b, .int .i64 c, .slu 1 64 0 n, .int .u32 sc, .map 2, .int .i64 out])), (1, .row 95 false (some 64) (.ints .u8 L (64 * n))), (2, .mapI none l),
  (3, .row 65 false none (.cells [.int .i64 a, .int .i64 b, .int .i64 c, .slu 4 64 0 n, .int .u32 sc, .sl 5 0 n n, .int .i64 out])), (4, .row 95 false (some 64) (.ints .u8 L (64 * n))), (5, .row 4 false none (.bools W n))] ++ rest
noncomputable def hs30 : T Blk := ofL (two30 a b c n sc L l W out [])
noncomputable def q30a (Q : X → S → Prop) : Option Prop := execA Tryz.prog sg30 300 94 (gL c30) ⟨sl30, hs30 a b c n sc L l W out, 6, []⟩ αT (fun x s α => some (All α.ob ∧ match x with | .ret => False | x => Q x (fgt [0, 1] 94 s)))
noncomputable def s30a : S := fgt [0, 1] 94 ⟨ofL [(0, .one (.c (.ptr 0 0))), (1, .one (.c (.ptr 3 0)))], hs30 a b c n sc L l W out, 6, []⟩
noncomputable def q30b (Q : X → S → Prop) : Option Prop := execA Tryz.prog sg30 300 94 (gL (gR c30)) (s30a a b c n sc L l W out) αT (gcQ 6 [] [] [0, 1, 5] 94 [7] Q)
variable (m N : Nat)
noncomputable def s30b : S := fgt [0, 1, 5] 94 ⟨ofL [(0, .one (.c (.ptr 0 0))), (1, .one (.c (.ptr 3 0))), (5, .one (.c (.slu 6 64 0 m)))], ofL (two30 a b c n sc L l W out [(6, secB C N)]), 7, []⟩
theorem q30b_run (Q : X → S → Prop) : q30b a b c n sc L l W out Q =
  (bif decide (n ≠ 0) then (bif decide (0 + n * 64 ≤ 64 * n) then (bif n.beq 0 then none else (bif decide (0 < 0 + n ∧ fits Tryz.prog.types[95] (0 + n) = true) then
    some (All [] ∧ (true = true ∧ Q .normal (s30b a b c n sc L l W out (List.take 0 (List.drop 0 (repl z64 0)) ++ List.take (n * 64) (List.drop 0 L)) (0 + n) (0 + n * 64)))) else none)) else none) else none) := by kernel_rfl
noncomputable def q30c (Q : X → S → Prop) : Option Prop := execA Tryz.prog sg30 300 94 (gL (gR (gR c30))) (s30b a b c n sc L l W out C n (64 * n)) αT (gcQ 6 [] [] [0, 1, 5] 94 [6] (fun x s => match x with | .ret => False | x => Q x s))
theorem q30c_run (Q : X → S → Prop) : q30c a b c n sc L l W out C Q =
  (bif (n : Int) != (n : Int) then some (All [] ∧ (true = true ∧ False)) else (bif out != out then some (All [] ∧ (true = true ∧ False)) else (bif !(a == a && (b == b && (c == c && true))) then some (All [] ∧ (true = true ∧ False)) else
    some (All [] ∧ (true = true ∧ Q .normal (s30b a b c n sc L l W out C n (64 * n))))))) := by kernel_rfl
noncomputable def q30d (Q : X → S → Prop) : Option Prop := execA Tryz.prog sg30 300 94 (gL (gR (gR (gR c30)))) (s30b a b c n sc L l W out C n (64 * n)) αT (fun x s α => some (All α.ob ∧ match x with | .ret => False | x => Q x (fgt [0, 1, 5, 6] 94 s)))
/-- while nothing was written -/
noncomputable def s30d : S := fgt [0, 1, 5, 6] 94 ⟨ofL [(0, .one (.c (.ptr 0 0))), (1, .one (.c (.ptr 3 0))), (5, .one (.c (.slu 6 64 0 n))), (6, .one (.c (.sl 7 0 0 0)))], ofL (two30 a b c n sc L l W out [(6, secB C (64 * n)), (7, .row 3 false none (.ints .i64 [] 0))]), 8, []⟩
noncomputable def sA30 : S := fgt [0, 1, 5, 6, 7] 94 ⟨ofL [(0, .one (.c (.ptr 0 0))), (1, .one (.c (.ptr 3 0))), (5, .one (.c (.slu 6 64 0 n))), (6, .one (.c (.sl 7 0 0 0))), (7, .one (.c (.int .i64 i)))], ofL (two30 a b c n sc L l W out [(6, secB C (64 * n)), (7, .row 3 false none (.ints .i64 [] 0))]), 8, []⟩
/-- .. and then -/
noncomputable def sB30 : S := fgt [0, 1, 5, 6, 7] 94 ⟨ofL [(0, .one (.c (.ptr 0 0))), (1, .one (.c (.ptr 3 0))), (5, .one (.c (.slu 6 64 0 n))), (6, .one (.c (.slu 7 1 0 k))), (7, .one (.c (.int .i64 i)))], ofL (two30 a b c n sc L l W out [(6, secB C (64 * n)), (7, .row 3 false (some 1) (.ints .i64 wl k))]), 8, []⟩
noncomputable def sX30 (N : Nat) : S := fgt [0, 1, 5, 6, 7] 94 ⟨ofL [(0, .one (.c (.ptr 0 0))), (1, .one (.c (.ptr 3 0))), (5, .one (.c (.slu 6 64 0 n))), (6, .one (.c (.slu 7 1 0 k))), (7, .one (.c (.int .i64 i)))], ofL (two30 a b c n sc L l W out [(6, secB C (64 * n)), (7, .row 3 false (some 1) (.ints .i64 wl N))]), 8, []⟩
noncomputable def q30e (Q : X → S → Prop) : Option Prop := execA Tryz.prog sg30 300 94 (gL (gL (tailN 4 c30))) (s30d a b c n sc L l W out C) αT (fun x s α => some (All α.ob ∧ match x with | .ret => False | x => Q x (fgt [0, 1, 5, 6, 7] 94 s)))
noncomputable def tA1 (Q : X → S → Prop) : Option Prop := execA Tryz.prog sg30 300 94 (gL l30) (sA30 a b c n sc L l W out i C) αT (fun x s α => some (All α.ob ∧ match x with | .ret => False | x => Q x (fgt [0, 1, 5, 6, 7] 94 s)))
noncomputable def tA2 (Q : X → S → Prop) : Option Prop := execA Tryz.prog sg30 300 94 (gL b30) (sA30 a b c n sc L l W out i C) αT (fun x s α => some (All α.ob ∧ match x with | .ret => False | x => Q x (fgt [0, 1, 5, 6, 7] 94 s)))
noncomputable def sA30t (t : Bool) : S := fgt [0, 1, 5, 6, 7, 71] 94 ⟨ofL [(0, .one (.c (.ptr 0 0))), (1, .one (.c (.ptr 3 0))), (5, .one (.c (.slu 6 64 0 n))), (6, .one (.c (.sl 7 0 0 0))), (7, .one (.c (.int .i64 i))), (71, .one (.c (.bool t)))], ofL (two30 a b c n sc L l W out [(6, secB C (64 * n)), (7, .row 3 false none (.ints .i64 [] 0))]), 8, []⟩
noncomputable def sB30t (t : Bool) : S := fgt [0, 1, 5, 6, 7, 71] 94 ⟨ofL [(0, .one (.c (.ptr 0 0))), (1, .one (.c (.ptr 3 0))), (5, .one (.c (.slu 6 64 0 n))), (6, .one (.c (.slu 7 1 0 k))), (7, .one (.c (.int .i64 i))), (71, .one (.c (.bool t)))], ofL (two30 a b c n sc L l W out [(6, secB C (64 * n)), (7, .row 3 false (some 1) (.ints .i64 wl k))]), 8, []⟩
noncomputable def tA3 (Q : X → S → Prop) : Option Prop := execA Tryz.prog sg30 300 94 (gL (gR b30)) (sA30 a b c n sc L l W out i C) αT (fun x s α => some (All α.ob ∧ match x with | .ret => False | x => Q x (fgt [0, 1, 5, 6, 7, 71] 94 s)))
theorem tA3_run (Q : X → S → Prop) : tA3 a b c n sc L l W out i C Q = (bif decide ((0 : Int) ≤ i ∧ i < (n : Int)) then (bif decide (0 + i.toNat * 1 < n) then some (All [] ∧ Q .normal (sA30t a b c n sc L l W out i C (W.getD (0 + i.toNat * 1) false))) else none) else none) := by kernel_rfl
noncomputable def app30 : Code := gL (gR (gR b30))
noncomputable def tA4 (Q : X → S → Prop) : Option Prop := execA Tryz.prog sg30 300 94 app30 (sA30t a b c n sc L l W out i C true) αT (gcQ 6 [] [] [0, 1, 5, 6, 7] 94 [6, 9] Q)
theorem tA4_run (Q : X → S → Prop) : tA4 a b c n sc L l W out i C Q = some (All [] ∧ (true = true ∧ Q .normal (sB30 a b c n sc L l W out i C [i] 1))) := by kernel_rfl
noncomputable def tB1 (Q : X → S → Prop) : Option Prop := execA Tryz.prog sg30 300 94 (gL l30) (sB30 a b c n sc L l W out i C wl k) αT (fun x s α => some (All α.ob ∧ match x with | .ret => False | x => Q x (fgt [0, 1, 5, 6, 7] 94 s)))
noncomputable def tB2 (Q : X → S → Prop) : Option Prop := execA Tryz.prog sg30 300 94 (gL b30) (sB30 a b c n sc L l W out i C wl k) αT (fun x s α => some (All α.ob ∧ match x with | .ret => False | x => Q x (fgt [0, 1, 5, 6, 7] 94 s)))
noncomputable def tB3 (Q : X → S → Prop) : Option Prop := execA Tryz.prog sg30 300 94 (gL (gR b30)) (sB30 a b c n sc L l W out i C wl k) αT (fun x s α => some (All α.ob ∧ match x with | .ret => False | x => Q x (fgt [0, 1, 5, 6, 7, 71] 94 s)))
theorem tB3_run (Q : X → S → Prop) : tB3 a b c n sc L l W out i C wl k Q = (bif decide ((0 : Int) ≤ i ∧ i < (n : Int)) then (bif decide (0 + i.toNat * 1 < n) then some (All [] ∧ Q .normal (sB30t a b c n sc L l W out i C wl k (W.getD (0 + i.toNat * 1) false))) else none) else none) := by kernel_rfl
noncomputable def tB4 (Q : X → S → Prop) : Option Prop := execA Tryz.prog sg30 300 94 app30 (sB30t a b c n sc L l W out i C wl k true) αT (gcQ 6 [] [] [0, 1, 5, 6, 7] 94 [6, 9] Q)
theorem tB4_run (Q : X → S → Prop) : tB4 a b c n sc L l W out i C wl k Q = (bif decide (fits Tryz.prog.types[3] (k + 1) = true) then (bif decide (0 + k * 1 ≤ k) then some (All [] ∧ (true = true ∧ Q .normal (sX30 a b c n sc L l W out i C (List.take (k * 1) (List.drop 0 wl) ++ List.take 1 (List.drop 0 ((repl [(0 : Int)] 1).set 0 i))) (k + 1) (k * 1 + 1)))) else none) else none) := by kernel_rfl
noncomputable def tA5 (Q : X → S → Prop) : Option Prop := execA Tryz.prog sg30 300 94 (gR (gR l30)) (sA30 a b c n sc L l W out i C) αT (fun x s α => some (All α.ob ∧ match x with | .ret => False | x => Q x (fgt [0, 1, 5, 6, 7] 94 s)))
noncomputable def tB5 (Q : X → S → Prop) : Option Prop := execA Tryz.prog sg30 300 94 (gR (gR l30)) (sB30 a b c n sc L l W out i C wl k) αT (fun x s α => some (All α.ob ∧ match x with | .ret => False | x => Q x (fgt [0, 1, 5, 6, 7] 94 s)))
end
end Go.Sx

namespace Go.Sx
open Go.Proofs Go.RowKit
set_option maxRecDepth 100000
noncomputable def q30a_t (a b c : Int) (n : Nat) (sc : Int) (L : List Int) (l : List (Int × Int)) (W : List Bool) (out : Int) (Q : X → S → Prop) : Option Prop := some ((All [] ∧ Q (X.normal) (s30a a b c n sc L l W out)))
theorem q30a_tree (a b c : Int) (n : Nat) (sc : Int) (L : List Int) (l : List (Int × Int)) (W : List Bool) (out : Int) (Q : X → S → Prop) : q30a a b c n sc L l W out Q = q30a_t a b c n sc L l W out Q := by kernel_rfl
noncomputable def q30d_t (a b c : Int) (n : Nat) (sc : Int) (L : List Int) (l : List (Int × Int)) (W : List Bool) (out : Int) (C : List Int) (Q : X → S → Prop) : Option Prop := some ((All [] ∧ Q (X.normal) (s30d a b c n sc L l W out C)))
theorem q30d_tree (a b c : Int) (n : Nat) (sc : Int) (L : List Int) (l : List (Int × Int)) (W : List Bool) (out : Int) (C : List Int) (Q : X → S → Prop) : q30d a b c n sc L l W out C Q = q30d_t a b c n sc L l W out C Q := by kernel_rfl
noncomputable def q30e_t (a b c : Int) (n : Nat) (sc : Int) (L : List Int) (l : List (Int × Int)) (W : List Bool) (out : Int) (C : List Int) (Q : X → S → Prop) : Option Prop := some ((All [] ∧ Q (X.normal) (sA30 a b c n sc L l W out 0 C)))
theorem q30e_tree (a b c : Int) (n : Nat) (sc : Int) (L : List Int) (l : List (Int × Int)) (W : List Bool) (out : Int) (C : List Int) (Q : X → S → Prop) : q30e a b c n sc L l W out C Q = q30e_t a b c n sc L l W out C Q := by kernel_rfl
noncomputable def tA1_t (a b c : Int) (n : Nat) (sc : Int) (L : List Int) (l : List (Int × Int)) (W : List Bool) (out i : Int) (C : List Int) (Q : X → S → Prop) : Option Prop := (bif decide (i < (↑n : Int)) then ( some ((All [] ∧ Q (X.normal) (sA30 a b c n sc L l W out i C))) ) else ( some ((All [] ∧ Q (X.exit 0) (sA30 a b c n sc L l W out i C))) ))
theorem tA1_tree (a b c : Int) (n : Nat) (sc : Int) (L : List Int) (l : List (Int × Int)) (W : List Bool) (out i : Int) (C : List Int) (Q : X → S → Prop) : tA1 a b c n sc L l W out i C Q = tA1_t a b c n sc L l W out i C Q := by kernel_rfl
noncomputable abbrev tA2_x0 (n : Nat) : Bool := decide (n ≠ 0)
noncomputable abbrev tA2_x1 (n : Nat) (i : Int) : Bool := decide ((0 : Int) ≤ i ∧ i < (↑n : Int))
noncomputable abbrev tA2_x2 (i : Int) : Nat := 0 + i.toNat * 64
noncomputable abbrev tA2_x3 (i : Int) : Nat := (tA2_x2 i) + 64
noncomputable abbrev tA2_x4 (n : Nat) : Nat := 64 * n
noncomputable abbrev tA2_x5 (n : Nat) (i : Int) : Bool := decide ((tA2_x3 i) ≤ (tA2_x4 n))
noncomputable abbrev tA2_x6 (i : Int) (C : List Int) : List Int := List.take 64 (List.drop (tA2_x2 i) C)
noncomputable def tA2_t (a b c : Int) (n : Nat) (sc : Int) (L : List Int) (l : List (Int × Int)) (W : List Bool) (out i : Int) (C : List Int) (Q : X → S → Prop) : Option Prop := (bif (tA2_x0 n) then ( (bif (tA2_x1 n i) then ( (bif (tA2_x5 n i) then ( (bif (tA2_x0 n) then ( (bif (tA2_x1 n i) then ( (bif (tA2_x5 n i) then ( (bif !(tA2_x6 i C) == List.take 64 (List.drop (tA2_x2 i) L) then ( some ((All [] ∧ False )) ) else ( (bif (tA2_x0 n) then ( (bif (tA2_x1 n i) then ( (bif (tA2_x5 n i) then ( (bif !blkS L n i == (tA2_x6 i C) then ( some ((All [L.length = (tA2_x4 n), (tA2_x4 n) = (tA2_x4 n)] ∧ False )) ) else ( some ((All [L.length = (tA2_x4 n), (tA2_x4 n) = (tA2_x4 n)] ∧ Q (X.normal) (sA30 a b c n sc L l W out i C))) )) ) else none) ) else none) ) else none) )) ) else none) ) else none) ) else none) ) else none) ) else none) ) else none)
theorem tA2_tree (a b c : Int) (n : Nat) (sc : Int) (L : List Int) (l : List (Int × Int)) (W : List Bool) (out i : Int) (C : List Int) (Q : X → S → Prop) : tA2 a b c n sc L l W out i C Q = tA2_t a b c n sc L l W out i C Q := by kernel_rfl
noncomputable def tA5_t (a b c : Int) (n : Nat) (sc : Int) (L : List Int) (l : List (Int × Int)) (W : List Bool) (out i : Int) (C : List Int) (Q : X → S → Prop) : Option Prop := some ((All [] ∧ Q (X.normal) (sA30 a b c n sc L l W out (IntKind.i64.wrap (i + 1)) C)))
theorem tA5_tree (a b c : Int) (n : Nat) (sc : Int) (L : List Int) (l : List (Int × Int)) (W : List Bool) (out i : Int) (C : List Int) (Q : X → S → Prop) : tA5 a b c n sc L l W out i C Q = tA5_t a b c n sc L l W out i C Q := by kernel_rfl
noncomputable def tB1_t (a b c : Int) (n : Nat) (sc : Int) (L : List Int) (l : List (Int × Int)) (W : List Bool) (out i : Int) (C wl : List Int) (k : Nat) (Q : X → S → Prop) : Option Prop := (bif decide (i < (↑n : Int)) then ( some ((All [] ∧ Q (X.normal) (sB30 a b c n sc L l W out i C wl k))) ) else ( some ((All [] ∧ Q (X.exit 0) (sB30 a b c n sc L l W out i C wl k))) ))
theorem tB1_tree (a b c : Int) (n : Nat) (sc : Int) (L : List Int) (l : List (Int × Int)) (W : List Bool) (out i : Int) (C wl : List Int) (k : Nat) (Q : X → S → Prop) : tB1 a b c n sc L l W out i C wl k Q = tB1_t a b c n sc L l W out i C wl k Q := by kernel_rfl
noncomputable abbrev tB2_x0 (n : Nat) : Bool := decide (n ≠ 0)
noncomputable abbrev tB2_x1 (n : Nat) (i : Int) : Bool := decide ((0 : Int) ≤ i ∧ i < (↑n : Int))
noncomputable abbrev tB2_x2 (i : Int) : Nat := 0 + i.toNat * 64
noncomputable abbrev tB2_x3 (i : Int) : Nat := (tB2_x2 i) + 64
noncomputable abbrev tB2_x4 (n : Nat) : Nat := 64 * n
noncomputable abbrev tB2_x5 (n : Nat) (i : Int) : Bool := decide ((tB2_x3 i) ≤ (tB2_x4 n))
noncomputable abbrev tB2_x6 (i : Int) (C : List Int) : List Int := List.take 64 (List.drop (tB2_x2 i) C)
noncomputable def tB2_t (a b c : Int) (n : Nat) (sc : Int) (L : List Int) (l : List (Int × Int)) (W : List Bool) (out i : Int) (C wl : List Int) (k : Nat) (Q : X → S → Prop) : Option Prop := (bif (tB2_x0 n) then ( (bif (tB2_x1 n i) then ( (bif (tB2_x5 n i) then ( (bif (tB2_x0 n) then ( (bif (tB2_x1 n i) then ( (bif (tB2_x5 n i) then ( (bif !(tB2_x6 i C) == List.take 64 (List.drop (tB2_x2 i) L) then ( some ((All [] ∧ False )) ) else ( (bif (tB2_x0 n) then ( (bif (tB2_x1 n i) then ( (bif (tB2_x5 n i) then ( (bif !blkS L n i == (tB2_x6 i C) then ( some ((All [L.length = (tB2_x4 n), (tB2_x4 n) = (tB2_x4 n)] ∧ False )) ) else ( some ((All [L.length = (tB2_x4 n), (tB2_x4 n) = (tB2_x4 n)] ∧ Q (X.normal) (sB30 a b c n sc L l W out i C wl k))) )) ) else none) ) else none) ) else none) )) ) else none) ) else none) ) else none) ) else none) ) else none) ) else none)
theorem tB2_tree (a b c : Int) (n : Nat) (sc : Int) (L : List Int) (l : List (Int × Int)) (W : List Bool) (out i : Int) (C wl : List Int) (k : Nat) (Q : X → S → Prop) : tB2 a b c n sc L l W out i C wl k Q = tB2_t a b c n sc L l W out i C wl k Q := by kernel_rfl
noncomputable def tB5_t (a b c : Int) (n : Nat) (sc : Int) (L : List Int) (l : List (Int × Int)) (W : List Bool) (out i : Int) (C wl : List Int) (k : Nat) (Q : X → S → Prop) : Option Prop := some ((All [] ∧ Q (X.normal) (sB30 a b c n sc L l W out (IntKind.i64.wrap (i + 1)) C wl k)))
theorem tB5_tree (a b c : Int) (n : Nat) (sc : Int) (L : List Int) (l : List (Int × Int)) (W : List Bool) (out i : Int) (C wl : List Int) (k : Nat) (Q : X → S → Prop) : tB5 a b c n sc L l W out i C wl k Q = tB5_t a b c n sc L l W out i C wl k Q := by kernel_rfl
/-- which sectors were written, those before the i-th -/
def wrI (W : List Bool) (i : Nat) : List Int := ((List.range i).filter fun j => W.getD j false).map fun (j : Nat) => (j : Int)
theorem wrI_succ (W : List Bool) (i : Nat) : wrI W (i + 1) = if W.getD i false then wrI W i ++ [(i : Int)] else wrI W i := by
  unfold wrI
  rw [List.range_succ, List.filter_append, List.map_append]
  simp only [List.filter_cons, List.filter_nil]
  cases W.getD i false <;> simp
theorem wrI_len (W : List Bool) (i : Nat) : (wrI W i).length ≤ i := by
  unfold wrI
  rw [List.length_map]
  exact Nat.le_trans (List.length_filter_le ..) (by simp)
theorem fits3 {k : Nat} (h : k ≤ 1000000) : fits Tryz.prog.types[3] (k + 1) = true := by
  have e : Tryz.prog.types[3].bytes = 8 := by kernel_rfl
  unfold fits
  rw [e]
  simp [Nat.ble_eq]; omega
section
variable {a b c : Int} {n : Nat} {sc : Int} {L : List Int} {l : List (Int × Int)} {W : List Bool} {out : Int} {s0 : S}
theorem cmpA {i : Nat} {wl : List Int} {k : Nat} (hl : L.length = 64 * n) (hi : i < n) {Q : X → S → Prop} (hq : Q .normal (sB30 a b c n sc L l W out i L wl k)) : Okp (tB2_t a b c n sc L l W out i L wl k Q) := by
  have b1 : decide (n ≠ 0) = true := by simp; omega
  have b2 : decide ((0 : Int) ≤ (i : Int) ∧ (i : Int) < (n : Int)) = true := by simp; omega
  have b3 : decide (0 + (i : Int).toNat * 64 + 64 ≤ 64 * n) = true := by simp; omega
  unfold tB2_t
  refine .chk b1 (.chk b2 (.chk b3 (.chk b1 (.chk b2 (.chk b3 (.no (congrArg not (beq_self_eq_true (tB2_x6 (i : Int) L))) (.chk b1 (.chk b2 (.chk b3 (.no ?_ ⟨⟨hl, rfl, trivial⟩, hq⟩))))))))))
  have : blkS L n i = blkAt L (i * 64) := by unfold blkS; rw [if_pos (hasS_iff.2 ⟨by omega, by omega⟩)]; rfl
  rw [this]
  show (!(blkAt L (i * 64) == List.take 64 (List.drop (0 + (i : Int).toNat * 64) L))) = false
  rw [Int.toNat_natCast, Nat.zero_add]
  simp [blkAt]
theorem cmpA0 {i : Nat} (hl : L.length = 64 * n) (hi : i < n) {Q : X → S → Prop} (hq : Q .normal (sA30 a b c n sc L l W out i L)) : Okp (tA2_t a b c n sc L l W out i L Q) := by
  have b1 : decide (n ≠ 0) = true := by simp; omega
  have b2 : decide ((0 : Int) ≤ (i : Int) ∧ (i : Int) < (n : Int)) = true := by simp; omega
  have b3 : decide (0 + (i : Int).toNat * 64 + 64 ≤ 64 * n) = true := by simp; omega
  unfold tA2_t
  refine .chk b1 (.chk b2 (.chk b3 (.chk b1 (.chk b2 (.chk b3 (.no (congrArg not (beq_self_eq_true (tA2_x6 (i : Int) L))) (.chk b1 (.chk b2 (.chk b3 (.no ?_ ⟨⟨hl, rfl, trivial⟩, hq⟩))))))))))
  have : blkS L n i = blkAt L (i * 64) := by unfold blkS; rw [if_pos (hasS_iff.2 ⟨by omega, by omega⟩)]; rfl
  rw [this]
  show (!(blkAt L (i * 64) == List.take 64 (List.drop (0 + (i : Int).toNat * 64) L))) = false
  rw [Int.toNat_natCast, Nat.zero_add]
  simp [blkAt]
theorem evB {i : Int} {wl : List Int} {k : Nat} {t : Bool} : eval 94 (sB30t a b c n sc L l W out i L wl k t).sl (.tmp 71) = some (.one (.c (.bool t))) := by kernel_rfl
theorem evA {i : Int} {t : Bool} : eval 94 (sA30t a b c n sc L l W out i L t).sl (.tmp 71) = some (.one (.c (.bool t))) := by kernel_rfl
theorem skB {i : Int} {wl : List Int} {k : Nat} {Q : X → S → Prop} : execA Tryz.prog sg30 300 94 .skip (sB30t a b c n sc L l W out i L wl k false) αT (fun x s α => some (All α.ob ∧ match x with | .ret => False | x => Q x (fgt [0, 1, 5, 6, 7] 94 s))) = some (All [] ∧ Q .normal (sB30 a b c n sc L l W out i L wl k)) := by kernel_rfl
theorem skA {i : Int} {Q : X → S → Prop} : execA Tryz.prog sg30 300 94 .skip (sA30t a b c n sc L l W out i L false) αT (fun x s α => some (All α.ob ∧ match x with | .ret => False | x => Q x (fgt [0, 1, 5, 6, 7] 94 s))) = some (All [] ∧ Q .normal (sA30 a b c n sc L l W out i L)) := by kernel_rfl
theorem bdB (h6 : s0.nx = 6) {i : Nat} (hl : L.length = 64 * n) (hi : i < n) (hn : n ≤ 140) {Q : X → S → Prop} (hq : Q .normal (sB30 a b c n sc L l W out i L (wrI W (i + 1)) (wrI W (i + 1)).length)) :
    TO Tryz.prog 94 [] [] s0 b30 (sB30 a b c n sc L l W out i L (wrI W i) (wrI W i).length) Q := by
  have hwl := wrI_len W i
  refine TO.seq (c := gL b30) (d := gR b30) (TO.ofTr (Tr.treeF fit30 (.of_eq (tB2_tree ..) (cmpA hl hi ?_))))
  refine TO.seq (c := gL (gR b30)) (d := .cond (.tmp 71) app30 .skip) (TO.ofTr (Tr.treeF fit30 (.of_eq (tB3_run ..) (.chk (by simp; omega) (.chk (by simp; omega) ⟨trivial, ?_⟩)))))
  rw [show 0 + (i : Int).toNat * 1 = i by simp]
  rw [wrI_succ] at hq
  refine TO.cond evB (fun ht => ?_) (fun ht => ?_)
  · rw [ht] at hq ⊢
    rw [if_pos rfl] at hq
    refine TO.tree fit30 h6 (keep := [0, 1, 5, 6, 7]) (ord := [6, 9]) (.of_eq (tB4_run ..) (.chk (by rw [fits3 (by omega)]; rfl) (.chk (by simp) ⟨trivial, rfl, ?_⟩)))
    have e : List.take ((wrI W i).length * 1) (List.drop 0 (wrI W i)) ++ List.take 1 (List.drop 0 ((repl [(0 : Int)] 1).set 0 i)) = wrI W i ++ [(i : Int)] := by simp [repl]
    rw [e, Nat.mul_one]
    rw [List.length_append] at hq
    exact hq
  · rw [ht] at hq ⊢
    rw [if_neg (by simp)] at hq
    exact TO.ofTr (Tr.treeF fit30 (.of_eq skB (.some' ⟨trivial, hq⟩)))
end
end Go.Sx

namespace Go.Sx
open Go.Proofs Go.RowKit
set_option maxRecDepth 100000
section
variable {a b c : Int} {n : Nat} {sc : Int} {L : List Int} {l : List (Int × Int)} {W : List Bool} {out : Int} {s0 : S}
theorem lpB (h6 : s0.nx = 6) (hl : L.length = 64 * n) (hn : n ≤ 140) {Q : X → S → Prop} (hq : Q (.exit 0) (sB30 a b c n sc L l W out n L (wrI W n) (wrI W n).length)) : ∀ (m i : Nat), i + m = n →
    TO Tryz.prog 94 [] [] s0 (.loop l30) (sB30 a b c n sc L l W out i L (wrI W i) (wrI W i).length) Q
  | 0, i, hi => by
    obtain rfl : i = n := by simpa using hi
    refine TO.loop (TO.seq (c := gL l30) (d := .seq (.block 1 b30) (gR (gR l30))) (TO.ofTr (Tr.treeF fit30 (.of_eq (tB1_tree ..) (.no (by simp) ⟨trivial, ?_⟩)))))
    exact hq
  | m + 1, i, hi => by
    refine TO.loop (TO.seq (c := gL l30) (d := .seq (.block 1 b30) (gR (gR l30))) (TO.ofTr (Tr.treeF fit30 (.of_eq (tB1_tree ..) (.yes (by simp; omega) ⟨trivial, ?_⟩)))))
    refine TO.seq (c := .block 1 b30) (d := gR (gR l30)) (TO.block (bdB h6 hl (by omega) hn ?_))
    refine TO.ofTr (Tr.treeF fit30 (.of_eq (tB5_tree ..) (.some' ⟨trivial, ?_⟩)))
    show TO _ _ _ _ _ _ _ _
    rw [show IntKind.i64.wrap ((i : Int) + 1) = ((i + 1 : Nat) : Int) by rw [IntWalk.i64_in _ (by omega)]; simp]
    exact lpB h6 hl hn hq m (i + 1) (by omega)
theorem skipA {i : Int} {Q : X → S → Prop} (hq : Q .normal (sA30 a b c n sc L l W out i L)) : TO Tryz.prog 94 [] [] s0 .skip (sA30t a b c n sc L l W out i L false) Q :=
  TO.ofTr (Tr.treeF fit30 (Q := Q) (.of_eq (skA (Q := Q)) (.some' ⟨trivial, hq⟩)))
theorem lpA (h6 : s0.nx = 6) (hl : L.length = 64 * n) (hn : n ≤ 140) {Q : X → S → Prop} (hA : wrI W n = [] → Q (.exit 0) (sA30 a b c n sc L l W out n L)) (hB : wrI W n ≠ [] → Q (.exit 0) (sB30 a b c n sc L l W out n L (wrI W n) (wrI W n).length)) : ∀ (m i : Nat), i + m = n → wrI W i = [] →
    TO Tryz.prog 94 [] [] s0 (.loop l30) (sA30 a b c n sc L l W out i L) Q
  | 0, i, hi, h0 => by
    obtain rfl : i = n := by simpa using hi
    refine TO.loop (TO.seq (c := gL l30) (d := .seq (.block 1 b30) (gR (gR l30))) (TO.ofTr (Tr.treeF fit30 (.of_eq (tA1_tree ..) (.no (by simp) ⟨trivial, ?_⟩)))))
    exact hA h0
  | m + 1, i, hi, h0 => by
    have hw : IntKind.i64.wrap ((i : Int) + 1) = ((i + 1 : Nat) : Int) := by rw [IntWalk.i64_in _ (by omega)]; simp
    refine TO.loop (TO.seq (c := gL l30) (d := .seq (.block 1 b30) (gR (gR l30))) (TO.ofTr (Tr.treeF fit30 (.of_eq (tA1_tree ..) (.yes (by simp; omega) ⟨trivial, ?_⟩)))))
    refine TO.seq (c := .block 1 b30) (d := gR (gR l30)) (TO.block ?_)
    refine TO.seq (c := gL b30) (d := gR b30) (TO.ofTr (Tr.treeF fit30 (.of_eq (tA2_tree ..) (cmpA0 hl (by omega) ?_))))
    refine TO.seq (c := gL (gR b30)) (d := .cond (.tmp 71) app30 .skip) (TO.ofTr (Tr.treeF fit30 (.of_eq (tA3_run ..) (.chk (by simp; omega) (.chk (by simp; omega) ⟨trivial, ?_⟩)))))
    rw [show 0 + (i : Int).toNat * 1 = i by simp]
    have hs := wrI_succ W i
    rw [h0] at hs
    refine TO.cond evA (fun ht => ?_) (fun ht => ?_)
    · rw [ht] at hs ⊢
      rw [if_pos rfl, List.nil_append] at hs
      refine TO.tree fit30 h6 (keep := [0, 1, 5, 6, 7]) (ord := [6, 9]) (.of_eq (tA4_run ..) (.some' ⟨trivial, rfl, ?_⟩))
      refine TO.ofTr (Tr.treeF fit30 (.of_eq (tB5_tree ..) (.some' ⟨trivial, ?_⟩)))
      show TO _ _ _ _ _ _ _ _
      rw [hw]
      have hne : wrI W n ≠ [] := fun e => by
        have hi1 : (i : Int) ∈ wrI W n := by
          unfold wrI
          rw [List.mem_map]
          exact ⟨i, List.mem_filter.2 ⟨List.mem_range.2 (by omega), ht⟩, rfl⟩
        rw [e] at hi1; cases hi1
      have := lpB (a := a) (b := b) (c := c) (sc := sc) (L := L) (l := l) (out := out) (W := W) h6 hl hn (hB hne) m (i + 1) (by omega)
      rw [hs] at this
      exact this
    · rw [ht] at hs ⊢
      rw [if_neg (by simp)] at hs
      refine skipA ?_
      refine TO.ofTr (Tr.treeF fit30 (.of_eq (tA5_tree ..) (.some' ⟨trivial, ?_⟩)))
      show TO _ _ _ _ _ _ _ _
      rw [hw]
      exact lpA h6 hl hn hA hB m (i + 1) (by omega) hs
end
/-! ### its end -/
section
variable (a b c : Int) (n : Nat) (sc : Int) (L : List Int) (l : List (Int × Int)) (W : List Bool) (out : Int) (C wl : List Int) (k : Nat)
noncomputable def eA30 (R : X → Option (List AV) → T Blk → Nat → Prop) : Option Prop := execA Tryz.prog sg30e 300 94 (gR (tailN 4 c30)) (sA30 a b c n sc L l W out n C) αT (gcQ 6 [] [] [4] 94 [] (fun x g => R x (resOf Tryz.prog 94 g Tryz.f91.results.toList) g.hp g.nx))
noncomputable def eB30 (R : X → Option (List AV) → T Blk → Nat → Prop) : Option Prop := execA Tryz.prog sg30 300 94 (gR (tailN 4 c30)) (sB30 a b c n sc L l W out n C wl k) αT (gcQ 6 [] [] [4] 94 [] (fun x g => R x (resOf Tryz.prog 94 g Tryz.f91.results.toList) g.hp g.nx))
end
end Go.Sx
