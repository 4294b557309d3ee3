/-
  Parts of the executor Sx over the model's code (any program), or of this seat's walks: words and proofs that the row's text uses.
-/
import Derived.Test.YtfceckiklfkjkaaGreatJ1
import Derived.Test.YtfceckiklfkjkaaGreatR21
namespace Go.Sx
open Go.Proofs Go.RowKit
set_option maxRecDepth 100000
/-! ### the reference's At f88, With f90 -/
/-- a closed run over symbols: a contract at every world -/
theorem pure_run {P : Program} {Sg : FuncId → Option Sum} (F : Fit P Sg) {fuel : Nat} {g : FuncId} {args : List RV} {v : RV} (hfa : args.all flatR = true) (hfv : flatR v = true)
    (h : runB P Sg false fuel g args s0 (fun v _ => some v) = some v) (ρ : Rho) (w : World) (vs : List Value) (ha : ArgsR ρ args vs) :
    Calls P g vs.toArray w fun e w' => ∃ V, e = .returned V ∧ RVR ρ v V ∧ Below w.heap.size w w' := by
  obtain ⟨v2, s2, L, h4, ci⟩ := runB_info F (fun nm _ => T.get_nil nm) h
  simp only [Option.some.injEq] at h4
  subst h4
  refine (ci.run rhoN w vs (HRel.nil _) (fun _ _ => rfl) (ha.indep hfa)).mono fun e w' ⟨V, ρ', e1, e2, e3, e4, st⟩ => ⟨V, e1, e2.indep hfv, ?_⟩
  exact ⟨st.os, st.tape, st.out, st.size, fun k hk => st.frame k hk (fun nm c _ hlt => absurd hlt (Nat.not_lt_zero _))⟩
def n16R (x y : Int) : Int := IntKind.u16.wrap (IntKind.u64.wrap (IntKind.u64.wrap (256 * IntKind.u64.wrap (0 + IntKind.u64.wrap y)) + IntKind.u64.wrap x))
def n32R (x y z t : Int) : Int := IntKind.u32.wrap (IntKind.u64.wrap (IntKind.u64.wrap (256 * IntKind.u64.wrap (IntKind.u64.wrap (256 * IntKind.u64.wrap (IntKind.u64.wrap (256 * IntKind.u64.wrap (0 + IntKind.u64.wrap t)) + IntKind.u64.wrap z)) + IntKind.u64.wrap y)) + IntKind.u64.wrap x))
def decR (p : List Int) (o : Nat) : Fi.Ino9 := ⟨p.getD o 0, p.getD (o + 1) 0, n32R (p.getD (o + 2) 0) (p.getD (o + 3) 0) (p.getD (o + 4) 0) (p.getD (o + 5) 0), n16R (p.getD (o + 6) 0) (p.getD (o + 7) 0), n16R (p.getD (o + 8) 0) (p.getD (o + 9) 0), n16R (p.getD (o + 10) 0) (p.getD (o + 11) 0), n16R (p.getD (o + 12) 0) (p.getD (o + 13) 0), n16R (p.getD (o + 14) 0) (p.getD (o + 15) 0), n16R (p.getD (o + 16) 0) (p.getD (o + 17) 0)⟩
noncomputable abbrev rA8 (p : List Int) (n : Int) (Q : RV → Prop) : Option Prop := runA Tryz.prog sg00 300 88 [.one (.ints .u8 p 54), .one (.c (.int .i64 n))] s0 αT fun v _ α => some (All α.ob ∧ Q v)
theorem rA8a (p : List Int) (Q : RV → Prop) : rA8 p 0 Q = some (All [] ∧ Q (.tup [.agg (decR p 0).L, .c (.int .i64 0)])) := by kernel_rfl
theorem rA8b (p : List Int) (Q : RV → Prop) : rA8 p 1 Q = some (All [] ∧ Q (.tup [.agg (decR p 18).L, .c (.int .i64 0)])) := by kernel_rfl
theorem rA8c (p : List Int) (Q : RV → Prop) : rA8 p 2 Q = some (All [] ∧ Q (.tup [.agg (decR p 36).L, .c (.int .i64 0)])) := by kernel_rfl
theorem n16_eq {x y : Int} (hx : U8 x) (hy : U8 y) : n16R x y = le16u x y := by
  rw [le16u_eq hx hy]
  unfold n16R
  simp only [wrap_u64, wrap_u16]; omega
theorem n32_eq {x y z t : Int} (hx : U8 x) (hy : U8 y) (hz : U8 z) (ht : U8 t) : n32R x y z t = le32 x y z t := by
  rw [le32_num hx hy hz ht]
  exact ref32 hx hy hz ht
theorem slot_getD (p : List Int) (o i : Nat) (h : i < 18) : (slot18 p o).getD i 0 = p.getD (o + i) 0 := by
  show ((p.drop o).take 18).getD i 0 = _
  rw [List.getD_eq_getElem?_getD, List.getElem?_take_of_lt h, List.getElem?_drop, ← List.getD_eq_getElem?_getD]
theorem decR_eq {p : List Int} (hy : Bytes p) (o : Nat) : decR p o = dec18 (slot18 p o) := by
  unfold decR dec18
  rw [slot_getD p o 0 (by decide), slot_getD p o 1 (by decide), slot_getD p o 2 (by decide), slot_getD p o 3 (by decide), slot_getD p o 4 (by decide), slot_getD p o 5 (by decide), slot_getD p o 6 (by decide), slot_getD p o 7 (by decide), slot_getD p o 8 (by decide), slot_getD p o 9 (by decide), slot_getD p o 10 (by decide), slot_getD p o 11 (by decide), slot_getD p o 12 (by decide), slot_getD p o 13 (by decide), slot_getD p o 14 (by decide), slot_getD p o 15 (by decide), slot_getD p o 16 (by decide), slot_getD p o 17 (by decide)]
  rw [n32_eq (hy.getD _) (hy.getD _) (hy.getD _) (hy.getD _), n16_eq (hy.getD _) (hy.getD _), n16_eq (hy.getD _) (hy.getD _), n16_eq (hy.getD _) (hy.getD _), n16_eq (hy.getD _) (hy.getD _), n16_eq (hy.getD _) (hy.getD _), n16_eq (hy.getD _) (hy.getD _)]
  rfl
def fAtR (args : List RV) : Option (RV × List Prop) := match args with
  | [.one (.ints .u8 p 54), .one (.c (.int .i64 n))] => some (.tup [.agg (dec18 (slot18 p (18 * n.toNat))).L, .c (.int .i64 0)], [0 ≤ n ∧ n ≤ 2, Bytes p])
  | _ => none
theorem fAtR_ok : PureOK Tryz.prog 88 fAtR := by
  intro args v ps h hp ρ w vs ha
  unfold fAtR at h
  split at h <;> try (cases h; done)
  rename_i p n
  simp only [Option.some.injEq, Prod.mk.injEq] at h
  obtain ⟨rfl, rfl⟩ := h
  obtain ⟨⟨h0, h1⟩, hy, _⟩ := hp
  rw [← decR_eq hy]
  rcases (show n = 0 ∨ n = 1 ∨ n = 2 by omega) with rfl | rfl | rfl
  · exact pure_tree fit00 (by rfl) (by rfl) (.of_eq (rA8a p _) ⟨trivial, rfl⟩) ρ w vs ha
  · exact pure_tree fit00 (by rfl) (by rfl) (.of_eq (rA8b p _) ⟨trivial, rfl⟩) ρ w vs ha
  · exact pure_tree fit00 (by rfl) (by rfl) (.of_eq (rA8c p _) ⟨trivial, rfl⟩) ρ w vs ha
/-! With -/
def encR (y : Fi.Ino9) : List Int := [y.k, y.l, IntKind.u8.wrap (y.s.tmod 256), IntKind.u8.wrap ((IntKind.u32.wrap (y.s.tdiv 256)).tmod 256), IntKind.u8.wrap ((IntKind.u32.wrap (y.s.tdiv 65536)).tmod 256), IntKind.u8.wrap (IntKind.u32.wrap (y.s.tdiv 16777216)), IntKind.u8.wrap (y.d0.tmod 256), IntKind.u8.wrap (IntKind.u16.wrap (y.d0.tdiv 256)), IntKind.u8.wrap (y.d1.tmod 256), IntKind.u8.wrap (IntKind.u16.wrap (y.d1.tdiv 256)), IntKind.u8.wrap (y.d2.tmod 256), IntKind.u8.wrap (IntKind.u16.wrap (y.d2.tdiv 256)), IntKind.u8.wrap (y.d3.tmod 256), IntKind.u8.wrap (IntKind.u16.wrap (y.d3.tdiv 256)), IntKind.u8.wrap (y.sg.tmod 256), IntKind.u8.wrap (IntKind.u16.wrap (y.sg.tdiv 256)), IntKind.u8.wrap (y.db.tmod 256), IntKind.u8.wrap (IntKind.u16.wrap (y.db.tdiv 256))]
def sets : List Int → Nat → List Int → List Int
  | p, _, [] => p
  | p, o, x :: r => sets (p.set o x) (o + 1) r
noncomputable abbrev rA9 (p : List Int) (n k l s d0 d1 d2 d3 sg db : Int) : Option RV := runB Tryz.prog (fun f => (sg00 f).map toSum) false 300 90 [.one (.ints .u8 p 54), .one (.c (.int .i64 n)), .one (.agg [.int .u8 k, .int .u8 l, .int .u32 s, .int .u16 d0, .int .u16 d1, .int .u16 d2, .int .u16 d3, .int .u16 sg, .int .u16 db])] s0 fun v _ => some v
theorem rA9a (p : List Int) (k l s d0 d1 d2 d3 sg db : Int) : rA9 p 0 k l s d0 d1 d2 d3 sg db = some (.tup [.ints .u8 (t54 (over z54 0 (t54 (sets (over z54 0 (t54 p)) 0 (encR ⟨k, l, s, d0, d1, d2, d3, sg, db⟩))))) 54, .c (.int .i64 0)]) := by kernel_rfl
theorem rA9b (p : List Int) (k l s d0 d1 d2 d3 sg db : Int) : rA9 p 1 k l s d0 d1 d2 d3 sg db = some (.tup [.ints .u8 (t54 (over z54 0 (t54 (sets (over z54 0 (t54 p)) 18 (encR ⟨k, l, s, d0, d1, d2, d3, sg, db⟩))))) 54, .c (.int .i64 0)]) := by kernel_rfl
theorem rA9c (p : List Int) (k l s d0 d1 d2 d3 sg db : Int) : rA9 p 2 k l s d0 d1 d2 d3 sg db = some (.tup [.ints .u8 (t54 (over z54 0 (t54 (sets (over z54 0 (t54 p)) 36 (encR ⟨k, l, s, d0, d1, d2, d3, sg, db⟩))))) 54, .c (.int .i64 0)]) := by kernel_rfl
theorem sets_over : ∀ (e p : List Int) (o : Nat), o + e.length ≤ p.length → sets p o e = over p o e
  | [], p, o, h => by unfold sets over; simp
  | x :: e, p, o, h => by
    simp only [List.length_cons] at h
    unfold sets
    rw [sets_over e (p.set o x) (o + 1) (by simp; omega)]
    unfold over
    apply List.ext_getElem?
    intro i
    have hL : o < p.length := by omega
    simp only [List.length_cons]
    rcases Nat.lt_trichotomy i o with hi | rfl | hi
    · rw [List.append_assoc, List.append_assoc, List.getElem?_append_left (by simp; omega), List.getElem?_append_left (by simp; omega), List.getElem?_take_of_lt (by omega), List.getElem?_take_of_lt hi, List.getElem?_set_ne (by omega)]
    · rw [List.append_assoc, List.append_assoc, List.getElem?_append_left (by simp; omega), List.getElem?_append_right (by simp; omega), List.getElem?_take_of_lt (by omega), List.getElem?_set_self (by omega)]
      simp [Nat.min_eq_left (show i ≤ p.length by omega)]
    · obtain ⟨j, rfl⟩ : ∃ j, i = o + 1 + j := ⟨i - (o + 1), by omega⟩
      have A : (List.take (o + 1) (p.set o x) ++ (e ++ List.drop (o + 1 + e.length) (p.set o x)))[o + 1 + j]? = (e ++ List.drop (o + 1 + e.length) (p.set o x))[j]? := by
        have hl : (List.take (o + 1) (p.set o x)).length = o + 1 := by rw [List.length_take, List.length_set]; omega
        rw [List.getElem?_append_right (by rw [hl]; omega), hl]
        congr 1; omega
      have B : (List.take o p ++ (x :: e ++ List.drop (o + (e.length + 1)) p))[o + 1 + j]? = (e ++ List.drop (o + (e.length + 1)) p)[j]? := by
        have hl : (List.take o p).length = o := by rw [List.length_take]; omega
        rw [List.getElem?_append_right (by rw [hl]; omega), hl, show o + 1 + j - o = j + 1 by omega]
        rfl
      rw [List.append_assoc, List.append_assoc, A, B]
      rcases Nat.lt_or_ge j e.length with hj | hj
      · rw [List.getElem?_append_left hj, List.getElem?_append_left hj]
      · rw [List.getElem?_append_right hj, List.getElem?_append_right hj, List.getElem?_drop, List.getElem?_drop, List.getElem?_set_ne (by omega)]
        congr 1; omega
theorem u8m {x : Int} (h : 0 ≤ x) : IntKind.u8.wrap (x.tmod 256) = lo x := by
  show _ = IntKind.u8.wrap x
  rw [tmod_em h, wrap_u8, wrap_u8]; omega
theorem u16d {x : Int} (h : Fi.U16 x) : IntKind.u8.wrap (IntKind.u16.wrap (x.tdiv 256)) = hi x := by
  show _ = IntKind.u8.wrap (x.fdiv 256)
  rw [tdiv_ed h.1, fdiv_e (by decide), wrap_u16, wrap_u8, wrap_u8]; have := h.2; have := h.1; omega
theorem encR_eq {y : Fi.Ino9} (h : In9 y) : encR y = enc18 y := by
  have s0 : IntKind.u8.wrap (y.s.tmod 256) = IntKind.u8.wrap (y.s.fdiv 1) := by
    rw [tmod_em h.s.1, fdiv_e (by decide), wrap_u8, wrap_u8]; omega
  have s1 : IntKind.u8.wrap ((IntKind.u32.wrap (y.s.tdiv 256)).tmod 256) = hi y.s := by
    have h1 := h.s.1
    have h2 := h.s.2
    show _ = IntKind.u8.wrap (y.s.fdiv 256)
    rw [tdiv_ed h1, fdiv_e (by decide), wrap_u32, tmod_em (by omega), wrap_u8, wrap_u8]; omega
  have s2 : IntKind.u8.wrap ((IntKind.u32.wrap (y.s.tdiv 65536)).tmod 256) = IntKind.u8.wrap (y.s.fdiv 65536) := by
    have h1 := h.s.1
    have h2 := h.s.2
    rw [tdiv_ed h1, fdiv_e (by decide), wrap_u32, tmod_em (by omega), wrap_u8, wrap_u8]; omega
  have s3 : IntKind.u8.wrap (IntKind.u32.wrap (y.s.tdiv 16777216)) = IntKind.u8.wrap (y.s.fdiv 16777216) := by
    have h1 := h.s.1
    have h2 := h.s.2
    rw [tdiv_ed h1, fdiv_e (by decide), wrap_u32, wrap_u8, wrap_u8]; omega
  unfold encR enc18
  rw [s0, s1, s2, s3, u8m h.d0.1, u8m h.d1.1, u8m h.d2.1, u8m h.d3.1, u8m h.sg.1, u8m h.db.1, u16d h.d0, u16d h.d1, u16d h.d2, u16d h.d3, u16d h.sg, u16d h.db]
def fWiR (args : List RV) : Option (RV × List Prop) := match args with
  | [.one (.ints .u8 p 54), .one (.c (.int .i64 n)), .one (.agg [.int .u8 k, .int .u8 l, .int .u32 s, .int .u16 d0, .int .u16 d1, .int .u16 d2, .int .u16 d3, .int .u16 sg, .int .u16 db])] => some (.tup [.ints .u8 (over p (18 * n.toNat) (enc18 ⟨k, l, s, d0, d1, d2, d3, sg, db⟩)) 54, .c (.int .i64 0)], [0 ≤ n ∧ n ≤ 2, In9 ⟨k, l, s, d0, d1, d2, d3, sg, db⟩])
  | _ => none
theorem fWiR_ok : PureOK Tryz.prog 90 fWiR := by
  intro args v ps h hp ρ w vs ha
  unfold fWiR at h
  split at h <;> try (cases h; done)
  rename_i p n k l s d0 d1 d2 d3 sg db
  simp only [Option.some.injEq, Prod.mk.injEq] at h
  obtain ⟨rfl, rfl⟩ := h
  obtain ⟨⟨h0, h1⟩, hI, _⟩ := hp
  have hpl : p.length = 54 := by obtain ⟨_, _, h, _⟩ := ha; exact h.1
  have e : ∀ o, o ≤ 36 → t54 (over z54 0 (t54 (sets (over z54 0 (t54 p)) o (encR ⟨k, l, s, d0, d1, d2, d3, sg, db⟩)))) = over p o (enc18 ⟨k, l, s, d0, d1, d2, d3, sg, db⟩) := fun o ho => by
    have hl := over_len18 hpl (enc_len ⟨k, l, s, d0, d1, d2, d3, sg, db⟩) ho
    rw [show t54 p = p from take_all hpl, over_z54 hpl, encR_eq hI, sets_over _ _ _ (by rw [enc_len, hpl]; omega)]
    rw [show t54 (over p o (enc18 ⟨k, l, s, d0, d1, d2, d3, sg, db⟩)) = _ from take_all hl, over_z54 hl, show t54 (over p o (enc18 ⟨k, l, s, d0, d1, d2, d3, sg, db⟩)) = _ from take_all hl]
  rcases (show n = 0 ∨ n = 1 ∨ n = 2 by omega) with rfl | rfl | rfl
  · rw [show 18 * Int.toNat 0 = 0 from rfl]
    have hr := rA9a p k l s d0 d1 d2 d3 sg db
    rw [e 0 (by omega)] at hr
    exact pure_run fit00 (by rfl) (by rfl) hr ρ w vs ha
  · rw [show 18 * Int.toNat 1 = 18 from rfl]
    have hr := rA9b p k l s d0 d1 d2 d3 sg db
    rw [e 18 (by omega)] at hr
    exact pure_run fit00 (by rfl) (by rfl) hr ρ w vs ha
  · rw [show 18 * Int.toNat 2 = 36 from rfl]
    have hr := rA9c p k l s d0 d1 d2 d3 sg db
    rw [e 36 (by omega)] at hr
    exact pure_run fit00 (by rfl) (by rfl) hr ρ w vs ha
/-! ### ref.Inode f22 -/
noncomputable def sgL1 : FuncId → Option SumA := fun f => match f with | 52 => some (pureSum fIno) | 85 => some (sumRdR g28) | 88 => some (pureSum fAtR) | _ => none
theorem fitL1 : Fit Tryz.prog (fun f => (sgL1 f).map toSum) := ⟨fit_ng, fit_mixed, SumAOK.sum fun f sm h => by
  unfold sgL1 at h
  split at h
  · cases h; exact fIno35.sum ⟨_, Tryz.func52, rfl⟩
  · cases h; exact sum28
  · cases h; exact fAtR_ok.sum ⟨_, Tryz.func88, rfl⟩
  · cases h⟩
noncomputable def r22 (t0 : TypeId) (op : Option Nat) (t1 : TypeId) (a b c : Int) (L : List Int) (N n : Nat) (sc out : Int) (m1 m2 : Nat) (i : Int) (Q : RV → Prop) : Option Prop := runA Tryz.prog sgL1 300 22 [.one (.c (.ptr 0 0)), .one (.c (.int .i64 i))] ⟨.nil, refS t0 op t1 a b c L N n sc out m1 m2, 3, []⟩ αT fun v _ α => some (All α.ob ∧ Q v)
noncomputable def sgL2 : FuncId → Option SumA := fun f => match f with | 52 => some (pureSum fIno) | 85 => some (sumRdR g28) | 90 => some (pureSum fWiR) | 81 => some sumWrF | _ => none
theorem fitL2 : Fit Tryz.prog (fun f => (sgL2 f).map toSum) := ⟨fit_ng, fit_mixed, SumAOK.sum fun f sm h => by
  unfold sgL2 at h
  split at h
  · cases h; exact fIno35.sum ⟨_, Tryz.func52, rfl⟩
  · cases h; exact sum28
  · cases h; exact fWiR_ok.sum ⟨_, Tryz.func90, rfl⟩
  · cases h; exact sumWrF_ok
  · cases h⟩
end Go.Sx

namespace Go.Sx
open Go.Proofs Go.RowKit
set_option maxRecDepth 100000
theorem r22_run (t0 : TypeId) (op : Option Nat) (t1 : TypeId) (a b c : Int) (L : List Int) (N n : Nat) (sc out : Int) (m1 m2 : Nat) (i : Int) (Q : RV → Prop) : r22 t0 op t1 a b c L N n sc out m1 m2 i Q =
 (bif (if inoB a b c i = true then (0 : Int) else 2) != 0 then some (All [] ∧ Q (.tup [.agg Fi.Ino9.zero.L, .c (.bool false)]))
  else bif !ldOk L n (sel (inoB a b c i) (inoP b c i).1) 4 then some (All [L.length = N, N = 64 * n, Bytes L] ∧ Q (.tup [.agg Fi.Ino9.zero.L, .c (.bool false)]))
  else some (All [0 ≤ sel (inoB a b c i) (inoP b c i).2.1 ∧ sel (inoB a b c i) (inoP b c i).2.1 ≤ 2, Bytes (t54 (over z54 0 (ldP L n (sel (inoB a b c i) (inoP b c i).1) 4))), L.length = N, N = 64 * n, Bytes L] ∧ Q (.tup [.agg (dec18 (slot18 (t54 (over z54 0 (ldP L n (sel (inoB a b c i) (inoP b c i).1) 4))) (18 * (sel (inoB a b c i) (inoP b c i).2.1).toNat))).L, .c (.bool true)]))) := by kernel_rfl
noncomputable def g22 : List RV → Int → Int → Int → List Int → Nat → Int → Option (RV × List Prop) := fun xs a b c L n _ => match xs with
  | [.one (.c (.int .i64 i))] => some (.tup [.agg (inoG a b c L n i).L, .c (.bool (inoOk a b c L n i))], [Bytes L])
  | _ => none
theorem ldP_bytes {L : List Int} {n : Nat} {s k : Int} (hy : Bytes L) : Bytes (ldP L n s k) := by
  unfold ldP
  have z : Bytes z54 := by unfold Bytes; decide
  split
  · unfold getP
    split
    · exact fun x hx => hy x (List.mem_of_mem_drop (List.mem_of_mem_take (List.mem_of_mem_drop (List.mem_of_mem_take hx))))
    · exact z
  · exact z
theorem sum22 : SumAOK Tryz.prog 22 (sumRdR g22) := by
  refine sumRdR_ok ⟨_, Tryz.func22, rfl⟩ (fun xs a b c L n sc v ps h => ?_) fun xs a b c L n sc v ps h hps hl t0 op t1 out m1 m2 => ?_
  · unfold g22 at h
    split at h <;> try (cases h; done)
    simp only [Option.some.injEq, Prod.mk.injEq] at h
    obtain ⟨rfl, rfl⟩ := h
    exact ⟨rfl, rfl⟩
  · unfold g22 at h
    split at h <;> try (cases h; done)
    rename_i i
    simp only [Option.some.injEq, Prod.mk.injEq] at h
    obtain ⟨rfl, rfl⟩ := h
    obtain ⟨hy, _⟩ := hps
    refine small_tree fitL1 top_two (.of_eq (r22_run t0 op t1 a b c L (64 * n) n sc out m1 m2 i _) ?_)
    unfold inoG inoOk
    cases hB : inoB a b c i with
    | false => exact .yes (by simp) ⟨trivial, rfl⟩
    | true =>
      refine .no (by simp) ?_
      show Okp (bif !ldOk L n (inoP b c i).1 4 then _ else _)
      have hp : (ldP L n (inoP b c i).1 4).length = 54 := ldP_len hl
      have e : t54 (over z54 0 (ldP L n (inoP b c i).1 4)) = ldP L n (inoP b c i).1 4 := by rw [over_z54 hp]; exact take_all hp
      have hb : Bytes (t54 (over z54 0 (ldP L n (inoP b c i).1 4))) := by rw [e]; exact ldP_bytes hy
      cases hL : ldOk L n (inoP b c i).1 4 with
      | false => exact .yes rfl ⟨⟨hl, rfl, hy, trivial⟩, rfl⟩
      | true =>
        refine .no rfl ⟨⟨inoSlot b c i, hb, hl, rfl, hy, trivial⟩, ?_⟩
        show RV.tup [.agg (dec18 (slot18 (t54 (over z54 0 (ldP L n (inoP b c i).1 4))) (18 * (inoP b c i).2.1.toNat))).L, .c (.bool true)] = _
        rw [e]
        rfl
/-! ### ref.Write f24 -/
noncomputable def c24 : Code := gB 24
noncomputable def sl24 (i k l s d0 d1 d2 d3 sg db : Int) : T RV := match setArgs 46 (args63 i k l s d0 d1 d2 d3 sg db) 0 .nil some with | some t => t | none => .nil
theorem sl24_ok (i k l s d0 d1 d2 d3 sg db : Int) : setArgs 46 (args63 i k l s d0 d1 d2 d3 sg db) 0 .nil some = some (sl24 i k l s d0 d1 d2 d3 sg db) := by kernel_rfl
noncomputable def r24 (a b c : Int) (n : Nat) (sc : Int) (L : List Int) (W : List Bool) (out i k l s d0 d1 d2 d3 sg db : Int) (Q : X → Option (List AV) → T Blk → Nat → Prop) : Option Prop :=
  execA Tryz.prog sgL2 300 46 c24 ⟨sl24 i k l s d0 d1 d2 d3 sg db, rImg a b c n sc (L, W, out), 3, []⟩ αT (fun x s α => some (All α.ob ∧ (Nat.ble 3 s.nx = true ∧ Q x (resOf Tryz.prog 46 (low 46 3 (fgt [6] 46 s)) Tryz.f24.results.toList) (low 46 3 (fgt [6] 46 s)).hp (low 46 3 (fgt [6] 46 s)).nx)))
end Go.Sx

namespace Go.Sx
open Go.Proofs Go.RowKit
set_option maxRecDepth 100000
noncomputable abbrev r24_x0 (n : Nat) : Nat := 64 * n
noncomputable abbrev r24_x1 (a b : Int) (c i : Int) : Int := sel (inoB a b c i) (inoP b c i).fst
noncomputable abbrev r24_x2 (a b : Int) (c i : Int) : Int := sel (inoB a b c i) (inoP b c i).snd.fst
noncomputable abbrev r24_x3 (a b c : Int) (n : Nat) (L : List Int) (i k : Int) (l s : Int) (d0 d1 : Int) (d2 d3 : Int) (sg db : Int) : List Int := List.take 54 (List.drop 0 (over z54 0 (over (List.take 54 (List.drop 0 (over z54 0 (ldP L n (r24_x1 a b c i) 4)))) (18 * (r24_x2 a b c i).toNat) (enc18 { k := k, l := l, s := s, d0 := d0, d1 := d1, d2 := d2, d3 := d3, sg := sg, db := db }))))
noncomputable def r24_t (a b c : Int) (n : Nat) (sc : Int) (L : List Int) (W : List Bool) (out i : Int) (k l : Int) (s d0 : Int) (d1 d2 : Int) (d3 sg db : Int) (Q : X → Option (List AV) → T Blk → Nat → Prop) : Option Prop := (bif (if inoB a b c i = true then (0 : Int) else 2) != 0 then ( some ((All [] ∧ ((true = true) ∧ Q (X.ret) (some [AV.c (Cell.bool false)]) (ofL [(0, Blk.row 65 false none (Body.cells [Cell.int IntKind.i64 a, Cell.int IntKind.i64 b, Cell.int IntKind.i64 c, Cell.slu 1 64 0 n, Cell.int IntKind.u32 sc, Cell.sl 2 0 n n, Cell.int IntKind.i64 out])), (1, Blk.row 95 false (some 64) (Body.ints IntKind.u8 L (r24_x0 n))), (2, Blk.row 4 false none (Body.bools W n))]) (3)))) ) else ( (bif !ldOk L n (r24_x1 a b c i) 4 then ( some ((All [L.length = (r24_x0 n), (r24_x0 n) = (r24_x0 n), Bytes L] ∧ ((true = true) ∧ Q (X.ret) (some [AV.c (Cell.bool false)]) (ofL [(0, Blk.row 65 false none (Body.cells [Cell.int IntKind.i64 a, Cell.int IntKind.i64 b, Cell.int IntKind.i64 c, Cell.slu 1 64 0 n, Cell.int IntKind.u32 sc, Cell.sl 2 0 n n, Cell.int IntKind.i64 out])), (1, Blk.row 95 false (some 64) (Body.ints IntKind.u8 L (r24_x0 n))), (2, Blk.row 4 false none (Body.bools W n))]) (3)))) ) else ( some ((All [L.length = (r24_x0 n), (r24_x0 n) = (r24_x0 n), n = n, n = n, n = n, W.length = n, Bytes L, a < 9223372036854775808, U32 sc, (r24_x3 a b c n L i k l s d0 d1 d2 d3 sg db).length = 54, 0 ≤ (r24_x2 a b c i) ∧ (r24_x2 a b c i) ≤ 2, In9 { k := k, l := l, s := s, d0 := d0, d1 := d1, d2 := d2, d3 := d3, sg := sg, db := db }, L.length = (r24_x0 n), (r24_x0 n) = (r24_x0 n), Bytes L] ∧ ((true = true) ∧ Q (X.ret) (some [AV.c (Cell.bool (wrF a b c n sc (L, W, out) (r24_x1 a b c i) 4 (r24_x3 a b c n L i k l s d0 d1 d2 d3 sg db)).fst)]) (ofL [(0, Blk.row 65 false none (Body.cells [Cell.int IntKind.i64 a, Cell.int IntKind.i64 b, Cell.int IntKind.i64 c, Cell.slu 1 64 0 n, Cell.int IntKind.u32 sc, Cell.sl 2 0 n n, Cell.int IntKind.i64 (wrF a b c n sc (L, W, out) (r24_x1 a b c i) 4 (r24_x3 a b c n L i k l s d0 d1 d2 d3 sg db)).snd.snd.snd])), (1, Blk.row 95 false (some 64) (Body.ints IntKind.u8 (wrF a b c n sc (L, W, out) (r24_x1 a b c i) 4 (r24_x3 a b c n L i k l s d0 d1 d2 d3 sg db)).snd.fst (r24_x0 n))), (2, Blk.row 4 false none (Body.bools (wrF a b c n sc (L, W, out) (r24_x1 a b c i) 4 (r24_x3 a b c n L i k l s d0 d1 d2 d3 sg db)).snd.snd.fst n))]) (3)))) )) ))
theorem r24_tree (a b c : Int) (n : Nat) (sc : Int) (L : List Int) (W : List Bool) (out i : Int) (k l : Int) (s d0 : Int) (d1 d2 : Int) (d3 sg db : Int) (Q : X → Option (List AV) → T Blk → Nat → Prop) : r24 a b c n sc L W out i k l s d0 d1 d2 d3 sg db Q = r24_t a b c n sc L W out i k l s d0 d1 d2 d3 sg db Q := by kernel_rfl

noncomputable def wr24 (a b c : Int) (n : Nat) (sc : Int) (st : StR) (i : Int) (y : Fi.Ino9) : Bool × StR :=
  if inoOk a b c st.1 n i then wrF a b c n sc st (inoP b c i).1 4 (ldW a b c st.1 n i y) else (false, st)
theorem body24_eq : Tryz.f24.body = some c24 := by kernel_rfl
theorem small24 {a b c : Int} {n : Nat} {sc : Int} {L : List Int} {W : List Bool} {out i : Int} {y : Fi.Ino9} (hl : L.length = 64 * n) (hW : W.length = n) (hy : Bytes L) (ha : a < 9223372036854775808) (hsc : U32 sc) (hI : In9 y) :
    SmallC Tryz.prog 24 (args63 i y.k y.l y.s y.d0 y.d1 y.d2 y.d3 y.sg y.db) 3 (rImg a b c n sc (L, W, out)) (rImg a b c n sc (wr24 a b c n sc (L, W, out) i y).2) (.one (.c (.bool (wr24 a b c n sc (L, W, out) i y).1))) := by
  refine smallC_tree (fn := Tryz.f24) (keep := [6]) fitL2 Tryz.func24 body24_eq rfl (by rw [rImg_eq]; exact top_three) (sl24_ok ..) (.of_eq (r24_tree a b c n sc L W out i y.k y.l y.s y.d0 y.d1 y.d2 y.d3 y.sg y.db _) ?_)
  unfold r24_t
  have same : EndS (.one (.c (.bool false))) (rImg a b c n sc (L, W, out)) 3 .ret (some [AV.c (Cell.bool false)]) (rImg a b c n sc (L, W, out)) 3 := ⟨.inr rfl, ⟨_, rfl, rfl⟩, rfl, rfl⟩
  unfold wr24 inoOk
  cases hB : inoB a b c i with
  | false => exact .yes (by simp) ⟨trivial, rfl, same⟩
  | true =>
    refine .no (by simp) ?_
    have x1 : r24_x1 a b c i = (inoP b c i).1 := by show sel (inoB a b c i) _ = _; rw [hB]; rfl
    rw [x1]
    show Okp (bif !ldOk L n (inoP b c i).1 4 then _ else _)
    cases hL : ldOk L n (inoP b c i).1 4 with
    | false => exact .yes rfl ⟨⟨hl, rfl, hy, trivial⟩, rfl, same⟩
    | true =>
      have hp : (ldP L n (inoP b c i).1 4).length = 54 := ldP_len hl
      have e : t54 (over z54 0 (ldP L n (inoP b c i).1 4)) = ldP L n (inoP b c i).1 4 := by rw [over_z54 hp]; exact take_all hp
      have x2 : r24_x2 a b c i = (inoP b c i).2.1 := by show sel (inoB a b c i) _ = _; rw [hB]; rfl
      have hw : (ldW a b c L n i y).length = 54 := ldW_len hl
      have x3 : r24_x3 a b c n L i y.k y.l y.s y.d0 y.d1 y.d2 y.d3 y.sg y.db = ldW a b c L n i y := by
        show t54 (over z54 0 (over (t54 (over z54 0 (ldP L n (r24_x1 a b c i) 4))) (18 * (r24_x2 a b c i).toNat) (enc18 y))) = _
        rw [x1, x2, e]
        show t54 (over z54 0 (ldW a b c L n i y)) = _
        rw [over_z54 hw]; exact take_all hw
      refine .no rfl ?_
      rw [x2, x3]
      exact ⟨⟨hl, rfl, rfl, rfl, rfl, hW, hy, ha, hsc, hw, inoSlot b c i, hI, hl, rfl, hy, trivial⟩, rfl, .inr rfl, ⟨_, rfl, rfl⟩, rfl, rfl⟩
noncomputable def g24 : List RV → Int → Int → Int → Nat → Int → StR → Option (RV × StR × List Prop) := fun xs a b c n sc st => match xs with
  | [.one (.c (.int .i64 i)), .one (.agg [.int .u8 k, .int .u8 l, .int .u32 s, .int .u16 d0, .int .u16 d1, .int .u16 d2, .int .u16 d3, .int .u16 sg, .int .u16 db])] =>
    some (.one (.c (.bool (wr24 a b c n sc st i ⟨k, l, s, d0, d1, d2, d3, sg, db⟩).1)), (wr24 a b c n sc st i ⟨k, l, s, d0, d1, d2, d3, sg, db⟩).2, [Bytes st.1, a < 9223372036854775808, U32 sc, In9 ⟨k, l, s, d0, d1, d2, d3, sg, db⟩])
  | _ => none
theorem sum24 : SumAOK Tryz.prog 24 (sumRef g24) := by
  refine sumRef_ok ⟨_, Tryz.func24, rfl⟩ (fun xs a b c n sc st v st' ps h hps hl hW => ?_) fun xs a b c n sc st v st' ps h => ?_
  · unfold g24 at h
    split at h <;> try (cases h; done)
    rename_i i k l s d0 d1 d2 d3 sg db
    simp only [Option.some.injEq, Prod.mk.injEq] at h
    obtain ⟨rfl, rfl, rfl⟩ := h
    obtain ⟨h1, h2, h3, h4, _⟩ := hps
    exact small24 (y := ⟨k, l, s, d0, d1, d2, d3, sg, db⟩) hl hW h1 h2 h3 h4
  · unfold g24 at h
    split at h <;> try (cases h; done)
    simp only [Option.some.injEq, Prod.mk.injEq] at h
    obtain ⟨rfl, rfl, rfl⟩ := h
    exact ⟨rfl, rfl⟩
/-! ### the reference's second phase: f27 -/
noncomputable def sgL3 : FuncId → Option SumA := fun f => match f with | 52 => some (pureSum fIno) | 51 => some (pureSum fInN) | 22 => some (sumRdR g22) | 83 => some sumInR | 94 => some (pureSum Fi.fSh) | 24 => some (sumRef g24) | _ => none
theorem fitL3 : Fit Tryz.prog (fun f => (sgL3 f).map toSum) := ⟨fit_ng, fit_mixed, SumAOK.sum fun f sm h => by
  unfold sgL3 at h
  split at h
  · cases h; exact fIno35.sum ⟨_, Tryz.func52, rfl⟩
  · cases h; exact fInN34.sum ⟨_, Tryz.func51, rfl⟩
  · cases h; exact sum22
  · cases h; exact sumInR_ok
  · cases h; exact Fi.fSh10_ok.sum ⟨_, Tryz.func94, rfl⟩
  · cases h; exact sum24
  · cases h⟩
noncomputable def c27 : Code := gB 27
noncomputable def sl27 : T RV := match setArgs 48 args33 0 .nil some with | some t => t | none => .nil
theorem sl27_ok : setArgs 48 args33 0 .nil some = some sl27 := by kernel_rfl
noncomputable def lp27 : Code := match gR c27 with | .block _ (.loop c) => c | _ => .skip
section
variable (a b c : Int) (n : Nat) (sc : Int) (L : List Int) (W : List Bool) (out i : Int)
noncomputable def s27 : S := low 48 3 (fgt [0, 2] 48 ⟨ofL [(0, .one (.c (.ptr 0 0))), (2, .one (.c (.int .i64 i)))], rImg a b c n sc (L, W, out), 3, []⟩)
noncomputable def ini27 (M : S → Prop) (R : X → Option (List AV) → Prop) : Option Prop := execN Tryz.prog sgL3 300 48 1 c27 ⟨sl27, rImg a b c n sc (L, W, out), 3, []⟩ αT (fun x s α => some (All α.ob ∧ match x with | .normal => M (fgt [0, 2] 48 s) | x => R x (resOf Tryz.prog 48 s Tryz.f27.results.toList)))
noncomputable def rnd27 (Q : X → S → Prop) : Option Prop := execA Tryz.prog sgL3 300 48 lp27 (s27 a b c n sc L W out i) αT (fun x s α => some (All α.ob ∧ (Nat.ble 3 s.nx = true ∧ Q x (low 48 3 (fgt [0, 2] 48 s)))))
end
end Go.Sx

namespace Go.Sx
open Go.Proofs Go.RowKit
set_option maxRecDepth 100000
noncomputable def rnd27_t (a b c : Int) (n : Nat) (sc : Int) (L : List Int) (W : List Bool) (out i : Int) (Q : X → S → Prop) : Option Prop := bif decide (i ≤ inoN a b c) then bif inoOk a b c L n i then bif inS a sc (sel (inoB a b c i) (inoP b c i).2.2.1) then some (All [L.length = 64 * n, 64 * n = 64 * n, n = n, n = n, n = n, W.length = n, Bytes L, a < 9223372036854775808, U32 sc, In9 (Fi.sh a b c i (inoG a b c L n i)), (inoG a b c L n i).Ok, L.length = 64 * n, 64 * n = 64 * n, n = n, n = n, n = n, W.length = n, a < 9223372036854775808, U32 sc, L.length = 64 * n, 64 * n = 64 * n, Bytes L] ∧ (true = true ∧ Q .normal (s27 a b c n sc (wr24 a b c n sc (L, W, out) i (Fi.sh a b c i (inoG a b c L n i))).2.1 (wr24 a b c n sc (L, W, out) i (Fi.sh a b c i (inoG a b c L n i))).2.2.1 (wr24 a b c n sc (L, W, out) i (Fi.sh a b c i (inoG a b c L n i))).2.2.2 (IntKind.i64.wrap (i + 1))))) else some (All [L.length = 64 * n, 64 * n = 64 * n, n = n, n = n, n = n, W.length = n, a < 9223372036854775808, U32 sc, L.length = 64 * n, 64 * n = 64 * n, Bytes L] ∧ (true = true ∧ Q .normal (s27 a b c n sc L W out (IntKind.i64.wrap (i + 1))))) else some (All [L.length = 64 * n, 64 * n = 64 * n, Bytes L] ∧ (true = true ∧ Q .normal (s27 a b c n sc L W out (IntKind.i64.wrap (i + 1))))) else some (All [] ∧ (true = true ∧ Q (.exit 0) (s27 a b c n sc L W out i)))
theorem rnd27_tree (a b c : Int) (n : Nat) (sc : Int) (L : List Int) (W : List Bool) (out i : Int) (Q : X → S → Prop) : rnd27 a b c n sc L W out i Q = rnd27_t a b c n sc L W out i Q := by kernel_rfl
theorem ini27_tree (a b c : Int) (n : Nat) (sc : Int) (L : List Int) (W : List Bool) (out : Int) (M : S → Prop) (R : X → Option (List AV) → Prop) : ini27 a b c n sc L W out M R = some (All [] ∧ M (s27 a b c n sc L W out 1)) := by kernel_rfl
theorem s27_nx (a b c : Int) (n : Nat) (sc : Int) (L : List Int) (W : List Bool) (out i : Int) : (s27 a b c n sc L W out i).nx = 3 := by kernel_rfl
theorem s27_end (a b c : Int) (n : Nat) (sc : Int) (L : List Int) (W : List Bool) (out i : Int) : resOf Tryz.prog 48 (s27 a b c n sc L W out i) Tryz.f27.results.toList = some [] ∧ (s27 a b c n sc L W out i).hp = rImg a b c n sc (L, W, out) ∧ (s27 a b c n sc L W out i).nx = 3 := ⟨by kernel_rfl, by kernel_rfl, by kernel_rfl⟩
section
variable (a b c : Int) (n : Nat) (sc : Int)
/-- one inode of the reference's second phase -/
noncomputable def fldF (st : StR) (i : Int) : StR := if inoOk a b c st.1 n i = true ∧ inS a sc (inoP b c i).2.2.1 = true then (wr24 a b c n sc st i (Fi.sh a b c i (inoV b c st.1 n i))).2 else st
noncomputable def fldsF : Nat → StR → Int → StR
  | 0, st, _ => st
  | m + 1, st, i => fldsF m (fldF a b c n sc st i) (i + 1)
noncomputable def fldRF (st : StR) : StR := fldsF a b c n sc (inoN a b c).toNat st 1
end
section
variable {a b c : Int} {n : Nat} {sc : Int}
theorem ldW_bytes {L : List Int} {i : Int} {y : Fi.Ino9} (hy : Bytes L) (hI : In9 y) : Bytes (ldW a b c L n i y) := bytes_over (ldP_bytes hy) (bytes_enc hI.k hI.l)
theorem RKeep.w24 {st : StR} {i : Int} {y : Fi.Ino9} (h : RKeep n st) (hI : In9 y) : RKeep n (wr24 a b c n sc st i y).2 := by
  unfold wr24
  split
  · exact h.wr (ldW_len h.len) (ldW_bytes h.byt hI)
  · exact h
theorem inoV_inR {L : List Int} {i : Int} (hl : L.length = 64 * n) (hok : inoOk a b c L n i = true) (hy : Bytes L) : In9 (inoV b c L n i) :=
  inoV_in hl hok (fun x hx => hy x (by
    have : bk L (inoP b c i).1 = blkAt L ((inoP b c i).1.toNat * 64) := rfl
    rw [this] at hx
    exact List.mem_of_mem_drop (List.mem_of_mem_take hx)))
theorem RKeep.fld {st : StR} (h : RKeep n st) (i : Int) : RKeep n (fldF a b c n sc st i) := by
  unfold fldF
  split
  · rename_i hc
    exact h.w24 (sh_in (inoV_inR h.len hc.1 h.byt))
  · exact h
theorem inoN_le : inoN a b c ≤ 192 := by
  unfold inoN
  split
  · rename_i hg; have := ab_small hg; omega
  · omega
theorem inoN_ge : 0 ≤ inoN a b c := by
  unfold inoN
  split
  · rename_i hg; have := ab_small hg; omega
  · omega
theorem lp27_ok (ha : a < 9223372036854775808) (hsc : U32 sc) {Q : X → S → Prop} : ∀ (m : Nat) (i : Int) (st : StR), 1 ≤ i → i + m = inoN a b c + 1 → RKeep n st →
    Q (.exit 0) (s27 a b c n sc (fldsF a b c n sc m st i).1 (fldsF a b c n sc m st i).2.1 (fldsF a b c n sc m st i).2.2 (inoN a b c + 1)) → Tr Tryz.prog 48 (.loop lp27) (s27 a b c n sc st.1 st.2.1 st.2.2 i) Q
  | 0, i, (L, W, out), h0, hi, hk, hq => by
    obtain rfl : i = inoN a b c + 1 := by simpa using hi
    exact Tr.loop (Tr.treeL fitL3 (m := 3) (by rw [s27_nx]; exact Nat.le_refl _) (.of_eq (rnd27_tree ..) (.no (by simp; omega) ⟨trivial, rfl, hq⟩)))
  | m + 1, i, (L, W, out), h0, hi, hk, hq => by
    push_cast at hi
    have hN := inoN_le (a := a) (b := b) (c := c)
    have hw : IntKind.i64.wrap (i + 1) = i + 1 := IntWalk.i64_in _ (by omega)
    have hl := hk.len
    have hW := hk.wro
    have hy := hk.byt
    have next : ∀ st' : StR, fldF a b c n sc (L, W, out) i = st' → Tr Tryz.prog 48 (.loop lp27) (s27 a b c n sc st'.1 st'.2.1 st'.2.2 (i + 1)) Q := fun st' e => by
      subst e
      exact lp27_ok ha hsc m (i + 1) _ (by omega) (by omega) (hk.fld i) hq
    refine Tr.loop (Tr.treeL fitL3 (m := 3) (by rw [s27_nx]; exact Nat.le_refl _) (.of_eq (rnd27_tree ..) (.yes (by simp; omega) ?_)))
    rw [hw]
    cases hok : inoOk a b c L n i with
    | false =>
      refine .no rfl ⟨⟨hl, rfl, hy, trivial⟩, rfl, next (L, W, out) ?_⟩
      unfold fldF; rw [if_neg (by simp [hok])]
    | true =>
      have hB := (inoV_bk hok).1
      refine .yes rfl ?_
      rw [hB]
      show Okp (bif inS a sc (inoP b c i).2.2.1 then _ else _)
      cases hin : inS a sc (inoP b c i).2.2.1 with
      | false =>
        refine .no rfl ⟨⟨hl, rfl, rfl, rfl, rfl, hW, ha, hsc, hl, rfl, hy, trivial⟩, rfl, next (L, W, out) ?_⟩
        unfold fldF; rw [if_neg (by simp [hin])]
      | true =>
        have hG : inoG a b c L n i = inoV b c L n i := by unfold inoG; rw [if_pos hok]
        have hV := inoV_inR hl hok hy
        refine .yes rfl ?_
        rw [hG]
        refine ⟨⟨hl, rfl, rfl, rfl, rfl, hW, hy, ha, hsc, sh_in hV, hV.ok, hl, rfl, rfl, rfl, rfl, hW, ha, hsc, hl, rfl, hy, trivial⟩, rfl, next (wr24 a b c n sc (L, W, out) i (Fi.sh a b c i (inoV b c L n i))).2 ?_⟩
        unfold fldF; rw [if_pos ⟨hok, hin⟩]
theorem RKeep.flds : ∀ (m : Nat) (st : StR) (i : Int), RKeep n st → RKeep n (fldsF a b c n sc m st i)
  | 0, _, _, h => h
  | m + 1, _, i, h => RKeep.flds m _ (i + 1) (h.fld i)
theorem body27_eq : Tryz.f27.body = some c27 := by kernel_rfl
theorem small27 {st : StR} (ha : a < 9223372036854775808) (hsc : U32 sc) (hk : RKeep n st) : SmallC Tryz.prog 27 args33 3 (rImg a b c n sc st) (rImg a b c n sc (fldRF a b c n sc st)) (.tup []) := by
  obtain ⟨L, W, out⟩ := st
  refine Tr.smallC (fn := Tryz.f27) (c := c27) Tryz.func27 body27_eq (by rw [rImg_eq]; exact top_three) sl27_ok ?_
  have h1 := ini27_tree a b c n sc L W out (fun s => Tr Tryz.prog 48 (tailN 1 c27) s (fun x s1 => (x = .normal ∨ x = .ret) ∧ ∃ l, resOf Tryz.prog 48 s1 Tryz.f27.results.toList = some l ∧ (resRV l = .tup [] ∧ s1.hp = rImg a b c n sc (fldRF a b c n sc (L, W, out)) ∧ s1.nx = 3))) (fun _ _ => False)
  refine Tr.prefixQ (m := 1) (keep := [0, 2]) (res := Tryz.f27.results.toList) fitL3 (Okp.of_eq h1 ⟨trivial, ?_⟩)
  refine Tr.block (id := 0) (c := .loop lp27) (lp27_ok ha hsc (inoN a b c).toNat 1 (L, W, out) (by omega) (by have := inoN_ge (a := a) (b := b) (c := c); omega) hk ?_)
  obtain ⟨e1, e2, e3⟩ := s27_end a b c n sc (fldRF a b c n sc (L, W, out)).1 (fldRF a b c n sc (L, W, out)).2.1 (fldRF a b c n sc (L, W, out)).2.2 (inoN a b c + 1)
  exact ⟨.inl rfl, _, e1, rfl, e2, e3⟩
end
noncomputable def g27 : List RV → Int → Int → Int → Nat → Int → StR → Option (RV × StR × List Prop) := fun xs a b c n sc st => match xs with
  | [] => some (.tup [], fldRF a b c n sc st, [Bytes st.1, a < 9223372036854775808, U32 sc])
  | _ => none
theorem sum27 : SumAOK Tryz.prog 27 (sumRef g27) := by
  refine sumRef_ok ⟨_, Tryz.func27, rfl⟩ (fun xs a b c n sc st v st' ps h hps hl hW => ?_) fun xs a b c n sc st v st' ps h => ?_
  · unfold g27 at h
    split at h <;> try (cases h; done)
    simp only [Option.some.injEq, Prod.mk.injEq] at h
    obtain ⟨rfl, rfl, rfl⟩ := h
    obtain ⟨h1, h2, h3, _⟩ := hps
    exact small27 h2 h3 ⟨hl, hW, h1⟩
  · unfold g27 at h
    split at h <;> try (cases h; done)
    simp only [Option.some.injEq, Prod.mk.injEq] at h
    obtain ⟨rfl, rfl, rfl⟩ := h
    exact ⟨rfl, rfl⟩
end Go.Sx
