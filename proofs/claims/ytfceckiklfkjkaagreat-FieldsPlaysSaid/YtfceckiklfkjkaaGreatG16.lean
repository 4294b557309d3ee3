/-
  Parts of the executor Sx over the model's code (any program), or of this seat's walks: words and proofs that the row's text uses.
-/
import Derived.Test.YtfceckiklfkjkaaGreatG11
import Derived.Test.YtfceckiklfkjkaaGreatSxY
import Derived.Test.YtfceckiklfkjkaaGreatQ1
namespace Go.Sx
open Go.Proofs Go.RowKit
set_option maxRecDepth 100000
/-! ### Write: f25 -/
noncomputable def imgW (a b c : Int) (L : List Int) (n : Nat) (sc out : Int) (l : List (Int × Int)) : T Blk := ofL [(0, .row 113 false none (.cells (imgC a b c n sc out))), (1, .row 95 false (some 64) (.ints .u8 L (64 * n))), (2, .mapI none l)]
noncomputable def c25 : Code := gB 78
theorem body25_eq : Tryz.f78.body = some c25 := by kernel_rfl
noncomputable def args25 (g k : Int) (p : List Int) : List RV := [.one (.c (.ptr 0 0)), .one (.c (.int .i64 g)), .one (.c (.int .i64 k)), .one (.ints .u8 p 54)]
noncomputable def sl25 (g k : Int) (p : List Int) : T RV := match setArgs 84 (args25 g k p) 0 .nil some with | some t => t | none => .nil
theorem sl25_ok (g k : Int) (p : List Int) : setArgs 84 (args25 g k p) 0 .nil some = some (sl25 g k p) := by kernel_rfl
section
variable (a b c : Int) (L p : List Int) (n : Nat) (sc out g k : Int) (l : List (Int × Int))
noncomputable def s25 : S := ⟨sl25 g k p, imgW a b c L n sc out l, 3, []⟩
noncomputable def e25 (v : Bool) : S := low 84 3 (fgt [8] 84 ⟨ofL [(8, .one (.c (.bool v)))], imgW a b c L n sc out l, 3, []⟩)
theorem res25 (v : Bool) : resOf Tryz.prog 84 (e25 a b c L n sc out l v) Tryz.f78.results.toList = some [.c (.bool v)] := by kernel_rfl
noncomputable def r25 (o : List (Nat × Bool)) : Option (X × Bool × S × List Prop) := execA Tryz.prog sgW 300 84 c25 (s25 a b c L p n sc out g k l) ⟨0, o, []⟩ fun x s α => some (x, Nat.ble 3 s.nx, low 84 3 (fgt [8] 84 s), α.ob)
noncomputable abbrev eqP : Bool := if true = true then List.take 54 (List.drop 0 (over z54 0 (ldP L n g k))) == List.take 54 (List.drop 0 p) else false
noncomputable abbrev t25 : List Prop := [L.length = 64 * n, 64 * n = 64 * n, (!gn n g) = false] ++ rep 8 (g0 g = true)
abbrev b25 : List Prop := [decide (0 + g.toNat * 64 + 64 ≤ 64 * n) = true, decide (0 ≤ g ∧ g < (n : Int)) = true, decide (n ≠ 0) = true]
noncomputable abbrev u1 : List Prop := [eqP L p n g k = false] ++ rep 4 (ldOk L n g k = true)
noncomputable abbrev u2 : List Prop := rep 4 (ldOk L n g k = false)
noncomputable abbrev new25 : List Int := over L (0 + g.toNat * 64) (List.take 64 (List.drop 0 (over z64 0 (nextB k (List.take 64 (List.drop (0 + g.toNat * 64) L)) (List.take 54 (List.drop 0 p))))))
noncomputable abbrev oS : Bool := if true = true then !inS a sc (pl a b c g).2.1 else false
abbrev h25 : List (Nat × Bool) := tT [3, 4, 5, 6, 7, 8, 9, 10] ++ [(11, false)]
abbrev k1 : List (Nat × Bool) := h25 ++ (tT [13, 15, 17, 18] ++ ((19, false) :: tT [20, 21, 22]))
abbrev k2 : List (Nat × Bool) := h25 ++ (fF [13, 14, 15, 16] ++ tT [18, 19, 20])

theorem w_eq : r25 a b c L p n sc out g k l (h25 ++ tT [13, 15, 17, 18, 19]) = some (.ret, true, e25 a b c L n sc out l true, [eqP L p n g k = true] ++ (rep 4 (ldOk L n g k = true) ++ t25 L n g)) := by kernel_rfl
theorem w_k1 : r25 a b c L p n sc out g k l (k1 ++ [(25, true)]) = some (.ret, true, e25 a b c L n sc out l false, [(putE k != 0) = true] ++ (b25 n g ++ (u1 L p n g k ++ t25 L n g))) := by kernel_rfl
theorem w_o1 : r25 a b c L p n sc out g k l (k1 ++ ((25, false) :: (tT [26, 27, 28, 29, 30, 31] ++ [(32, true)]))) = some (.ret, true, e25 a b c L n sc (IntKind.i64.wrap (out + 1)) l false, [oS a b c sc g = true] ++ (rep 6 (decide (g ≥ 2) = true) ++ ([(putE k != 0) = false] ++ (b25 n g ++ (u1 L p n g k ++ t25 L n g))))) := by kernel_rfl
theorem w_i1 : r25 a b c L p n sc out g k l (k1 ++ ((25, false) :: (tT [26, 27, 28, 29, 30, 31] ++ ((32, false) :: tT [34, 35, 36])))) = some (.ret, true, e25 a b c (new25 L p g k) n sc out (putI l g 1) true, b25 n g ++ ([oS a b c sc g = false] ++ (rep 6 (decide (g ≥ 2) = true) ++ ([(putE k != 0) = false] ++ (b25 n g ++ (u1 L p n g k ++ t25 L n g)))))) := by kernel_rfl
theorem w_s1 : r25 a b c L p n sc out g k l (k1 ++ ((25, false) :: (fF [26, 27, 28, 29, 30, 31] ++ tT [34, 35, 36]))) = some (.ret, true, e25 a b c (new25 L p g k) n sc out (putI l g 1) true, b25 n g ++ (rep 6 (decide (g ≥ 2) = false) ++ ([(putE k != 0) = false] ++ (b25 n g ++ (u1 L p n g k ++ t25 L n g))))) := by kernel_rfl
theorem w_k2 : r25 a b c L p n sc out g k l (k2 ++ [(23, true)]) = some (.ret, true, e25 a b c L n sc out l false, [(putE k != 0) = true] ++ (b25 n g ++ (u2 L n g k ++ t25 L n g))) := by kernel_rfl
theorem w_o2 : r25 a b c L p n sc out g k l (k2 ++ ((23, false) :: (tT [24, 25, 26, 27, 28, 29] ++ [(30, true)]))) = some (.ret, true, e25 a b c L n sc (IntKind.i64.wrap (out + 1)) l false, [oS a b c sc g = true] ++ (rep 6 (decide (g ≥ 2) = true) ++ ([(putE k != 0) = false] ++ (b25 n g ++ (u2 L n g k ++ t25 L n g))))) := by kernel_rfl
theorem w_i2 : r25 a b c L p n sc out g k l (k2 ++ ((23, false) :: (tT [24, 25, 26, 27, 28, 29] ++ ((30, false) :: tT [32, 33, 34])))) = some (.ret, true, e25 a b c (new25 L p g k) n sc out (putI l g 1) true, b25 n g ++ ([oS a b c sc g = false] ++ (rep 6 (decide (g ≥ 2) = true) ++ ([(putE k != 0) = false] ++ (b25 n g ++ (u2 L n g k ++ t25 L n g)))))) := by kernel_rfl
theorem w_s2 : r25 a b c L p n sc out g k l (k2 ++ ((23, false) :: (fF [24, 25, 26, 27, 28, 29] ++ tT [32, 33, 34]))) = some (.ret, true, e25 a b c (new25 L p g k) n sc out (putI l g 1) true, b25 n g ++ (rep 6 (decide (g ≥ 2) = false) ++ ([(putE k != 0) = false] ++ (b25 n g ++ (u2 L n g k ++ t25 L n g))))) := by kernel_rfl
theorem w_hi : r25 a b c L p n sc out g k l (tT [3, 4, 5, 6, 7, 8, 9, 10, 11]) = some (.ret, true, e25 a b c L n sc out l false, [(!gn n g) = true] ++ rep 8 (g0 g = true)) := by kernel_rfl
theorem w_lo : r25 a b c L p n sc out g k l (fF [3, 4, 5, 6, 7, 8, 9, 10]) = some (.ret, true, e25 a b c L n sc out l false, rep 8 (g0 g = false)) := by kernel_rfl
end
end Go.Sx

namespace Go.Sx
open Go.Proofs Go.RowKit
set_option maxRecDepth 100000
noncomputable def wrEnd (a b c : Int) (n : Nat) (sc out : Int) (L : List Int) (l : List (Int × Int)) (g k : Int) (p : List Int) : Bool × List Int × List (Int × Int) × Int :=
  if hasS n g then
    if ldOk L n g k && (ldP L n g k == p) then (true, L, l, out)
    else if putE k != 0 then (false, L, l, out)
    else if decide (g ≥ 2) && !inS a sc (pl a b c g).2.1 then (false, L, l, IntKind.i64.wrap (out + 1))
    else (true, over L (g.toNat * 64) (nextB k (blkAt L (g.toNat * 64)) p), putI l g 1, out)
  else (false, L, l, out)
theorem imgW_eq (a b c : Int) (L : List Int) (n : Nat) (sc out : Int) (l : List (Int × Int)) : imgW a b c L n sc out l = T.node (T.node .nil (some (.row 95 false (some 64) (.ints .u8 L (64 * n)))) .nil) (some (.row 113 false none (.cells (imgC a b c n sc out)))) (T.node .nil (some (.mapI none l)) .nil) := by kernel_rfl
theorem get_three {x y z u : Blk} {nm : Nat} (h : (T.node (T.node .nil (some y) .nil) (some x) (T.node .nil (some u) .nil) : T Blk).get nm = some z) : (nm = 0 ∧ z = x) ∨ (nm = 1 ∧ z = y) ∨ (nm = 2 ∧ z = u) := by
  rw [T.get_node] at h
  by_cases e : nm = 0
  · rw [if_pos e] at h; cases h; exact .inl ⟨e, rfl⟩
  · rw [if_neg e] at h
    by_cases e2 : nm % 2 = 1
    · rw [if_pos e2] at h
      obtain ⟨h1, h2⟩ := get_one h
      exact .inr (.inl ⟨by omega, h2⟩)
    · rw [if_neg e2] at h
      obtain ⟨h1, h2⟩ := get_one h
      exact .inr (.inr ⟨by omega, h2⟩)
theorem top_three {x y u : Blk} : Top ⟨.nil, (T.node (T.node .nil (some y) .nil) (some x) (T.node .nil (some u) .nil) : T Blk), 3, []⟩ := fun nm h => by
  cases hh : (T.node (T.node .nil (some y) .nil) (some x) (T.node .nil (some u) .nil) : T Blk).get nm with
  | none => rfl
  | some z =>
    have h' : 3 ≤ nm := h
    rcases get_three hh with ⟨h1, _⟩ | ⟨h1, _⟩ | ⟨h1, _⟩ <;> omega
section
variable (a b c : Int) (L p : List Int) (n : Nat) (sc out g k : Int) (l : List (Int × Int))
theorem e25_hp (v : Bool) : (e25 a b c L n sc out l v).hp = imgW a b c L n sc out l := by kernel_rfl
theorem e25_nx (v : Bool) : (e25 a b c L n sc out l v).nx = 3 := by kernel_rfl
theorem s25_nx : (s25 a b c L p n sc out g k l).nx ≤ 3 := Nat.le_refl _
end
theorem nextB_len {k : Int} {b p : List Int} (hp : p.length = 54) : (nextB k b p).length = 64 := putB_len hp
section
variable {a b c : Int} {L p : List Int} {n : Nat} {sc out g k : Int} {l : List (Int × Int)}
abbrev Ret25 (a b c : Int) (n : Nat) (sc : Int) (r : Bool × List Int × List (Int × Int) × Int) : X → S → Prop := fun x s1 => (x = .normal ∨ x = .ret) ∧ ∃ q, resOf Tryz.prog 84 s1 Tryz.f78.results.toList = some q ∧ (resRV q = .one (.c (.bool r.1)) ∧ s1.hp = imgW a b c r.2.1 n sc r.2.2.2 r.2.2.1 ∧ s1.nx = 3)
theorem ret25 (v : Bool) : Ret25 a b c n sc (v, L, l, out) .ret (e25 a b c L n sc out l v) := ⟨.inr rfl, _, res25 a b c L n sc out l v, rfl, e25_hp a b c L n sc out l v, e25_nx a b c L n sc out l v⟩
theorem body25 (hl : L.length = 64 * n) (hp : p.length = 54) : Tr Tryz.prog 84 c25 (s25 a b c L p n sc out g k l) (Ret25 a b c n sc (wrEnd a b c n sc out L l g k p)) := by
  have hnx := s25_nx a b c L p n sc out g k l
  have e1 : g0 g = decide (g ≥ 0) := by simp [g0]
  have e2 : gn n g = decide (g < (n : Int)) := by simp [gn]
  cases h0 : decide (g ≥ 0) with
  | false =>
    rw [show wrEnd a b c n sc out L l g k p = (false, L, l, out) by unfold wrEnd hasS; rw [h0]; rfl]
    exact Tr.pathL fitW hnx (w_lo a b c L p n sc out g k l) (All_rep (by rw [e1, h0]) 8) (ret25 false)
  | true =>
    cases h1 : decide (g < (n : Int)) with
    | false =>
      rw [show wrEnd a b c n sc out L l g k p = (false, L, l, out) by unfold wrEnd hasS; rw [h0, h1]; rfl]
      exact Tr.pathL fitW hnx (w_hi a b c L p n sc out g k l) ((All_append _ _).2 ⟨⟨by rw [e2, h1]; rfl, trivial⟩, All_rep (by rw [e1, h0]) 8⟩) (ret25 false)
    | true =>
      have hs : hasS n g = true := by unfold hasS; rw [h0, h1]; rfl
      obtain ⟨f1, f2⟩ := has_facts hl rfl h0 h1
      obtain ⟨⟨d1, d2, d3, d4, _⟩, d5⟩ := (All_append _ _).1 f2
      have ht : All (t25 L n g) := (All_append _ _).2 ⟨⟨hl, rfl, d4, trivial⟩, d5⟩
      have hb : All (b25 n g) := ⟨d1, d2, d3, trivial⟩
      have ho : eqP L p n g k = (ldP L n g k == p) := by
        have hq : (ldP L n g k).length = 54 := by
          unfold ldP; rw [hs]; exact getP_len (blkAt_len f1)
        show (if true = true then List.take 54 (List.drop 0 (over z54 0 (ldP L n g k))) == List.take 54 (List.drop 0 p) else false) = _
        rw [if_pos rfl, over_z54 hq, take_all hq, take_all hp]
      have hN : new25 L p g k = over L (g.toNat * 64) (nextB k (blkAt L (g.toNat * 64)) p) := by
        show over L (0 + g.toNat * 64) (List.take 64 (List.drop 0 (over z64 0 (nextB k (List.take 64 (List.drop (0 + g.toNat * 64) L)) (List.take 54 (List.drop 0 p)))))) = _
        rw [Nat.zero_add, take_all hp, over_z64 (nextB_len hp), take_all (nextB_len hp)]
        rfl
      have hoS : oS a b c sc g = !inS a sc (pl a b c g).2.1 := by simp [oS]
      have go : ∀ (u : List Prop), All u → (ldOk L n g k && (ldP L n g k == p)) = false → ∀ (pk po pi ps : List (Nat × Bool)),
          r25 a b c L p n sc out g k l pk = some (.ret, true, e25 a b c L n sc out l false, [(putE k != 0) = true] ++ (b25 n g ++ (u ++ t25 L n g))) →
          r25 a b c L p n sc out g k l po = some (.ret, true, e25 a b c L n sc (IntKind.i64.wrap (out + 1)) l false, [oS a b c sc g = true] ++ (rep 6 (decide (g ≥ 2) = true) ++ ([(putE k != 0) = false] ++ (b25 n g ++ (u ++ t25 L n g))))) →
          r25 a b c L p n sc out g k l pi = some (.ret, true, e25 a b c (new25 L p g k) n sc out (putI l g 1) true, b25 n g ++ ([oS a b c sc g = false] ++ (rep 6 (decide (g ≥ 2) = true) ++ ([(putE k != 0) = false] ++ (b25 n g ++ (u ++ t25 L n g)))))) →
          r25 a b c L p n sc out g k l ps = some (.ret, true, e25 a b c (new25 L p g k) n sc out (putI l g 1) true, b25 n g ++ (rep 6 (decide (g ≥ 2) = false) ++ ([(putE k != 0) = false] ++ (b25 n g ++ (u ++ t25 L n g))))) →
          Tr Tryz.prog 84 c25 (s25 a b c L p n sc out g k l) (Ret25 a b c n sc (wrEnd a b c n sc out L l g k p)) := fun u hu hne pk po pi ps hk hout hin hsm => by
        have hA : All (b25 n g ++ (u ++ t25 L n g)) := (All_append _ _).2 ⟨hb, (All_append _ _).2 ⟨hu, ht⟩⟩
        cases hK : (putE k != 0) with
        | true =>
          rw [show wrEnd a b c n sc out L l g k p = (false, L, l, out) by unfold wrEnd; rw [hs, hne, hK]; rfl]
          exact Tr.pathL fitW hnx hk ((All_append _ _).2 ⟨⟨hK, trivial⟩, hA⟩) (ret25 false)
        | false =>
          have hB : All ([(putE k != 0) = false] ++ (b25 n g ++ (u ++ t25 L n g))) := (All_append _ _).2 ⟨⟨hK, trivial⟩, hA⟩
          cases h2 : decide (g ≥ 2) with
          | false =>
            rw [show wrEnd a b c n sc out L l g k p = (true, over L (g.toNat * 64) (nextB k (blkAt L (g.toNat * 64)) p), putI l g 1, out) by unfold wrEnd; rw [hs, hne, hK, h2]; rfl]
            rw [hN] at hsm
            exact Tr.pathL fitW hnx hsm ((All_append _ _).2 ⟨hb, (All_append _ _).2 ⟨All_rep h2 6, hB⟩⟩) (ret25 true)
          | true =>
            have hC := (All_append _ _).2 ⟨All_rep h2 6, hB⟩
            cases h3 : inS a sc (pl a b c g).2.1 with
            | false =>
              rw [show wrEnd a b c n sc out L l g k p = (false, L, l, IntKind.i64.wrap (out + 1)) by unfold wrEnd; rw [hs, hne, hK, h2, h3]; rfl]
              exact Tr.pathL fitW hnx hout ((All_append _ _).2 ⟨⟨by rw [hoS, h3]; rfl, trivial⟩, hC⟩) (ret25 false)
            | true =>
              rw [show wrEnd a b c n sc out L l g k p = (true, over L (g.toNat * 64) (nextB k (blkAt L (g.toNat * 64)) p), putI l g 1, out) by unfold wrEnd; rw [hs, hne, hK, h2, h3]; rfl]
              rw [hN] at hin
              exact Tr.pathL fitW hnx hin ((All_append _ _).2 ⟨hb, (All_append _ _).2 ⟨⟨by rw [hoS, h3]; rfl, trivial⟩, hC⟩⟩) (ret25 true)
      cases hk : ldOk L n g k with
      | false => exact go (u2 L n g k) (All_rep hk 4) (by rw [hk]; rfl) _ _ _ _ (w_k2 a b c L p n sc out g k l) (w_o2 a b c L p n sc out g k l) (w_i2 a b c L p n sc out g k l) (w_s2 a b c L p n sc out g k l)
      | true =>
        cases hq : (ldP L n g k == p) with
        | false => exact go (u1 L p n g k) ((All_append _ _).2 ⟨⟨by rw [ho, hq], trivial⟩, All_rep hk 4⟩) (by rw [hk, hq]; rfl) _ _ _ _ (w_k1 a b c L p n sc out g k l) (w_o1 a b c L p n sc out g k l) (w_i1 a b c L p n sc out g k l) (w_s1 a b c L p n sc out g k l)
        | true =>
          rw [show wrEnd a b c n sc out L l g k p = (true, L, l, out) by unfold wrEnd; rw [hs, hk, hq]; rfl]
          exact Tr.pathL fitW hnx (w_eq a b c L p n sc out g k l) ((All_append _ _).2 ⟨⟨by rw [ho, hq], trivial⟩, (All_append _ _).2 ⟨All_rep hk 4, ht⟩⟩) (ret25 true)
theorem small25 (hl : L.length = 64 * n) (hp : p.length = 54) : SmallC Tryz.prog 78 (args25 g k p) 3 (imgW a b c L n sc out l) (imgW a b c (wrEnd a b c n sc out L l g k p).2.1 n sc (wrEnd a b c n sc out L l g k p).2.2.2 (wrEnd a b c n sc out L l g k p).2.2.1) (.one (.c (.bool (wrEnd a b c n sc out L l g k p).1))) :=
  Tr.smallC (fn := Tryz.f78) (c := c25) Tryz.func78 body25_eq (by rw [imgW_eq]; exact top_three) (sl25_ok g k p) (body25 hl hp)
end
end Go.Sx

namespace Go.Sx
open Go.Proofs Go.RowKit
set_option maxRecDepth 100000
/-- a block that a call writes may be seen anew ahead of it: an empty map as an empty map of ints -/
theorem CallInfo.asI {P : Program} {f : FuncId} {args : List RV} {s s' : S} {v : RV} {Lw : List Nat} {t0 : T Blk} {nw : Nat} {l : List (Int × Int)} (h : CallInfo P f args { s with hp := t0 } v s' Lw)
    (hw : nw ∈ Lw) (ho : s.hp.get nw = some (.mapI none l) ∨ (l = [] ∧ s.hp.get nw = some (.map []))) (hg : ∀ j, t0.get j = if j = nw then some (.mapI none l) else s.hp.get j) : CallInfo P f args s v s' Lw := by
  have hne : ∀ j, j ≠ nw → t0.get j = s.hp.get j := fun j hj => by rw [hg, if_neg hj]
  have hnw : t0.get nw = some (.mapI none l) := by rw [hg, if_pos rfl]
  have hto : ∀ (ρ : Rho) (c : Nat) (o : Obj) (x : Blk), s.hp.get nw = some x → BlkR ρ c x o → BlkR ρ c (.mapI none l) o := fun ρ c o x hx hb => by
    rcases ho with e | ⟨rfl, e⟩
    · rw [e] at hx; cases hx; exact hb
    · rw [e] at hx; cases hx; exact hb
  have hold : ∃ x, s.hp.get nw = some x ∧ x.wr = true := by
    rcases ho with e | ⟨rfl, e⟩
    · exact ⟨_, e, rfl⟩
    · exact ⟨_, e, rfl⟩
  refine ⟨h.fn, h.sl, ⟨h.abs.lg, h.abs.le, fun nm h1 h2 => ?_, h.abs.top, h.abs.lt⟩, fun ρ w vs hr hf ha => ?_⟩
  · rw [h.abs.keep nm h1 h2]; exact hne nm (fun e => h2 (e ▸ hw))
  · have hr' : HRel ρ t0.get w := ⟨fun nm x hx => by
      by_cases e : nm = nw
      · subst e
        rw [hnw] at hx; cases hx
        obtain ⟨x0, e0, _⟩ := hold
        obtain ⟨b, c, o, g1, g2, g3⟩ := hr.ok _ _ e0
        exact ⟨b, c, o, g1, g2, hto _ _ _ _ e0 g3⟩
      · rw [hne nm e] at hx; exact hr.ok nm x hx, fun nm nm' x y b c c' hx hy hw1 e1 e2 => by
      obtain ⟨x0, o1, o2⟩ := hold
      by_cases e : nm = nw
      · subst e
        by_cases e' : nm' = nm
        · exact e'.symm
        · rw [hne nm' e'] at hy
          exact hr.inj _ _ _ _ b c c' o1 hy o2 e1 e2
      · rw [hne nm e] at hx
        by_cases e' : nm' = nw
        · subst e'
          exact hr.inj _ _ _ _ b c c' hx o1 hw1 e1 e2
        · rw [hne nm' e'] at hy
          exact hr.inj _ _ _ _ b c c' hx hy hw1 e1 e2,
      hr.fz.of (fun _ _ h => h) (fun _ _ _ => rfl) fun nm x b c hx hw1 e1 => .inl (by
      obtain ⟨x0, o1, o2⟩ := hold
      by_cases e : nm = nw
      · subst e; exact ⟨_, x0, c, o1, o2, e1⟩
      · rw [hne nm e] at hx
        exact ⟨nm, x, c, hx, hw1, e1⟩)⟩
    refine (h.run ρ w vs hr' hf ha).mono fun e w' ⟨V, ρ', e1, e2, e3, e4, st⟩ => ⟨V, ρ', e1, e2, e3, e4, st.le, st.rho, fun nm h1 h2 => ?_, st.size, st.frame, st.new, fun nm h1 h2 => ?_, st.os, st.tape, st.out, st.fzk, st.fzn⟩
    · rw [st.keep nm h1 h2]; exact hne nm (fun e => h2 (e ▸ hw))
    · by_cases e : nm = nw
      · subst e; exact hold
      · have := st.own nm h1 h2
        obtain ⟨x, g1, g2⟩ := this
        exact ⟨x, by rw [← hne nm e]; exact g1, g2⟩
/-- an image that may be written: its cells, its sectors' name, its map's name -/
def imgWr (hp : Hp) (nm : Nat) : Option (Int × Int × Int × List Int × Nat × Nat × Int × Int × List (Int × Int) × Nat × Nat) :=
  match getRow hp nm with
  | some (113, false, none, .cells [.int .i64 a, .int .i64 b, .int .i64 c, .slu nl 64 0 n, .int .u32 sc, .map nw, .int .i64 out]) => match getRow hp nl with
    | some (95, false, some 64, .ints .u8 L N) => match hp nw with
      | some (.mapI none l) => some (a, b, c, L, N, n, sc, out, l, nl, nw)
      | some (.map []) => some (a, b, c, L, N, n, sc, out, [], nl, nw)
      | _ => none
    | _ => none
  | _ => none
theorem imgWr_ok {hp : T Blk} {nm : Nat} {a b c : Int} {L : List Int} {N n : Nat} {sc out : Int} {l : List (Int × Int)} {nl nw : Nat} (h : imgWr hp.get nm = some (a, b, c, L, N, n, sc, out, l, nl, nw)) :
    hp.get nm = some (.row 113 false none (.cells [.int .i64 a, .int .i64 b, .int .i64 c, .slu nl 64 0 n, .int .u32 sc, .map nw, .int .i64 out])) ∧ hp.get nl = some (.row 95 false (some 64) (.ints .u8 L N)) ∧ (hp.get nw = some (.mapI none l) ∨ (l = [] ∧ hp.get nw = some (.map []))) := by
  unfold imgWr at h
  split at h <;> try (cases h; done)
  rename_i h0
  split at h <;> try (cases h; done)
  rename_i h1
  split at h <;> try (cases h; done)
  · rename_i h2
    cases h
    exact ⟨getRow_some h0, getRow_some h1, .inl h2⟩
  · rename_i h2
    cases h
    exact ⟨getRow_some h0, getRow_some h1, .inr ⟨rfl, h2⟩⟩
noncomputable def sumWr : SumA := fun args hp nx => match args with
  | [.one (.c (.ptr nm 0)), .one (.c (.int .i64 g)), .one (.c (.int .i64 k)), .one (.ints .u8 p 54)] => match imgWr hp.get nm with
    | some (a, b, c, L, N, n, sc, out, l, nl, nw) =>
      match Nat.blt nm nx, Nat.blt nl nx, Nat.blt nw nx with
      | true, true, true =>
        T.set depth hp nw (some (.mapI none l)) fun hp =>
        T.set depth hp nm (some (.row 113 false none (.cells [.int .i64 a, .int .i64 b, .int .i64 c, .slu nl 64 0 n, .int .u32 sc, .map nw, .int .i64 (wrEnd a b c n sc out L l g k p).2.2.2]))) fun hp =>
        T.set depth hp nl (some (.row 95 false (some 64) (.ints .u8 (wrEnd a b c n sc out L l g k p).2.1 N))) fun hp =>
        T.set depth hp nw (some (.mapI none (wrEnd a b c n sc out L l g k p).2.2.1)) fun hp =>
        some (.one (.c (.bool (wrEnd a b c n sc out L l g k p).1)), hp, nx, [nm, nl, nw], [L.length = N, N = 64 * n, p.length = 54])
      | _, _, _ => none
    | none => none
  | _ => none
theorem sumWr_ok : SumAOK Tryz.prog 78 sumWr := by
  intro args s v hp nx lg ps ht h hps
  unfold sumWr at h
  split at h <;> try (cases h; done)
  rename_i nm g k p
  split at h <;> try (cases h; done)
  rename_i a b c L N n sc out l nl nw hi
  split at h <;> try (cases h; done)
  rename_i b1 b2 b3
  obtain ⟨h1, h2, h3⟩ := imgWr_ok hi
  have n1 : nm < s.nx := blt_lt b1
  have n2 : nl < s.nx := blt_lt b2
  have n3 : nw < s.nx := blt_lt b3
  have d1 : nm ≠ nl := fun e => by subst e; rw [h1] at h2; cases h2
  have d2 : nm ≠ nw := fun e => by subst e; rw [h1] at h3; rcases h3 with h3 | ⟨_, h3⟩ <;> cases h3
  have d3 : nl ≠ nw := fun e => by subst e; rw [h2] at h3; rcases h3 with h3 | ⟨_, h3⟩ <;> cases h3
  obtain ⟨t0, h, q0⟩ := T.set_ok _ _ _ _ _ _ h
  obtain ⟨t1, h, q1⟩ := T.set_ok _ _ _ _ _ _ h
  obtain ⟨t2, h, q2⟩ := T.set_ok _ _ _ _ _ _ h
  obtain ⟨t3, h, q3⟩ := T.set_ok _ _ _ _ _ _ h
  simp only [Option.some.injEq, Prod.mk.injEq] at h
  obtain ⟨rfl, rfl, rfl, rfl, rfl⟩ := h
  obtain ⟨hl, hN, hp', _⟩ := hps
  subst hN
  have ht0 : Top { s with hp := t0 } := fun j hj => by
    show t0.get j = none
    have : s.nx ≤ j := hj
    rw [q0 j, if_neg (by omega)]
    exact ht j hj
  have g1 : t0.get nm = _ := (q0 nm).trans ((if_neg d2).trans h1)
  have g2 : t0.get nl = _ := (q0 nl).trans ((if_neg d3).trans h2)
  have g3 : t0.get nw = some (.mapI none l) := (q0 nw).trans (if_pos rfl)
  have hget : ∀ j, t3.get j = if j = nw then some (.mapI none (wrEnd a b c n sc out L l g k p).2.2.1) else if j = nl then some (.row 95 false (some 64) (.ints .u8 (wrEnd a b c n sc out L l g k p).2.1 (64 * n))) else if j = nm then some (.row 113 false none (.cells [.int .i64 a, .int .i64 b, .int .i64 c, .slu nl 64 0 n, .int .u32 sc, .map nw, .int .i64 (wrEnd a b c n sc out L l g k p).2.2.2])) else t0.get j := fun j => by
    rw [q3 j, q2 j, q1 j]
  let θ : Nat → Nat := fun i => if i = 0 then nm else if i = 1 then nl else nw
  have ea : (args25 g k p).map (renR θ) = [.one (.c (.ptr nm 0)), .one (.c (.int .i64 g)), .one (.c (.int .i64 k)), .one (.ints .u8 p 54)] := rfl
  have hC := small25 (a := a) (b := b) (c := c) (L := L) (p := p) (n := n) (sc := sc) (out := out) (g := g) (k := k) (l := l) hl hp'
  have := CallInfo.frame (P := Tryz.prog) (f := 78) (θ := θ) (s := { s with hp := t0 }) (hp' := t3) (Lw := [nm, nl, nw]) ht0 ⟨_, Tryz.func78, rfl⟩ hC (by rfl)
    (fun i x hx => by
      rw [imgW_eq] at hx
      rcases get_three hx with ⟨rfl, rfl⟩ | ⟨rfl, rfl⟩ | ⟨rfl, rfl⟩
      · exact ⟨by omega, rfl, rfl, n1, g1⟩
      · exact ⟨by omega, rfl, rfl, n2, g2⟩
      · exact ⟨by omega, rfl, rfl, n3, g3⟩)
    (fun i j x y hx hy he => by
      rw [imgW_eq] at hx hy
      rcases get_three hx with ⟨rfl, _⟩ | ⟨rfl, _⟩ | ⟨rfl, _⟩ <;> rcases get_three hy with ⟨rfl, _⟩ | ⟨rfl, _⟩ | ⟨rfl, _⟩ <;> first | rfl | exact absurd he d1 | exact absurd he d2 | exact absurd he d3 | exact absurd he.symm d1 | exact absurd he.symm d2 | exact absurd he.symm d3)
    (fun j hj => by
      have j0 := hj 0 _ (by rw [imgW_eq]; rfl)
      have j1 := hj 1 _ (by rw [imgW_eq]; rfl)
      have j2 := hj 2 _ (by rw [imgW_eq]; rfl)
      rw [hget, if_neg (fun e => j2 e.symm), if_neg (fun e => j1 e.symm), if_neg (fun e => j0 e.symm)])
    (fun i x hx => by
      rw [imgW_eq] at hx
      rw [hget, imgW_eq]
      rcases get_three hx with ⟨rfl, rfl⟩ | ⟨rfl, rfl⟩ | ⟨rfl, rfl⟩
      · rw [if_neg (show θ 0 ≠ nw from d2), if_neg (show θ 0 ≠ nl from d1), if_pos (show θ 0 = nm from rfl)]; rfl
      · rw [if_neg (show θ 1 ≠ nw from d3), if_pos (show θ 1 = nl from rfl)]; rfl
      · rw [if_pos (show θ 2 = nw from rfl)]; rfl)
    (fun j => by
      constructor
      · intro hj
        rcases List.mem_cons.1 hj with rfl | hj
        · exact ⟨0, _, by rw [imgW_eq]; rfl, rfl⟩
        · rcases List.mem_cons.1 hj with rfl | hj
          · exact ⟨1, _, by rw [imgW_eq]; rfl, rfl⟩
          · rcases List.mem_cons.1 hj with rfl | hj
            · exact ⟨2, _, by rw [imgW_eq]; rfl, rfl⟩
            · cases hj
      · rintro ⟨i, x, hx, rfl⟩
        rw [imgW_eq] at hx
        rcases get_three hx with ⟨rfl, _⟩ | ⟨rfl, _⟩ | ⟨rfl, _⟩ <;> simp [θ])
  rw [ea] at this
  exact this.asI (by simp) h3 q0
end Go.Sx

namespace Go.Sx
open Go.Proofs Go.RowKit
set_option maxRecDepth 100000
/-! ### Find, of no sectors at all too -/
abbrev find0 : RV := .tup [.agg [.int .i64 0, .int .i64 0, .int .i64 0], .c (.int .i64 0), .c (.int .i64 22)]
noncomputable def sumFind2 : SumA := fun args hp nx => match args with
  | [.one (.c (.sl _ 0 0 0))] => some (find0, hp, nx, [], [])
  | _ => sumFind args hp nx
noncomputable def rFind0 : Option (RV × List Prop) := runA Tryz.prog sgV 300 73 [.one (.c (.sl 0 0 0 0))] ⟨.nil, .nil, 1, []⟩ ⟨0, [], []⟩ fun v _ α => some (v, α.ob)
theorem find0_r : rFind0 = some (find0, []) := by kernel_rfl
theorem top_none {k : Nat} : Top ⟨.nil, (.nil : T Blk), k, []⟩ := fun _ _ => rfl
theorem sumFind2_ok : SumAOK Tryz.prog 73 sumFind2 := by
  intro args s v hp nx lg ps ht h hps
  unfold sumFind2 at h
  split at h
  · rename_i nm
    simp only [Option.some.injEq, Prod.mk.injEq] at h
    obtain ⟨rfl, rfl, rfl, rfl, rfl⟩ := h
    exact CallInfo.small (P := Tryz.prog) (f := 73) (args := [.one (.c (.sl 0 0 0 0))]) (v := find0) (k := 1) (hs := .nil) (θ := fun _ => nm) (s := s) ht ⟨_, Tryz.func73, rfl⟩
      (small_path fitV top_none find0_r trivial) (fun nm' x hx => by cases hx) (by rfl) (by rfl)
  · exact sumFind_ok _ _ _ _ _ _ _ ht h hps
end Go.Sx
