/-
  Parts of the executor Sx over the model's code (any program), or of this seat's walks: words and proofs that the row's text uses.
-/
import Derived.Test.YtpenbfjpfmbgaaaGreatBS
namespace Go.Sx
open Go.Proofs Go.RowKit Go.Sort
set_option maxRecDepth 100000
/-! ### graph.ids (f231), called with closure f260: printed by gen_ids.py -/
abbrev fnOw : RV := .one (.c (.fn 81 [] [(2, 0)]))
noncomputable def extOw (tt : TypeId) (oo : Option Nat) (y : Int) : List (Nat × Blk) := [(2, .row tt true oo (.ints .i64 [y] 1))]
noncomputable def argsOw : List RV := [.one (.c (.ptr 0 0)), fnOw]
noncomputable def slOw : T RV := match setArgs 31 argsOw 0 .nil some with | some t => t | none => .nil
theorem slOw_ok : setArgs 31 argsOw 0 .nil some = some slOw := by kernel_rfl
noncomputable def sgOw : FuncId → Option SumA := fun f => match f with | 138 => some sumSort | 81 => some (sumB1 fun p x => p.owner == x) | _ => none
theorem fitOw : Fit Tryz.prog (fun f => (sgOw f).map toSum) := ⟨zng, zmixed, SumAOK.sum fun f sm h => by
  unfold sgOw at h
  split at h
  · cases h; exact sumSort_ok
  · cases h; exact sumOwner_ok
  · cases h⟩
section
variable (last : Int) (ps : List (Int × Pt)) (tt : TypeId) (oo : Option Nat) (y : Int) (ks : List Int) (m nn : Nat) (x : Int × Pt)
abbrev BOw (tt : TypeId) (oo : Option Nat) (y : Int) (x : Pt) : Bool := x.owner == y
noncomputable def oOw : S := ⟨slOw, hsI last ps (extOw tt oo y), 3, []⟩
noncomputable def stAOw : S := fgt [0, 1] 31 ⟨ofL [(0, .one (.c (.ptr 0 0))), (1, fnOw)], hsI last ps (extOw tt oo y), 3, []⟩
noncomputable def stBOw : S := fgt [0, 1, 5] 31 ⟨ofL [(0, .one (.c (.ptr 0 0))), (1, fnOw), (5, .one (.c .sl0))], hsI last ps (extOw tt oo y), 3, []⟩
noncomputable def S0Ow : S := fgt [1, 5, 15] 31 ⟨ofL [(1, fnOw), (5, .one (.c .sl0)), (15, .one (.c (.ptr 3 0)))], hsI last ps (extOw tt oo y), 4, []⟩
abbrev rowOw (ks : List Int) (nn : Nat) : Blk := .row 3 false (some 1) (.ints .i64 ks nn)
noncomputable def S1Ow : S := fgt [1, 5, 15] 31 ⟨ofL [(1, fnOw), (5, .one (.c (.slu 4 1 0 m))), (15, .one (.c (.ptr 3 0)))], hsI last ps ((4, rowOw ks nn) :: extOw tt oo y), 5, []⟩
noncomputable abbrev goOw (K pn keep ord : List Nat) (c : Code) (s : S) (o : List (Nat × Bool)) : Option (X × Bool × S × List Prop) :=
  execA Tryz.prog sgOw 300 31 c s ⟨0, o, []⟩ (gcP 3 K pn keep 31 ord)
theorem oOw_nx : (oOw last ps tt oo y).nx = 3 := by kernel_rfl
theorem a0Ow : goOw [0, 1, 2] [] [0, 1] [] (zL c231) (oOw last ps tt oo y) [] = some (.normal, true, stAOw last ps tt oo y, []) := by kernel_rfl
theorem a1Ow : goOw [0, 1, 2] [] [0, 1, 5] [] (zL (zR c231)) (stAOw last ps tt oo y) [] = some (.normal, true, stBOw last ps tt oo y, []) := by kernel_rfl
theorem a2Ow : goOw [0, 1, 2] [] [0, 1, 5] [] (zL (zR (zR c231))) (stBOw last ps tt oo y) [] = some (.normal, true, stBOw last ps tt oo y, []) := by kernel_rfl
noncomputable def sAOw : S := match opsRun Tryz.prog false call0 31 opsA231.toList pre231 (stBOw last ps tt oo y) (fun s' => some s') with | some s => s | none => ⟨.nil, .nil, 0, []⟩
theorem c0Ow : opsRun Tryz.prog false call0 31 opsA231.toList pre231 (stBOw last ps tt oo y) (lgE [0, 1, 2]) = some (true, sAOw last ps tt oo y) := by kernel_rfl
theorem c1Ow : eval 31 (sAOw last ps tt oo y).sl (.tmp 14) = some (.one (.c (.map 1))) := by kernel_rfl
noncomputable def sIOw : S := match setS [(15, .one (.c (.ptr 3 0)))] 4 (sAOw last ps tt oo y) with | some s => s | none => ⟨.nil, .nil, 0, []⟩
theorem c2Ow : setS [(15, .one (.c (.ptr 3 0)))] 4 (sAOw last ps tt oo y) = some (sIOw last ps tt oo y) := by kernel_rfl
theorem c4Ow : gcS 3 [0, 1, 2] [3] [1, 5, 15] 31 [3] (sIOw last ps tt oo y) = some (S0Ow last ps tt oo y) := by kernel_rfl
theorem c3Ow : (sAOw last ps tt oo y).nx = 3 := by kernel_rfl
theorem d0Ow : eval 31 (S0Ow last ps tt oo y).sl (.tmp 15) = some (.one (.c (.ptr 3 0))) := by kernel_rfl
theorem d1Ow : eval 31 (S1Ow last ps tt oo y ks m nn).sl (.tmp 15) = some (.one (.c (.ptr 3 0))) := by kernel_rfl
noncomputable def G0Ow : S := fgt [1, 5, 15, 18] 31 ⟨ofL [(1, fnOw), (5, .one (.c .sl0)), (15, .one (.c (.ptr 3 0))), (18, .tup [.c (.int .i64 x.1), .agg x.2.cells])], hsI last ps (extOw tt oo y), 4, []⟩
noncomputable def G1Ow : S := fgt [1, 5, 15, 18] 31 ⟨ofL [(1, fnOw), (5, .one (.c (.slu 4 1 0 m))), (15, .one (.c (.ptr 3 0))), (18, .tup [.c (.int .i64 x.1), .agg x.2.cells])], hsI last ps ((4, rowOw ks nn) :: extOw tt oo y), 5, []⟩
theorem b0Ow : setS [(16, .any), (17, .any), (18, .tup [.c (encP x).1, (encP x).2])] (S0Ow last ps tt oo y).nx (S0Ow last ps tt oo y) = some (G0Ow last ps tt oo y x) := by kernel_rfl
theorem b1Ow : setS [(16, .any), (17, .any), (18, .tup [.c (encP x).1, (encP x).2])] (S1Ow last ps tt oo y ks m nn).nx (S1Ow last ps tt oo y ks m nn) = some (G1Ow last ps tt oo y ks m nn x) := by kernel_rfl
theorem b2Ow : setS [(16, .any), (17, .any)] (S0Ow last ps tt oo y).nx (S0Ow last ps tt oo y) = some (S0Ow last ps tt oo y) := by kernel_rfl
theorem b3Ow : setS [(16, .any), (17, .any)] (S1Ow last ps tt oo y ks m nn).nx (S1Ow last ps tt oo y ks m nn) = some (S1Ow last ps tt oo y ks m nn) := by kernel_rfl
noncomputable def E0Ow : S := fgt [1, 5, 6, 7, 15] 31 ⟨ofL [(1, fnOw), (5, .one (.c .sl0)), (6, .one (.c (.int .i64 x.1))), (7, .one (.c (.ptr 4 0))), (15, .one (.c (.ptr 3 0)))], hsI last ps ((4, .row 86 false none (.cells x.2.cells)) :: extOw tt oo y), 5, []⟩
noncomputable def E1Ow : S := fgt [1, 5, 6, 7, 15] 31 ⟨ofL [(1, fnOw), (5, .one (.c (.slu 4 1 0 m))), (6, .one (.c (.int .i64 x.1))), (7, .one (.c (.ptr 5 0))), (15, .one (.c (.ptr 3 0)))], hsI last ps ((4, rowOw ks nn) :: (5, .row 86 false none (.cells x.2.cells)) :: extOw tt oo y), 6, []⟩
noncomputable abbrev enOw (K pn keep ord : List Nat) (s : S) : Option (Bool × S) := opsRun Tryz.prog false call0 31 opsE231.toList rE231 s (gcE 3 K pn keep 31 ord)
theorem e0Ow : enOw [0, 1, 2] [3] [1, 5, 6, 7, 15] [3, 4] (G0Ow last ps tt oo y x) = some (true, E0Ow last ps tt oo y x) := by kernel_rfl
theorem e1Ow : enOw [0, 1, 2] [3] [1, 5, 6, 7, 15] [3, 4, 5] (G1Ow last ps tt oo y ks m nn x) = some (true, E1Ow last ps tt oo y ks m nn x) := by kernel_rfl
theorem f0Ow : goOw [0, 1, 2] [3] [1, 5, 15] [3, 6] bd231 (E0Ow last ps tt oo y x) [(0, true)] = some (.normal, true, S1Ow last ps tt oo y [x.1] 1 1, [BOw tt oo y x.2 = true]) := by kernel_rfl
theorem f1Ow : goOw [0, 1, 2] [3] [1, 5, 15] [3] bd231 (E0Ow last ps tt oo y x) [(0, false)] = some (.normal, true, S0Ow last ps tt oo y, [BOw tt oo y x.2 = false]) := by kernel_rfl
theorem f2Ow : goOw [0, 1, 2] [3] [1, 5, 15] [3, 7] bd231 (E1Ow last ps tt oo y ks m nn x) [(0, true), (3, true), (4, true)] = some (.normal, true, S1Ow last ps tt oo y ((ks.drop 0).take (m * 1) ++ [x.1]) (m + 1) (m * 1 + 1), [decide (0 + m * 1 ≤ nn) = true, decide (fits Tryz.prog.types[3]! (m + 1) = true) = true, BOw tt oo y x.2 = true]) := by kernel_rfl
theorem f3Ow : goOw [0, 1, 2] [3] [1, 5, 15] [3, 4] bd231 (E1Ow last ps tt oo y ks m nn x) [(0, false)] = some (.normal, true, S1Ow last ps tt oo y ks m nn, [BOw tt oo y x.2 = false]) := by kernel_rfl
noncomputable def F0Ow : S := fgt [4] 31 ⟨ofL [(4, .one (.c .sl0))], hsI last ps (extOw tt oo y), 3, []⟩
noncomputable def F1Ow : S := fgt [4] 31 ⟨ofL [(4, .one (.c (.slu 3 1 0 m)))], hsI last ps ((3, rowOw ks nn) :: extOw tt oo y), 4, []⟩
theorem g0Ow : goOw [0, 1, 2] [] [4] [] (zR (zR (zR (zR c231)))) (S0Ow last ps tt oo y) [] = some (.ret, true, F0Ow last ps tt oo y, []) := by kernel_rfl
theorem g1Ow : goOw [0, 1, 2] [] [4] [4] (zR (zR (zR (zR c231)))) (S1Ow last ps tt oo y ks m nn) [] = some (.ret, true, F1Ow last ps tt oo y (srt ks) m nn, [ks.length = m, nn = m, m < 4611686018427387904]) := by kernel_rfl
theorem h0Ow : resOf Tryz.prog 31 (F0Ow last ps tt oo y) Tryz.f80.results.toList = some [.c .sl0] := by kernel_rfl
theorem h1Ow : resOf Tryz.prog 31 (F1Ow last ps tt oo y ks m nn) Tryz.f80.results.toList = some [.c (.slu 3 1 0 m)] := by kernel_rfl
theorem hsOw_eq : hsI last ps (extOw tt oo y) = T.node (.node .nil (some (.mapR (ps.map encP))) .nil) (some (.row 179 true none (.cells [.int .i64 last, .map 1]))) (.node .nil (some (.row tt true oo (.ints .i64 [y] 1))) .nil) := by kernel_rfl
noncomputable def IOw (d : List (Int × Pt)) : S := match selB (BOw tt oo y) d with | [] => S0Ow last ps tt oo y | k :: l => S1Ow last ps tt oo y (k :: l) (l.length + 1) (l.length + 1)
end
section
variable {last : Int} {ps : List (Int × Pt)} {tt : TypeId} {oo : Option Nat} {y : Int}
theorem topOw : Top ⟨.nil, hsI last ps (extOw tt oo y), 3, []⟩ := fun i hi => by
  have hi' : 3 ≤ i := hi
  show (hsI last ps (extOw tt oo y)).get i = none
  rw [hsOw_eq, T.get3]
  simp only [if_neg (show ¬ i = 0 by omega), if_neg (show ¬ i = 1 by omega), if_neg (show ¬ i = 2 by omega)]
theorem bdOw (hl : ps.length ≤ 1000000000) (d : List (Int × Pt)) (x : Int × Pt) (r : List (Int × Pt)) (hp : (d ++ x :: r).Perm ps) (s2 : S)
    (hs2 : s2 = match selB (BOw tt oo y) d with | [] => E0Ow last ps tt oo y x | k :: l => E1Ow last ps tt oo y (k :: l) (l.length + 1) (l.length + 1) x) :
    TO Tryz.prog 31 [0, 1, 2] [3] (oOw last ps tt oo y) bd231 s2 fun x' s' => x' = .normal ∧ s' = IOw last ps tt oo y (d ++ [x]) := by
  subst hs2
  have hlen : (selB (BOw tt oo y) d).length ≤ 1000000000 := by
    have h1 := selB_le (B := BOw tt oo y) (d := d)
    have h2 := hp.length_eq
    simp at h2
    omega
  have hI : IOw last ps tt oo y (d ++ [x]) = match selB (BOw tt oo y) d ++ (if BOw tt oo y x.2 then [x.1] else []) with | [] => S0Ow last ps tt oo y | k :: l => S1Ow last ps tt oo y (k :: l) (l.length + 1) (l.length + 1) := by
    unfold IOw; rw [selB_snoc]
  rw [hI]
  revert hlen
  generalize selB (BOw tt oo y) d = ks
  intro hlen
  cases hB : BOw tt oo y x.2 with
  | true =>
    cases ks with
    | nil => exact TO.path fitOw (oOw_nx ..) (f0Ow last ps tt oo y x) ⟨hB, trivial⟩ ⟨rfl, rfl⟩
    | cons k l =>
      refine TO.path fitOw (oOw_nx ..) (f2Ow last ps tt oo y (k :: l) (l.length + 1) (l.length + 1) x) ⟨by simp, fits3 (by simpa using hlen), hB, trivial⟩ ⟨rfl, ?_⟩
      simp
  | false =>
    cases ks with
    | nil => exact TO.path fitOw (oOw_nx ..) (f1Ow last ps tt oo y x) ⟨hB, trivial⟩ ⟨rfl, rfl⟩
    | cons k l =>
      refine TO.path fitOw (oOw_nx ..) (f3Ow last ps tt oo y (k :: l) (l.length + 1) (l.length + 1) x) ⟨hB, trivial⟩ ⟨rfl, ?_⟩
      simp
abbrev FinOw (last : Int) (ps : List (Int × Pt)) (tt : TypeId) (oo : Option Nat) (y : Int) : X → S → Prop := fun x s1 => x = .ret ∧ s1 = match selB (BOw tt oo y) ps with | [] => F0Ow last ps tt oo y | k :: l => F1Ow last ps tt oo y (srt (k :: l)) (l.length + 1) (l.length + 1)
theorem rgOw (hl : ps.length ≤ 1000000000) : TO Tryz.prog 31 [0, 1, 2] [] (oOw last ps tt oo y) rg231 (stBOw last ps tt oo y) (ThenO Tryz.prog 31 [0, 1, 2] [] (oOw last ps tt oo y) (FinOw last ps tt oo y) (zR (zR (zR (zR c231))))) := by
  rw [rg231_eq]
  refine TO.range (enc := encP) (l := ps) (I := IOw last ps tt oo y) (nm := 1) zng form231 under304 (c0Ow last ps tt oo y) (c1Ow last ps tt oo y) (by simp) (by rw [oOw_nx]; decide) (.inr (by kernel_rfl)) (oOw_nx ..) (c3Ow ..) (c2Ow last ps tt oo y) (c4Ow last ps tt oo y) ?_ ?_ ?_
  · intro d
    unfold IOw
    cases selB (BOw tt oo y) d with
    | nil => exact d0Ow last ps tt oo y
    | cons k l => exact d1Ow last ps tt oo y _ _ _
  · intro d x r hp
    have hb := bdOw (last := last) (tt := tt) (oo := oo) (y := y) hl d x r hp _ rfl
    unfold IOw
    revert hb
    cases hk : selB (BOw tt oo y) d with
    | nil =>
      intro hb
      exact ⟨_, b0Ow last ps tt oo y x, _, _, _, e0Ow last ps tt oo y x, hb.mono fun x' s' h => by obtain ⟨rfl, rfl⟩ := h; rfl⟩
    | cons k l =>
      intro hb
      exact ⟨_, b1Ow last ps tt oo y _ _ _ x, _, _, _, e1Ow last ps tt oo y _ _ _ x, hb.mono fun x' s' h => by obtain ⟨rfl, rfl⟩ := h; rfl⟩
  · intro d hp
    have hlen : (selB (BOw tt oo y) d).length ≤ 1000000000 := by
      have h1 := selB_le (B := BOw tt oo y) (d := d)
      have h2 := hp.length_eq
      omega
    have hperm := selB_perm (B := BOw tt oo y) hp
    unfold IOw FinOw
    revert hlen hperm
    generalize selB (BOw tt oo y) ps = kp
    cases selB (BOw tt oo y) d with
    | nil =>
      intro _ hperm
      have := hperm.length_eq
      obtain rfl : kp = [] := List.length_eq_zero_iff.1 (by simpa using this.symm)
      exact ⟨_, b2Ow last ps tt oo y, TO.path fitOw (oOw_nx ..) (g0Ow last ps tt oo y) trivial ⟨rfl, rfl⟩⟩
    | cons k l =>
      intro hlen hperm
      have hle := hperm.length_eq
      cases kp with
      | nil => simp at hle
      | cons k' l' =>
        have e1 : l'.length = l.length := by simpa using hle.symm
        refine ⟨_, b3Ow last ps tt oo y _ _ _, TO.path fitOw (oOw_nx ..) (g1Ow last ps tt oo y _ _ _) ⟨by simp, rfl, by simp at hlen; omega, trivial⟩ ⟨rfl, ?_⟩⟩
        simp only [e1, srt_perm hperm]
theorem idsOw (hl : ps.length ≤ 1000000000) : TO Tryz.prog 31 [0, 1, 2] [] (oOw last ps tt oo y) c231 (oOw last ps tt oo y) (FinOw last ps tt oo y) := by
  refine TO.seq (c := zL c231) (d := zR c231) (TO.path fitOw (oOw_nx ..) (a0Ow last ps tt oo y) trivial ?_)
  refine TO.seq (c := zL (zR c231)) (d := zR (zR c231)) (TO.path fitOw (oOw_nx ..) (a1Ow last ps tt oo y) trivial ?_)
  refine TO.seq (c := zL (zR (zR c231))) (d := zR (zR (zR c231))) (TO.path fitOw (oOw_nx ..) (a2Ow last ps tt oo y) trivial ?_)
  exact TO.seq (c := rg231) (d := zR (zR (zR (zR c231)))) (rgOw hl)
theorem idsOw_none (hl : ps.length ≤ 1000000000) (h : selB (BOw tt oo y) ps = []) : SmallN Tryz.prog 80 argsOw 3 (hsI last ps (extOw tt oo y)) 3 (hsI last ps (extOw tt oo y)) (.one (.c .sl0)) :=
  TO.smallN (fn := Tryz.f80) (c := c231) Tryz.func80 body231 [0, 1, 2] topOw slOw_ok ((idsOw hl).mono fun x s h' => by
    obtain ⟨rfl, rfl⟩ := h'
    rw [h]
    exact ⟨.inr rfl, _, h0Ow last ps tt oo y, rfl, by kernel_rfl, by kernel_rfl⟩)
theorem idsOw_some (hl : ps.length ≤ 1000000000) {k : Int} {l : List Int} (h : selB (BOw tt oo y) ps = k :: l) : SmallN Tryz.prog 80 argsOw 3 (hsI last ps (extOw tt oo y)) 4 (hsI last ps ((3, rowOw (srt (k :: l)) (l.length + 1)) :: extOw tt oo y)) (.one (.c (.slu 3 1 0 (l.length + 1)))) :=
  TO.smallN (fn := Tryz.f80) (c := c231) Tryz.func80 body231 [0, 1, 2] topOw slOw_ok ((idsOw hl).mono fun x s h' => by
    obtain ⟨rfl, rfl⟩ := h'
    rw [h]
    exact ⟨.inr rfl, _, h1Ow last ps tt oo y _ _ _, rfl, by kernel_rfl, by kernel_rfl⟩)
end
end Go.Sx


namespace Go.Sx
open Go.Proofs Go.RowKit Go.Sort
set_option maxRecDepth 100000
/-! ### graph.ids (f231), called with closure f310: printed by gen_ids.py -/
abbrev fnOp : RV := .one (.c (.fn 202 [] [(2, 0)]))
noncomputable def extOp (tt : TypeId) (oo : Option Nat) (y : Int) : List (Nat × Blk) := [(2, .row tt true oo (.ints .i64 [y] 1))]
noncomputable def argsOp : List RV := [.one (.c (.ptr 0 0)), fnOp]
noncomputable def slOp : T RV := match setArgs 31 argsOp 0 .nil some with | some t => t | none => .nil
theorem slOp_ok : setArgs 31 argsOp 0 .nil some = some slOp := by kernel_rfl
noncomputable def sgOp : FuncId → Option SumA := fun f => match f with | 138 => some sumSort | 202 => some (sumB1 fun p x => p.at_ == x && !p.wr) | _ => none
theorem fitOp : Fit Tryz.prog (fun f => (sgOp f).map toSum) := ⟨zng, zmixed, SumAOK.sum fun f sm h => by
  unfold sgOp at h
  split at h
  · cases h; exact sumSort_ok
  · cases h; exact sumOpen_ok
  · cases h⟩
section
variable (last : Int) (ps : List (Int × Pt)) (tt : TypeId) (oo : Option Nat) (y : Int) (ks : List Int) (m nn : Nat) (x : Int × Pt)
abbrev BOp (tt : TypeId) (oo : Option Nat) (y : Int) (x : Pt) : Bool := x.at_ == y && !x.wr
noncomputable def oOp : S := ⟨slOp, hsI last ps (extOp tt oo y), 3, []⟩
noncomputable def stAOp : S := fgt [0, 1] 31 ⟨ofL [(0, .one (.c (.ptr 0 0))), (1, fnOp)], hsI last ps (extOp tt oo y), 3, []⟩
noncomputable def stBOp : S := fgt [0, 1, 5] 31 ⟨ofL [(0, .one (.c (.ptr 0 0))), (1, fnOp), (5, .one (.c .sl0))], hsI last ps (extOp tt oo y), 3, []⟩
noncomputable def S0Op : S := fgt [1, 5, 15] 31 ⟨ofL [(1, fnOp), (5, .one (.c .sl0)), (15, .one (.c (.ptr 3 0)))], hsI last ps (extOp tt oo y), 4, []⟩
abbrev rowOp (ks : List Int) (nn : Nat) : Blk := .row 3 false (some 1) (.ints .i64 ks nn)
noncomputable def S1Op : S := fgt [1, 5, 15] 31 ⟨ofL [(1, fnOp), (5, .one (.c (.slu 4 1 0 m))), (15, .one (.c (.ptr 3 0)))], hsI last ps ((4, rowOp ks nn) :: extOp tt oo y), 5, []⟩
noncomputable abbrev goOp (K pn keep ord : List Nat) (c : Code) (s : S) (o : List (Nat × Bool)) : Option (X × Bool × S × List Prop) :=
  execA Tryz.prog sgOp 300 31 c s ⟨0, o, []⟩ (gcP 3 K pn keep 31 ord)
theorem oOp_nx : (oOp last ps tt oo y).nx = 3 := by kernel_rfl
theorem a0Op : goOp [0, 1, 2] [] [0, 1] [] (zL c231) (oOp last ps tt oo y) [] = some (.normal, true, stAOp last ps tt oo y, []) := by kernel_rfl
theorem a1Op : goOp [0, 1, 2] [] [0, 1, 5] [] (zL (zR c231)) (stAOp last ps tt oo y) [] = some (.normal, true, stBOp last ps tt oo y, []) := by kernel_rfl
theorem a2Op : goOp [0, 1, 2] [] [0, 1, 5] [] (zL (zR (zR c231))) (stBOp last ps tt oo y) [] = some (.normal, true, stBOp last ps tt oo y, []) := by kernel_rfl
noncomputable def sAOp : S := match opsRun Tryz.prog false call0 31 opsA231.toList pre231 (stBOp last ps tt oo y) (fun s' => some s') with | some s => s | none => ⟨.nil, .nil, 0, []⟩
theorem c0Op : opsRun Tryz.prog false call0 31 opsA231.toList pre231 (stBOp last ps tt oo y) (lgE [0, 1, 2]) = some (true, sAOp last ps tt oo y) := by kernel_rfl
theorem c1Op : eval 31 (sAOp last ps tt oo y).sl (.tmp 14) = some (.one (.c (.map 1))) := by kernel_rfl
noncomputable def sIOp : S := match setS [(15, .one (.c (.ptr 3 0)))] 4 (sAOp last ps tt oo y) with | some s => s | none => ⟨.nil, .nil, 0, []⟩
theorem c2Op : setS [(15, .one (.c (.ptr 3 0)))] 4 (sAOp last ps tt oo y) = some (sIOp last ps tt oo y) := by kernel_rfl
theorem c4Op : gcS 3 [0, 1, 2] [3] [1, 5, 15] 31 [3] (sIOp last ps tt oo y) = some (S0Op last ps tt oo y) := by kernel_rfl
theorem c3Op : (sAOp last ps tt oo y).nx = 3 := by kernel_rfl
theorem d0Op : eval 31 (S0Op last ps tt oo y).sl (.tmp 15) = some (.one (.c (.ptr 3 0))) := by kernel_rfl
theorem d1Op : eval 31 (S1Op last ps tt oo y ks m nn).sl (.tmp 15) = some (.one (.c (.ptr 3 0))) := by kernel_rfl
noncomputable def G0Op : S := fgt [1, 5, 15, 18] 31 ⟨ofL [(1, fnOp), (5, .one (.c .sl0)), (15, .one (.c (.ptr 3 0))), (18, .tup [.c (.int .i64 x.1), .agg x.2.cells])], hsI last ps (extOp tt oo y), 4, []⟩
noncomputable def G1Op : S := fgt [1, 5, 15, 18] 31 ⟨ofL [(1, fnOp), (5, .one (.c (.slu 4 1 0 m))), (15, .one (.c (.ptr 3 0))), (18, .tup [.c (.int .i64 x.1), .agg x.2.cells])], hsI last ps ((4, rowOp ks nn) :: extOp tt oo y), 5, []⟩
theorem b0Op : setS [(16, .any), (17, .any), (18, .tup [.c (encP x).1, (encP x).2])] (S0Op last ps tt oo y).nx (S0Op last ps tt oo y) = some (G0Op last ps tt oo y x) := by kernel_rfl
theorem b1Op : setS [(16, .any), (17, .any), (18, .tup [.c (encP x).1, (encP x).2])] (S1Op last ps tt oo y ks m nn).nx (S1Op last ps tt oo y ks m nn) = some (G1Op last ps tt oo y ks m nn x) := by kernel_rfl
theorem b2Op : setS [(16, .any), (17, .any)] (S0Op last ps tt oo y).nx (S0Op last ps tt oo y) = some (S0Op last ps tt oo y) := by kernel_rfl
theorem b3Op : setS [(16, .any), (17, .any)] (S1Op last ps tt oo y ks m nn).nx (S1Op last ps tt oo y ks m nn) = some (S1Op last ps tt oo y ks m nn) := by kernel_rfl
noncomputable def E0Op : S := fgt [1, 5, 6, 7, 15] 31 ⟨ofL [(1, fnOp), (5, .one (.c .sl0)), (6, .one (.c (.int .i64 x.1))), (7, .one (.c (.ptr 4 0))), (15, .one (.c (.ptr 3 0)))], hsI last ps ((4, .row 86 false none (.cells x.2.cells)) :: extOp tt oo y), 5, []⟩
noncomputable def E1Op : S := fgt [1, 5, 6, 7, 15] 31 ⟨ofL [(1, fnOp), (5, .one (.c (.slu 4 1 0 m))), (6, .one (.c (.int .i64 x.1))), (7, .one (.c (.ptr 5 0))), (15, .one (.c (.ptr 3 0)))], hsI last ps ((4, rowOp ks nn) :: (5, .row 86 false none (.cells x.2.cells)) :: extOp tt oo y), 6, []⟩
noncomputable abbrev enOp (K pn keep ord : List Nat) (s : S) : Option (Bool × S) := opsRun Tryz.prog false call0 31 opsE231.toList rE231 s (gcE 3 K pn keep 31 ord)
theorem e0Op : enOp [0, 1, 2] [3] [1, 5, 6, 7, 15] [3, 4] (G0Op last ps tt oo y x) = some (true, E0Op last ps tt oo y x) := by kernel_rfl
theorem e1Op : enOp [0, 1, 2] [3] [1, 5, 6, 7, 15] [3, 4, 5] (G1Op last ps tt oo y ks m nn x) = some (true, E1Op last ps tt oo y ks m nn x) := by kernel_rfl
theorem f0Op : goOp [0, 1, 2] [3] [1, 5, 15] [3, 6] bd231 (E0Op last ps tt oo y x) [(0, true)] = some (.normal, true, S1Op last ps tt oo y [x.1] 1 1, [BOp tt oo y x.2 = true]) := by kernel_rfl
theorem f1Op : goOp [0, 1, 2] [3] [1, 5, 15] [3] bd231 (E0Op last ps tt oo y x) [(0, false)] = some (.normal, true, S0Op last ps tt oo y, [BOp tt oo y x.2 = false]) := by kernel_rfl
theorem f2Op : goOp [0, 1, 2] [3] [1, 5, 15] [3, 7] bd231 (E1Op last ps tt oo y ks m nn x) [(0, true), (3, true), (4, true)] = some (.normal, true, S1Op last ps tt oo y ((ks.drop 0).take (m * 1) ++ [x.1]) (m + 1) (m * 1 + 1), [decide (0 + m * 1 ≤ nn) = true, decide (fits Tryz.prog.types[3]! (m + 1) = true) = true, BOp tt oo y x.2 = true]) := by kernel_rfl
theorem f3Op : goOp [0, 1, 2] [3] [1, 5, 15] [3, 4] bd231 (E1Op last ps tt oo y ks m nn x) [(0, false)] = some (.normal, true, S1Op last ps tt oo y ks m nn, [BOp tt oo y x.2 = false]) := by kernel_rfl
noncomputable def F0Op : S := fgt [4] 31 ⟨ofL [(4, .one (.c .sl0))], hsI last ps (extOp tt oo y), 3, []⟩
noncomputable def F1Op : S := fgt [4] 31 ⟨ofL [(4, .one (.c (.slu 3 1 0 m)))], hsI last ps ((3, rowOp ks nn) :: extOp tt oo y), 4, []⟩
theorem g0Op : goOp [0, 1, 2] [] [4] [] (zR (zR (zR (zR c231)))) (S0Op last ps tt oo y) [] = some (.ret, true, F0Op last ps tt oo y, []) := by kernel_rfl
theorem g1Op : goOp [0, 1, 2] [] [4] [4] (zR (zR (zR (zR c231)))) (S1Op last ps tt oo y ks m nn) [] = some (.ret, true, F1Op last ps tt oo y (srt ks) m nn, [ks.length = m, nn = m, m < 4611686018427387904]) := by kernel_rfl
theorem h0Op : resOf Tryz.prog 31 (F0Op last ps tt oo y) Tryz.f80.results.toList = some [.c .sl0] := by kernel_rfl
theorem h1Op : resOf Tryz.prog 31 (F1Op last ps tt oo y ks m nn) Tryz.f80.results.toList = some [.c (.slu 3 1 0 m)] := by kernel_rfl
theorem hsOp_eq : hsI last ps (extOp tt oo y) = T.node (.node .nil (some (.mapR (ps.map encP))) .nil) (some (.row 179 true none (.cells [.int .i64 last, .map 1]))) (.node .nil (some (.row tt true oo (.ints .i64 [y] 1))) .nil) := by kernel_rfl
noncomputable def IOp (d : List (Int × Pt)) : S := match selB (BOp tt oo y) d with | [] => S0Op last ps tt oo y | k :: l => S1Op last ps tt oo y (k :: l) (l.length + 1) (l.length + 1)
end
section
variable {last : Int} {ps : List (Int × Pt)} {tt : TypeId} {oo : Option Nat} {y : Int}
theorem topOp : Top ⟨.nil, hsI last ps (extOp tt oo y), 3, []⟩ := fun i hi => by
  have hi' : 3 ≤ i := hi
  show (hsI last ps (extOp tt oo y)).get i = none
  rw [hsOp_eq, T.get3]
  simp only [if_neg (show ¬ i = 0 by omega), if_neg (show ¬ i = 1 by omega), if_neg (show ¬ i = 2 by omega)]
theorem bdOp (hl : ps.length ≤ 1000000000) (d : List (Int × Pt)) (x : Int × Pt) (r : List (Int × Pt)) (hp : (d ++ x :: r).Perm ps) (s2 : S)
    (hs2 : s2 = match selB (BOp tt oo y) d with | [] => E0Op last ps tt oo y x | k :: l => E1Op last ps tt oo y (k :: l) (l.length + 1) (l.length + 1) x) :
    TO Tryz.prog 31 [0, 1, 2] [3] (oOp last ps tt oo y) bd231 s2 fun x' s' => x' = .normal ∧ s' = IOp last ps tt oo y (d ++ [x]) := by
  subst hs2
  have hlen : (selB (BOp tt oo y) d).length ≤ 1000000000 := by
    have h1 := selB_le (B := BOp tt oo y) (d := d)
    have h2 := hp.length_eq
    simp at h2
    omega
  have hI : IOp last ps tt oo y (d ++ [x]) = match selB (BOp tt oo y) d ++ (if BOp tt oo y x.2 then [x.1] else []) with | [] => S0Op last ps tt oo y | k :: l => S1Op last ps tt oo y (k :: l) (l.length + 1) (l.length + 1) := by
    unfold IOp; rw [selB_snoc]
  rw [hI]
  revert hlen
  generalize selB (BOp tt oo y) d = ks
  intro hlen
  cases hB : BOp tt oo y x.2 with
  | true =>
    cases ks with
    | nil => exact TO.path fitOp (oOp_nx ..) (f0Op last ps tt oo y x) ⟨hB, trivial⟩ ⟨rfl, rfl⟩
    | cons k l =>
      refine TO.path fitOp (oOp_nx ..) (f2Op last ps tt oo y (k :: l) (l.length + 1) (l.length + 1) x) ⟨by simp, fits3 (by simpa using hlen), hB, trivial⟩ ⟨rfl, ?_⟩
      simp
  | false =>
    cases ks with
    | nil => exact TO.path fitOp (oOp_nx ..) (f1Op last ps tt oo y x) ⟨hB, trivial⟩ ⟨rfl, rfl⟩
    | cons k l =>
      refine TO.path fitOp (oOp_nx ..) (f3Op last ps tt oo y (k :: l) (l.length + 1) (l.length + 1) x) ⟨hB, trivial⟩ ⟨rfl, ?_⟩
      simp
abbrev FinOp (last : Int) (ps : List (Int × Pt)) (tt : TypeId) (oo : Option Nat) (y : Int) : X → S → Prop := fun x s1 => x = .ret ∧ s1 = match selB (BOp tt oo y) ps with | [] => F0Op last ps tt oo y | k :: l => F1Op last ps tt oo y (srt (k :: l)) (l.length + 1) (l.length + 1)
theorem rgOp (hl : ps.length ≤ 1000000000) : TO Tryz.prog 31 [0, 1, 2] [] (oOp last ps tt oo y) rg231 (stBOp last ps tt oo y) (ThenO Tryz.prog 31 [0, 1, 2] [] (oOp last ps tt oo y) (FinOp last ps tt oo y) (zR (zR (zR (zR c231))))) := by
  rw [rg231_eq]
  refine TO.range (enc := encP) (l := ps) (I := IOp last ps tt oo y) (nm := 1) zng form231 under304 (c0Op last ps tt oo y) (c1Op last ps tt oo y) (by simp) (by rw [oOp_nx]; decide) (.inr (by kernel_rfl)) (oOp_nx ..) (c3Op ..) (c2Op last ps tt oo y) (c4Op last ps tt oo y) ?_ ?_ ?_
  · intro d
    unfold IOp
    cases selB (BOp tt oo y) d with
    | nil => exact d0Op last ps tt oo y
    | cons k l => exact d1Op last ps tt oo y _ _ _
  · intro d x r hp
    have hb := bdOp (last := last) (tt := tt) (oo := oo) (y := y) hl d x r hp _ rfl
    unfold IOp
    revert hb
    cases hk : selB (BOp tt oo y) d with
    | nil =>
      intro hb
      exact ⟨_, b0Op last ps tt oo y x, _, _, _, e0Op last ps tt oo y x, hb.mono fun x' s' h => by obtain ⟨rfl, rfl⟩ := h; rfl⟩
    | cons k l =>
      intro hb
      exact ⟨_, b1Op last ps tt oo y _ _ _ x, _, _, _, e1Op last ps tt oo y _ _ _ x, hb.mono fun x' s' h => by obtain ⟨rfl, rfl⟩ := h; rfl⟩
  · intro d hp
    have hlen : (selB (BOp tt oo y) d).length ≤ 1000000000 := by
      have h1 := selB_le (B := BOp tt oo y) (d := d)
      have h2 := hp.length_eq
      omega
    have hperm := selB_perm (B := BOp tt oo y) hp
    unfold IOp FinOp
    revert hlen hperm
    generalize selB (BOp tt oo y) ps = kp
    cases selB (BOp tt oo y) d with
    | nil =>
      intro _ hperm
      have := hperm.length_eq
      obtain rfl : kp = [] := List.length_eq_zero_iff.1 (by simpa using this.symm)
      exact ⟨_, b2Op last ps tt oo y, TO.path fitOp (oOp_nx ..) (g0Op last ps tt oo y) trivial ⟨rfl, rfl⟩⟩
    | cons k l =>
      intro hlen hperm
      have hle := hperm.length_eq
      cases kp with
      | nil => simp at hle
      | cons k' l' =>
        have e1 : l'.length = l.length := by simpa using hle.symm
        refine ⟨_, b3Op last ps tt oo y _ _ _, TO.path fitOp (oOp_nx ..) (g1Op last ps tt oo y _ _ _) ⟨by simp, rfl, by simp at hlen; omega, trivial⟩ ⟨rfl, ?_⟩⟩
        simp only [e1, srt_perm hperm]
theorem idsOp (hl : ps.length ≤ 1000000000) : TO Tryz.prog 31 [0, 1, 2] [] (oOp last ps tt oo y) c231 (oOp last ps tt oo y) (FinOp last ps tt oo y) := by
  refine TO.seq (c := zL c231) (d := zR c231) (TO.path fitOp (oOp_nx ..) (a0Op last ps tt oo y) trivial ?_)
  refine TO.seq (c := zL (zR c231)) (d := zR (zR c231)) (TO.path fitOp (oOp_nx ..) (a1Op last ps tt oo y) trivial ?_)
  refine TO.seq (c := zL (zR (zR c231))) (d := zR (zR (zR c231))) (TO.path fitOp (oOp_nx ..) (a2Op last ps tt oo y) trivial ?_)
  exact TO.seq (c := rg231) (d := zR (zR (zR (zR c231)))) (rgOp hl)
theorem idsOp_none (hl : ps.length ≤ 1000000000) (h : selB (BOp tt oo y) ps = []) : SmallN Tryz.prog 80 argsOp 3 (hsI last ps (extOp tt oo y)) 3 (hsI last ps (extOp tt oo y)) (.one (.c .sl0)) :=
  TO.smallN (fn := Tryz.f80) (c := c231) Tryz.func80 body231 [0, 1, 2] topOp slOp_ok ((idsOp hl).mono fun x s h' => by
    obtain ⟨rfl, rfl⟩ := h'
    rw [h]
    exact ⟨.inr rfl, _, h0Op last ps tt oo y, rfl, by kernel_rfl, by kernel_rfl⟩)
theorem idsOp_some (hl : ps.length ≤ 1000000000) {k : Int} {l : List Int} (h : selB (BOp tt oo y) ps = k :: l) : SmallN Tryz.prog 80 argsOp 3 (hsI last ps (extOp tt oo y)) 4 (hsI last ps ((3, rowOp (srt (k :: l)) (l.length + 1)) :: extOp tt oo y)) (.one (.c (.slu 3 1 0 (l.length + 1)))) :=
  TO.smallN (fn := Tryz.f80) (c := c231) Tryz.func80 body231 [0, 1, 2] topOp slOp_ok ((idsOp hl).mono fun x s h' => by
    obtain ⟨rfl, rfl⟩ := h'
    rw [h]
    exact ⟨.inr rfl, _, h1Op last ps tt oo y _ _ _, rfl, by kernel_rfl, by kernel_rfl⟩)
end
end Go.Sx


namespace Go.Sx
open Go.Proofs Go.RowKit Go.Sort
set_option maxRecDepth 100000
/-! ### graph.ids in closed runs -/
theorem CallInfo.frameRO {P : Program} {f : FuncId} {args : List RV} {v : RV} {k k' : Nat} {hs hs' : T Blk} {θ : Nat → Nat} {s : S} {hp' : T Blk} {nx' : Nat} (ht : Top s) (hfn : ∃ fn, P.funcs[f]? = some fn ∧ fn.body.isNone = false)
    (hC : SmallN P f args k hs k' hs' v) (hkk : k ≤ k') (ha : args.all (inR k) = true)
    (hin : ∀ i x, hs.get i = some x → i < k ∧ ∃ y, s.hp.get (θ i) = some y ∧ RoOf k θ x y) (hθ : ∀ i, k ≤ i → θ i = s.nx + (i - k)) (hnx : nx' = s.nx + (k' - k))
    (hhp : ∀ nm, hp'.get nm = if nm < s.nx then s.hp.get nm else if nm < s.nx + (k' - k) then (hs'.get (nm - s.nx + k)).map (renB θ) else none) :
    CallInfo P f (args.map (renR θ)) s (renR θ v) { s with hp := hp', nx := nx', lg := [] ++ s.lg } [] := by
  subst hnx
  have hro : ∀ i x, hs.get i = some x → x.wr = true → False := fun i x hx hw => by
    obtain ⟨_, y, _, h, _⟩ := hin i x hx
    rw [h] at hw; cases hw
  refine CallInfo.frameN (hs := hs) (hs' := hs') (k := k) (k' := k') ht hfn hC hkk ha (fun i x hx => ?_) (fun i j x y hx _ hw => (hro i x hx hw).elim) hθ (fun nm h _ => by rw [hhp, if_pos h]) (fun i x hx hw => (hro i x hx hw).elim) (fun nm h => by rw [hhp, if_neg (by omega)]) (fun nm => ⟨fun h => (List.not_mem_nil h).elim, fun ⟨i, x, h1, h2, _⟩ => (hro i x h1 h2).elim⟩)
  obtain ⟨h1, y, h2, h3⟩ := hin i x hx
  exact ⟨h1, ht.lt h2, .inr ⟨h3.1, y, h2, h3⟩⟩
def insI (x : Int) : List Int → List Int
  | [] => [x]
  | y :: l => if x ≤ y then x :: y :: l else y :: insI x l
def sortI : List Int → List Int
  | [] => []
  | x :: l => insI x (sortI l)
theorem insI_perm (x : Int) : ∀ l, (insI x l).Perm (x :: l)
  | [] => List.Perm.refl _
  | y :: l => by
    unfold insI
    split
    · exact List.Perm.refl _
    · exact ((insI_perm x l).cons y).trans (List.Perm.swap x y l)
theorem sortI_perm : ∀ l, (sortI l).Perm l
  | [] => List.Perm.refl _
  | x :: l => (insI_perm x _).trans ((sortI_perm l).cons x)
theorem insI_sorted (x : Int) : ∀ {l : List Int}, l.Pairwise (fun a b => a ≤ b) → (insI x l).Pairwise (fun a b => a ≤ b)
  | [], _ => by simp [insI]
  | y :: l, h => by
    rw [List.pairwise_cons] at h
    unfold insI
    split
    · rename_i hxy
      refine List.pairwise_cons.2 ⟨fun z hz => ?_, List.pairwise_cons.2 h⟩
      rcases List.mem_cons.1 hz with rfl | hz
      · exact hxy
      · exact Int.le_trans hxy (h.1 z hz)
    · rename_i hxy
      refine List.pairwise_cons.2 ⟨fun z hz => ?_, insI_sorted x h.2⟩
      rcases List.mem_cons.1 ((insI_perm x l).mem_iff.1 hz) with rfl | hz
      · omega
      · exact h.1 z hz
theorem sortI_sorted : ∀ l : List Int, (sortI l).Pairwise (fun a b => a ≤ b)
  | [] => List.Pairwise.nil
  | x :: l => insI_sorted x (sortI_sorted l)
theorem srt_sortI (l : List Int) : srt l = sortI l := by
  have t1 : ∀ a b c : Int, decide (a ≤ b) = true → decide (b ≤ c) = true → decide (a ≤ c) = true := fun a b c => by simp; omega
  have t2 : ∀ a b : Int, (decide (a ≤ b) || decide (b ≤ a)) = true := fun a b => by simp; omega
  have p1 := List.pairwise_mergeSort t1 t2 l
  have p2 : (sortI l).Pairwise (fun x y => decide (x ≤ y) = true) := (sortI_sorted l).imp (fun h => by simpa using h)
  refine ((List.mergeSort_perm l _).trans (sortI_perm l).symm).eq_of_pairwise (le := fun x y => decide (x ≤ y) = true) ?_ p1 p2
  intro a b _ _ h1 h2
  simp at h1 h2; omega
def ptOf : AV → Option Pt
  | .agg [.int .i64 a, .int .i64 b, .int .i64 c, _, .int .i64 e, _, .int .i64 h, .int .i64 i, .bool j] => some ⟨a, b, c, e, h, i, j⟩
  | _ => none
def ptsOf : List (Cell × AV) → Option (List (Int × Pt))
  | [] => some []
  | (.int .i64 k, v) :: l => match ptOf v, ptsOf l with | some p, some r => some ((k, p) :: r) | _, _ => none
  | _ :: _ => none
theorem ptOf_wk {ρ ρ' : Rho} {v : AV} {p : Pt} {V : Value} (h : ptOf v = some p) (hr : AVR ρ v V) : AVR ρ' (.agg p.cells) V := by
  unfold ptOf at h
  split at h <;> try (cases h; done)
  simp only [Option.some.injEq] at h; subst h
  exact pt_wk (ρ := ρ) hr
theorem ptsOf_wk {ρ ρ' : Rho} : ∀ {es : List (Cell × AV)} {r : List (Int × Pt)} {ents : List MapEntry}, ptsOf es = some r → EsR ρ es ents → EsR ρ' (r.map encP) ents
  | [], r, ents, h, hr => by simp only [ptsOf, Option.some.injEq] at h; subst h; exact hr
  | (c, v) :: l, r, ents, h, ⟨e, es', h1, h2, h3, h4⟩ => by
    unfold ptsOf at h
    split at h
    · rename_i e; cases e
    · rename_i k v' l' e
      cases e
      split at h <;> try (cases h; done)
      rename_i p r' hp hr'
      simp only [Option.some.injEq] at h; subst h
      exact ⟨e, es', h1, ptOf_wk hp h2, ptsOf_wk hr' h3, h4⟩
    · cases h
theorem RoOf.pts {k : Nat} {θ : Nat → Nat} {es : List (Cell × AV)} {r : List (Int × Pt)} (h : ptsOf es = some r) : RoOf k θ (.mapR (r.map encP)) (.map es) :=
  ⟨rfl, fun _ _ _ ⟨ents, cl, h1, h2, h3⟩ => ⟨ents, cl, h1, ptsOf_wk h h2, h3⟩⟩
theorem wkE_isI {es : List (Cell × AV)} (h : isI es = true) : wkE es = es := by
  rw [← toEs_unI h, wkE_toEs]
/-- what is asked for -/
noncomputable def selC (f : FuncId) (caps : List (Nat × Nat)) (hp : T Blk) (ps : List (Int × Pt)) : Option (List Int) :=
  match f, caps with
  | 202, [(b, 0)] => match hp.get b with | some (.row _ _ _ (.ints .i64 [y] 1)) => some (selB (fun p => p.at_ == y && !p.wr) ps) | _ => none
  | 81, [(b, 0)] => match hp.get b with | some (.row _ _ _ (.ints .i64 [y] 1)) => some (selB (fun p => p.owner == y) ps) | _ => none
  | _, _ => none
noncomputable def ansC (ks : List Int) (hp : T Blk) (nx : Nat) : Option (RV × T Blk × Nat × List Nat) :=
  match ks with
  | [] => some (.one (.c .sl0), hp, nx, [])
  | k :: l => fInts (sortI (k :: l)) fun r => fNat (l.length + 1) fun n => T.set depth hp nx (some (.row 3 false (some 1) (.ints .i64 r n))) fun hp => fNat (nx + 1) fun nx' => some (.one (.c (.slu nx 1 0 n)), hp, nx', [])
noncomputable def sumIds : Sum := fun args hp nx =>
  match args with
  | [.one (.c (.ptr g 0)), .one (.c (.fn f [] caps))] => match hp.get g with
    | some (.row 179 _ none (.cells [.int .i64 _, .map m])) => match hp.get m with
      | some (.map es) => match ptsOf es with
        | some ps => match Nat.ble ps.length 1000000000, selC f caps hp ps with
          | true, some ks => ansC ks hp nx
          | _, _ => none
        | none => none
      | _ => none
    | _ => none
  | _ => none
/-- an answer of nothing, or of a new row -/
theorem ans_ok {k0 : Nat} {hs : T Blk} {args args' : List RV} {s : S} {ps : List (Int × Pt)} {B : Pt → Bool} {hs' : Int → List Int → T Blk} {θ : Nat → Nat} {v : RV} {hp : T Blk} {nx : Nat} {lg : List Nat} (ht : Top s)
    (h0 : selB B ps = [] → SmallN Tryz.prog 80 args k0 hs k0 hs (.one (.c .sl0)))
    (h1 : ∀ k l, selB B ps = k :: l → SmallN Tryz.prog 80 args k0 hs (k0 + 1) (hs' k l) (.one (.c (.slu k0 1 0 (l.length + 1)))))
    (hg : ∀ k l, (hs' k l).get k0 = some (.row 3 false (some 1) (.ints .i64 (srt (k :: l)) (l.length + 1))))
    (ha : args.all (inR k0) = true) (hargs : args.map (renR θ) = args')
    (hin : ∀ i x, hs.get i = some x → i < k0 ∧ ∃ y, s.hp.get (θ i) = some y ∧ RoOf k0 θ x y) (hθ : ∀ i, k0 ≤ i → θ i = s.nx + (i - k0))
    (h : ansC (selB B ps) s.hp s.nx = some (v, hp, nx, lg)) : CallInfo Tryz.prog 80 args' s v { s with hp := hp, nx := nx, lg := lg ++ s.lg } lg := by
  subst hargs
  cases hk : selB B ps with
  | nil =>
    rw [hk] at h
    simp only [ansC, Option.some.injEq, Prod.mk.injEq] at h
    obtain ⟨rfl, rfl, rfl, rfl⟩ := h
    have := CallInfo.frameRO (θ := θ) (hp' := s.hp) (nx' := s.nx) ht ⟨_, Tryz.func80, rfl⟩ (h0 hk) (Nat.le_refl _) ha hin hθ (by omega) (fun nm => by
      split
      · rfl
      · rw [if_neg (by omega)]; exact ht nm (by show s.nx ≤ nm; omega))
    exact this
  | cons k l =>
    rw [hk] at h
    simp only [ansC, fInts_eq, fNat_eq] at h
    obtain ⟨t', h, q⟩ := T.set_ok _ _ _ _ _ _ h
    simp only [Option.some.injEq, Prod.mk.injEq] at h
    obtain ⟨rfl, rfl, rfl, rfl⟩ := h
    have := CallInfo.frameRO (θ := θ) (hp' := t') (nx' := s.nx + 1) ht ⟨_, Tryz.func80, rfl⟩ (h1 k l hk) (Nat.le_succ _) ha hin hθ (by omega) (fun nm => by
      rw [q]
      by_cases e : nm = s.nx
      · subst e
        rw [if_pos rfl, if_neg (by omega), if_pos (by omega), show s.nx - s.nx + k0 = k0 by omega, hg, srt_sortI]
        rfl
      · rw [if_neg e]
        split
        · rfl
        · rw [if_neg (by omega)]; exact ht nm (by show s.nx ≤ nm; omega))
    simp only [renR, renA, renC, hθ k0 (Nat.le_refl _), Nat.sub_self, Nat.add_zero] at this
    exact this
section
variable {s : S} {g m : Nat} {last : Int} {es : List (Cell × AV)} {ps : List (Int × Pt)} {ro : Bool} (ht : Top s) (hg : s.hp.get g = some (.row 179 ro none (.cells [.int .i64 last, .map m]))) (hm : s.hp.get m = some (.map es)) (hps : ptsOf es = some ps) (hl : ps.length ≤ 1000000000)
  {v : RV} {hp : T Blk} {nx : Nat} {lg : List Nat}
include ht hg hm hps hl
theorem clOp {tt : TypeId} {oo : Option Nat} {y : Int} {b : Nat} {rb : Bool} (hb : s.hp.get b = some (.row tt rb oo (.ints .i64 [y] 1))) (h : ansC (selB (fun p => p.at_ == y && !p.wr) ps) s.hp s.nx = some (v, hp, nx, lg)) : CallInfo Tryz.prog 80 [.one (.c (.ptr g 0)), .one (.c (.fn 202 [] [(b, 0)]))] s v { s with hp := hp, nx := nx, lg := lg ++ s.lg } lg := by
  refine ans_ok (k0 := 3) (hs := hsI last ps (extOp tt oo y)) (args := argsOp) (B := fun p => p.at_ == y && !p.wr) (hs' := fun k l => hsI last ps ((3, rowOp (srt (k :: l)) (l.length + 1)) :: extOp tt oo y)) (θ := fun i => if i = 0 then g else if i = 1 then m else if i = 2 then b else s.nx + (i - 3)) ht (fun h => idsOp_none hl h) (fun k l h => idsOp_some hl h) (fun k l => by kernel_rfl) rfl rfl ?_ (fun i hi => by rw [if_neg (by omega), if_neg (by omega), if_neg (by omega)]) h
  intro i x hx
  rw [hsOp_eq, T.get3] at hx
  split at hx
  · rename_i e; subst e; cases hx
    exact ⟨by omega, _, hg, RoOf.cells (l := [.int .i64 last, .map 1]) rfl⟩
  · split at hx
    · rename_i e; subst e; cases hx
      exact ⟨by omega, _, hm, RoOf.pts hps⟩
    · split at hx
      · rename_i e; subst e; cases hx
        exact ⟨by omega, _, hb, RoOf.ints⟩
      · cases hx
theorem clOw {tt : TypeId} {oo : Option Nat} {y : Int} {b : Nat} {rb : Bool} (hb : s.hp.get b = some (.row tt rb oo (.ints .i64 [y] 1))) (h : ansC (selB (fun p => p.owner == y) ps) s.hp s.nx = some (v, hp, nx, lg)) : CallInfo Tryz.prog 80 [.one (.c (.ptr g 0)), .one (.c (.fn 81 [] [(b, 0)]))] s v { s with hp := hp, nx := nx, lg := lg ++ s.lg } lg := by
  refine ans_ok (k0 := 3) (hs := hsI last ps (extOw tt oo y)) (args := argsOw) (B := fun p => p.owner == y) (hs' := fun k l => hsI last ps ((3, rowOw (srt (k :: l)) (l.length + 1)) :: extOw tt oo y)) (θ := fun i => if i = 0 then g else if i = 1 then m else if i = 2 then b else s.nx + (i - 3)) ht (fun h => idsOw_none hl h) (fun k l h => idsOw_some hl h) (fun k l => by kernel_rfl) rfl rfl ?_ (fun i hi => by rw [if_neg (by omega), if_neg (by omega), if_neg (by omega)]) h
  intro i x hx
  rw [hsOw_eq, T.get3] at hx
  split at hx
  · rename_i e; subst e; cases hx
    exact ⟨by omega, _, hg, RoOf.cells (l := [.int .i64 last, .map 1]) rfl⟩
  · split at hx
    · rename_i e; subst e; cases hx
      exact ⟨by omega, _, hm, RoOf.pts hps⟩
    · split at hx
      · rename_i e; subst e; cases hx
        exact ⟨by omega, _, hb, RoOf.ints⟩
      · cases hx
end
theorem sumIds_ok (args : List RV) (s : S) (v : RV) (hp : T Blk) (nx : Nat) (lg : List Nat) (ht : Top s) (h : sumIds args s.hp s.nx = some (v, hp, nx, lg)) : CallInfo Tryz.prog 80 args s v { s with hp := hp, nx := nx, lg := lg ++ s.lg } lg := by
  unfold sumIds at h
  split at h <;> try (cases h; done)
  rename_i g f caps
  split at h <;> try (cases h; done)
  rename_i ro last m hg
  split at h <;> try (cases h; done)
  rename_i es hm
  split at h <;> try (cases h; done)
  rename_i ps hps
  split at h <;> try (cases h; done)
  rename_i ks hl hks
  have hl' := Nat.le_of_ble_eq_true hl
  unfold selC at hks
  split at hks <;> try (cases hks; done)
  · split at hks <;> try (cases hks; done)
    rename_i hb
    simp only [Option.some.injEq] at hks; subst hks; exact clOp ht hg hm hps hl' hb h
  · split at hks <;> try (cases hks; done)
    rename_i hb
    simp only [Option.some.injEq] at hks; subst hks; exact clOw ht hg hm hps hl' hb h
end Go.Sx

