/-
  Parts of the executor Sx over the model's code (any program), or of this seat's walks: words and proofs that the row's text uses.
-/
import Derived.Test.YtiloinplnmnamaaGreatBS
namespace Go.Sx
open Go.Proofs Go.RowKit Go.Sort
set_option maxRecDepth 100000
/-! ### graph.ids (f231), called with closure f232: printed by gen_ids.py -/
abbrev fnAl : RV := .one (.c (.fn 232 [] []))
noncomputable def extAl  : List (Nat × Blk) := []
noncomputable def argsAl : List RV := [.one (.c (.ptr 0 0)), fnAl]
noncomputable def slAl : T RV := match setArgs 31 argsAl 0 .nil some with | some t => t | none => .nil
theorem slAl_ok : setArgs 31 argsAl 0 .nil some = some slAl := by kernel_rfl
noncomputable def sgAl : FuncId → Option SumA := fun f => match f with | 312 => some sumSort | 232 => some (sumB0 fun _ => true) | _ => none
theorem fitAl : Fit Tryz.prog (fun f => (sgAl f).map toSum) := ⟨zng, zmixed, SumAOK.sum fun f sm h => by
  unfold sgAl at h
  split at h
  · cases h; exact sumSort_ok
  · cases h; exact sumAll_ok
  · cases h⟩
section
variable (last : Int) (ps : List (Int × Pt))  (ks : List Int) (m nn : Nat) (x : Int × Pt)
abbrev BAl  (x : Pt) : Bool := true
noncomputable def oAl : S := ⟨slAl, hsI last ps (extAl ), 2, []⟩
noncomputable def stAAl : S := fgt [0, 1] 31 ⟨ofL [(0, .one (.c (.ptr 0 0))), (1, fnAl)], hsI last ps (extAl ), 2, []⟩
noncomputable def stBAl : S := fgt [0, 1, 5] 31 ⟨ofL [(0, .one (.c (.ptr 0 0))), (1, fnAl), (5, .one (.c .sl0))], hsI last ps (extAl ), 2, []⟩
noncomputable def S0Al : S := fgt [1, 5, 15] 31 ⟨ofL [(1, fnAl), (5, .one (.c .sl0)), (15, .one (.c (.ptr 2 0)))], hsI last ps (extAl ), 3, []⟩
abbrev rowAl (ks : List Int) (nn : Nat) : Blk := .row 3 false (some 1) (.ints .i64 ks nn)
noncomputable def S1Al : S := fgt [1, 5, 15] 31 ⟨ofL [(1, fnAl), (5, .one (.c (.slu 3 1 0 m))), (15, .one (.c (.ptr 2 0)))], hsI last ps ((3, rowAl ks nn) :: extAl ), 4, []⟩
noncomputable abbrev goAl (K pn keep ord : List Nat) (c : Code) (s : S) (o : List (Nat × Bool)) : Option (X × Bool × S × List Prop) :=
  execA Tryz.prog sgAl 300 31 c s ⟨0, o, []⟩ (gcP 2 K pn keep 31 ord)
theorem oAl_nx : (oAl last ps ).nx = 2 := by kernel_rfl
theorem a0Al : goAl [0, 1] [] [0, 1] [] (zL c231) (oAl last ps ) [] = some (.normal, true, stAAl last ps , []) := by kernel_rfl
theorem a1Al : goAl [0, 1] [] [0, 1, 5] [] (zL (zR c231)) (stAAl last ps ) [] = some (.normal, true, stBAl last ps , []) := by kernel_rfl
theorem a2Al : goAl [0, 1] [] [0, 1, 5] [] (zL (zR (zR c231))) (stBAl last ps ) [] = some (.normal, true, stBAl last ps , []) := by kernel_rfl
noncomputable def sAAl : S := match opsRun Tryz.prog false call0 31 opsA231.toList pre231 (stBAl last ps ) (fun s' => some s') with | some s => s | none => ⟨.nil, .nil, 0, []⟩
theorem c0Al : opsRun Tryz.prog false call0 31 opsA231.toList pre231 (stBAl last ps ) (lgE [0, 1]) = some (true, sAAl last ps ) := by kernel_rfl
theorem c1Al : eval 31 (sAAl last ps ).sl (.tmp 14) = some (.one (.c (.map 1))) := by kernel_rfl
noncomputable def sIAl : S := match setS [(15, .one (.c (.ptr 2 0)))] 3 (sAAl last ps ) with | some s => s | none => ⟨.nil, .nil, 0, []⟩
theorem c2Al : setS [(15, .one (.c (.ptr 2 0)))] 3 (sAAl last ps ) = some (sIAl last ps ) := by kernel_rfl
theorem c4Al : gcS 2 [0, 1] [2] [1, 5, 15] 31 [2] (sIAl last ps ) = some (S0Al last ps ) := by kernel_rfl
theorem c3Al : (sAAl last ps ).nx = 2 := by kernel_rfl
theorem d0Al : eval 31 (S0Al last ps ).sl (.tmp 15) = some (.one (.c (.ptr 2 0))) := by kernel_rfl
theorem d1Al : eval 31 (S1Al last ps  ks m nn).sl (.tmp 15) = some (.one (.c (.ptr 2 0))) := by kernel_rfl
noncomputable def G0Al : S := fgt [1, 5, 15, 18] 31 ⟨ofL [(1, fnAl), (5, .one (.c .sl0)), (15, .one (.c (.ptr 2 0))), (18, .tup [.c (.int .i64 x.1), .agg x.2.cells])], hsI last ps (extAl ), 3, []⟩
noncomputable def G1Al : S := fgt [1, 5, 15, 18] 31 ⟨ofL [(1, fnAl), (5, .one (.c (.slu 3 1 0 m))), (15, .one (.c (.ptr 2 0))), (18, .tup [.c (.int .i64 x.1), .agg x.2.cells])], hsI last ps ((3, rowAl ks nn) :: extAl ), 4, []⟩
theorem b0Al : setS [(16, .any), (17, .any), (18, .tup [.c (encP x).1, (encP x).2])] (S0Al last ps ).nx (S0Al last ps ) = some (G0Al last ps  x) := by kernel_rfl
theorem b1Al : setS [(16, .any), (17, .any), (18, .tup [.c (encP x).1, (encP x).2])] (S1Al last ps  ks m nn).nx (S1Al last ps  ks m nn) = some (G1Al last ps  ks m nn x) := by kernel_rfl
theorem b2Al : setS [(16, .any), (17, .any)] (S0Al last ps ).nx (S0Al last ps ) = some (S0Al last ps ) := by kernel_rfl
theorem b3Al : setS [(16, .any), (17, .any)] (S1Al last ps  ks m nn).nx (S1Al last ps  ks m nn) = some (S1Al last ps  ks m nn) := by kernel_rfl
noncomputable def E0Al : S := fgt [1, 5, 6, 7, 15] 31 ⟨ofL [(1, fnAl), (5, .one (.c .sl0)), (6, .one (.c (.int .i64 x.1))), (7, .one (.c (.ptr 3 0))), (15, .one (.c (.ptr 2 0)))], hsI last ps ((3, .row 74 false none (.cells x.2.cells)) :: extAl ), 4, []⟩
noncomputable def E1Al : S := fgt [1, 5, 6, 7, 15] 31 ⟨ofL [(1, fnAl), (5, .one (.c (.slu 3 1 0 m))), (6, .one (.c (.int .i64 x.1))), (7, .one (.c (.ptr 4 0))), (15, .one (.c (.ptr 2 0)))], hsI last ps ((3, rowAl ks nn) :: (4, .row 74 false none (.cells x.2.cells)) :: extAl ), 5, []⟩
noncomputable abbrev enAl (K pn keep ord : List Nat) (s : S) : Option (Bool × S) := opsRun Tryz.prog false call0 31 opsE231.toList rE231 s (gcE 2 K pn keep 31 ord)
theorem e0Al : enAl [0, 1] [2] [1, 5, 6, 7, 15] [2, 3] (G0Al last ps  x) = some (true, E0Al last ps  x) := by kernel_rfl
theorem e1Al : enAl [0, 1] [2] [1, 5, 6, 7, 15] [2, 3, 4] (G1Al last ps  ks m nn x) = some (true, E1Al last ps  ks m nn x) := by kernel_rfl
theorem f0Al : goAl [0, 1] [2] [1, 5, 15] [2, 5] bd231 (E0Al last ps  x) [(0, true)] = some (.normal, true, S1Al last ps  [x.1] 1 1, [BAl  x.2 = true]) := by kernel_rfl
theorem f1Al : goAl [0, 1] [2] [1, 5, 15] [2] bd231 (E0Al last ps  x) [(0, false)] = some (.normal, true, S0Al last ps , [BAl  x.2 = false]) := by kernel_rfl
theorem f2Al : goAl [0, 1] [2] [1, 5, 15] [2, 6] bd231 (E1Al last ps  ks m nn x) [(0, true), (3, true), (4, true)] = some (.normal, true, S1Al last ps  ((ks.drop 0).take (m * 1) ++ [x.1]) (m + 1) (m * 1 + 1), [decide (0 + m * 1 ≤ nn) = true, decide (fits Tryz.prog.types[3]! (m + 1) = true) = true, BAl  x.2 = true]) := by kernel_rfl
theorem f3Al : goAl [0, 1] [2] [1, 5, 15] [2, 3] bd231 (E1Al last ps  ks m nn x) [(0, false)] = some (.normal, true, S1Al last ps  ks m nn, [BAl  x.2 = false]) := by kernel_rfl
noncomputable def F0Al : S := fgt [4] 31 ⟨ofL [(4, .one (.c .sl0))], hsI last ps (extAl ), 2, []⟩
noncomputable def F1Al : S := fgt [4] 31 ⟨ofL [(4, .one (.c (.slu 2 1 0 m)))], hsI last ps ((2, rowAl ks nn) :: extAl ), 3, []⟩
theorem g0Al : goAl [0, 1] [] [4] [] (zR (zR (zR (zR c231)))) (S0Al last ps ) [] = some (.ret, true, F0Al last ps , []) := by kernel_rfl
theorem g1Al : goAl [0, 1] [] [4] [3] (zR (zR (zR (zR c231)))) (S1Al last ps  ks m nn) [] = some (.ret, true, F1Al last ps  (srt ks) m nn, [ks.length = m, nn = m, m < 4611686018427387904]) := by kernel_rfl
theorem h0Al : resOf Tryz.prog 31 (F0Al last ps ) Tryz.f231.results.toList = some [.c .sl0] := by kernel_rfl
theorem h1Al : resOf Tryz.prog 31 (F1Al last ps  ks m nn) Tryz.f231.results.toList = some [.c (.slu 2 1 0 m)] := by kernel_rfl
theorem hsAl_eq : hsI last ps (extAl ) = T.node (.node .nil (some (.mapR (ps.map encP))) .nil) (some (.row 306 true none (.cells [.int .i64 last, .map 1]))) .nil := by kernel_rfl
noncomputable def IAl (d : List (Int × Pt)) : S := match selB (BAl ) d with | [] => S0Al last ps  | k :: l => S1Al last ps  (k :: l) (l.length + 1) (l.length + 1)
end
section
variable {last : Int} {ps : List (Int × Pt)} 
theorem topAl : Top ⟨.nil, hsI last ps (extAl ), 2, []⟩ := fun i hi => by
  have hi' : 2 ≤ i := hi
  show (hsI last ps (extAl )).get i = none
  rw [hsAl_eq, T.get2]
  simp only [if_neg (show ¬ i = 0 by omega), if_neg (show ¬ i = 1 by omega)]
theorem bdAl (hl : ps.length ≤ 1000000000) (d : List (Int × Pt)) (x : Int × Pt) (r : List (Int × Pt)) (hp : (d ++ x :: r).Perm ps) (s2 : S)
    (hs2 : s2 = match selB (BAl ) d with | [] => E0Al last ps  x | k :: l => E1Al last ps  (k :: l) (l.length + 1) (l.length + 1) x) :
    TO Tryz.prog 31 [0, 1] [2] (oAl last ps ) bd231 s2 fun x' s' => x' = .normal ∧ s' = IAl last ps  (d ++ [x]) := by
  subst hs2
  have hlen : (selB (BAl ) d).length ≤ 1000000000 := by
    have h1 := selB_le (B := BAl ) (d := d)
    have h2 := hp.length_eq
    simp at h2
    omega
  have hI : IAl last ps  (d ++ [x]) = match selB (BAl ) d ++ (if BAl  x.2 then [x.1] else []) with | [] => S0Al last ps  | k :: l => S1Al last ps  (k :: l) (l.length + 1) (l.length + 1) := by
    unfold IAl; rw [selB_snoc]
  rw [hI]
  revert hlen
  generalize selB (BAl ) d = ks
  intro hlen
  cases hB : BAl  x.2 with
  | true =>
    cases ks with
    | nil => exact TO.path fitAl (oAl_nx ..) (f0Al last ps  x) ⟨hB, trivial⟩ ⟨rfl, rfl⟩
    | cons k l =>
      refine TO.path fitAl (oAl_nx ..) (f2Al last ps  (k :: l) (l.length + 1) (l.length + 1) x) ⟨by simp, fits3 (by simpa using hlen), hB, trivial⟩ ⟨rfl, ?_⟩
      simp
  | false =>
    cases ks with
    | nil => exact TO.path fitAl (oAl_nx ..) (f1Al last ps  x) ⟨hB, trivial⟩ ⟨rfl, rfl⟩
    | cons k l =>
      refine TO.path fitAl (oAl_nx ..) (f3Al last ps  (k :: l) (l.length + 1) (l.length + 1) x) ⟨hB, trivial⟩ ⟨rfl, ?_⟩
      simp
abbrev FinAl (last : Int) (ps : List (Int × Pt))  : X → S → Prop := fun x s1 => x = .ret ∧ s1 = match selB (BAl ) ps with | [] => F0Al last ps  | k :: l => F1Al last ps  (srt (k :: l)) (l.length + 1) (l.length + 1)
theorem rgAl (hl : ps.length ≤ 1000000000) : TO Tryz.prog 31 [0, 1] [] (oAl last ps ) rg231 (stBAl last ps ) (ThenO Tryz.prog 31 [0, 1] [] (oAl last ps ) (FinAl last ps ) (zR (zR (zR (zR c231))))) := by
  rw [rg231_eq]
  refine TO.range (enc := encP) (l := ps) (I := IAl last ps ) (nm := 1) zng form231 under304 (c0Al last ps ) (c1Al last ps ) (by simp) (by rw [oAl_nx]; decide) (.inr (by kernel_rfl)) (oAl_nx ..) (c3Al ..) (c2Al last ps ) (c4Al last ps ) ?_ ?_ ?_
  · intro d
    unfold IAl
    cases selB (BAl ) d with
    | nil => exact d0Al last ps 
    | cons k l => exact d1Al last ps  _ _ _
  · intro d x r hp
    have hb := bdAl (last := last) hl d x r hp _ rfl
    unfold IAl
    revert hb
    cases hk : selB (BAl ) d with
    | nil =>
      intro hb
      exact ⟨_, b0Al last ps  x, _, _, _, e0Al last ps  x, hb.mono fun x' s' h => by obtain ⟨rfl, rfl⟩ := h; rfl⟩
    | cons k l =>
      intro hb
      exact ⟨_, b1Al last ps  _ _ _ x, _, _, _, e1Al last ps  _ _ _ x, hb.mono fun x' s' h => by obtain ⟨rfl, rfl⟩ := h; rfl⟩
  · intro d hp
    have hlen : (selB (BAl ) d).length ≤ 1000000000 := by
      have h1 := selB_le (B := BAl ) (d := d)
      have h2 := hp.length_eq
      omega
    have hperm := selB_perm (B := BAl ) hp
    unfold IAl FinAl
    revert hlen hperm
    generalize selB (BAl ) ps = kp
    cases selB (BAl ) d with
    | nil =>
      intro _ hperm
      have := hperm.length_eq
      obtain rfl : kp = [] := List.length_eq_zero_iff.1 (by simpa using this.symm)
      exact ⟨_, b2Al last ps , TO.path fitAl (oAl_nx ..) (g0Al last ps ) trivial ⟨rfl, rfl⟩⟩
    | cons k l =>
      intro hlen hperm
      have hle := hperm.length_eq
      cases kp with
      | nil => simp at hle
      | cons k' l' =>
        have e1 : l'.length = l.length := by simpa using hle.symm
        refine ⟨_, b3Al last ps  _ _ _, TO.path fitAl (oAl_nx ..) (g1Al last ps  _ _ _) ⟨by simp, rfl, by simp at hlen; omega, trivial⟩ ⟨rfl, ?_⟩⟩
        simp only [e1, srt_perm hperm]
theorem idsAl (hl : ps.length ≤ 1000000000) : TO Tryz.prog 31 [0, 1] [] (oAl last ps ) c231 (oAl last ps ) (FinAl last ps ) := by
  refine TO.seq (c := zL c231) (d := zR c231) (TO.path fitAl (oAl_nx ..) (a0Al last ps ) trivial ?_)
  refine TO.seq (c := zL (zR c231)) (d := zR (zR c231)) (TO.path fitAl (oAl_nx ..) (a1Al last ps ) trivial ?_)
  refine TO.seq (c := zL (zR (zR c231))) (d := zR (zR (zR c231))) (TO.path fitAl (oAl_nx ..) (a2Al last ps ) trivial ?_)
  exact TO.seq (c := rg231) (d := zR (zR (zR (zR c231)))) (rgAl hl)
theorem idsAl_none (hl : ps.length ≤ 1000000000) (h : selB (BAl ) ps = []) : SmallN Tryz.prog 231 argsAl 2 (hsI last ps (extAl )) 2 (hsI last ps (extAl )) (.one (.c .sl0)) :=
  TO.smallN (fn := Tryz.f231) (c := c231) Tryz.func231 body231 [0, 1] topAl slAl_ok ((idsAl hl).mono fun x s h' => by
    obtain ⟨rfl, rfl⟩ := h'
    rw [h]
    exact ⟨.inr rfl, _, h0Al last ps , rfl, by kernel_rfl, by kernel_rfl⟩)
theorem idsAl_some (hl : ps.length ≤ 1000000000) {k : Int} {l : List Int} (h : selB (BAl ) ps = k :: l) : SmallN Tryz.prog 231 argsAl 2 (hsI last ps (extAl )) 3 (hsI last ps ((2, rowAl (srt (k :: l)) (l.length + 1)) :: extAl )) (.one (.c (.slu 2 1 0 (l.length + 1)))) :=
  TO.smallN (fn := Tryz.f231) (c := c231) Tryz.func231 body231 [0, 1] topAl slAl_ok ((idsAl hl).mono fun x s h' => by
    obtain ⟨rfl, rfl⟩ := h'
    rw [h]
    exact ⟨.inr rfl, _, h1Al last ps  _ _ _, rfl, by kernel_rfl, by kernel_rfl⟩)
end
end Go.Sx


namespace Go.Sx
open Go.Proofs Go.RowKit Go.Sort
set_option maxRecDepth 100000
/-! ### graph.ids (f231), called with closure f291: printed by gen_ids.py -/
abbrev fnWr : RV := .one (.c (.fn 291 [] []))
noncomputable def extWr  : List (Nat × Blk) := []
noncomputable def argsWr : List RV := [.one (.c (.ptr 0 0)), fnWr]
noncomputable def slWr : T RV := match setArgs 31 argsWr 0 .nil some with | some t => t | none => .nil
theorem slWr_ok : setArgs 31 argsWr 0 .nil some = some slWr := by kernel_rfl
noncomputable def sgWr : FuncId → Option SumA := fun f => match f with | 312 => some sumSort | 291 => some (sumB0 fun p => p.wr) | _ => none
theorem fitWr : Fit Tryz.prog (fun f => (sgWr f).map toSum) := ⟨zng, zmixed, SumAOK.sum fun f sm h => by
  unfold sgWr at h
  split at h
  · cases h; exact sumSort_ok
  · cases h; exact sumWritten_ok
  · cases h⟩
section
variable (last : Int) (ps : List (Int × Pt))  (ks : List Int) (m nn : Nat) (x : Int × Pt)
abbrev BWr  (x : Pt) : Bool := x.wr
noncomputable def oWr : S := ⟨slWr, hsI last ps (extWr ), 2, []⟩
noncomputable def stAWr : S := fgt [0, 1] 31 ⟨ofL [(0, .one (.c (.ptr 0 0))), (1, fnWr)], hsI last ps (extWr ), 2, []⟩
noncomputable def stBWr : S := fgt [0, 1, 5] 31 ⟨ofL [(0, .one (.c (.ptr 0 0))), (1, fnWr), (5, .one (.c .sl0))], hsI last ps (extWr ), 2, []⟩
noncomputable def S0Wr : S := fgt [1, 5, 15] 31 ⟨ofL [(1, fnWr), (5, .one (.c .sl0)), (15, .one (.c (.ptr 2 0)))], hsI last ps (extWr ), 3, []⟩
abbrev rowWr (ks : List Int) (nn : Nat) : Blk := .row 3 false (some 1) (.ints .i64 ks nn)
noncomputable def S1Wr : S := fgt [1, 5, 15] 31 ⟨ofL [(1, fnWr), (5, .one (.c (.slu 3 1 0 m))), (15, .one (.c (.ptr 2 0)))], hsI last ps ((3, rowWr ks nn) :: extWr ), 4, []⟩
noncomputable abbrev goWr (K pn keep ord : List Nat) (c : Code) (s : S) (o : List (Nat × Bool)) : Option (X × Bool × S × List Prop) :=
  execA Tryz.prog sgWr 300 31 c s ⟨0, o, []⟩ (gcP 2 K pn keep 31 ord)
theorem oWr_nx : (oWr last ps ).nx = 2 := by kernel_rfl
theorem a0Wr : goWr [0, 1] [] [0, 1] [] (zL c231) (oWr last ps ) [] = some (.normal, true, stAWr last ps , []) := by kernel_rfl
theorem a1Wr : goWr [0, 1] [] [0, 1, 5] [] (zL (zR c231)) (stAWr last ps ) [] = some (.normal, true, stBWr last ps , []) := by kernel_rfl
theorem a2Wr : goWr [0, 1] [] [0, 1, 5] [] (zL (zR (zR c231))) (stBWr last ps ) [] = some (.normal, true, stBWr last ps , []) := by kernel_rfl
noncomputable def sAWr : S := match opsRun Tryz.prog false call0 31 opsA231.toList pre231 (stBWr last ps ) (fun s' => some s') with | some s => s | none => ⟨.nil, .nil, 0, []⟩
theorem c0Wr : opsRun Tryz.prog false call0 31 opsA231.toList pre231 (stBWr last ps ) (lgE [0, 1]) = some (true, sAWr last ps ) := by kernel_rfl
theorem c1Wr : eval 31 (sAWr last ps ).sl (.tmp 14) = some (.one (.c (.map 1))) := by kernel_rfl
noncomputable def sIWr : S := match setS [(15, .one (.c (.ptr 2 0)))] 3 (sAWr last ps ) with | some s => s | none => ⟨.nil, .nil, 0, []⟩
theorem c2Wr : setS [(15, .one (.c (.ptr 2 0)))] 3 (sAWr last ps ) = some (sIWr last ps ) := by kernel_rfl
theorem c4Wr : gcS 2 [0, 1] [2] [1, 5, 15] 31 [2] (sIWr last ps ) = some (S0Wr last ps ) := by kernel_rfl
theorem c3Wr : (sAWr last ps ).nx = 2 := by kernel_rfl
theorem d0Wr : eval 31 (S0Wr last ps ).sl (.tmp 15) = some (.one (.c (.ptr 2 0))) := by kernel_rfl
theorem d1Wr : eval 31 (S1Wr last ps  ks m nn).sl (.tmp 15) = some (.one (.c (.ptr 2 0))) := by kernel_rfl
noncomputable def G0Wr : S := fgt [1, 5, 15, 18] 31 ⟨ofL [(1, fnWr), (5, .one (.c .sl0)), (15, .one (.c (.ptr 2 0))), (18, .tup [.c (.int .i64 x.1), .agg x.2.cells])], hsI last ps (extWr ), 3, []⟩
noncomputable def G1Wr : S := fgt [1, 5, 15, 18] 31 ⟨ofL [(1, fnWr), (5, .one (.c (.slu 3 1 0 m))), (15, .one (.c (.ptr 2 0))), (18, .tup [.c (.int .i64 x.1), .agg x.2.cells])], hsI last ps ((3, rowWr ks nn) :: extWr ), 4, []⟩
theorem b0Wr : setS [(16, .any), (17, .any), (18, .tup [.c (encP x).1, (encP x).2])] (S0Wr last ps ).nx (S0Wr last ps ) = some (G0Wr last ps  x) := by kernel_rfl
theorem b1Wr : setS [(16, .any), (17, .any), (18, .tup [.c (encP x).1, (encP x).2])] (S1Wr last ps  ks m nn).nx (S1Wr last ps  ks m nn) = some (G1Wr last ps  ks m nn x) := by kernel_rfl
theorem b2Wr : setS [(16, .any), (17, .any)] (S0Wr last ps ).nx (S0Wr last ps ) = some (S0Wr last ps ) := by kernel_rfl
theorem b3Wr : setS [(16, .any), (17, .any)] (S1Wr last ps  ks m nn).nx (S1Wr last ps  ks m nn) = some (S1Wr last ps  ks m nn) := by kernel_rfl
noncomputable def E0Wr : S := fgt [1, 5, 6, 7, 15] 31 ⟨ofL [(1, fnWr), (5, .one (.c .sl0)), (6, .one (.c (.int .i64 x.1))), (7, .one (.c (.ptr 3 0))), (15, .one (.c (.ptr 2 0)))], hsI last ps ((3, .row 74 false none (.cells x.2.cells)) :: extWr ), 4, []⟩
noncomputable def E1Wr : S := fgt [1, 5, 6, 7, 15] 31 ⟨ofL [(1, fnWr), (5, .one (.c (.slu 3 1 0 m))), (6, .one (.c (.int .i64 x.1))), (7, .one (.c (.ptr 4 0))), (15, .one (.c (.ptr 2 0)))], hsI last ps ((3, rowWr ks nn) :: (4, .row 74 false none (.cells x.2.cells)) :: extWr ), 5, []⟩
noncomputable abbrev enWr (K pn keep ord : List Nat) (s : S) : Option (Bool × S) := opsRun Tryz.prog false call0 31 opsE231.toList rE231 s (gcE 2 K pn keep 31 ord)
theorem e0Wr : enWr [0, 1] [2] [1, 5, 6, 7, 15] [2, 3] (G0Wr last ps  x) = some (true, E0Wr last ps  x) := by kernel_rfl
theorem e1Wr : enWr [0, 1] [2] [1, 5, 6, 7, 15] [2, 3, 4] (G1Wr last ps  ks m nn x) = some (true, E1Wr last ps  ks m nn x) := by kernel_rfl
theorem f0Wr : goWr [0, 1] [2] [1, 5, 15] [2, 5] bd231 (E0Wr last ps  x) [(0, true)] = some (.normal, true, S1Wr last ps  [x.1] 1 1, [BWr  x.2 = true]) := by kernel_rfl
theorem f1Wr : goWr [0, 1] [2] [1, 5, 15] [2] bd231 (E0Wr last ps  x) [(0, false)] = some (.normal, true, S0Wr last ps , [BWr  x.2 = false]) := by kernel_rfl
theorem f2Wr : goWr [0, 1] [2] [1, 5, 15] [2, 6] bd231 (E1Wr last ps  ks m nn x) [(0, true), (3, true), (4, true)] = some (.normal, true, S1Wr last ps  ((ks.drop 0).take (m * 1) ++ [x.1]) (m + 1) (m * 1 + 1), [decide (0 + m * 1 ≤ nn) = true, decide (fits Tryz.prog.types[3]! (m + 1) = true) = true, BWr  x.2 = true]) := by kernel_rfl
theorem f3Wr : goWr [0, 1] [2] [1, 5, 15] [2, 3] bd231 (E1Wr last ps  ks m nn x) [(0, false)] = some (.normal, true, S1Wr last ps  ks m nn, [BWr  x.2 = false]) := by kernel_rfl
noncomputable def F0Wr : S := fgt [4] 31 ⟨ofL [(4, .one (.c .sl0))], hsI last ps (extWr ), 2, []⟩
noncomputable def F1Wr : S := fgt [4] 31 ⟨ofL [(4, .one (.c (.slu 2 1 0 m)))], hsI last ps ((2, rowWr ks nn) :: extWr ), 3, []⟩
theorem g0Wr : goWr [0, 1] [] [4] [] (zR (zR (zR (zR c231)))) (S0Wr last ps ) [] = some (.ret, true, F0Wr last ps , []) := by kernel_rfl
theorem g1Wr : goWr [0, 1] [] [4] [3] (zR (zR (zR (zR c231)))) (S1Wr last ps  ks m nn) [] = some (.ret, true, F1Wr last ps  (srt ks) m nn, [ks.length = m, nn = m, m < 4611686018427387904]) := by kernel_rfl
theorem h0Wr : resOf Tryz.prog 31 (F0Wr last ps ) Tryz.f231.results.toList = some [.c .sl0] := by kernel_rfl
theorem h1Wr : resOf Tryz.prog 31 (F1Wr last ps  ks m nn) Tryz.f231.results.toList = some [.c (.slu 2 1 0 m)] := by kernel_rfl
theorem hsWr_eq : hsI last ps (extWr ) = T.node (.node .nil (some (.mapR (ps.map encP))) .nil) (some (.row 306 true none (.cells [.int .i64 last, .map 1]))) .nil := by kernel_rfl
noncomputable def IWr (d : List (Int × Pt)) : S := match selB (BWr ) d with | [] => S0Wr last ps  | k :: l => S1Wr last ps  (k :: l) (l.length + 1) (l.length + 1)
end
section
variable {last : Int} {ps : List (Int × Pt)} 
theorem topWr : Top ⟨.nil, hsI last ps (extWr ), 2, []⟩ := fun i hi => by
  have hi' : 2 ≤ i := hi
  show (hsI last ps (extWr )).get i = none
  rw [hsWr_eq, T.get2]
  simp only [if_neg (show ¬ i = 0 by omega), if_neg (show ¬ i = 1 by omega)]
theorem bdWr (hl : ps.length ≤ 1000000000) (d : List (Int × Pt)) (x : Int × Pt) (r : List (Int × Pt)) (hp : (d ++ x :: r).Perm ps) (s2 : S)
    (hs2 : s2 = match selB (BWr ) d with | [] => E0Wr last ps  x | k :: l => E1Wr last ps  (k :: l) (l.length + 1) (l.length + 1) x) :
    TO Tryz.prog 31 [0, 1] [2] (oWr last ps ) bd231 s2 fun x' s' => x' = .normal ∧ s' = IWr last ps  (d ++ [x]) := by
  subst hs2
  have hlen : (selB (BWr ) d).length ≤ 1000000000 := by
    have h1 := selB_le (B := BWr ) (d := d)
    have h2 := hp.length_eq
    simp at h2
    omega
  have hI : IWr last ps  (d ++ [x]) = match selB (BWr ) d ++ (if BWr  x.2 then [x.1] else []) with | [] => S0Wr last ps  | k :: l => S1Wr last ps  (k :: l) (l.length + 1) (l.length + 1) := by
    unfold IWr; rw [selB_snoc]
  rw [hI]
  revert hlen
  generalize selB (BWr ) d = ks
  intro hlen
  cases hB : BWr  x.2 with
  | true =>
    cases ks with
    | nil => exact TO.path fitWr (oWr_nx ..) (f0Wr last ps  x) ⟨hB, trivial⟩ ⟨rfl, rfl⟩
    | cons k l =>
      refine TO.path fitWr (oWr_nx ..) (f2Wr last ps  (k :: l) (l.length + 1) (l.length + 1) x) ⟨by simp, fits3 (by simpa using hlen), hB, trivial⟩ ⟨rfl, ?_⟩
      simp
  | false =>
    cases ks with
    | nil => exact TO.path fitWr (oWr_nx ..) (f1Wr last ps  x) ⟨hB, trivial⟩ ⟨rfl, rfl⟩
    | cons k l =>
      refine TO.path fitWr (oWr_nx ..) (f3Wr last ps  (k :: l) (l.length + 1) (l.length + 1) x) ⟨hB, trivial⟩ ⟨rfl, ?_⟩
      simp
abbrev FinWr (last : Int) (ps : List (Int × Pt))  : X → S → Prop := fun x s1 => x = .ret ∧ s1 = match selB (BWr ) ps with | [] => F0Wr last ps  | k :: l => F1Wr last ps  (srt (k :: l)) (l.length + 1) (l.length + 1)
theorem rgWr (hl : ps.length ≤ 1000000000) : TO Tryz.prog 31 [0, 1] [] (oWr last ps ) rg231 (stBWr last ps ) (ThenO Tryz.prog 31 [0, 1] [] (oWr last ps ) (FinWr last ps ) (zR (zR (zR (zR c231))))) := by
  rw [rg231_eq]
  refine TO.range (enc := encP) (l := ps) (I := IWr last ps ) (nm := 1) zng form231 under304 (c0Wr last ps ) (c1Wr last ps ) (by simp) (by rw [oWr_nx]; decide) (.inr (by kernel_rfl)) (oWr_nx ..) (c3Wr ..) (c2Wr last ps ) (c4Wr last ps ) ?_ ?_ ?_
  · intro d
    unfold IWr
    cases selB (BWr ) d with
    | nil => exact d0Wr last ps 
    | cons k l => exact d1Wr last ps  _ _ _
  · intro d x r hp
    have hb := bdWr (last := last) hl d x r hp _ rfl
    unfold IWr
    revert hb
    cases hk : selB (BWr ) d with
    | nil =>
      intro hb
      exact ⟨_, b0Wr last ps  x, _, _, _, e0Wr last ps  x, hb.mono fun x' s' h => by obtain ⟨rfl, rfl⟩ := h; rfl⟩
    | cons k l =>
      intro hb
      exact ⟨_, b1Wr last ps  _ _ _ x, _, _, _, e1Wr last ps  _ _ _ x, hb.mono fun x' s' h => by obtain ⟨rfl, rfl⟩ := h; rfl⟩
  · intro d hp
    have hlen : (selB (BWr ) d).length ≤ 1000000000 := by
      have h1 := selB_le (B := BWr ) (d := d)
      have h2 := hp.length_eq
      omega
    have hperm := selB_perm (B := BWr ) hp
    unfold IWr FinWr
    revert hlen hperm
    generalize selB (BWr ) ps = kp
    cases selB (BWr ) d with
    | nil =>
      intro _ hperm
      have := hperm.length_eq
      obtain rfl : kp = [] := List.length_eq_zero_iff.1 (by simpa using this.symm)
      exact ⟨_, b2Wr last ps , TO.path fitWr (oWr_nx ..) (g0Wr last ps ) trivial ⟨rfl, rfl⟩⟩
    | cons k l =>
      intro hlen hperm
      have hle := hperm.length_eq
      cases kp with
      | nil => simp at hle
      | cons k' l' =>
        have e1 : l'.length = l.length := by simpa using hle.symm
        refine ⟨_, b3Wr last ps  _ _ _, TO.path fitWr (oWr_nx ..) (g1Wr last ps  _ _ _) ⟨by simp, rfl, by simp at hlen; omega, trivial⟩ ⟨rfl, ?_⟩⟩
        simp only [e1, srt_perm hperm]
theorem idsWr (hl : ps.length ≤ 1000000000) : TO Tryz.prog 31 [0, 1] [] (oWr last ps ) c231 (oWr last ps ) (FinWr last ps ) := by
  refine TO.seq (c := zL c231) (d := zR c231) (TO.path fitWr (oWr_nx ..) (a0Wr last ps ) trivial ?_)
  refine TO.seq (c := zL (zR c231)) (d := zR (zR c231)) (TO.path fitWr (oWr_nx ..) (a1Wr last ps ) trivial ?_)
  refine TO.seq (c := zL (zR (zR c231))) (d := zR (zR (zR c231))) (TO.path fitWr (oWr_nx ..) (a2Wr last ps ) trivial ?_)
  exact TO.seq (c := rg231) (d := zR (zR (zR (zR c231)))) (rgWr hl)
theorem idsWr_none (hl : ps.length ≤ 1000000000) (h : selB (BWr ) ps = []) : SmallN Tryz.prog 231 argsWr 2 (hsI last ps (extWr )) 2 (hsI last ps (extWr )) (.one (.c .sl0)) :=
  TO.smallN (fn := Tryz.f231) (c := c231) Tryz.func231 body231 [0, 1] topWr slWr_ok ((idsWr hl).mono fun x s h' => by
    obtain ⟨rfl, rfl⟩ := h'
    rw [h]
    exact ⟨.inr rfl, _, h0Wr last ps , rfl, by kernel_rfl, by kernel_rfl⟩)
theorem idsWr_some (hl : ps.length ≤ 1000000000) {k : Int} {l : List Int} (h : selB (BWr ) ps = k :: l) : SmallN Tryz.prog 231 argsWr 2 (hsI last ps (extWr )) 3 (hsI last ps ((2, rowWr (srt (k :: l)) (l.length + 1)) :: extWr )) (.one (.c (.slu 2 1 0 (l.length + 1)))) :=
  TO.smallN (fn := Tryz.f231) (c := c231) Tryz.func231 body231 [0, 1] topWr slWr_ok ((idsWr hl).mono fun x s h' => by
    obtain ⟨rfl, rfl⟩ := h'
    rw [h]
    exact ⟨.inr rfl, _, h1Wr last ps  _ _ _, rfl, by kernel_rfl, by kernel_rfl⟩)
end
end Go.Sx


namespace Go.Sx
open Go.Proofs Go.RowKit Go.Sort
set_option maxRecDepth 100000
/-! ### graph.ids (f231), called with closure f383: printed by gen_ids.py -/
abbrev fnOa : RV := .one (.c (.fn 383 [] []))
noncomputable def extOa  : List (Nat × Blk) := []
noncomputable def argsOa : List RV := [.one (.c (.ptr 0 0)), fnOa]
noncomputable def slOa : T RV := match setArgs 31 argsOa 0 .nil some with | some t => t | none => .nil
theorem slOa_ok : setArgs 31 argsOa 0 .nil some = some slOa := by kernel_rfl
noncomputable def sgOa : FuncId → Option SumA := fun f => match f with | 312 => some sumSort | 383 => some (sumB0 fun p => !p.wr) | _ => none
theorem fitOa : Fit Tryz.prog (fun f => (sgOa f).map toSum) := ⟨zng, zmixed, SumAOK.sum fun f sm h => by
  unfold sgOa at h
  split at h
  · cases h; exact sumSort_ok
  · cases h; exact sumOpenAll_ok
  · cases h⟩
section
variable (last : Int) (ps : List (Int × Pt))  (ks : List Int) (m nn : Nat) (x : Int × Pt)
abbrev BOa  (x : Pt) : Bool := !x.wr
noncomputable def oOa : S := ⟨slOa, hsI last ps (extOa ), 2, []⟩
noncomputable def stAOa : S := fgt [0, 1] 31 ⟨ofL [(0, .one (.c (.ptr 0 0))), (1, fnOa)], hsI last ps (extOa ), 2, []⟩
noncomputable def stBOa : S := fgt [0, 1, 5] 31 ⟨ofL [(0, .one (.c (.ptr 0 0))), (1, fnOa), (5, .one (.c .sl0))], hsI last ps (extOa ), 2, []⟩
noncomputable def S0Oa : S := fgt [1, 5, 15] 31 ⟨ofL [(1, fnOa), (5, .one (.c .sl0)), (15, .one (.c (.ptr 2 0)))], hsI last ps (extOa ), 3, []⟩
abbrev rowOa (ks : List Int) (nn : Nat) : Blk := .row 3 false (some 1) (.ints .i64 ks nn)
noncomputable def S1Oa : S := fgt [1, 5, 15] 31 ⟨ofL [(1, fnOa), (5, .one (.c (.slu 3 1 0 m))), (15, .one (.c (.ptr 2 0)))], hsI last ps ((3, rowOa ks nn) :: extOa ), 4, []⟩
noncomputable abbrev goOa (K pn keep ord : List Nat) (c : Code) (s : S) (o : List (Nat × Bool)) : Option (X × Bool × S × List Prop) :=
  execA Tryz.prog sgOa 300 31 c s ⟨0, o, []⟩ (gcP 2 K pn keep 31 ord)
theorem oOa_nx : (oOa last ps ).nx = 2 := by kernel_rfl
theorem a0Oa : goOa [0, 1] [] [0, 1] [] (zL c231) (oOa last ps ) [] = some (.normal, true, stAOa last ps , []) := by kernel_rfl
theorem a1Oa : goOa [0, 1] [] [0, 1, 5] [] (zL (zR c231)) (stAOa last ps ) [] = some (.normal, true, stBOa last ps , []) := by kernel_rfl
theorem a2Oa : goOa [0, 1] [] [0, 1, 5] [] (zL (zR (zR c231))) (stBOa last ps ) [] = some (.normal, true, stBOa last ps , []) := by kernel_rfl
noncomputable def sAOa : S := match opsRun Tryz.prog false call0 31 opsA231.toList pre231 (stBOa last ps ) (fun s' => some s') with | some s => s | none => ⟨.nil, .nil, 0, []⟩
theorem c0Oa : opsRun Tryz.prog false call0 31 opsA231.toList pre231 (stBOa last ps ) (lgE [0, 1]) = some (true, sAOa last ps ) := by kernel_rfl
theorem c1Oa : eval 31 (sAOa last ps ).sl (.tmp 14) = some (.one (.c (.map 1))) := by kernel_rfl
noncomputable def sIOa : S := match setS [(15, .one (.c (.ptr 2 0)))] 3 (sAOa last ps ) with | some s => s | none => ⟨.nil, .nil, 0, []⟩
theorem c2Oa : setS [(15, .one (.c (.ptr 2 0)))] 3 (sAOa last ps ) = some (sIOa last ps ) := by kernel_rfl
theorem c4Oa : gcS 2 [0, 1] [2] [1, 5, 15] 31 [2] (sIOa last ps ) = some (S0Oa last ps ) := by kernel_rfl
theorem c3Oa : (sAOa last ps ).nx = 2 := by kernel_rfl
theorem d0Oa : eval 31 (S0Oa last ps ).sl (.tmp 15) = some (.one (.c (.ptr 2 0))) := by kernel_rfl
theorem d1Oa : eval 31 (S1Oa last ps  ks m nn).sl (.tmp 15) = some (.one (.c (.ptr 2 0))) := by kernel_rfl
noncomputable def G0Oa : S := fgt [1, 5, 15, 18] 31 ⟨ofL [(1, fnOa), (5, .one (.c .sl0)), (15, .one (.c (.ptr 2 0))), (18, .tup [.c (.int .i64 x.1), .agg x.2.cells])], hsI last ps (extOa ), 3, []⟩
noncomputable def G1Oa : S := fgt [1, 5, 15, 18] 31 ⟨ofL [(1, fnOa), (5, .one (.c (.slu 3 1 0 m))), (15, .one (.c (.ptr 2 0))), (18, .tup [.c (.int .i64 x.1), .agg x.2.cells])], hsI last ps ((3, rowOa ks nn) :: extOa ), 4, []⟩
theorem b0Oa : setS [(16, .any), (17, .any), (18, .tup [.c (encP x).1, (encP x).2])] (S0Oa last ps ).nx (S0Oa last ps ) = some (G0Oa last ps  x) := by kernel_rfl
theorem b1Oa : setS [(16, .any), (17, .any), (18, .tup [.c (encP x).1, (encP x).2])] (S1Oa last ps  ks m nn).nx (S1Oa last ps  ks m nn) = some (G1Oa last ps  ks m nn x) := by kernel_rfl
theorem b2Oa : setS [(16, .any), (17, .any)] (S0Oa last ps ).nx (S0Oa last ps ) = some (S0Oa last ps ) := by kernel_rfl
theorem b3Oa : setS [(16, .any), (17, .any)] (S1Oa last ps  ks m nn).nx (S1Oa last ps  ks m nn) = some (S1Oa last ps  ks m nn) := by kernel_rfl
noncomputable def E0Oa : S := fgt [1, 5, 6, 7, 15] 31 ⟨ofL [(1, fnOa), (5, .one (.c .sl0)), (6, .one (.c (.int .i64 x.1))), (7, .one (.c (.ptr 3 0))), (15, .one (.c (.ptr 2 0)))], hsI last ps ((3, .row 74 false none (.cells x.2.cells)) :: extOa ), 4, []⟩
noncomputable def E1Oa : S := fgt [1, 5, 6, 7, 15] 31 ⟨ofL [(1, fnOa), (5, .one (.c (.slu 3 1 0 m))), (6, .one (.c (.int .i64 x.1))), (7, .one (.c (.ptr 4 0))), (15, .one (.c (.ptr 2 0)))], hsI last ps ((3, rowOa ks nn) :: (4, .row 74 false none (.cells x.2.cells)) :: extOa ), 5, []⟩
noncomputable abbrev enOa (K pn keep ord : List Nat) (s : S) : Option (Bool × S) := opsRun Tryz.prog false call0 31 opsE231.toList rE231 s (gcE 2 K pn keep 31 ord)
theorem e0Oa : enOa [0, 1] [2] [1, 5, 6, 7, 15] [2, 3] (G0Oa last ps  x) = some (true, E0Oa last ps  x) := by kernel_rfl
theorem e1Oa : enOa [0, 1] [2] [1, 5, 6, 7, 15] [2, 3, 4] (G1Oa last ps  ks m nn x) = some (true, E1Oa last ps  ks m nn x) := by kernel_rfl
theorem f0Oa : goOa [0, 1] [2] [1, 5, 15] [2, 5] bd231 (E0Oa last ps  x) [(0, true)] = some (.normal, true, S1Oa last ps  [x.1] 1 1, [BOa  x.2 = true]) := by kernel_rfl
theorem f1Oa : goOa [0, 1] [2] [1, 5, 15] [2] bd231 (E0Oa last ps  x) [(0, false)] = some (.normal, true, S0Oa last ps , [BOa  x.2 = false]) := by kernel_rfl
theorem f2Oa : goOa [0, 1] [2] [1, 5, 15] [2, 6] bd231 (E1Oa last ps  ks m nn x) [(0, true), (3, true), (4, true)] = some (.normal, true, S1Oa last ps  ((ks.drop 0).take (m * 1) ++ [x.1]) (m + 1) (m * 1 + 1), [decide (0 + m * 1 ≤ nn) = true, decide (fits Tryz.prog.types[3]! (m + 1) = true) = true, BOa  x.2 = true]) := by kernel_rfl
theorem f3Oa : goOa [0, 1] [2] [1, 5, 15] [2, 3] bd231 (E1Oa last ps  ks m nn x) [(0, false)] = some (.normal, true, S1Oa last ps  ks m nn, [BOa  x.2 = false]) := by kernel_rfl
noncomputable def F0Oa : S := fgt [4] 31 ⟨ofL [(4, .one (.c .sl0))], hsI last ps (extOa ), 2, []⟩
noncomputable def F1Oa : S := fgt [4] 31 ⟨ofL [(4, .one (.c (.slu 2 1 0 m)))], hsI last ps ((2, rowOa ks nn) :: extOa ), 3, []⟩
theorem g0Oa : goOa [0, 1] [] [4] [] (zR (zR (zR (zR c231)))) (S0Oa last ps ) [] = some (.ret, true, F0Oa last ps , []) := by kernel_rfl
theorem g1Oa : goOa [0, 1] [] [4] [3] (zR (zR (zR (zR c231)))) (S1Oa last ps  ks m nn) [] = some (.ret, true, F1Oa last ps  (srt ks) m nn, [ks.length = m, nn = m, m < 4611686018427387904]) := by kernel_rfl
theorem h0Oa : resOf Tryz.prog 31 (F0Oa last ps ) Tryz.f231.results.toList = some [.c .sl0] := by kernel_rfl
theorem h1Oa : resOf Tryz.prog 31 (F1Oa last ps  ks m nn) Tryz.f231.results.toList = some [.c (.slu 2 1 0 m)] := by kernel_rfl
theorem hsOa_eq : hsI last ps (extOa ) = T.node (.node .nil (some (.mapR (ps.map encP))) .nil) (some (.row 306 true none (.cells [.int .i64 last, .map 1]))) .nil := by kernel_rfl
noncomputable def IOa (d : List (Int × Pt)) : S := match selB (BOa ) d with | [] => S0Oa last ps  | k :: l => S1Oa last ps  (k :: l) (l.length + 1) (l.length + 1)
end
section
variable {last : Int} {ps : List (Int × Pt)} 
theorem topOa : Top ⟨.nil, hsI last ps (extOa ), 2, []⟩ := fun i hi => by
  have hi' : 2 ≤ i := hi
  show (hsI last ps (extOa )).get i = none
  rw [hsOa_eq, T.get2]
  simp only [if_neg (show ¬ i = 0 by omega), if_neg (show ¬ i = 1 by omega)]
theorem bdOa (hl : ps.length ≤ 1000000000) (d : List (Int × Pt)) (x : Int × Pt) (r : List (Int × Pt)) (hp : (d ++ x :: r).Perm ps) (s2 : S)
    (hs2 : s2 = match selB (BOa ) d with | [] => E0Oa last ps  x | k :: l => E1Oa last ps  (k :: l) (l.length + 1) (l.length + 1) x) :
    TO Tryz.prog 31 [0, 1] [2] (oOa last ps ) bd231 s2 fun x' s' => x' = .normal ∧ s' = IOa last ps  (d ++ [x]) := by
  subst hs2
  have hlen : (selB (BOa ) d).length ≤ 1000000000 := by
    have h1 := selB_le (B := BOa ) (d := d)
    have h2 := hp.length_eq
    simp at h2
    omega
  have hI : IOa last ps  (d ++ [x]) = match selB (BOa ) d ++ (if BOa  x.2 then [x.1] else []) with | [] => S0Oa last ps  | k :: l => S1Oa last ps  (k :: l) (l.length + 1) (l.length + 1) := by
    unfold IOa; rw [selB_snoc]
  rw [hI]
  revert hlen
  generalize selB (BOa ) d = ks
  intro hlen
  cases hB : BOa  x.2 with
  | true =>
    cases ks with
    | nil => exact TO.path fitOa (oOa_nx ..) (f0Oa last ps  x) ⟨hB, trivial⟩ ⟨rfl, rfl⟩
    | cons k l =>
      refine TO.path fitOa (oOa_nx ..) (f2Oa last ps  (k :: l) (l.length + 1) (l.length + 1) x) ⟨by simp, fits3 (by simpa using hlen), hB, trivial⟩ ⟨rfl, ?_⟩
      simp
  | false =>
    cases ks with
    | nil => exact TO.path fitOa (oOa_nx ..) (f1Oa last ps  x) ⟨hB, trivial⟩ ⟨rfl, rfl⟩
    | cons k l =>
      refine TO.path fitOa (oOa_nx ..) (f3Oa last ps  (k :: l) (l.length + 1) (l.length + 1) x) ⟨hB, trivial⟩ ⟨rfl, ?_⟩
      simp
abbrev FinOa (last : Int) (ps : List (Int × Pt))  : X → S → Prop := fun x s1 => x = .ret ∧ s1 = match selB (BOa ) ps with | [] => F0Oa last ps  | k :: l => F1Oa last ps  (srt (k :: l)) (l.length + 1) (l.length + 1)
theorem rgOa (hl : ps.length ≤ 1000000000) : TO Tryz.prog 31 [0, 1] [] (oOa last ps ) rg231 (stBOa last ps ) (ThenO Tryz.prog 31 [0, 1] [] (oOa last ps ) (FinOa last ps ) (zR (zR (zR (zR c231))))) := by
  rw [rg231_eq]
  refine TO.range (enc := encP) (l := ps) (I := IOa last ps ) (nm := 1) zng form231 under304 (c0Oa last ps ) (c1Oa last ps ) (by simp) (by rw [oOa_nx]; decide) (.inr (by kernel_rfl)) (oOa_nx ..) (c3Oa ..) (c2Oa last ps ) (c4Oa last ps ) ?_ ?_ ?_
  · intro d
    unfold IOa
    cases selB (BOa ) d with
    | nil => exact d0Oa last ps 
    | cons k l => exact d1Oa last ps  _ _ _
  · intro d x r hp
    have hb := bdOa (last := last) hl d x r hp _ rfl
    unfold IOa
    revert hb
    cases hk : selB (BOa ) d with
    | nil =>
      intro hb
      exact ⟨_, b0Oa last ps  x, _, _, _, e0Oa last ps  x, hb.mono fun x' s' h => by obtain ⟨rfl, rfl⟩ := h; rfl⟩
    | cons k l =>
      intro hb
      exact ⟨_, b1Oa last ps  _ _ _ x, _, _, _, e1Oa last ps  _ _ _ x, hb.mono fun x' s' h => by obtain ⟨rfl, rfl⟩ := h; rfl⟩
  · intro d hp
    have hlen : (selB (BOa ) d).length ≤ 1000000000 := by
      have h1 := selB_le (B := BOa ) (d := d)
      have h2 := hp.length_eq
      omega
    have hperm := selB_perm (B := BOa ) hp
    unfold IOa FinOa
    revert hlen hperm
    generalize selB (BOa ) ps = kp
    cases selB (BOa ) d with
    | nil =>
      intro _ hperm
      have := hperm.length_eq
      obtain rfl : kp = [] := List.length_eq_zero_iff.1 (by simpa using this.symm)
      exact ⟨_, b2Oa last ps , TO.path fitOa (oOa_nx ..) (g0Oa last ps ) trivial ⟨rfl, rfl⟩⟩
    | cons k l =>
      intro hlen hperm
      have hle := hperm.length_eq
      cases kp with
      | nil => simp at hle
      | cons k' l' =>
        have e1 : l'.length = l.length := by simpa using hle.symm
        refine ⟨_, b3Oa last ps  _ _ _, TO.path fitOa (oOa_nx ..) (g1Oa last ps  _ _ _) ⟨by simp, rfl, by simp at hlen; omega, trivial⟩ ⟨rfl, ?_⟩⟩
        simp only [e1, srt_perm hperm]
theorem idsOa (hl : ps.length ≤ 1000000000) : TO Tryz.prog 31 [0, 1] [] (oOa last ps ) c231 (oOa last ps ) (FinOa last ps ) := by
  refine TO.seq (c := zL c231) (d := zR c231) (TO.path fitOa (oOa_nx ..) (a0Oa last ps ) trivial ?_)
  refine TO.seq (c := zL (zR c231)) (d := zR (zR c231)) (TO.path fitOa (oOa_nx ..) (a1Oa last ps ) trivial ?_)
  refine TO.seq (c := zL (zR (zR c231))) (d := zR (zR (zR c231))) (TO.path fitOa (oOa_nx ..) (a2Oa last ps ) trivial ?_)
  exact TO.seq (c := rg231) (d := zR (zR (zR (zR c231)))) (rgOa hl)
theorem idsOa_none (hl : ps.length ≤ 1000000000) (h : selB (BOa ) ps = []) : SmallN Tryz.prog 231 argsOa 2 (hsI last ps (extOa )) 2 (hsI last ps (extOa )) (.one (.c .sl0)) :=
  TO.smallN (fn := Tryz.f231) (c := c231) Tryz.func231 body231 [0, 1] topOa slOa_ok ((idsOa hl).mono fun x s h' => by
    obtain ⟨rfl, rfl⟩ := h'
    rw [h]
    exact ⟨.inr rfl, _, h0Oa last ps , rfl, by kernel_rfl, by kernel_rfl⟩)
theorem idsOa_some (hl : ps.length ≤ 1000000000) {k : Int} {l : List Int} (h : selB (BOa ) ps = k :: l) : SmallN Tryz.prog 231 argsOa 2 (hsI last ps (extOa )) 3 (hsI last ps ((2, rowOa (srt (k :: l)) (l.length + 1)) :: extOa )) (.one (.c (.slu 2 1 0 (l.length + 1)))) :=
  TO.smallN (fn := Tryz.f231) (c := c231) Tryz.func231 body231 [0, 1] topOa slOa_ok ((idsOa hl).mono fun x s h' => by
    obtain ⟨rfl, rfl⟩ := h'
    rw [h]
    exact ⟨.inr rfl, _, h1Oa last ps  _ _ _, rfl, by kernel_rfl, by kernel_rfl⟩)
end
end Go.Sx


namespace Go.Sx
open Go.Proofs Go.RowKit Go.Sort
set_option maxRecDepth 100000
/-! ### graph.ids (f231), called with closure f310: printed by gen_ids.py -/
abbrev fnOp : RV := .one (.c (.fn 310 [] [(2, 0)]))
noncomputable def extOp (tt : TypeId) (oo : Option Nat) (y : Int) : List (Nat × Blk) := [(2, .row tt true oo (.ints .i64 [y] 1))]
noncomputable def argsOp : List RV := [.one (.c (.ptr 0 0)), fnOp]
noncomputable def slOp : T RV := match setArgs 31 argsOp 0 .nil some with | some t => t | none => .nil
theorem slOp_ok : setArgs 31 argsOp 0 .nil some = some slOp := by kernel_rfl
noncomputable def sgOp : FuncId → Option SumA := fun f => match f with | 312 => some sumSort | 310 => some (sumB1 fun p x => p.at_ == x && !p.wr) | _ => none
theorem fitOp : Fit Tryz.prog (fun f => (sgOp f).map toSum) := ⟨zng, zmixed, SumAOK.sum fun f sm h => by
  unfold sgOp at h
  split at h
  · cases h; exact sumSort_ok
  · cases h; exact sumOpen_ok
  · cases h⟩
section
variable (last : Int) (ps : List (Int × Pt)) (tt : TypeId) (oo : Option Nat) (y : Int) (ks : List Int) (m nn : Nat) (x : Int × Pt)
abbrev BOp (tt : TypeId) (oo : Option Nat) (y : Int) (x : Pt) : Bool := x.at_ == y && !x.wr
noncomputable def oOp : S := ⟨slOp, hsI last ps (extOp tt oo y), 3, []⟩
noncomputable def stAOp : S := fgt [0, 1] 31 ⟨ofL [(0, .one (.c (.ptr 0 0))), (1, fnOp)], hsI last ps (extOp tt oo y), 3, []⟩
noncomputable def stBOp : S := fgt [0, 1, 5] 31 ⟨ofL [(0, .one (.c (.ptr 0 0))), (1, fnOp), (5, .one (.c .sl0))], hsI last ps (extOp tt oo y), 3, []⟩
noncomputable def S0Op : S := fgt [1, 5, 15] 31 ⟨ofL [(1, fnOp), (5, .one (.c .sl0)), (15, .one (.c (.ptr 3 0)))], hsI last ps (extOp tt oo y), 4, []⟩
abbrev rowOp (ks : List Int) (nn : Nat) : Blk := .row 3 false (some 1) (.ints .i64 ks nn)
noncomputable def S1Op : S := fgt [1, 5, 15] 31 ⟨ofL [(1, fnOp), (5, .one (.c (.slu 4 1 0 m))), (15, .one (.c (.ptr 3 0)))], hsI last ps ((4, rowOp ks nn) :: extOp tt oo y), 5, []⟩
noncomputable abbrev goOp (K pn keep ord : List Nat) (c : Code) (s : S) (o : List (Nat × Bool)) : Option (X × Bool × S × List Prop) :=
  execA Tryz.prog sgOp 300 31 c s ⟨0, o, []⟩ (gcP 3 K pn keep 31 ord)
theorem oOp_nx : (oOp last ps tt oo y).nx = 3 := by kernel_rfl
theorem a0Op : goOp [0, 1, 2] [] [0, 1] [] (zL c231) (oOp last ps tt oo y) [] = some (.normal, true, stAOp last ps tt oo y, []) := by kernel_rfl
theorem a1Op : goOp [0, 1, 2] [] [0, 1, 5] [] (zL (zR c231)) (stAOp last ps tt oo y) [] = some (.normal, true, stBOp last ps tt oo y, []) := by kernel_rfl
theorem a2Op : goOp [0, 1, 2] [] [0, 1, 5] [] (zL (zR (zR c231))) (stBOp last ps tt oo y) [] = some (.normal, true, stBOp last ps tt oo y, []) := by kernel_rfl
noncomputable def sAOp : S := match opsRun Tryz.prog false call0 31 opsA231.toList pre231 (stBOp last ps tt oo y) (fun s' => some s') with | some s => s | none => ⟨.nil, .nil, 0, []⟩
theorem c0Op : opsRun Tryz.prog false call0 31 opsA231.toList pre231 (stBOp last ps tt oo y) (lgE [0, 1, 2]) = some (true, sAOp last ps tt oo y) := by kernel_rfl
theorem c1Op : eval 31 (sAOp last ps tt oo y).sl (.tmp 14) = some (.one (.c (.map 1))) := by kernel_rfl
noncomputable def sIOp : S := match setS [(15, .one (.c (.ptr 3 0)))] 4 (sAOp last ps tt oo y) with | some s => s | none => ⟨.nil, .nil, 0, []⟩
theorem c2Op : setS [(15, .one (.c (.ptr 3 0)))] 4 (sAOp last ps tt oo y) = some (sIOp last ps tt oo y) := by kernel_rfl
theorem c4Op : gcS 3 [0, 1, 2] [3] [1, 5, 15] 31 [3] (sIOp last ps tt oo y) = some (S0Op last ps tt oo y) := by kernel_rfl
theorem c3Op : (sAOp last ps tt oo y).nx = 3 := by kernel_rfl
theorem d0Op : eval 31 (S0Op last ps tt oo y).sl (.tmp 15) = some (.one (.c (.ptr 3 0))) := by kernel_rfl
theorem d1Op : eval 31 (S1Op last ps tt oo y ks m nn).sl (.tmp 15) = some (.one (.c (.ptr 3 0))) := by kernel_rfl
noncomputable def G0Op : S := fgt [1, 5, 15, 18] 31 ⟨ofL [(1, fnOp), (5, .one (.c .sl0)), (15, .one (.c (.ptr 3 0))), (18, .tup [.c (.int .i64 x.1), .agg x.2.cells])], hsI last ps (extOp tt oo y), 4, []⟩
noncomputable def G1Op : S := fgt [1, 5, 15, 18] 31 ⟨ofL [(1, fnOp), (5, .one (.c (.slu 4 1 0 m))), (15, .one (.c (.ptr 3 0))), (18, .tup [.c (.int .i64 x.1), .agg x.2.cells])], hsI last ps ((4, rowOp ks nn) :: extOp tt oo y), 5, []⟩
theorem b0Op : setS [(16, .any), (17, .any), (18, .tup [.c (encP x).1, (encP x).2])] (S0Op last ps tt oo y).nx (S0Op last ps tt oo y) = some (G0Op last ps tt oo y x) := by kernel_rfl
theorem b1Op : setS [(16, .any), (17, .any), (18, .tup [.c (encP x).1, (encP x).2])] (S1Op last ps tt oo y ks m nn).nx (S1Op last ps tt oo y ks m nn) = some (G1Op last ps tt oo y ks m nn x) := by kernel_rfl
theorem b2Op : setS [(16, .any), (17, .any)] (S0Op last ps tt oo y).nx (S0Op last ps tt oo y) = some (S0Op last ps tt oo y) := by kernel_rfl
theorem b3Op : setS [(16, .any), (17, .any)] (S1Op last ps tt oo y ks m nn).nx (S1Op last ps tt oo y ks m nn) = some (S1Op last ps tt oo y ks m nn) := by kernel_rfl
noncomputable def E0Op : S := fgt [1, 5, 6, 7, 15] 31 ⟨ofL [(1, fnOp), (5, .one (.c .sl0)), (6, .one (.c (.int .i64 x.1))), (7, .one (.c (.ptr 4 0))), (15, .one (.c (.ptr 3 0)))], hsI last ps ((4, .row 74 false none (.cells x.2.cells)) :: extOp tt oo y), 5, []⟩
noncomputable def E1Op : S := fgt [1, 5, 6, 7, 15] 31 ⟨ofL [(1, fnOp), (5, .one (.c (.slu 4 1 0 m))), (6, .one (.c (.int .i64 x.1))), (7, .one (.c (.ptr 5 0))), (15, .one (.c (.ptr 3 0)))], hsI last ps ((4, rowOp ks nn) :: (5, .row 74 false none (.cells x.2.cells)) :: extOp tt oo y), 6, []⟩
noncomputable abbrev enOp (K pn keep ord : List Nat) (s : S) : Option (Bool × S) := opsRun Tryz.prog false call0 31 opsE231.toList rE231 s (gcE 3 K pn keep 31 ord)
theorem e0Op : enOp [0, 1, 2] [3] [1, 5, 6, 7, 15] [3, 4] (G0Op last ps tt oo y x) = some (true, E0Op last ps tt oo y x) := by kernel_rfl
theorem e1Op : enOp [0, 1, 2] [3] [1, 5, 6, 7, 15] [3, 4, 5] (G1Op last ps tt oo y ks m nn x) = some (true, E1Op last ps tt oo y ks m nn x) := by kernel_rfl
theorem f0Op : goOp [0, 1, 2] [3] [1, 5, 15] [3, 6] bd231 (E0Op last ps tt oo y x) [(0, true)] = some (.normal, true, S1Op last ps tt oo y [x.1] 1 1, [BOp tt oo y x.2 = true]) := by kernel_rfl
theorem f1Op : goOp [0, 1, 2] [3] [1, 5, 15] [3] bd231 (E0Op last ps tt oo y x) [(0, false)] = some (.normal, true, S0Op last ps tt oo y, [BOp tt oo y x.2 = false]) := by kernel_rfl
theorem f2Op : goOp [0, 1, 2] [3] [1, 5, 15] [3, 7] bd231 (E1Op last ps tt oo y ks m nn x) [(0, true), (3, true), (4, true)] = some (.normal, true, S1Op last ps tt oo y ((ks.drop 0).take (m * 1) ++ [x.1]) (m + 1) (m * 1 + 1), [decide (0 + m * 1 ≤ nn) = true, decide (fits Tryz.prog.types[3]! (m + 1) = true) = true, BOp tt oo y x.2 = true]) := by kernel_rfl
theorem f3Op : goOp [0, 1, 2] [3] [1, 5, 15] [3, 4] bd231 (E1Op last ps tt oo y ks m nn x) [(0, false)] = some (.normal, true, S1Op last ps tt oo y ks m nn, [BOp tt oo y x.2 = false]) := by kernel_rfl
noncomputable def F0Op : S := fgt [4] 31 ⟨ofL [(4, .one (.c .sl0))], hsI last ps (extOp tt oo y), 3, []⟩
noncomputable def F1Op : S := fgt [4] 31 ⟨ofL [(4, .one (.c (.slu 3 1 0 m)))], hsI last ps ((3, rowOp ks nn) :: extOp tt oo y), 4, []⟩
theorem g0Op : goOp [0, 1, 2] [] [4] [] (zR (zR (zR (zR c231)))) (S0Op last ps tt oo y) [] = some (.ret, true, F0Op last ps tt oo y, []) := by kernel_rfl
theorem g1Op : goOp [0, 1, 2] [] [4] [4] (zR (zR (zR (zR c231)))) (S1Op last ps tt oo y ks m nn) [] = some (.ret, true, F1Op last ps tt oo y (srt ks) m nn, [ks.length = m, nn = m, m < 4611686018427387904]) := by kernel_rfl
theorem h0Op : resOf Tryz.prog 31 (F0Op last ps tt oo y) Tryz.f231.results.toList = some [.c .sl0] := by kernel_rfl
theorem h1Op : resOf Tryz.prog 31 (F1Op last ps tt oo y ks m nn) Tryz.f231.results.toList = some [.c (.slu 3 1 0 m)] := by kernel_rfl
theorem hsOp_eq : hsI last ps (extOp tt oo y) = T.node (.node .nil (some (.mapR (ps.map encP))) .nil) (some (.row 306 true none (.cells [.int .i64 last, .map 1]))) (.node .nil (some (.row tt true oo (.ints .i64 [y] 1))) .nil) := by kernel_rfl
noncomputable def IOp (d : List (Int × Pt)) : S := match selB (BOp tt oo y) d with | [] => S0Op last ps tt oo y | k :: l => S1Op last ps tt oo y (k :: l) (l.length + 1) (l.length + 1)
end
section
variable {last : Int} {ps : List (Int × Pt)} {tt : TypeId} {oo : Option Nat} {y : Int}
theorem topOp : Top ⟨.nil, hsI last ps (extOp tt oo y), 3, []⟩ := fun i hi => by
  have hi' : 3 ≤ i := hi
  show (hsI last ps (extOp tt oo y)).get i = none
  rw [hsOp_eq, T.get3]
  simp only [if_neg (show ¬ i = 0 by omega), if_neg (show ¬ i = 1 by omega), if_neg (show ¬ i = 2 by omega)]
theorem bdOp (hl : ps.length ≤ 1000000000) (d : List (Int × Pt)) (x : Int × Pt) (r : List (Int × Pt)) (hp : (d ++ x :: r).Perm ps) (s2 : S)
    (hs2 : s2 = match selB (BOp tt oo y) d with | [] => E0Op last ps tt oo y x | k :: l => E1Op last ps tt oo y (k :: l) (l.length + 1) (l.length + 1) x) :
    TO Tryz.prog 31 [0, 1, 2] [3] (oOp last ps tt oo y) bd231 s2 fun x' s' => x' = .normal ∧ s' = IOp last ps tt oo y (d ++ [x]) := by
  subst hs2
  have hlen : (selB (BOp tt oo y) d).length ≤ 1000000000 := by
    have h1 := selB_le (B := BOp tt oo y) (d := d)
    have h2 := hp.length_eq
    simp at h2
    omega
  have hI : IOp last ps tt oo y (d ++ [x]) = match selB (BOp tt oo y) d ++ (if BOp tt oo y x.2 then [x.1] else []) with | [] => S0Op last ps tt oo y | k :: l => S1Op last ps tt oo y (k :: l) (l.length + 1) (l.length + 1) := by
    unfold IOp; rw [selB_snoc]
  rw [hI]
  revert hlen
  generalize selB (BOp tt oo y) d = ks
  intro hlen
  cases hB : BOp tt oo y x.2 with
  | true =>
    cases ks with
    | nil => exact TO.path fitOp (oOp_nx ..) (f0Op last ps tt oo y x) ⟨hB, trivial⟩ ⟨rfl, rfl⟩
    | cons k l =>
      refine TO.path fitOp (oOp_nx ..) (f2Op last ps tt oo y (k :: l) (l.length + 1) (l.length + 1) x) ⟨by simp, fits3 (by simpa using hlen), hB, trivial⟩ ⟨rfl, ?_⟩
      simp
  | false =>
    cases ks with
    | nil => exact TO.path fitOp (oOp_nx ..) (f1Op last ps tt oo y x) ⟨hB, trivial⟩ ⟨rfl, rfl⟩
    | cons k l =>
      refine TO.path fitOp (oOp_nx ..) (f3Op last ps tt oo y (k :: l) (l.length + 1) (l.length + 1) x) ⟨hB, trivial⟩ ⟨rfl, ?_⟩
      simp
abbrev FinOp (last : Int) (ps : List (Int × Pt)) (tt : TypeId) (oo : Option Nat) (y : Int) : X → S → Prop := fun x s1 => x = .ret ∧ s1 = match selB (BOp tt oo y) ps with | [] => F0Op last ps tt oo y | k :: l => F1Op last ps tt oo y (srt (k :: l)) (l.length + 1) (l.length + 1)
theorem rgOp (hl : ps.length ≤ 1000000000) : TO Tryz.prog 31 [0, 1, 2] [] (oOp last ps tt oo y) rg231 (stBOp last ps tt oo y) (ThenO Tryz.prog 31 [0, 1, 2] [] (oOp last ps tt oo y) (FinOp last ps tt oo y) (zR (zR (zR (zR c231))))) := by
  rw [rg231_eq]
  refine TO.range (enc := encP) (l := ps) (I := IOp last ps tt oo y) (nm := 1) zng form231 under304 (c0Op last ps tt oo y) (c1Op last ps tt oo y) (by simp) (by rw [oOp_nx]; decide) (.inr (by kernel_rfl)) (oOp_nx ..) (c3Op ..) (c2Op last ps tt oo y) (c4Op last ps tt oo y) ?_ ?_ ?_
  · intro d
    unfold IOp
    cases selB (BOp tt oo y) d with
    | nil => exact d0Op last ps tt oo y
    | cons k l => exact d1Op last ps tt oo y _ _ _
  · intro d x r hp
    have hb := bdOp (last := last) (tt := tt) (oo := oo) (y := y) hl d x r hp _ rfl
    unfold IOp
    revert hb
    cases hk : selB (BOp tt oo y) d with
    | nil =>
      intro hb
      exact ⟨_, b0Op last ps tt oo y x, _, _, _, e0Op last ps tt oo y x, hb.mono fun x' s' h => by obtain ⟨rfl, rfl⟩ := h; rfl⟩
    | cons k l =>
      intro hb
      exact ⟨_, b1Op last ps tt oo y _ _ _ x, _, _, _, e1Op last ps tt oo y _ _ _ x, hb.mono fun x' s' h => by obtain ⟨rfl, rfl⟩ := h; rfl⟩
  · intro d hp
    have hlen : (selB (BOp tt oo y) d).length ≤ 1000000000 := by
      have h1 := selB_le (B := BOp tt oo y) (d := d)
      have h2 := hp.length_eq
      omega
    have hperm := selB_perm (B := BOp tt oo y) hp
    unfold IOp FinOp
    revert hlen hperm
    generalize selB (BOp tt oo y) ps = kp
    cases selB (BOp tt oo y) d with
    | nil =>
      intro _ hperm
      have := hperm.length_eq
      obtain rfl : kp = [] := List.length_eq_zero_iff.1 (by simpa using this.symm)
      exact ⟨_, b2Op last ps tt oo y, TO.path fitOp (oOp_nx ..) (g0Op last ps tt oo y) trivial ⟨rfl, rfl⟩⟩
    | cons k l =>
      intro hlen hperm
      have hle := hperm.length_eq
      cases kp with
      | nil => simp at hle
      | cons k' l' =>
        have e1 : l'.length = l.length := by simpa using hle.symm
        refine ⟨_, b3Op last ps tt oo y _ _ _, TO.path fitOp (oOp_nx ..) (g1Op last ps tt oo y _ _ _) ⟨by simp, rfl, by simp at hlen; omega, trivial⟩ ⟨rfl, ?_⟩⟩
        simp only [e1, srt_perm hperm]
theorem idsOp (hl : ps.length ≤ 1000000000) : TO Tryz.prog 31 [0, 1, 2] [] (oOp last ps tt oo y) c231 (oOp last ps tt oo y) (FinOp last ps tt oo y) := by
  refine TO.seq (c := zL c231) (d := zR c231) (TO.path fitOp (oOp_nx ..) (a0Op last ps tt oo y) trivial ?_)
  refine TO.seq (c := zL (zR c231)) (d := zR (zR c231)) (TO.path fitOp (oOp_nx ..) (a1Op last ps tt oo y) trivial ?_)
  refine TO.seq (c := zL (zR (zR c231))) (d := zR (zR (zR c231))) (TO.path fitOp (oOp_nx ..) (a2Op last ps tt oo y) trivial ?_)
  exact TO.seq (c := rg231) (d := zR (zR (zR (zR c231)))) (rgOp hl)
theorem idsOp_none (hl : ps.length ≤ 1000000000) (h : selB (BOp tt oo y) ps = []) : SmallN Tryz.prog 231 argsOp 3 (hsI last ps (extOp tt oo y)) 3 (hsI last ps (extOp tt oo y)) (.one (.c .sl0)) :=
  TO.smallN (fn := Tryz.f231) (c := c231) Tryz.func231 body231 [0, 1, 2] topOp slOp_ok ((idsOp hl).mono fun x s h' => by
    obtain ⟨rfl, rfl⟩ := h'
    rw [h]
    exact ⟨.inr rfl, _, h0Op last ps tt oo y, rfl, by kernel_rfl, by kernel_rfl⟩)
theorem idsOp_some (hl : ps.length ≤ 1000000000) {k : Int} {l : List Int} (h : selB (BOp tt oo y) ps = k :: l) : SmallN Tryz.prog 231 argsOp 3 (hsI last ps (extOp tt oo y)) 4 (hsI last ps ((3, rowOp (srt (k :: l)) (l.length + 1)) :: extOp tt oo y)) (.one (.c (.slu 3 1 0 (l.length + 1)))) :=
  TO.smallN (fn := Tryz.f231) (c := c231) Tryz.func231 body231 [0, 1, 2] topOp slOp_ok ((idsOp hl).mono fun x s h' => by
    obtain ⟨rfl, rfl⟩ := h'
    rw [h]
    exact ⟨.inr rfl, _, h1Op last ps tt oo y _ _ _, rfl, by kernel_rfl, by kernel_rfl⟩)
end
end Go.Sx


namespace Go.Sx
open Go.Proofs Go.RowKit Go.Sort
set_option maxRecDepth 100000
/-! ### graph.ids (f231), called with closure f260: printed by gen_ids.py -/
abbrev fnOw : RV := .one (.c (.fn 260 [] [(2, 0)]))
noncomputable def extOw (tt : TypeId) (oo : Option Nat) (y : Int) : List (Nat × Blk) := [(2, .row tt true oo (.ints .i64 [y] 1))]
noncomputable def argsOw : List RV := [.one (.c (.ptr 0 0)), fnOw]
noncomputable def slOw : T RV := match setArgs 31 argsOw 0 .nil some with | some t => t | none => .nil
theorem slOw_ok : setArgs 31 argsOw 0 .nil some = some slOw := by kernel_rfl
noncomputable def sgOw : FuncId → Option SumA := fun f => match f with | 312 => some sumSort | 260 => some (sumB1 fun p x => p.owner == x) | _ => none
theorem fitOw : Fit Tryz.prog (fun f => (sgOw f).map toSum) := ⟨zng, zmixed, SumAOK.sum fun f sm h => by
  unfold sgOw at h
  split at h
  · cases h; exact sumSort_ok
  · cases h; exact sumOwner_ok
  · cases h⟩
section
variable (last : Int) (ps : List (Int × Pt)) (tt : TypeId) (oo : Option Nat) (y : Int) (ks : List Int) (m nn : Nat) (x : Int × Pt)
abbrev BOw (tt : TypeId) (oo : Option Nat) (y : Int) (x : Pt) : Bool := x.owner == y
noncomputable def oOw : S := ⟨slOw, hsI last ps (extOw tt oo y), 3, []⟩
noncomputable def stAOw : S := fgt [0, 1] 31 ⟨ofL [(0, .one (.c (.ptr 0 0))), (1, fnOw)], hsI last ps (extOw tt oo y), 3, []⟩
noncomputable def stBOw : S := fgt [0, 1, 5] 31 ⟨ofL [(0, .one (.c (.ptr 0 0))), (1, fnOw), (5, .one (.c .sl0))], hsI last ps (extOw tt oo y), 3, []⟩
noncomputable def S0Ow : S := fgt [1, 5, 15] 31 ⟨ofL [(1, fnOw), (5, .one (.c .sl0)), (15, .one (.c (.ptr 3 0)))], hsI last ps (extOw tt oo y), 4, []⟩
abbrev rowOw (ks : List Int) (nn : Nat) : Blk := .row 3 false (some 1) (.ints .i64 ks nn)
noncomputable def S1Ow : S := fgt [1, 5, 15] 31 ⟨ofL [(1, fnOw), (5, .one (.c (.slu 4 1 0 m))), (15, .one (.c (.ptr 3 0)))], hsI last ps ((4, rowOw ks nn) :: extOw tt oo y), 5, []⟩
noncomputable abbrev goOw (K pn keep ord : List Nat) (c : Code) (s : S) (o : List (Nat × Bool)) : Option (X × Bool × S × List Prop) :=
  execA Tryz.prog sgOw 300 31 c s ⟨0, o, []⟩ (gcP 3 K pn keep 31 ord)
theorem oOw_nx : (oOw last ps tt oo y).nx = 3 := by kernel_rfl
theorem a0Ow : goOw [0, 1, 2] [] [0, 1] [] (zL c231) (oOw last ps tt oo y) [] = some (.normal, true, stAOw last ps tt oo y, []) := by kernel_rfl
theorem a1Ow : goOw [0, 1, 2] [] [0, 1, 5] [] (zL (zR c231)) (stAOw last ps tt oo y) [] = some (.normal, true, stBOw last ps tt oo y, []) := by kernel_rfl
theorem a2Ow : goOw [0, 1, 2] [] [0, 1, 5] [] (zL (zR (zR c231))) (stBOw last ps tt oo y) [] = some (.normal, true, stBOw last ps tt oo y, []) := by kernel_rfl
noncomputable def sAOw : S := match opsRun Tryz.prog false call0 31 opsA231.toList pre231 (stBOw last ps tt oo y) (fun s' => some s') with | some s => s | none => ⟨.nil, .nil, 0, []⟩
theorem c0Ow : opsRun Tryz.prog false call0 31 opsA231.toList pre231 (stBOw last ps tt oo y) (lgE [0, 1, 2]) = some (true, sAOw last ps tt oo y) := by kernel_rfl
theorem c1Ow : eval 31 (sAOw last ps tt oo y).sl (.tmp 14) = some (.one (.c (.map 1))) := by kernel_rfl
noncomputable def sIOw : S := match setS [(15, .one (.c (.ptr 3 0)))] 4 (sAOw last ps tt oo y) with | some s => s | none => ⟨.nil, .nil, 0, []⟩
theorem c2Ow : setS [(15, .one (.c (.ptr 3 0)))] 4 (sAOw last ps tt oo y) = some (sIOw last ps tt oo y) := by kernel_rfl
theorem c4Ow : gcS 3 [0, 1, 2] [3] [1, 5, 15] 31 [3] (sIOw last ps tt oo y) = some (S0Ow last ps tt oo y) := by kernel_rfl
theorem c3Ow : (sAOw last ps tt oo y).nx = 3 := by kernel_rfl
theorem d0Ow : eval 31 (S0Ow last ps tt oo y).sl (.tmp 15) = some (.one (.c (.ptr 3 0))) := by kernel_rfl
theorem d1Ow : eval 31 (S1Ow last ps tt oo y ks m nn).sl (.tmp 15) = some (.one (.c (.ptr 3 0))) := by kernel_rfl
noncomputable def G0Ow : S := fgt [1, 5, 15, 18] 31 ⟨ofL [(1, fnOw), (5, .one (.c .sl0)), (15, .one (.c (.ptr 3 0))), (18, .tup [.c (.int .i64 x.1), .agg x.2.cells])], hsI last ps (extOw tt oo y), 4, []⟩
noncomputable def G1Ow : S := fgt [1, 5, 15, 18] 31 ⟨ofL [(1, fnOw), (5, .one (.c (.slu 4 1 0 m))), (15, .one (.c (.ptr 3 0))), (18, .tup [.c (.int .i64 x.1), .agg x.2.cells])], hsI last ps ((4, rowOw ks nn) :: extOw tt oo y), 5, []⟩
theorem b0Ow : setS [(16, .any), (17, .any), (18, .tup [.c (encP x).1, (encP x).2])] (S0Ow last ps tt oo y).nx (S0Ow last ps tt oo y) = some (G0Ow last ps tt oo y x) := by kernel_rfl
theorem b1Ow : setS [(16, .any), (17, .any), (18, .tup [.c (encP x).1, (encP x).2])] (S1Ow last ps tt oo y ks m nn).nx (S1Ow last ps tt oo y ks m nn) = some (G1Ow last ps tt oo y ks m nn x) := by kernel_rfl
theorem b2Ow : setS [(16, .any), (17, .any)] (S0Ow last ps tt oo y).nx (S0Ow last ps tt oo y) = some (S0Ow last ps tt oo y) := by kernel_rfl
theorem b3Ow : setS [(16, .any), (17, .any)] (S1Ow last ps tt oo y ks m nn).nx (S1Ow last ps tt oo y ks m nn) = some (S1Ow last ps tt oo y ks m nn) := by kernel_rfl
noncomputable def E0Ow : S := fgt [1, 5, 6, 7, 15] 31 ⟨ofL [(1, fnOw), (5, .one (.c .sl0)), (6, .one (.c (.int .i64 x.1))), (7, .one (.c (.ptr 4 0))), (15, .one (.c (.ptr 3 0)))], hsI last ps ((4, .row 74 false none (.cells x.2.cells)) :: extOw tt oo y), 5, []⟩
noncomputable def E1Ow : S := fgt [1, 5, 6, 7, 15] 31 ⟨ofL [(1, fnOw), (5, .one (.c (.slu 4 1 0 m))), (6, .one (.c (.int .i64 x.1))), (7, .one (.c (.ptr 5 0))), (15, .one (.c (.ptr 3 0)))], hsI last ps ((4, rowOw ks nn) :: (5, .row 74 false none (.cells x.2.cells)) :: extOw tt oo y), 6, []⟩
noncomputable abbrev enOw (K pn keep ord : List Nat) (s : S) : Option (Bool × S) := opsRun Tryz.prog false call0 31 opsE231.toList rE231 s (gcE 3 K pn keep 31 ord)
theorem e0Ow : enOw [0, 1, 2] [3] [1, 5, 6, 7, 15] [3, 4] (G0Ow last ps tt oo y x) = some (true, E0Ow last ps tt oo y x) := by kernel_rfl
theorem e1Ow : enOw [0, 1, 2] [3] [1, 5, 6, 7, 15] [3, 4, 5] (G1Ow last ps tt oo y ks m nn x) = some (true, E1Ow last ps tt oo y ks m nn x) := by kernel_rfl
theorem f0Ow : goOw [0, 1, 2] [3] [1, 5, 15] [3, 6] bd231 (E0Ow last ps tt oo y x) [(0, true)] = some (.normal, true, S1Ow last ps tt oo y [x.1] 1 1, [BOw tt oo y x.2 = true]) := by kernel_rfl
theorem f1Ow : goOw [0, 1, 2] [3] [1, 5, 15] [3] bd231 (E0Ow last ps tt oo y x) [(0, false)] = some (.normal, true, S0Ow last ps tt oo y, [BOw tt oo y x.2 = false]) := by kernel_rfl
theorem f2Ow : goOw [0, 1, 2] [3] [1, 5, 15] [3, 7] bd231 (E1Ow last ps tt oo y ks m nn x) [(0, true), (3, true), (4, true)] = some (.normal, true, S1Ow last ps tt oo y ((ks.drop 0).take (m * 1) ++ [x.1]) (m + 1) (m * 1 + 1), [decide (0 + m * 1 ≤ nn) = true, decide (fits Tryz.prog.types[3]! (m + 1) = true) = true, BOw tt oo y x.2 = true]) := by kernel_rfl
theorem f3Ow : goOw [0, 1, 2] [3] [1, 5, 15] [3, 4] bd231 (E1Ow last ps tt oo y ks m nn x) [(0, false)] = some (.normal, true, S1Ow last ps tt oo y ks m nn, [BOw tt oo y x.2 = false]) := by kernel_rfl
noncomputable def F0Ow : S := fgt [4] 31 ⟨ofL [(4, .one (.c .sl0))], hsI last ps (extOw tt oo y), 3, []⟩
noncomputable def F1Ow : S := fgt [4] 31 ⟨ofL [(4, .one (.c (.slu 3 1 0 m)))], hsI last ps ((3, rowOw ks nn) :: extOw tt oo y), 4, []⟩
theorem g0Ow : goOw [0, 1, 2] [] [4] [] (zR (zR (zR (zR c231)))) (S0Ow last ps tt oo y) [] = some (.ret, true, F0Ow last ps tt oo y, []) := by kernel_rfl
theorem g1Ow : goOw [0, 1, 2] [] [4] [4] (zR (zR (zR (zR c231)))) (S1Ow last ps tt oo y ks m nn) [] = some (.ret, true, F1Ow last ps tt oo y (srt ks) m nn, [ks.length = m, nn = m, m < 4611686018427387904]) := by kernel_rfl
theorem h0Ow : resOf Tryz.prog 31 (F0Ow last ps tt oo y) Tryz.f231.results.toList = some [.c .sl0] := by kernel_rfl
theorem h1Ow : resOf Tryz.prog 31 (F1Ow last ps tt oo y ks m nn) Tryz.f231.results.toList = some [.c (.slu 3 1 0 m)] := by kernel_rfl
theorem hsOw_eq : hsI last ps (extOw tt oo y) = T.node (.node .nil (some (.mapR (ps.map encP))) .nil) (some (.row 306 true none (.cells [.int .i64 last, .map 1]))) (.node .nil (some (.row tt true oo (.ints .i64 [y] 1))) .nil) := by kernel_rfl
noncomputable def IOw (d : List (Int × Pt)) : S := match selB (BOw tt oo y) d with | [] => S0Ow last ps tt oo y | k :: l => S1Ow last ps tt oo y (k :: l) (l.length + 1) (l.length + 1)
end
section
variable {last : Int} {ps : List (Int × Pt)} {tt : TypeId} {oo : Option Nat} {y : Int}
theorem topOw : Top ⟨.nil, hsI last ps (extOw tt oo y), 3, []⟩ := fun i hi => by
  have hi' : 3 ≤ i := hi
  show (hsI last ps (extOw tt oo y)).get i = none
  rw [hsOw_eq, T.get3]
  simp only [if_neg (show ¬ i = 0 by omega), if_neg (show ¬ i = 1 by omega), if_neg (show ¬ i = 2 by omega)]
theorem bdOw (hl : ps.length ≤ 1000000000) (d : List (Int × Pt)) (x : Int × Pt) (r : List (Int × Pt)) (hp : (d ++ x :: r).Perm ps) (s2 : S)
    (hs2 : s2 = match selB (BOw tt oo y) d with | [] => E0Ow last ps tt oo y x | k :: l => E1Ow last ps tt oo y (k :: l) (l.length + 1) (l.length + 1) x) :
    TO Tryz.prog 31 [0, 1, 2] [3] (oOw last ps tt oo y) bd231 s2 fun x' s' => x' = .normal ∧ s' = IOw last ps tt oo y (d ++ [x]) := by
  subst hs2
  have hlen : (selB (BOw tt oo y) d).length ≤ 1000000000 := by
    have h1 := selB_le (B := BOw tt oo y) (d := d)
    have h2 := hp.length_eq
    simp at h2
    omega
  have hI : IOw last ps tt oo y (d ++ [x]) = match selB (BOw tt oo y) d ++ (if BOw tt oo y x.2 then [x.1] else []) with | [] => S0Ow last ps tt oo y | k :: l => S1Ow last ps tt oo y (k :: l) (l.length + 1) (l.length + 1) := by
    unfold IOw; rw [selB_snoc]
  rw [hI]
  revert hlen
  generalize selB (BOw tt oo y) d = ks
  intro hlen
  cases hB : BOw tt oo y x.2 with
  | true =>
    cases ks with
    | nil => exact TO.path fitOw (oOw_nx ..) (f0Ow last ps tt oo y x) ⟨hB, trivial⟩ ⟨rfl, rfl⟩
    | cons k l =>
      refine TO.path fitOw (oOw_nx ..) (f2Ow last ps tt oo y (k :: l) (l.length + 1) (l.length + 1) x) ⟨by simp, fits3 (by simpa using hlen), hB, trivial⟩ ⟨rfl, ?_⟩
      simp
  | false =>
    cases ks with
    | nil => exact TO.path fitOw (oOw_nx ..) (f1Ow last ps tt oo y x) ⟨hB, trivial⟩ ⟨rfl, rfl⟩
    | cons k l =>
      refine TO.path fitOw (oOw_nx ..) (f3Ow last ps tt oo y (k :: l) (l.length + 1) (l.length + 1) x) ⟨hB, trivial⟩ ⟨rfl, ?_⟩
      simp
abbrev FinOw (last : Int) (ps : List (Int × Pt)) (tt : TypeId) (oo : Option Nat) (y : Int) : X → S → Prop := fun x s1 => x = .ret ∧ s1 = match selB (BOw tt oo y) ps with | [] => F0Ow last ps tt oo y | k :: l => F1Ow last ps tt oo y (srt (k :: l)) (l.length + 1) (l.length + 1)
theorem rgOw (hl : ps.length ≤ 1000000000) : TO Tryz.prog 31 [0, 1, 2] [] (oOw last ps tt oo y) rg231 (stBOw last ps tt oo y) (ThenO Tryz.prog 31 [0, 1, 2] [] (oOw last ps tt oo y) (FinOw last ps tt oo y) (zR (zR (zR (zR c231))))) := by
  rw [rg231_eq]
  refine TO.range (enc := encP) (l := ps) (I := IOw last ps tt oo y) (nm := 1) zng form231 under304 (c0Ow last ps tt oo y) (c1Ow last ps tt oo y) (by simp) (by rw [oOw_nx]; decide) (.inr (by kernel_rfl)) (oOw_nx ..) (c3Ow ..) (c2Ow last ps tt oo y) (c4Ow last ps tt oo y) ?_ ?_ ?_
  · intro d
    unfold IOw
    cases selB (BOw tt oo y) d with
    | nil => exact d0Ow last ps tt oo y
    | cons k l => exact d1Ow last ps tt oo y _ _ _
  · intro d x r hp
    have hb := bdOw (last := last) (tt := tt) (oo := oo) (y := y) hl d x r hp _ rfl
    unfold IOw
    revert hb
    cases hk : selB (BOw tt oo y) d with
    | nil =>
      intro hb
      exact ⟨_, b0Ow last ps tt oo y x, _, _, _, e0Ow last ps tt oo y x, hb.mono fun x' s' h => by obtain ⟨rfl, rfl⟩ := h; rfl⟩
    | cons k l =>
      intro hb
      exact ⟨_, b1Ow last ps tt oo y _ _ _ x, _, _, _, e1Ow last ps tt oo y _ _ _ x, hb.mono fun x' s' h => by obtain ⟨rfl, rfl⟩ := h; rfl⟩
  · intro d hp
    have hlen : (selB (BOw tt oo y) d).length ≤ 1000000000 := by
      have h1 := selB_le (B := BOw tt oo y) (d := d)
      have h2 := hp.length_eq
      omega
    have hperm := selB_perm (B := BOw tt oo y) hp
    unfold IOw FinOw
    revert hlen hperm
    generalize selB (BOw tt oo y) ps = kp
    cases selB (BOw tt oo y) d with
    | nil =>
      intro _ hperm
      have := hperm.length_eq
      obtain rfl : kp = [] := List.length_eq_zero_iff.1 (by simpa using this.symm)
      exact ⟨_, b2Ow last ps tt oo y, TO.path fitOw (oOw_nx ..) (g0Ow last ps tt oo y) trivial ⟨rfl, rfl⟩⟩
    | cons k l =>
      intro hlen hperm
      have hle := hperm.length_eq
      cases kp with
      | nil => simp at hle
      | cons k' l' =>
        have e1 : l'.length = l.length := by simpa using hle.symm
        refine ⟨_, b3Ow last ps tt oo y _ _ _, TO.path fitOw (oOw_nx ..) (g1Ow last ps tt oo y _ _ _) ⟨by simp, rfl, by simp at hlen; omega, trivial⟩ ⟨rfl, ?_⟩⟩
        simp only [e1, srt_perm hperm]
theorem idsOw (hl : ps.length ≤ 1000000000) : TO Tryz.prog 31 [0, 1, 2] [] (oOw last ps tt oo y) c231 (oOw last ps tt oo y) (FinOw last ps tt oo y) := by
  refine TO.seq (c := zL c231) (d := zR c231) (TO.path fitOw (oOw_nx ..) (a0Ow last ps tt oo y) trivial ?_)
  refine TO.seq (c := zL (zR c231)) (d := zR (zR c231)) (TO.path fitOw (oOw_nx ..) (a1Ow last ps tt oo y) trivial ?_)
  refine TO.seq (c := zL (zR (zR c231))) (d := zR (zR (zR c231))) (TO.path fitOw (oOw_nx ..) (a2Ow last ps tt oo y) trivial ?_)
  exact TO.seq (c := rg231) (d := zR (zR (zR (zR c231)))) (rgOw hl)
theorem idsOw_none (hl : ps.length ≤ 1000000000) (h : selB (BOw tt oo y) ps = []) : SmallN Tryz.prog 231 argsOw 3 (hsI last ps (extOw tt oo y)) 3 (hsI last ps (extOw tt oo y)) (.one (.c .sl0)) :=
  TO.smallN (fn := Tryz.f231) (c := c231) Tryz.func231 body231 [0, 1, 2] topOw slOw_ok ((idsOw hl).mono fun x s h' => by
    obtain ⟨rfl, rfl⟩ := h'
    rw [h]
    exact ⟨.inr rfl, _, h0Ow last ps tt oo y, rfl, by kernel_rfl, by kernel_rfl⟩)
theorem idsOw_some (hl : ps.length ≤ 1000000000) {k : Int} {l : List Int} (h : selB (BOw tt oo y) ps = k :: l) : SmallN Tryz.prog 231 argsOw 3 (hsI last ps (extOw tt oo y)) 4 (hsI last ps ((3, rowOw (srt (k :: l)) (l.length + 1)) :: extOw tt oo y)) (.one (.c (.slu 3 1 0 (l.length + 1)))) :=
  TO.smallN (fn := Tryz.f231) (c := c231) Tryz.func231 body231 [0, 1, 2] topOw slOw_ok ((idsOw hl).mono fun x s h' => by
    obtain ⟨rfl, rfl⟩ := h'
    rw [h]
    exact ⟨.inr rfl, _, h1Ow last ps tt oo y _ _ _, rfl, by kernel_rfl, by kernel_rfl⟩)
end
end Go.Sx


namespace Go.Sx
open Go.Proofs Go.RowKit Go.Sort
set_option maxRecDepth 100000
/-! ### graph.ids (f231), called with closure f391: printed by gen_ids.py -/
abbrev fnSt : RV := .one (.c (.fn 391 [] [(2, 0)]))
noncomputable def extSt (tt : TypeId) (oo : Option Nat) : List (Nat × Blk) := [(2, .row tt true oo (.cells [.fn 336 [] []]))]
noncomputable def argsSt : List RV := [.one (.c (.ptr 0 0)), fnSt]
noncomputable def slSt : T RV := match setArgs 31 argsSt 0 .nil some with | some t => t | none => .nil
theorem slSt_ok : setArgs 31 argsSt 0 .nil some = some slSt := by kernel_rfl
noncomputable def sgSt : FuncId → Option SumA := fun f => match f with | 312 => some sumSort | 391 => some (sumB3) | _ => none
theorem fitSt : Fit Tryz.prog (fun f => (sgSt f).map toSum) := ⟨zng, zmixed, SumAOK.sum fun f sm h => by
  unfold sgSt at h
  split at h
  · cases h; exact sumSort_ok
  · cases h; exact sumB3_ok
  · cases h⟩
section
variable (last : Int) (ps : List (Int × Pt)) (tt : TypeId) (oo : Option Nat) (ks : List Int) (m nn : Nat) (x : Int × Pt)
abbrev BSt (tt : TypeId) (oo : Option Nat) (x : Pt) : Bool := x.wr
noncomputable def oSt : S := ⟨slSt, hsI last ps (extSt tt oo), 3, []⟩
noncomputable def stASt : S := fgt [0, 1] 31 ⟨ofL [(0, .one (.c (.ptr 0 0))), (1, fnSt)], hsI last ps (extSt tt oo), 3, []⟩
noncomputable def stBSt : S := fgt [0, 1, 5] 31 ⟨ofL [(0, .one (.c (.ptr 0 0))), (1, fnSt), (5, .one (.c .sl0))], hsI last ps (extSt tt oo), 3, []⟩
noncomputable def S0St : S := fgt [1, 5, 15] 31 ⟨ofL [(1, fnSt), (5, .one (.c .sl0)), (15, .one (.c (.ptr 3 0)))], hsI last ps (extSt tt oo), 4, []⟩
abbrev rowSt (ks : List Int) (nn : Nat) : Blk := .row 3 false (some 1) (.ints .i64 ks nn)
noncomputable def S1St : S := fgt [1, 5, 15] 31 ⟨ofL [(1, fnSt), (5, .one (.c (.slu 4 1 0 m))), (15, .one (.c (.ptr 3 0)))], hsI last ps ((4, rowSt ks nn) :: extSt tt oo), 5, []⟩
noncomputable abbrev goSt (K pn keep ord : List Nat) (c : Code) (s : S) (o : List (Nat × Bool)) : Option (X × Bool × S × List Prop) :=
  execA Tryz.prog sgSt 300 31 c s ⟨0, o, []⟩ (gcP 3 K pn keep 31 ord)
theorem oSt_nx : (oSt last ps tt oo).nx = 3 := by kernel_rfl
theorem a0St : goSt [0, 1, 2] [] [0, 1] [] (zL c231) (oSt last ps tt oo) [] = some (.normal, true, stASt last ps tt oo, []) := by kernel_rfl
theorem a1St : goSt [0, 1, 2] [] [0, 1, 5] [] (zL (zR c231)) (stASt last ps tt oo) [] = some (.normal, true, stBSt last ps tt oo, []) := by kernel_rfl
theorem a2St : goSt [0, 1, 2] [] [0, 1, 5] [] (zL (zR (zR c231))) (stBSt last ps tt oo) [] = some (.normal, true, stBSt last ps tt oo, []) := by kernel_rfl
noncomputable def sASt : S := match opsRun Tryz.prog false call0 31 opsA231.toList pre231 (stBSt last ps tt oo) (fun s' => some s') with | some s => s | none => ⟨.nil, .nil, 0, []⟩
theorem c0St : opsRun Tryz.prog false call0 31 opsA231.toList pre231 (stBSt last ps tt oo) (lgE [0, 1, 2]) = some (true, sASt last ps tt oo) := by kernel_rfl
theorem c1St : eval 31 (sASt last ps tt oo).sl (.tmp 14) = some (.one (.c (.map 1))) := by kernel_rfl
noncomputable def sISt : S := match setS [(15, .one (.c (.ptr 3 0)))] 4 (sASt last ps tt oo) with | some s => s | none => ⟨.nil, .nil, 0, []⟩
theorem c2St : setS [(15, .one (.c (.ptr 3 0)))] 4 (sASt last ps tt oo) = some (sISt last ps tt oo) := by kernel_rfl
theorem c4St : gcS 3 [0, 1, 2] [3] [1, 5, 15] 31 [3] (sISt last ps tt oo) = some (S0St last ps tt oo) := by kernel_rfl
theorem c3St : (sASt last ps tt oo).nx = 3 := by kernel_rfl
theorem d0St : eval 31 (S0St last ps tt oo).sl (.tmp 15) = some (.one (.c (.ptr 3 0))) := by kernel_rfl
theorem d1St : eval 31 (S1St last ps tt oo ks m nn).sl (.tmp 15) = some (.one (.c (.ptr 3 0))) := by kernel_rfl
noncomputable def G0St : S := fgt [1, 5, 15, 18] 31 ⟨ofL [(1, fnSt), (5, .one (.c .sl0)), (15, .one (.c (.ptr 3 0))), (18, .tup [.c (.int .i64 x.1), .agg x.2.cells])], hsI last ps (extSt tt oo), 4, []⟩
noncomputable def G1St : S := fgt [1, 5, 15, 18] 31 ⟨ofL [(1, fnSt), (5, .one (.c (.slu 4 1 0 m))), (15, .one (.c (.ptr 3 0))), (18, .tup [.c (.int .i64 x.1), .agg x.2.cells])], hsI last ps ((4, rowSt ks nn) :: extSt tt oo), 5, []⟩
theorem b0St : setS [(16, .any), (17, .any), (18, .tup [.c (encP x).1, (encP x).2])] (S0St last ps tt oo).nx (S0St last ps tt oo) = some (G0St last ps tt oo x) := by kernel_rfl
theorem b1St : setS [(16, .any), (17, .any), (18, .tup [.c (encP x).1, (encP x).2])] (S1St last ps tt oo ks m nn).nx (S1St last ps tt oo ks m nn) = some (G1St last ps tt oo ks m nn x) := by kernel_rfl
theorem b2St : setS [(16, .any), (17, .any)] (S0St last ps tt oo).nx (S0St last ps tt oo) = some (S0St last ps tt oo) := by kernel_rfl
theorem b3St : setS [(16, .any), (17, .any)] (S1St last ps tt oo ks m nn).nx (S1St last ps tt oo ks m nn) = some (S1St last ps tt oo ks m nn) := by kernel_rfl
noncomputable def E0St : S := fgt [1, 5, 6, 7, 15] 31 ⟨ofL [(1, fnSt), (5, .one (.c .sl0)), (6, .one (.c (.int .i64 x.1))), (7, .one (.c (.ptr 4 0))), (15, .one (.c (.ptr 3 0)))], hsI last ps ((4, .row 74 false none (.cells x.2.cells)) :: extSt tt oo), 5, []⟩
noncomputable def E1St : S := fgt [1, 5, 6, 7, 15] 31 ⟨ofL [(1, fnSt), (5, .one (.c (.slu 4 1 0 m))), (6, .one (.c (.int .i64 x.1))), (7, .one (.c (.ptr 5 0))), (15, .one (.c (.ptr 3 0)))], hsI last ps ((4, rowSt ks nn) :: (5, .row 74 false none (.cells x.2.cells)) :: extSt tt oo), 6, []⟩
noncomputable abbrev enSt (K pn keep ord : List Nat) (s : S) : Option (Bool × S) := opsRun Tryz.prog false call0 31 opsE231.toList rE231 s (gcE 3 K pn keep 31 ord)
theorem e0St : enSt [0, 1, 2] [3] [1, 5, 6, 7, 15] [3, 4] (G0St last ps tt oo x) = some (true, E0St last ps tt oo x) := by kernel_rfl
theorem e1St : enSt [0, 1, 2] [3] [1, 5, 6, 7, 15] [3, 4, 5] (G1St last ps tt oo ks m nn x) = some (true, E1St last ps tt oo ks m nn x) := by kernel_rfl
theorem f0St : goSt [0, 1, 2] [3] [1, 5, 15] [3, 6] bd231 (E0St last ps tt oo x) [(0, true)] = some (.normal, true, S1St last ps tt oo [x.1] 1 1, [BSt tt oo x.2 = true]) := by kernel_rfl
theorem f1St : goSt [0, 1, 2] [3] [1, 5, 15] [3] bd231 (E0St last ps tt oo x) [(0, false)] = some (.normal, true, S0St last ps tt oo, [BSt tt oo x.2 = false]) := by kernel_rfl
theorem f2St : goSt [0, 1, 2] [3] [1, 5, 15] [3, 7] bd231 (E1St last ps tt oo ks m nn x) [(0, true), (3, true), (4, true)] = some (.normal, true, S1St last ps tt oo ((ks.drop 0).take (m * 1) ++ [x.1]) (m + 1) (m * 1 + 1), [decide (0 + m * 1 ≤ nn) = true, decide (fits Tryz.prog.types[3]! (m + 1) = true) = true, BSt tt oo x.2 = true]) := by kernel_rfl
theorem f3St : goSt [0, 1, 2] [3] [1, 5, 15] [3, 4] bd231 (E1St last ps tt oo ks m nn x) [(0, false)] = some (.normal, true, S1St last ps tt oo ks m nn, [BSt tt oo x.2 = false]) := by kernel_rfl
noncomputable def F0St : S := fgt [4] 31 ⟨ofL [(4, .one (.c .sl0))], hsI last ps (extSt tt oo), 3, []⟩
noncomputable def F1St : S := fgt [4] 31 ⟨ofL [(4, .one (.c (.slu 3 1 0 m)))], hsI last ps ((3, rowSt ks nn) :: extSt tt oo), 4, []⟩
theorem g0St : goSt [0, 1, 2] [] [4] [] (zR (zR (zR (zR c231)))) (S0St last ps tt oo) [] = some (.ret, true, F0St last ps tt oo, []) := by kernel_rfl
theorem g1St : goSt [0, 1, 2] [] [4] [4] (zR (zR (zR (zR c231)))) (S1St last ps tt oo ks m nn) [] = some (.ret, true, F1St last ps tt oo (srt ks) m nn, [ks.length = m, nn = m, m < 4611686018427387904]) := by kernel_rfl
theorem h0St : resOf Tryz.prog 31 (F0St last ps tt oo) Tryz.f231.results.toList = some [.c .sl0] := by kernel_rfl
theorem h1St : resOf Tryz.prog 31 (F1St last ps tt oo ks m nn) Tryz.f231.results.toList = some [.c (.slu 3 1 0 m)] := by kernel_rfl
theorem hsSt_eq : hsI last ps (extSt tt oo) = T.node (.node .nil (some (.mapR (ps.map encP))) .nil) (some (.row 306 true none (.cells [.int .i64 last, .map 1]))) (.node .nil (some (.row tt true oo (.cells [.fn 336 [] []]))) .nil) := by kernel_rfl
noncomputable def ISt (d : List (Int × Pt)) : S := match selB (BSt tt oo) d with | [] => S0St last ps tt oo | k :: l => S1St last ps tt oo (k :: l) (l.length + 1) (l.length + 1)
end
section
variable {last : Int} {ps : List (Int × Pt)} {tt : TypeId} {oo : Option Nat}
theorem topSt : Top ⟨.nil, hsI last ps (extSt tt oo), 3, []⟩ := fun i hi => by
  have hi' : 3 ≤ i := hi
  show (hsI last ps (extSt tt oo)).get i = none
  rw [hsSt_eq, T.get3]
  simp only [if_neg (show ¬ i = 0 by omega), if_neg (show ¬ i = 1 by omega), if_neg (show ¬ i = 2 by omega)]
theorem bdSt (hl : ps.length ≤ 1000000000) (d : List (Int × Pt)) (x : Int × Pt) (r : List (Int × Pt)) (hp : (d ++ x :: r).Perm ps) (s2 : S)
    (hs2 : s2 = match selB (BSt tt oo) d with | [] => E0St last ps tt oo x | k :: l => E1St last ps tt oo (k :: l) (l.length + 1) (l.length + 1) x) :
    TO Tryz.prog 31 [0, 1, 2] [3] (oSt last ps tt oo) bd231 s2 fun x' s' => x' = .normal ∧ s' = ISt last ps tt oo (d ++ [x]) := by
  subst hs2
  have hlen : (selB (BSt tt oo) d).length ≤ 1000000000 := by
    have h1 := selB_le (B := BSt tt oo) (d := d)
    have h2 := hp.length_eq
    simp at h2
    omega
  have hI : ISt last ps tt oo (d ++ [x]) = match selB (BSt tt oo) d ++ (if BSt tt oo x.2 then [x.1] else []) with | [] => S0St last ps tt oo | k :: l => S1St last ps tt oo (k :: l) (l.length + 1) (l.length + 1) := by
    unfold ISt; rw [selB_snoc]
  rw [hI]
  revert hlen
  generalize selB (BSt tt oo) d = ks
  intro hlen
  cases hB : BSt tt oo x.2 with
  | true =>
    cases ks with
    | nil => exact TO.path fitSt (oSt_nx ..) (f0St last ps tt oo x) ⟨hB, trivial⟩ ⟨rfl, rfl⟩
    | cons k l =>
      refine TO.path fitSt (oSt_nx ..) (f2St last ps tt oo (k :: l) (l.length + 1) (l.length + 1) x) ⟨by simp, fits3 (by simpa using hlen), hB, trivial⟩ ⟨rfl, ?_⟩
      simp
  | false =>
    cases ks with
    | nil => exact TO.path fitSt (oSt_nx ..) (f1St last ps tt oo x) ⟨hB, trivial⟩ ⟨rfl, rfl⟩
    | cons k l =>
      refine TO.path fitSt (oSt_nx ..) (f3St last ps tt oo (k :: l) (l.length + 1) (l.length + 1) x) ⟨hB, trivial⟩ ⟨rfl, ?_⟩
      simp
abbrev FinSt (last : Int) (ps : List (Int × Pt)) (tt : TypeId) (oo : Option Nat) : X → S → Prop := fun x s1 => x = .ret ∧ s1 = match selB (BSt tt oo) ps with | [] => F0St last ps tt oo | k :: l => F1St last ps tt oo (srt (k :: l)) (l.length + 1) (l.length + 1)
theorem rgSt (hl : ps.length ≤ 1000000000) : TO Tryz.prog 31 [0, 1, 2] [] (oSt last ps tt oo) rg231 (stBSt last ps tt oo) (ThenO Tryz.prog 31 [0, 1, 2] [] (oSt last ps tt oo) (FinSt last ps tt oo) (zR (zR (zR (zR c231))))) := by
  rw [rg231_eq]
  refine TO.range (enc := encP) (l := ps) (I := ISt last ps tt oo) (nm := 1) zng form231 under304 (c0St last ps tt oo) (c1St last ps tt oo) (by simp) (by rw [oSt_nx]; decide) (.inr (by kernel_rfl)) (oSt_nx ..) (c3St ..) (c2St last ps tt oo) (c4St last ps tt oo) ?_ ?_ ?_
  · intro d
    unfold ISt
    cases selB (BSt tt oo) d with
    | nil => exact d0St last ps tt oo
    | cons k l => exact d1St last ps tt oo _ _ _
  · intro d x r hp
    have hb := bdSt (last := last) (tt := tt) (oo := oo) hl d x r hp _ rfl
    unfold ISt
    revert hb
    cases hk : selB (BSt tt oo) d with
    | nil =>
      intro hb
      exact ⟨_, b0St last ps tt oo x, _, _, _, e0St last ps tt oo x, hb.mono fun x' s' h => by obtain ⟨rfl, rfl⟩ := h; rfl⟩
    | cons k l =>
      intro hb
      exact ⟨_, b1St last ps tt oo _ _ _ x, _, _, _, e1St last ps tt oo _ _ _ x, hb.mono fun x' s' h => by obtain ⟨rfl, rfl⟩ := h; rfl⟩
  · intro d hp
    have hlen : (selB (BSt tt oo) d).length ≤ 1000000000 := by
      have h1 := selB_le (B := BSt tt oo) (d := d)
      have h2 := hp.length_eq
      omega
    have hperm := selB_perm (B := BSt tt oo) hp
    unfold ISt FinSt
    revert hlen hperm
    generalize selB (BSt tt oo) ps = kp
    cases selB (BSt tt oo) d with
    | nil =>
      intro _ hperm
      have := hperm.length_eq
      obtain rfl : kp = [] := List.length_eq_zero_iff.1 (by simpa using this.symm)
      exact ⟨_, b2St last ps tt oo, TO.path fitSt (oSt_nx ..) (g0St last ps tt oo) trivial ⟨rfl, rfl⟩⟩
    | cons k l =>
      intro hlen hperm
      have hle := hperm.length_eq
      cases kp with
      | nil => simp at hle
      | cons k' l' =>
        have e1 : l'.length = l.length := by simpa using hle.symm
        refine ⟨_, b3St last ps tt oo _ _ _, TO.path fitSt (oSt_nx ..) (g1St last ps tt oo _ _ _) ⟨by simp, rfl, by simp at hlen; omega, trivial⟩ ⟨rfl, ?_⟩⟩
        simp only [e1, srt_perm hperm]
theorem idsSt (hl : ps.length ≤ 1000000000) : TO Tryz.prog 31 [0, 1, 2] [] (oSt last ps tt oo) c231 (oSt last ps tt oo) (FinSt last ps tt oo) := by
  refine TO.seq (c := zL c231) (d := zR c231) (TO.path fitSt (oSt_nx ..) (a0St last ps tt oo) trivial ?_)
  refine TO.seq (c := zL (zR c231)) (d := zR (zR c231)) (TO.path fitSt (oSt_nx ..) (a1St last ps tt oo) trivial ?_)
  refine TO.seq (c := zL (zR (zR c231))) (d := zR (zR (zR c231))) (TO.path fitSt (oSt_nx ..) (a2St last ps tt oo) trivial ?_)
  exact TO.seq (c := rg231) (d := zR (zR (zR (zR c231)))) (rgSt hl)
theorem idsSt_none (hl : ps.length ≤ 1000000000) (h : selB (BSt tt oo) ps = []) : SmallN Tryz.prog 231 argsSt 3 (hsI last ps (extSt tt oo)) 3 (hsI last ps (extSt tt oo)) (.one (.c .sl0)) :=
  TO.smallN (fn := Tryz.f231) (c := c231) Tryz.func231 body231 [0, 1, 2] topSt slSt_ok ((idsSt hl).mono fun x s h' => by
    obtain ⟨rfl, rfl⟩ := h'
    rw [h]
    exact ⟨.inr rfl, _, h0St last ps tt oo, rfl, by kernel_rfl, by kernel_rfl⟩)
theorem idsSt_some (hl : ps.length ≤ 1000000000) {k : Int} {l : List Int} (h : selB (BSt tt oo) ps = k :: l) : SmallN Tryz.prog 231 argsSt 3 (hsI last ps (extSt tt oo)) 4 (hsI last ps ((3, rowSt (srt (k :: l)) (l.length + 1)) :: extSt tt oo)) (.one (.c (.slu 3 1 0 (l.length + 1)))) :=
  TO.smallN (fn := Tryz.f231) (c := c231) Tryz.func231 body231 [0, 1, 2] topSt slSt_ok ((idsSt hl).mono fun x s h' => by
    obtain ⟨rfl, rfl⟩ := h'
    rw [h]
    exact ⟨.inr rfl, _, h1St last ps tt oo _ _ _, rfl, by kernel_rfl, by kernel_rfl⟩)
end
end Go.Sx


namespace Go.Sx
open Go.Proofs Go.RowKit Go.Sort
set_option maxRecDepth 100000
/-! ### graph.ids (f231), called with closure f324: printed by gen_ids.py -/
abbrev fnNe : RV := .one (.c (.fn 324 [] [(2, 0)]))
noncomputable def extNe (tt : TypeId) (oo : Option Nat) (es : List (Cell × AV)) : List (Nat × Blk) := [(2, .row tt true oo (.cells [.map 3])), (3, .mapR es)]
noncomputable def argsNe : List RV := [.one (.c (.ptr 0 0)), fnNe]
noncomputable def slNe : T RV := match setArgs 31 argsNe 0 .nil some with | some t => t | none => .nil
theorem slNe_ok : setArgs 31 argsNe 0 .nil some = some slNe := by kernel_rfl
noncomputable def sgNe : FuncId → Option SumA := fun f => match f with | 312 => some sumSort | 324 => some (sumB2) | _ => none
theorem fitNe : Fit Tryz.prog (fun f => (sgNe f).map toSum) := ⟨zng, zmixed, SumAOK.sum fun f sm h => by
  unfold sgNe at h
  split at h
  · cases h; exact sumSort_ok
  · cases h; exact sumB2_ok
  · cases h⟩
section
variable (last : Int) (ps : List (Int × Pt)) (tt : TypeId) (oo : Option Nat) (es : List (Cell × AV)) (ks : List Int) (m nn : Nat) (x : Int × Pt)
abbrev BNe (tt : TypeId) (oo : Option Nat) (es : List (Cell × AV)) (x : Pt) : Bool := getI (unI es) x.id != 0
noncomputable def oNe : S := ⟨slNe, hsI last ps (extNe tt oo es), 4, []⟩
noncomputable def stANe : S := fgt [0, 1] 31 ⟨ofL [(0, .one (.c (.ptr 0 0))), (1, fnNe)], hsI last ps (extNe tt oo es), 4, []⟩
noncomputable def stBNe : S := fgt [0, 1, 5] 31 ⟨ofL [(0, .one (.c (.ptr 0 0))), (1, fnNe), (5, .one (.c .sl0))], hsI last ps (extNe tt oo es), 4, []⟩
noncomputable def S0Ne : S := fgt [1, 5, 15] 31 ⟨ofL [(1, fnNe), (5, .one (.c .sl0)), (15, .one (.c (.ptr 4 0)))], hsI last ps (extNe tt oo es), 5, []⟩
abbrev rowNe (ks : List Int) (nn : Nat) : Blk := .row 3 false (some 1) (.ints .i64 ks nn)
noncomputable def S1Ne : S := fgt [1, 5, 15] 31 ⟨ofL [(1, fnNe), (5, .one (.c (.slu 5 1 0 m))), (15, .one (.c (.ptr 4 0)))], hsI last ps ((5, rowNe ks nn) :: extNe tt oo es), 6, []⟩
noncomputable abbrev goNe (K pn keep ord : List Nat) (c : Code) (s : S) (o : List (Nat × Bool)) : Option (X × Bool × S × List Prop) :=
  execA Tryz.prog sgNe 300 31 c s ⟨0, o, []⟩ (gcP 4 K pn keep 31 ord)
theorem oNe_nx : (oNe last ps tt oo es).nx = 4 := by kernel_rfl
theorem a0Ne : goNe [0, 1, 2, 3] [] [0, 1] [] (zL c231) (oNe last ps tt oo es) [] = some (.normal, true, stANe last ps tt oo es, []) := by kernel_rfl
theorem a1Ne : goNe [0, 1, 2, 3] [] [0, 1, 5] [] (zL (zR c231)) (stANe last ps tt oo es) [] = some (.normal, true, stBNe last ps tt oo es, []) := by kernel_rfl
theorem a2Ne : goNe [0, 1, 2, 3] [] [0, 1, 5] [] (zL (zR (zR c231))) (stBNe last ps tt oo es) [] = some (.normal, true, stBNe last ps tt oo es, []) := by kernel_rfl
noncomputable def sANe : S := match opsRun Tryz.prog false call0 31 opsA231.toList pre231 (stBNe last ps tt oo es) (fun s' => some s') with | some s => s | none => ⟨.nil, .nil, 0, []⟩
theorem c0Ne : opsRun Tryz.prog false call0 31 opsA231.toList pre231 (stBNe last ps tt oo es) (lgE [0, 1, 2, 3]) = some (true, sANe last ps tt oo es) := by kernel_rfl
theorem c1Ne : eval 31 (sANe last ps tt oo es).sl (.tmp 14) = some (.one (.c (.map 1))) := by kernel_rfl
noncomputable def sINe : S := match setS [(15, .one (.c (.ptr 4 0)))] 5 (sANe last ps tt oo es) with | some s => s | none => ⟨.nil, .nil, 0, []⟩
theorem c2Ne : setS [(15, .one (.c (.ptr 4 0)))] 5 (sANe last ps tt oo es) = some (sINe last ps tt oo es) := by kernel_rfl
theorem c4Ne : gcS 4 [0, 1, 2, 3] [4] [1, 5, 15] 31 [4] (sINe last ps tt oo es) = some (S0Ne last ps tt oo es) := by kernel_rfl
theorem c3Ne : (sANe last ps tt oo es).nx = 4 := by kernel_rfl
theorem d0Ne : eval 31 (S0Ne last ps tt oo es).sl (.tmp 15) = some (.one (.c (.ptr 4 0))) := by kernel_rfl
theorem d1Ne : eval 31 (S1Ne last ps tt oo es ks m nn).sl (.tmp 15) = some (.one (.c (.ptr 4 0))) := by kernel_rfl
noncomputable def G0Ne : S := fgt [1, 5, 15, 18] 31 ⟨ofL [(1, fnNe), (5, .one (.c .sl0)), (15, .one (.c (.ptr 4 0))), (18, .tup [.c (.int .i64 x.1), .agg x.2.cells])], hsI last ps (extNe tt oo es), 5, []⟩
noncomputable def G1Ne : S := fgt [1, 5, 15, 18] 31 ⟨ofL [(1, fnNe), (5, .one (.c (.slu 5 1 0 m))), (15, .one (.c (.ptr 4 0))), (18, .tup [.c (.int .i64 x.1), .agg x.2.cells])], hsI last ps ((5, rowNe ks nn) :: extNe tt oo es), 6, []⟩
theorem b0Ne : setS [(16, .any), (17, .any), (18, .tup [.c (encP x).1, (encP x).2])] (S0Ne last ps tt oo es).nx (S0Ne last ps tt oo es) = some (G0Ne last ps tt oo es x) := by kernel_rfl
theorem b1Ne : setS [(16, .any), (17, .any), (18, .tup [.c (encP x).1, (encP x).2])] (S1Ne last ps tt oo es ks m nn).nx (S1Ne last ps tt oo es ks m nn) = some (G1Ne last ps tt oo es ks m nn x) := by kernel_rfl
theorem b2Ne : setS [(16, .any), (17, .any)] (S0Ne last ps tt oo es).nx (S0Ne last ps tt oo es) = some (S0Ne last ps tt oo es) := by kernel_rfl
theorem b3Ne : setS [(16, .any), (17, .any)] (S1Ne last ps tt oo es ks m nn).nx (S1Ne last ps tt oo es ks m nn) = some (S1Ne last ps tt oo es ks m nn) := by kernel_rfl
noncomputable def E0Ne : S := fgt [1, 5, 6, 7, 15] 31 ⟨ofL [(1, fnNe), (5, .one (.c .sl0)), (6, .one (.c (.int .i64 x.1))), (7, .one (.c (.ptr 5 0))), (15, .one (.c (.ptr 4 0)))], hsI last ps ((5, .row 74 false none (.cells x.2.cells)) :: extNe tt oo es), 6, []⟩
noncomputable def E1Ne : S := fgt [1, 5, 6, 7, 15] 31 ⟨ofL [(1, fnNe), (5, .one (.c (.slu 5 1 0 m))), (6, .one (.c (.int .i64 x.1))), (7, .one (.c (.ptr 6 0))), (15, .one (.c (.ptr 4 0)))], hsI last ps ((5, rowNe ks nn) :: (6, .row 74 false none (.cells x.2.cells)) :: extNe tt oo es), 7, []⟩
noncomputable abbrev enNe (K pn keep ord : List Nat) (s : S) : Option (Bool × S) := opsRun Tryz.prog false call0 31 opsE231.toList rE231 s (gcE 4 K pn keep 31 ord)
theorem e0Ne : enNe [0, 1, 2, 3] [4] [1, 5, 6, 7, 15] [4, 5] (G0Ne last ps tt oo es x) = some (true, E0Ne last ps tt oo es x) := by kernel_rfl
theorem e1Ne : enNe [0, 1, 2, 3] [4] [1, 5, 6, 7, 15] [4, 5, 6] (G1Ne last ps tt oo es ks m nn x) = some (true, E1Ne last ps tt oo es ks m nn x) := by kernel_rfl
theorem f0Ne : goNe [0, 1, 2, 3] [4] [1, 5, 15] [4, 7] bd231 (E0Ne last ps tt oo es x) [(0, true)] = some (.normal, true, S1Ne last ps tt oo es [x.1] 1 1, [BNe tt oo es x.2 = true, isI es = true]) := by kernel_rfl
theorem f1Ne : goNe [0, 1, 2, 3] [4] [1, 5, 15] [4] bd231 (E0Ne last ps tt oo es x) [(0, false)] = some (.normal, true, S0Ne last ps tt oo es, [BNe tt oo es x.2 = false, isI es = true]) := by kernel_rfl
theorem f2Ne : goNe [0, 1, 2, 3] [4] [1, 5, 15] [4, 8] bd231 (E1Ne last ps tt oo es ks m nn x) [(0, true), (3, true), (4, true)] = some (.normal, true, S1Ne last ps tt oo es ((ks.drop 0).take (m * 1) ++ [x.1]) (m + 1) (m * 1 + 1), [decide (0 + m * 1 ≤ nn) = true, decide (fits Tryz.prog.types[3]! (m + 1) = true) = true, BNe tt oo es x.2 = true, isI es = true]) := by kernel_rfl
theorem f3Ne : goNe [0, 1, 2, 3] [4] [1, 5, 15] [4, 5] bd231 (E1Ne last ps tt oo es ks m nn x) [(0, false)] = some (.normal, true, S1Ne last ps tt oo es ks m nn, [BNe tt oo es x.2 = false, isI es = true]) := by kernel_rfl
noncomputable def F0Ne : S := fgt [4] 31 ⟨ofL [(4, .one (.c .sl0))], hsI last ps (extNe tt oo es), 4, []⟩
noncomputable def F1Ne : S := fgt [4] 31 ⟨ofL [(4, .one (.c (.slu 4 1 0 m)))], hsI last ps ((4, rowNe ks nn) :: extNe tt oo es), 5, []⟩
theorem g0Ne : goNe [0, 1, 2, 3] [] [4] [] (zR (zR (zR (zR c231)))) (S0Ne last ps tt oo es) [] = some (.ret, true, F0Ne last ps tt oo es, []) := by kernel_rfl
theorem g1Ne : goNe [0, 1, 2, 3] [] [4] [5] (zR (zR (zR (zR c231)))) (S1Ne last ps tt oo es ks m nn) [] = some (.ret, true, F1Ne last ps tt oo es (srt ks) m nn, [ks.length = m, nn = m, m < 4611686018427387904]) := by kernel_rfl
theorem h0Ne : resOf Tryz.prog 31 (F0Ne last ps tt oo es) Tryz.f231.results.toList = some [.c .sl0] := by kernel_rfl
theorem h1Ne : resOf Tryz.prog 31 (F1Ne last ps tt oo es ks m nn) Tryz.f231.results.toList = some [.c (.slu 4 1 0 m)] := by kernel_rfl
theorem hsNe_eq : hsI last ps (extNe tt oo es) = T.node (.node (.node .nil (some (.mapR es)) .nil) (some (.mapR (ps.map encP))) .nil) (some (.row 306 true none (.cells [.int .i64 last, .map 1]))) (.node .nil (some (.row tt true oo (.cells [.map 3]))) .nil) := by kernel_rfl
noncomputable def INe (d : List (Int × Pt)) : S := match selB (BNe tt oo es) d with | [] => S0Ne last ps tt oo es | k :: l => S1Ne last ps tt oo es (k :: l) (l.length + 1) (l.length + 1)
end
section
variable {last : Int} {ps : List (Int × Pt)} {tt : TypeId} {oo : Option Nat} {es : List (Cell × AV)}
theorem topNe : Top ⟨.nil, hsI last ps (extNe tt oo es), 4, []⟩ := fun i hi => by
  have hi' : 4 ≤ i := hi
  show (hsI last ps (extNe tt oo es)).get i = none
  rw [hsNe_eq, T.get4]
  simp only [if_neg (show ¬ i = 0 by omega), if_neg (show ¬ i = 1 by omega), if_neg (show ¬ i = 2 by omega), if_neg (show ¬ i = 3 by omega)]
theorem bdNe (hl : ps.length ≤ 1000000000) (hE : isI es = true) (d : List (Int × Pt)) (x : Int × Pt) (r : List (Int × Pt)) (hp : (d ++ x :: r).Perm ps) (s2 : S)
    (hs2 : s2 = match selB (BNe tt oo es) d with | [] => E0Ne last ps tt oo es x | k :: l => E1Ne last ps tt oo es (k :: l) (l.length + 1) (l.length + 1) x) :
    TO Tryz.prog 31 [0, 1, 2, 3] [4] (oNe last ps tt oo es) bd231 s2 fun x' s' => x' = .normal ∧ s' = INe last ps tt oo es (d ++ [x]) := by
  subst hs2
  have hlen : (selB (BNe tt oo es) d).length ≤ 1000000000 := by
    have h1 := selB_le (B := BNe tt oo es) (d := d)
    have h2 := hp.length_eq
    simp at h2
    omega
  have hI : INe last ps tt oo es (d ++ [x]) = match selB (BNe tt oo es) d ++ (if BNe tt oo es x.2 then [x.1] else []) with | [] => S0Ne last ps tt oo es | k :: l => S1Ne last ps tt oo es (k :: l) (l.length + 1) (l.length + 1) := by
    unfold INe; rw [selB_snoc]
  rw [hI]
  revert hlen
  generalize selB (BNe tt oo es) d = ks
  intro hlen
  cases hB : BNe tt oo es x.2 with
  | true =>
    cases ks with
    | nil => exact TO.path fitNe (oNe_nx ..) (f0Ne last ps tt oo es x) ⟨hB, hE, trivial⟩ ⟨rfl, rfl⟩
    | cons k l =>
      refine TO.path fitNe (oNe_nx ..) (f2Ne last ps tt oo es (k :: l) (l.length + 1) (l.length + 1) x) ⟨by simp, fits3 (by simpa using hlen), hB, hE, trivial⟩ ⟨rfl, ?_⟩
      simp
  | false =>
    cases ks with
    | nil => exact TO.path fitNe (oNe_nx ..) (f1Ne last ps tt oo es x) ⟨hB, hE, trivial⟩ ⟨rfl, rfl⟩
    | cons k l =>
      refine TO.path fitNe (oNe_nx ..) (f3Ne last ps tt oo es (k :: l) (l.length + 1) (l.length + 1) x) ⟨hB, hE, trivial⟩ ⟨rfl, ?_⟩
      simp
abbrev FinNe (last : Int) (ps : List (Int × Pt)) (tt : TypeId) (oo : Option Nat) (es : List (Cell × AV)) : X → S → Prop := fun x s1 => x = .ret ∧ s1 = match selB (BNe tt oo es) ps with | [] => F0Ne last ps tt oo es | k :: l => F1Ne last ps tt oo es (srt (k :: l)) (l.length + 1) (l.length + 1)
theorem rgNe (hl : ps.length ≤ 1000000000) (hE : isI es = true) : TO Tryz.prog 31 [0, 1, 2, 3] [] (oNe last ps tt oo es) rg231 (stBNe last ps tt oo es) (ThenO Tryz.prog 31 [0, 1, 2, 3] [] (oNe last ps tt oo es) (FinNe last ps tt oo es) (zR (zR (zR (zR c231))))) := by
  rw [rg231_eq]
  refine TO.range (enc := encP) (l := ps) (I := INe last ps tt oo es) (nm := 1) zng form231 under304 (c0Ne last ps tt oo es) (c1Ne last ps tt oo es) (by simp) (by rw [oNe_nx]; decide) (.inr (by kernel_rfl)) (oNe_nx ..) (c3Ne ..) (c2Ne last ps tt oo es) (c4Ne last ps tt oo es) ?_ ?_ ?_
  · intro d
    unfold INe
    cases selB (BNe tt oo es) d with
    | nil => exact d0Ne last ps tt oo es
    | cons k l => exact d1Ne last ps tt oo es _ _ _
  · intro d x r hp
    have hb := bdNe (last := last) (tt := tt) (oo := oo) (es := es) hl hE d x r hp _ rfl
    unfold INe
    revert hb
    cases hk : selB (BNe tt oo es) d with
    | nil =>
      intro hb
      exact ⟨_, b0Ne last ps tt oo es x, _, _, _, e0Ne last ps tt oo es x, hb.mono fun x' s' h => by obtain ⟨rfl, rfl⟩ := h; rfl⟩
    | cons k l =>
      intro hb
      exact ⟨_, b1Ne last ps tt oo es _ _ _ x, _, _, _, e1Ne last ps tt oo es _ _ _ x, hb.mono fun x' s' h => by obtain ⟨rfl, rfl⟩ := h; rfl⟩
  · intro d hp
    have hlen : (selB (BNe tt oo es) d).length ≤ 1000000000 := by
      have h1 := selB_le (B := BNe tt oo es) (d := d)
      have h2 := hp.length_eq
      omega
    have hperm := selB_perm (B := BNe tt oo es) hp
    unfold INe FinNe
    revert hlen hperm
    generalize selB (BNe tt oo es) ps = kp
    cases selB (BNe tt oo es) d with
    | nil =>
      intro _ hperm
      have := hperm.length_eq
      obtain rfl : kp = [] := List.length_eq_zero_iff.1 (by simpa using this.symm)
      exact ⟨_, b2Ne last ps tt oo es, TO.path fitNe (oNe_nx ..) (g0Ne last ps tt oo es) trivial ⟨rfl, rfl⟩⟩
    | cons k l =>
      intro hlen hperm
      have hle := hperm.length_eq
      cases kp with
      | nil => simp at hle
      | cons k' l' =>
        have e1 : l'.length = l.length := by simpa using hle.symm
        refine ⟨_, b3Ne last ps tt oo es _ _ _, TO.path fitNe (oNe_nx ..) (g1Ne last ps tt oo es _ _ _) ⟨by simp, rfl, by simp at hlen; omega, trivial⟩ ⟨rfl, ?_⟩⟩
        simp only [e1, srt_perm hperm]
theorem idsNe (hl : ps.length ≤ 1000000000) (hE : isI es = true) : TO Tryz.prog 31 [0, 1, 2, 3] [] (oNe last ps tt oo es) c231 (oNe last ps tt oo es) (FinNe last ps tt oo es) := by
  refine TO.seq (c := zL c231) (d := zR c231) (TO.path fitNe (oNe_nx ..) (a0Ne last ps tt oo es) trivial ?_)
  refine TO.seq (c := zL (zR c231)) (d := zR (zR c231)) (TO.path fitNe (oNe_nx ..) (a1Ne last ps tt oo es) trivial ?_)
  refine TO.seq (c := zL (zR (zR c231))) (d := zR (zR (zR c231))) (TO.path fitNe (oNe_nx ..) (a2Ne last ps tt oo es) trivial ?_)
  exact TO.seq (c := rg231) (d := zR (zR (zR (zR c231)))) (rgNe hl hE)
theorem idsNe_none (hl : ps.length ≤ 1000000000) (hE : isI es = true) (h : selB (BNe tt oo es) ps = []) : SmallN Tryz.prog 231 argsNe 4 (hsI last ps (extNe tt oo es)) 4 (hsI last ps (extNe tt oo es)) (.one (.c .sl0)) :=
  TO.smallN (fn := Tryz.f231) (c := c231) Tryz.func231 body231 [0, 1, 2, 3] topNe slNe_ok ((idsNe hl hE).mono fun x s h' => by
    obtain ⟨rfl, rfl⟩ := h'
    rw [h]
    exact ⟨.inr rfl, _, h0Ne last ps tt oo es, rfl, by kernel_rfl, by kernel_rfl⟩)
theorem idsNe_some (hl : ps.length ≤ 1000000000) (hE : isI es = true) {k : Int} {l : List Int} (h : selB (BNe tt oo es) ps = k :: l) : SmallN Tryz.prog 231 argsNe 4 (hsI last ps (extNe tt oo es)) 5 (hsI last ps ((4, rowNe (srt (k :: l)) (l.length + 1)) :: extNe tt oo es)) (.one (.c (.slu 4 1 0 (l.length + 1)))) :=
  TO.smallN (fn := Tryz.f231) (c := c231) Tryz.func231 body231 [0, 1, 2, 3] topNe slNe_ok ((idsNe hl hE).mono fun x s h' => by
    obtain ⟨rfl, rfl⟩ := h'
    rw [h]
    exact ⟨.inr rfl, _, h1Ne last ps tt oo es _ _ _, rfl, by kernel_rfl, by kernel_rfl⟩)
end
end Go.Sx


namespace Go.Sx
open Go.Proofs Go.RowKit Go.Sort
set_option maxRecDepth 100000
/-! ### graph.ids in closed runs -/
theorem CallInfo.frameRO {P : Program} {f : FuncId} {args : List RV} {v : RV} {k k' : Nat} {hs hs' : T Blk} {θ : Nat → Nat} {s : S} {hp' : T Blk} {nx' : Nat} (ht : Top s) (hfn : ∃ fn, P.funcs[f]? = some fn ∧ fn.body.isNone = false)
    (hC : SmallN P f args k hs k' hs' v) (hkk : k ≤ k') (ha : args.all (inR k) = true)
    (hin : ∀ i x, hs.get i = some x → i < k ∧ ∃ y, s.hp.get (θ i) = some y ∧ RoOf k θ x y) (hθ : ∀ i, k ≤ i → θ i = s.nx + (i - k)) (hnx : nx' = s.nx + (k' - k))
    (hhp : ∀ nm, hp'.get nm = if nm < s.nx then s.hp.get nm else if nm < s.nx + (k' - k) then (hs'.get (nm - s.nx + k)).map (renB θ) else none) :
    CallInfo P f (args.map (renR θ)) s (renR θ v) { s with hp := hp', nx := nx', lg := [] ++ s.lg } [] := by
  subst hnx
  have hro : ∀ i x, hs.get i = some x → x.wr = true → False := fun i x hx hw => by
    obtain ⟨_, y, _, h, _⟩ := hin i x hx
    rw [h] at hw; cases hw
  refine CallInfo.frameN (hs := hs) (hs' := hs') (k := k) (k' := k') ht hfn hC hkk ha (fun i x hx => ?_) (fun i j x y hx _ hw => (hro i x hx hw).elim) hθ (fun nm h _ => by rw [hhp, if_pos h]) (fun i x hx hw => (hro i x hx hw).elim) (fun nm h => by rw [hhp, if_neg (by omega)]) (fun nm => ⟨fun h => (List.not_mem_nil h).elim, fun ⟨i, x, h1, h2, _⟩ => (hro i x h1 h2).elim⟩)
  obtain ⟨h1, y, h2, h3⟩ := hin i x hx
  exact ⟨h1, ht.lt h2, .inr ⟨h3.1, y, h2, h3⟩⟩
def insI (x : Int) : List Int → List Int
  | [] => [x]
  | y :: l => if x ≤ y then x :: y :: l else y :: insI x l
def sortI : List Int → List Int
  | [] => []
  | x :: l => insI x (sortI l)
theorem insI_perm (x : Int) : ∀ l, (insI x l).Perm (x :: l)
  | [] => List.Perm.refl _
  | y :: l => by
    unfold insI
    split
    · exact List.Perm.refl _
    · exact ((insI_perm x l).cons y).trans (List.Perm.swap x y l)
theorem sortI_perm : ∀ l, (sortI l).Perm l
  | [] => List.Perm.refl _
  | x :: l => (insI_perm x _).trans ((sortI_perm l).cons x)
theorem insI_sorted (x : Int) : ∀ {l : List Int}, l.Pairwise (fun a b => a ≤ b) → (insI x l).Pairwise (fun a b => a ≤ b)
  | [], _ => by simp [insI]
  | y :: l, h => by
    rw [List.pairwise_cons] at h
    unfold insI
    split
    · rename_i hxy
      refine List.pairwise_cons.2 ⟨fun z hz => ?_, List.pairwise_cons.2 h⟩
      rcases List.mem_cons.1 hz with rfl | hz
      · exact hxy
      · exact Int.le_trans hxy (h.1 z hz)
    · rename_i hxy
      refine List.pairwise_cons.2 ⟨fun z hz => ?_, insI_sorted x h.2⟩
      rcases List.mem_cons.1 ((insI_perm x l).mem_iff.1 hz) with rfl | hz
      · omega
      · exact h.1 z hz
theorem sortI_sorted : ∀ l : List Int, (sortI l).Pairwise (fun a b => a ≤ b)
  | [] => List.Pairwise.nil
  | x :: l => insI_sorted x (sortI_sorted l)
theorem srt_sortI (l : List Int) : srt l = sortI l := by
  have t1 : ∀ a b c : Int, decide (a ≤ b) = true → decide (b ≤ c) = true → decide (a ≤ c) = true := fun a b c => by simp; omega
  have t2 : ∀ a b : Int, (decide (a ≤ b) || decide (b ≤ a)) = true := fun a b => by simp; omega
  have p1 := List.pairwise_mergeSort t1 t2 l
  have p2 : (sortI l).Pairwise (fun x y => decide (x ≤ y) = true) := (sortI_sorted l).imp (fun h => by simpa using h)
  refine ((List.mergeSort_perm l _).trans (sortI_perm l).symm).eq_of_pairwise (le := fun x y => decide (x ≤ y) = true) ?_ p1 p2
  intro a b _ _ h1 h2
  simp at h1 h2; omega
def ptOf : AV → Option Pt
  | .agg [.int .i64 a, .int .i64 b, .int .i64 c, _, .int .i64 e, _, .int .i64 h, .int .i64 i, .bool j] => some ⟨a, b, c, e, h, i, j⟩
  | _ => none
def ptsOf : List (Cell × AV) → Option (List (Int × Pt))
  | [] => some []
  | (.int .i64 k, v) :: l => match ptOf v, ptsOf l with | some p, some r => some ((k, p) :: r) | _, _ => none
  | _ :: _ => none
theorem ptOf_wk {ρ ρ' : Rho} {v : AV} {p : Pt} {V : Value} (h : ptOf v = some p) (hr : AVR ρ v V) : AVR ρ' (.agg p.cells) V := by
  unfold ptOf at h
  split at h <;> try (cases h; done)
  simp only [Option.some.injEq] at h; subst h
  exact pt_wk (ρ := ρ) hr
theorem ptsOf_wk {ρ ρ' : Rho} : ∀ {es : List (Cell × AV)} {r : List (Int × Pt)} {ents : List MapEntry}, ptsOf es = some r → EsR ρ es ents → EsR ρ' (r.map encP) ents
  | [], r, ents, h, hr => by simp only [ptsOf, Option.some.injEq] at h; subst h; exact hr
  | (c, v) :: l, r, ents, h, ⟨e, es', h1, h2, h3, h4⟩ => by
    unfold ptsOf at h
    split at h
    · rename_i e; cases e
    · rename_i k v' l' e
      cases e
      split at h <;> try (cases h; done)
      rename_i p r' hp hr'
      simp only [Option.some.injEq] at h; subst h
      exact ⟨e, es', h1, ptOf_wk hp h2, ptsOf_wk hr' h3, h4⟩
    · cases h
theorem RoOf.pts {k : Nat} {θ : Nat → Nat} {es : List (Cell × AV)} {r : List (Int × Pt)} (h : ptsOf es = some r) : RoOf k θ (.mapR (r.map encP)) (.map es) :=
  ⟨rfl, fun _ _ _ ⟨ents, cl, h1, h2, h3⟩ => ⟨ents, cl, h1, ptsOf_wk h h2, h3⟩⟩
theorem wkE_isI {es : List (Cell × AV)} (h : isI es = true) : wkE es = es := by
  rw [← toEs_unI h, wkE_toEs]
/-- what is asked for -/
noncomputable def selC (f : FuncId) (caps : List (Nat × Nat)) (hp : T Blk) (ps : List (Int × Pt)) : Option (List Int) :=
  match f, caps with
  | 232, [] => some (selB (fun _ => true) ps)
  | 291, [] => some (selB (fun p => p.wr) ps)
  | 383, [] => some (selB (fun p => !p.wr) ps)
  | 310, [(b, 0)] => match hp.get b with | some (.row _ _ _ (.ints .i64 [y] 1)) => some (selB (fun p => p.at_ == y && !p.wr) ps) | _ => none
  | 260, [(b, 0)] => match hp.get b with | some (.row _ _ _ (.ints .i64 [y] 1)) => some (selB (fun p => p.owner == y) ps) | _ => none
  | 391, [(b, 0)] => match hp.get b with | some (.row _ _ _ (.cells [.fn 336 [] []])) => some (selB (fun p => p.wr) ps) | _ => none
  | 324, [(b, 0)] => match hp.get b with
    | some (.row _ _ _ (.cells [.map m])) => match hp.get m with
      | some (.map es) => match isI es with | true => some (selB (fun p => getI (unI es) p.id != 0) ps) | false => none
      | _ => none
    | _ => none
  | _, _ => none
noncomputable def ansC (ks : List Int) (hp : T Blk) (nx : Nat) : Option (RV × T Blk × Nat × List Nat) :=
  match ks with
  | [] => some (.one (.c .sl0), hp, nx, [])
  | k :: l => fInts (sortI (k :: l)) fun r => fNat (l.length + 1) fun n => T.set depth hp nx (some (.row 3 false (some 1) (.ints .i64 r n))) fun hp => fNat (nx + 1) fun nx' => some (.one (.c (.slu nx 1 0 n)), hp, nx', [])
noncomputable def sumIds : Sum := fun args hp nx =>
  match args with
  | [.one (.c (.ptr g 0)), .one (.c (.fn f [] caps))] => match hp.get g with
    | some (.row 306 _ none (.cells [.int .i64 _, .map m])) => match hp.get m with
      | some (.map es) => match ptsOf es with
        | some ps => match Nat.ble ps.length 1000000000, selC f caps hp ps with
          | true, some ks => ansC ks hp nx
          | _, _ => none
        | none => none
      | _ => none
    | _ => none
  | _ => none
/-- an answer of nothing, or of a new row -/
theorem ans_ok {k0 : Nat} {hs : T Blk} {args args' : List RV} {s : S} {ps : List (Int × Pt)} {B : Pt → Bool} {hs' : Int → List Int → T Blk} {θ : Nat → Nat} {v : RV} {hp : T Blk} {nx : Nat} {lg : List Nat} (ht : Top s)
    (h0 : selB B ps = [] → SmallN Tryz.prog 231 args k0 hs k0 hs (.one (.c .sl0)))
    (h1 : ∀ k l, selB B ps = k :: l → SmallN Tryz.prog 231 args k0 hs (k0 + 1) (hs' k l) (.one (.c (.slu k0 1 0 (l.length + 1)))))
    (hg : ∀ k l, (hs' k l).get k0 = some (.row 3 false (some 1) (.ints .i64 (srt (k :: l)) (l.length + 1))))
    (ha : args.all (inR k0) = true) (hargs : args.map (renR θ) = args')
    (hin : ∀ i x, hs.get i = some x → i < k0 ∧ ∃ y, s.hp.get (θ i) = some y ∧ RoOf k0 θ x y) (hθ : ∀ i, k0 ≤ i → θ i = s.nx + (i - k0))
    (h : ansC (selB B ps) s.hp s.nx = some (v, hp, nx, lg)) : CallInfo Tryz.prog 231 args' s v { s with hp := hp, nx := nx, lg := lg ++ s.lg } lg := by
  subst hargs
  cases hk : selB B ps with
  | nil =>
    rw [hk] at h
    simp only [ansC, Option.some.injEq, Prod.mk.injEq] at h
    obtain ⟨rfl, rfl, rfl, rfl⟩ := h
    have := CallInfo.frameRO (θ := θ) (hp' := s.hp) (nx' := s.nx) ht ⟨_, Tryz.func231, rfl⟩ (h0 hk) (Nat.le_refl _) ha hin hθ (by omega) (fun nm => by
      split
      · rfl
      · rw [if_neg (by omega)]; exact ht nm (by show s.nx ≤ nm; omega))
    exact this
  | cons k l =>
    rw [hk] at h
    simp only [ansC, fInts_eq, fNat_eq] at h
    obtain ⟨t', h, q⟩ := T.set_ok _ _ _ _ _ _ h
    simp only [Option.some.injEq, Prod.mk.injEq] at h
    obtain ⟨rfl, rfl, rfl, rfl⟩ := h
    have := CallInfo.frameRO (θ := θ) (hp' := t') (nx' := s.nx + 1) ht ⟨_, Tryz.func231, rfl⟩ (h1 k l hk) (Nat.le_succ _) ha hin hθ (by omega) (fun nm => by
      rw [q]
      by_cases e : nm = s.nx
      · subst e
        rw [if_pos rfl, if_neg (by omega), if_pos (by omega), show s.nx - s.nx + k0 = k0 by omega, hg, srt_sortI]
        rfl
      · rw [if_neg e]
        split
        · rfl
        · rw [if_neg (by omega)]; exact ht nm (by show s.nx ≤ nm; omega))
    simp only [renR, renA, renC, hθ k0 (Nat.le_refl _), Nat.sub_self, Nat.add_zero] at this
    exact this
section
variable {s : S} {g m : Nat} {last : Int} {es : List (Cell × AV)} {ps : List (Int × Pt)} {ro : Bool} (ht : Top s) (hg : s.hp.get g = some (.row 306 ro none (.cells [.int .i64 last, .map m]))) (hm : s.hp.get m = some (.map es)) (hps : ptsOf es = some ps) (hl : ps.length ≤ 1000000000)
  {v : RV} {hp : T Blk} {nx : Nat} {lg : List Nat}
include ht hg hm hps hl
theorem clAl (h : ansC (selB (fun _ => true) ps) s.hp s.nx = some (v, hp, nx, lg)) : CallInfo Tryz.prog 231 [.one (.c (.ptr g 0)), .one (.c (.fn 232 [] []))] s v { s with hp := hp, nx := nx, lg := lg ++ s.lg } lg := by
  refine ans_ok (k0 := 2) (hs := hsI last ps extAl) (args := argsAl) (B := (fun _ => true)) (hs' := fun k l => hsI last ps ((2, rowAl (srt (k :: l)) (l.length + 1)) :: extAl)) (θ := fun i => if i = 0 then g else if i = 1 then m else s.nx + (i - 2)) ht (fun h => idsAl_none hl h) (fun k l h => idsAl_some hl h) (fun k l => by kernel_rfl) rfl rfl ?_ (fun i hi => by rw [if_neg (by omega), if_neg (by omega)]) h
  intro i x hx
  rw [hsAl_eq, T.get2] at hx
  split at hx
  · rename_i e; subst e; cases hx
    exact ⟨by omega, _, hg, RoOf.cells (l := [.int .i64 last, .map 1]) rfl⟩
  · split at hx
    · rename_i e; subst e; cases hx
      exact ⟨by omega, _, hm, RoOf.pts hps⟩
    · cases hx
theorem clWr (h : ansC (selB (fun p => p.wr) ps) s.hp s.nx = some (v, hp, nx, lg)) : CallInfo Tryz.prog 231 [.one (.c (.ptr g 0)), .one (.c (.fn 291 [] []))] s v { s with hp := hp, nx := nx, lg := lg ++ s.lg } lg := by
  refine ans_ok (k0 := 2) (hs := hsI last ps extWr) (args := argsWr) (B := (fun p => p.wr)) (hs' := fun k l => hsI last ps ((2, rowWr (srt (k :: l)) (l.length + 1)) :: extWr)) (θ := fun i => if i = 0 then g else if i = 1 then m else s.nx + (i - 2)) ht (fun h => idsWr_none hl h) (fun k l h => idsWr_some hl h) (fun k l => by kernel_rfl) rfl rfl ?_ (fun i hi => by rw [if_neg (by omega), if_neg (by omega)]) h
  intro i x hx
  rw [hsWr_eq, T.get2] at hx
  split at hx
  · rename_i e; subst e; cases hx
    exact ⟨by omega, _, hg, RoOf.cells (l := [.int .i64 last, .map 1]) rfl⟩
  · split at hx
    · rename_i e; subst e; cases hx
      exact ⟨by omega, _, hm, RoOf.pts hps⟩
    · cases hx
theorem clOa (h : ansC (selB (fun p => !p.wr) ps) s.hp s.nx = some (v, hp, nx, lg)) : CallInfo Tryz.prog 231 [.one (.c (.ptr g 0)), .one (.c (.fn 383 [] []))] s v { s with hp := hp, nx := nx, lg := lg ++ s.lg } lg := by
  refine ans_ok (k0 := 2) (hs := hsI last ps extOa) (args := argsOa) (B := (fun p => !p.wr)) (hs' := fun k l => hsI last ps ((2, rowOa (srt (k :: l)) (l.length + 1)) :: extOa)) (θ := fun i => if i = 0 then g else if i = 1 then m else s.nx + (i - 2)) ht (fun h => idsOa_none hl h) (fun k l h => idsOa_some hl h) (fun k l => by kernel_rfl) rfl rfl ?_ (fun i hi => by rw [if_neg (by omega), if_neg (by omega)]) h
  intro i x hx
  rw [hsOa_eq, T.get2] at hx
  split at hx
  · rename_i e; subst e; cases hx
    exact ⟨by omega, _, hg, RoOf.cells (l := [.int .i64 last, .map 1]) rfl⟩
  · split at hx
    · rename_i e; subst e; cases hx
      exact ⟨by omega, _, hm, RoOf.pts hps⟩
    · cases hx
theorem clOp {tt : TypeId} {oo : Option Nat} {y : Int} {b : Nat} {rb : Bool} (hb : s.hp.get b = some (.row tt rb oo (.ints .i64 [y] 1))) (h : ansC (selB (fun p => p.at_ == y && !p.wr) ps) s.hp s.nx = some (v, hp, nx, lg)) : CallInfo Tryz.prog 231 [.one (.c (.ptr g 0)), .one (.c (.fn 310 [] [(b, 0)]))] s v { s with hp := hp, nx := nx, lg := lg ++ s.lg } lg := by
  refine ans_ok (k0 := 3) (hs := hsI last ps (extOp tt oo y)) (args := argsOp) (B := fun p => p.at_ == y && !p.wr) (hs' := fun k l => hsI last ps ((3, rowOp (srt (k :: l)) (l.length + 1)) :: extOp tt oo y)) (θ := fun i => if i = 0 then g else if i = 1 then m else if i = 2 then b else s.nx + (i - 3)) ht (fun h => idsOp_none hl h) (fun k l h => idsOp_some hl h) (fun k l => by kernel_rfl) rfl rfl ?_ (fun i hi => by rw [if_neg (by omega), if_neg (by omega), if_neg (by omega)]) h
  intro i x hx
  rw [hsOp_eq, T.get3] at hx
  split at hx
  · rename_i e; subst e; cases hx
    exact ⟨by omega, _, hg, RoOf.cells (l := [.int .i64 last, .map 1]) rfl⟩
  · split at hx
    · rename_i e; subst e; cases hx
      exact ⟨by omega, _, hm, RoOf.pts hps⟩
    · split at hx
      · rename_i e; subst e; cases hx
        exact ⟨by omega, _, hb, RoOf.ints⟩
      · cases hx
theorem clOw {tt : TypeId} {oo : Option Nat} {y : Int} {b : Nat} {rb : Bool} (hb : s.hp.get b = some (.row tt rb oo (.ints .i64 [y] 1))) (h : ansC (selB (fun p => p.owner == y) ps) s.hp s.nx = some (v, hp, nx, lg)) : CallInfo Tryz.prog 231 [.one (.c (.ptr g 0)), .one (.c (.fn 260 [] [(b, 0)]))] s v { s with hp := hp, nx := nx, lg := lg ++ s.lg } lg := by
  refine ans_ok (k0 := 3) (hs := hsI last ps (extOw tt oo y)) (args := argsOw) (B := fun p => p.owner == y) (hs' := fun k l => hsI last ps ((3, rowOw (srt (k :: l)) (l.length + 1)) :: extOw tt oo y)) (θ := fun i => if i = 0 then g else if i = 1 then m else if i = 2 then b else s.nx + (i - 3)) ht (fun h => idsOw_none hl h) (fun k l h => idsOw_some hl h) (fun k l => by kernel_rfl) rfl rfl ?_ (fun i hi => by rw [if_neg (by omega), if_neg (by omega), if_neg (by omega)]) h
  intro i x hx
  rw [hsOw_eq, T.get3] at hx
  split at hx
  · rename_i e; subst e; cases hx
    exact ⟨by omega, _, hg, RoOf.cells (l := [.int .i64 last, .map 1]) rfl⟩
  · split at hx
    · rename_i e; subst e; cases hx
      exact ⟨by omega, _, hm, RoOf.pts hps⟩
    · split at hx
      · rename_i e; subst e; cases hx
        exact ⟨by omega, _, hb, RoOf.ints⟩
      · cases hx
theorem clSt {tt : TypeId} {oo : Option Nat} {b : Nat} {rb : Bool} (hb : s.hp.get b = some (.row tt rb oo (.cells [.fn 336 [] []]))) (h : ansC (selB (fun p => p.wr) ps) s.hp s.nx = some (v, hp, nx, lg)) : CallInfo Tryz.prog 231 [.one (.c (.ptr g 0)), .one (.c (.fn 391 [] [(b, 0)]))] s v { s with hp := hp, nx := nx, lg := lg ++ s.lg } lg := by
  refine ans_ok (k0 := 3) (hs := hsI last ps (extSt tt oo)) (args := argsSt) (B := fun p => p.wr) (hs' := fun k l => hsI last ps ((3, rowSt (srt (k :: l)) (l.length + 1)) :: extSt tt oo)) (θ := fun i => if i = 0 then g else if i = 1 then m else if i = 2 then b else s.nx + (i - 3)) ht (fun h => idsSt_none hl h) (fun k l h => idsSt_some hl h) (fun k l => by kernel_rfl) rfl rfl ?_ (fun i hi => by rw [if_neg (by omega), if_neg (by omega), if_neg (by omega)]) h
  intro i x hx
  rw [hsSt_eq, T.get3] at hx
  split at hx
  · rename_i e; subst e; cases hx
    exact ⟨by omega, _, hg, RoOf.cells (l := [.int .i64 last, .map 1]) rfl⟩
  · split at hx
    · rename_i e; subst e; cases hx
      exact ⟨by omega, _, hm, RoOf.pts hps⟩
    · split at hx
      · rename_i e; subst e; cases hx
        exact ⟨by omega, _, hb, RoOf.cells (l := [.fn 336 [] []]) rfl⟩
      · cases hx
theorem clNe {tt : TypeId} {oo : Option Nat} {e2 : List (Cell × AV)} {b m2 : Nat} {rb : Bool} (hb : s.hp.get b = some (.row tt rb oo (.cells [.map m2]))) (hm2 : s.hp.get m2 = some (.map e2)) (hI : isI e2 = true) (h : ansC (selB (fun p => getI (unI e2) p.id != 0) ps) s.hp s.nx = some (v, hp, nx, lg)) : CallInfo Tryz.prog 231 [.one (.c (.ptr g 0)), .one (.c (.fn 324 [] [(b, 0)]))] s v { s with hp := hp, nx := nx, lg := lg ++ s.lg } lg := by
  refine ans_ok (k0 := 4) (hs := hsI last ps (extNe tt oo e2)) (args := argsNe) (B := fun p => getI (unI e2) p.id != 0) (hs' := fun k l => hsI last ps ((4, rowNe (srt (k :: l)) (l.length + 1)) :: extNe tt oo e2)) (θ := fun i => if i = 0 then g else if i = 1 then m else if i = 2 then b else if i = 3 then m2 else s.nx + (i - 4)) ht (fun h => idsNe_none hl hI h) (fun k l h => idsNe_some hl hI h) (fun k l => by kernel_rfl) rfl rfl ?_ (fun i hi => by rw [if_neg (by omega), if_neg (by omega), if_neg (by omega), if_neg (by omega)]) h
  intro i x hx
  rw [hsNe_eq, T.get4] at hx
  split at hx
  · rename_i e; subst e; cases hx
    exact ⟨by omega, _, hg, RoOf.cells (l := [.int .i64 last, .map 1]) rfl⟩
  · split at hx
    · rename_i e; subst e; cases hx
      exact ⟨by omega, _, hm, RoOf.pts hps⟩
    · split at hx
      · rename_i e; subst e; cases hx
        exact ⟨by omega, _, hb, RoOf.cells (l := [.map 3]) rfl⟩
      · split at hx
        · rename_i e; subst e; cases hx
          refine ⟨by omega, _, hm2, ?_⟩
          have := RoOf.mapWk (k := 4) (θ := fun i => if i = 0 then g else if i = 1 then m else if i = 2 then b else if i = 3 then m2 else s.nx + (i - 4)) (es := e2)
          rw [wkE_isI hI] at this
          exact this
        · cases hx
end
theorem sumIds_ok (args : List RV) (s : S) (v : RV) (hp : T Blk) (nx : Nat) (lg : List Nat) (ht : Top s) (h : sumIds args s.hp s.nx = some (v, hp, nx, lg)) : CallInfo Tryz.prog 231 args s v { s with hp := hp, nx := nx, lg := lg ++ s.lg } lg := by
  unfold sumIds at h
  split at h <;> try (cases h; done)
  rename_i g f caps
  split at h <;> try (cases h; done)
  rename_i ro last m hg
  split at h <;> try (cases h; done)
  rename_i es hm
  split at h <;> try (cases h; done)
  rename_i ps hps
  split at h <;> try (cases h; done)
  rename_i ks hl hks
  have hl' := Nat.le_of_ble_eq_true hl
  unfold selC at hks
  split at hks <;> try (cases hks; done)
  · simp only [Option.some.injEq] at hks; subst hks; exact clAl ht hg hm hps hl' h
  · simp only [Option.some.injEq] at hks; subst hks; exact clWr ht hg hm hps hl' h
  · simp only [Option.some.injEq] at hks; subst hks; exact clOa ht hg hm hps hl' h
  · split at hks <;> try (cases hks; done)
    rename_i hb
    simp only [Option.some.injEq] at hks; subst hks; exact clOp ht hg hm hps hl' hb h
  · split at hks <;> try (cases hks; done)
    rename_i hb
    simp only [Option.some.injEq] at hks; subst hks; exact clOw ht hg hm hps hl' hb h
  · split at hks <;> try (cases hks; done)
    rename_i hb
    simp only [Option.some.injEq] at hks; subst hks; exact clSt ht hg hm hps hl' hb h
  · split at hks <;> try (cases hks; done)
    rename_i hb
    split at hks <;> try (cases hks; done)
    rename_i hm2
    split at hks <;> try (cases hks; done)
    rename_i hI
    simp only [Option.some.injEq] at hks; subst hks; exact clNe ht hg hm hps hl' hb hm2 hI h
end Go.Sx

