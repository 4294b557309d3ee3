/-
  Parts of the executor Sx over the model's code (any program), or of this seat's walks: words and proofs that the row's text uses.
-/
import Derived.Test.YtpenbfjpfmbgaaaGreatBS
namespace Go.Sx
open Go.Proofs Go.RowKit Go.Sort
set_option maxRecDepth 100000
/-! ### graph.Copy (f82) of a graph of three patches, whatever the order: printed by gen_copy.py -/
theorem perm2 {α : Type} {l : List α} {a b : α} (h : l.Perm [a, b]) : l = [a, b] ∨ l = [b, a] := by
  match l, h.length_eq with
  | [x, y], _ =>
    have hx : x ∈ [a, b] := h.mem_iff.1 (by simp)
    rcases List.mem_cons.1 hx with rfl | hx
    · exact .inl (by rw [List.perm_singleton.1 ((List.perm_cons _).1 h)])
    · obtain rfl := List.mem_singleton.1 hx
      exact .inr (by rw [List.perm_singleton.1 ((List.perm_cons _).1 (h.trans (List.Perm.swap _ _ _)))])
theorem perm3 {α : Type} {l : List α} {a b c : α} (h : l.Perm [a, b, c]) : l = [a, b, c] ∨ l = [a, c, b] ∨ l = [b, a, c] ∨ l = [b, c, a] ∨ l = [c, a, b] ∨ l = [c, b, a] := by
  match l, h.length_eq with
  | x :: t, _ =>
    have hx : x ∈ [a, b, c] := h.mem_iff.1 (by simp)
    rcases List.mem_cons.1 hx with rfl | hx
    · rcases perm2 ((List.perm_cons _).1 h) with rfl | rfl <;> simp
    · rcases List.mem_cons.1 hx with rfl | hx
      · rcases perm2 ((List.perm_cons _).1 (h.trans (List.Perm.swap _ _ _))) with rfl | rfl <;> simp
      · obtain rfl := List.mem_singleton.1 hx
        have h2 : (x :: t).Perm (x :: [a, b]) := h.trans (((List.Perm.swap _ _ _).cons a).trans (List.Perm.swap _ _ _))
        rcases perm2 ((List.perm_cons _).1 h2) with rfl | rfl <;> simp
/-- a heap that says less -/
structure WkH (k : Nat) (h1 h2 : T Blk) : Prop where
  ok : ∀ nm y, h2.get nm = some y → ∃ x, h1.get nm = some x ∧ (∀ ρ c o, BlkR ρ c x o → BlkR ρ c y o) ∧ (y.wr = true → x.wr = true)
  old : ∀ nm, nm < k → h2.get nm = h1.get nm
theorem HRel.wkH {ρ : Rho} {w : World} {k : Nat} {h1 h2 : T Blk} (hr : HRel ρ h1.get w) (h : WkH k h1 h2) : HRel ρ h2.get w := ⟨fun nm y hy => by
    obtain ⟨x, hx, hb, _⟩ := h.ok nm y hy
    obtain ⟨b, c, o, e1, e2, e3⟩ := hr.ok nm x hx
    exact ⟨b, c, o, e1, e2, hb _ _ _ e3⟩, fun nm nm' y y' b c c' hy hy' hw e1 e2 => by
    obtain ⟨x, hx, _, hwx⟩ := h.ok nm y hy
    obtain ⟨x', hx', _, _⟩ := h.ok nm' y' hy'
    exact hr.inj nm nm' x x' b c c' hx hx' (hwx hw) e1 e2⟩
theorem TO.smallW {P : Program} {g : FuncId} {fn : Func} {c : Code} (hf : P.funcs[g]? = some fn) (hb : fn.body = some c) {args : List RV} {sl : T RV} {v : RV} {k k' : Nat} {hs hs' : T Blk} (K : List Nat) (htop : Top ⟨.nil, hs, k, []⟩)
    (hset : setArgs fn.ntmps args 0 .nil some = some sl)
    (h : TO P fn.ntmps K [] ⟨sl, hs, k, []⟩ c ⟨sl, hs, k, []⟩ fun x s1 => (x = .normal ∨ x = .ret) ∧ ∃ l, resOf P fn.ntmps s1 fn.results.toList = some l ∧ (resRV l = v ∧ WkH k s1.hp hs' ∧ s1.nx = k')) : SmallN P g args k hs k' hs' v := by
  intro ρ w vs hr hfr ha
  obtain ⟨sl', h1, h2, h3⟩ := setArgs_ok hset
  cases h1
  obtain ⟨len, hget⟩ := ha.get
  have R0 : Rel fn.ntmps ρ ⟨sl, hs, k, []⟩ { tmps := vs.toArray ++ Array.replicate (fn.ntmps - vs.toArray.size) undef, defers := [] } w := by
    have hle : vs.length ≤ fn.ntmps := by
      rcases h3 with rfl | h3
      · simp at len; rw [len]; simp
      · omega
    refine ⟨by simp; omega, rfl, fun t => ?_, hr, hfr⟩
    unfold slot
    simp only
    rw [h2]
    simp only [Nat.zero_le, true_and, Nat.zero_add, Nat.sub_zero, T.get_nil]
    by_cases hlt : t < args.length
    · have hlt' : t < vs.length := by omega
      rw [if_pos (show t < fn.ntmps by omega), if_pos hlt]
      obtain ⟨V, e1, e2⟩ := hget t args[t] (List.getElem?_eq_getElem hlt)
      rw [List.getElem?_eq_getElem hlt]
      have : (vs.toArray ++ Array.replicate (fn.ntmps - vs.toArray.size) undef).getD t undef = V := by
        rw [Array.getD_eq_getD_getElem?, Array.getElem?_append_left (by simpa using hlt')]
        simp [e1]
      rw [this]
      exact e2
    · rw [if_neg hlt]
      have : (vs.toArray ++ Array.replicate (fn.ntmps - vs.toArray.size) undef).getD t undef = undef := by
        rw [Array.getD_eq_getD_getElem?, Array.getElem?_append_right (by simp; omega)]
        rw [Array.getElem?_replicate]
        split <;> rfl
      rw [this]
      simp only [ite_self, Option.getD_none]
      exact und_ok
  refine calls_of_wp hf hb ?_
  have C0 : Came fn.ntmps K [] ρ ⟨sl, hs, k, []⟩ w ⟨sl, hs, k, []⟩ { tmps := vs.toArray ++ Array.replicate (fn.ntmps - vs.toArray.size) undef, defers := [] } w :=
    ⟨ρ, [], ⟨Nat.le_refl _, fun _ _ _ => rfl, htop, fun _ h => absurd h List.not_mem_nil⟩, fun _ _ => List.not_mem_nil, R0, Stp.refl hfr, fun _ hp => absurd hp List.not_mem_nil⟩
  refine wp_mono (h ρ w hr hfr [] rfl _ w C0).wp fun e a' w' ⟨x, s1, hx, ⟨hx2, l, hl, hv, hh, hk⟩, C⟩ => ?_
  obtain ⟨ρ', L, ab, _, R', st, _⟩ := C.it
  obtain ⟨V, v1, v2⟩ := results_ok R' hl
  have fin : a'.defers = [] ∧ ∃ v', (results fn a'.tmps).run P w' = .ok v' w' ∧ ∃ V ρ' L, Ending.returned v' = .returned V ∧ RVR ρ' v V ∧ HRel ρ' hs'.get w' ∧ Fresh ρ' k' ∧ Stp ρ hs.get k w ρ' hs'.get k' w' L := by
    subst hk hv
    exact ⟨R'.df, V, v2, V, ρ', L, rfl, v1, R'.hp.wkH hh, R'.fresh, ⟨st.le, st.rho, fun nm h1 h2 => (hh.old nm h1).trans (st.keep nm h1 h2), st.size, st.frame, st.new, st.own, st.os, st.tape, st.out⟩⟩
  rcases hx2 with rfl | rfl
  · cases e <;> simp only [XR] at hx
    exact fin
  · cases e <;> simp only [XR] at hx
    exact fin
noncomputable def cp0 : Cell × AV := (.int .i64 (.ofNat 1), .agg [.int .i64 (.ofNat 1), .int .i64 (.ofNat 4), .int .i64 (.ofNat 0), .slu 393 1 0 18, .int .i64 (.ofNat 4), .sl0, .int .i64 (.ofNat 1), .int .i64 (.ofNat 0), .bool false])
noncomputable def cp1 : Cell × AV := (.int .i64 (.ofNat 2), .agg [.int .i64 (.ofNat 2), .int .i64 (.ofNat 4), .int .i64 (.ofNat 18), .slu 551 1 0 18, .int .i64 (.ofNat 4), .sl0, .int .i64 (.ofNat 2), .int .i64 (.ofNat 0), .bool false])
noncomputable def cp2 : Cell × AV := (.int .i64 (.ofNat 3), .agg [.int .i64 (.ofNat 3), .int .i64 (.ofNat 4), .int .i64 (.ofNat 36), .slu 687 1 0 18, .int .i64 (.ofNat 4), .sl0, .int .i64 (.ofNat 3), .int .i64 (.ofNat 0), .bool false])
noncomputable def es82 : List (Cell × AV) := [cp0, cp1, cp2]
noncomputable def hp82 (ext : List (Nat × Blk)) : T Blk := ofL ((274, .mapR es82) :: (275, .row 179 true none (.cells [.int .i64 (.ofNat 3), .map 274])) :: ext)
noncomputable def args82 : List RV := [.one (.c (.ptr 275 0))]
noncomputable abbrev n82 : Nat := Tryz.f82.ntmps
noncomputable def sl82 : T RV := match setArgs n82 args82 0 .nil some with | some t => t | none => .nil
theorem sl82_ok : setArgs n82 args82 0 .nil some = some sl82 := by kernel_rfl
noncomputable def c82 : Code := zB 82
theorem body82 : Tryz.f82.body = some c82 := by kernel_rfl
noncomputable def o82 : S := ⟨sl82, hp82 [], 1326, []⟩
theorem o82_nx : o82.nx = 1326 := rfl
abbrev K82 : List Nat := [274, 275]
noncomputable def sg82 : FuncId → Option SumA := fun _ => none
theorem fit82 : Fit Tryz.prog (fun f => (sg82 f).map toSum) := ⟨zng, zmixed, SumAOK.sum fun f sm h => by cases h⟩
noncomputable abbrev go82 (pn keep ord : List Nat) (c : Code) (s : S) : Option (X × Bool × S × List Prop) := execA Tryz.prog sg82 300 n82 c s ⟨0, [], []⟩ (gcP 1326 K82 pn keep n82 ord)
abbrev rw82 : Blk := .row 179 false none (.cells [.int .i64 (.ofNat 3), .map 1326])
noncomputable def stA82 : S := fgt [0] n82 ⟨ofL [(0, .one (.c (.ptr 275 0)))], hp82 [], 1326, []⟩
noncomputable def stB82 : S := fgt [0, 3] n82 ⟨ofL [(0, .one (.c (.ptr 275 0))), (3, .one (.c (.ptr 1327 0)))], hp82 [(1326, .map []), (1327, .row 179 false none (.cells [.int .i64 0, .map 1326]))], 1328, []⟩
noncomputable def stC82 : S := fgt [0, 3] n82 ⟨ofL [(0, .one (.c (.ptr 275 0))), (3, .one (.c (.ptr 1327 0)))], hp82 [(1326, .map []), (1327, rw82)], 1328, []⟩
noncomputable def I82 (d : List (Cell × AV)) : S := fgt [3, 20] n82 ⟨ofL [(3, .one (.c (.ptr 1327 0))), (20, .one (.c (.ptr 1328 0)))], hp82 [(1326, .map d), (1327, rw82)], 1329, []⟩
theorem a0_82 : go82 [] [0] [] (zL c82) o82 = some (.normal, true, stA82, []) := by kernel_rfl
theorem a1_82 : go82 [] [0] [] (zL (zR c82)) stA82 = some (.normal, true, stA82, []) := by kernel_rfl
theorem a2_82 : go82 [] [0, 3] [1326, 1327] (zL (zR (zR c82))) stA82 = some (.normal, true, stB82, []) := by kernel_rfl
theorem a3_82 : go82 [] [0, 3] [1326, 1327] (zL (zR (zR (zR c82)))) stB82 = some (.normal, true, stC82, []) := by kernel_rfl
noncomputable def rg82 : Code := zL (zR (zR (zR (zR c82))))
noncomputable def opsA82 : Array Oper := regOps (zL rg82)
noncomputable def lb82 : Code := zL (zL (zR rg82))
noncomputable def oN82 : Oper := (regOps (zL lb82))[0]!
noncomputable def oX82 : Oper := (regOps (zL lb82))[1]!
noncomputable def bE82 : Code := zL (zR (zR lb82))
noncomputable def opsE82 : Array Oper := regOps (zL bE82)
noncomputable def bd82 : Code := zR bE82
theorem rg82_eq : rg82 = rangeCode 5 opsA82 0 6 oN82 oX82 22 1 7 opsE82 bd82 := by kernel_rfl
noncomputable def pre82 : List Oper := opsA82.toList.take 4
noncomputable def oR82 : Oper := opsA82[4]!
noncomputable def oE82 : Oper := opsE82[0]!
noncomputable def rE82 : List Oper := opsE82.toList.drop 1
theorem form82 : RangeForm n82 opsA82 pre82 oR82 oN82 oX82 oE82 opsE82 rE82 177 19 20 21 22 23 where
  A := by kernel_rfl
  R := by kernel_rfl
  Rd := by kernel_rfl
  Rg := by kernel_rfl
  N := by kernel_rfl
  Nd := by kernel_rfl
  Ng := by kernel_rfl
  X := by kernel_rfl
  Xd := by kernel_rfl
  Xg := by kernel_rfl
  E := by kernel_rfl
  Eo := by kernel_rfl
  Ed := by kernel_rfl
  Eg := by kernel_rfl
  lt := by decide
  ne := by decide
noncomputable def sA82 : S := match opsRun Tryz.prog false call0 n82 opsA82.toList pre82 stC82 (fun s' => some s') with | some s => s | none => ⟨.nil, .nil, 0, []⟩
theorem c0_82 : opsRun Tryz.prog false call0 n82 opsA82.toList pre82 stC82 (lgE K82) = some (true, sA82) := by kernel_rfl
theorem c1_82 : eval n82 sA82.sl (.tmp 19) = some (.one (.c (.map 274))) := by kernel_rfl
noncomputable def sI82 : S := match setS [(20, .one (.c (.ptr 1328 0)))] 1329 sA82 with | some s => s | none => ⟨.nil, .nil, 0, []⟩
theorem c2_82 : setS [(20, .one (.c (.ptr 1328 0)))] 1329 sA82 = some sI82 := by kernel_rfl
theorem c3_82 : sA82.nx = 1328 := by kernel_rfl
theorem c4_82 : gcS 1326 K82 [1328] [3, 20] n82 [1326, 1327, 1328] sI82 = some (I82 []) := by kernel_rfl
theorem d0_82 (d : List (Cell × AV)) : eval n82 (I82 d).sl (.tmp 20) = some (.one (.c (.ptr 1328 0))) := by kernel_rfl
noncomputable def G82 (d : List (Cell × AV)) (x : Cell × AV) : S := match setS [(21, .any), (22, .any), (23, .tup [.c x.1, x.2])] 1329 (I82 d) with | some s => s | none => ⟨.nil, .nil, 0, []⟩
noncomputable def J82 (d : List (Cell × AV)) : S := match setS [(21, .any), (22, .any)] 1329 (I82 d) with | some s => s | none => ⟨.nil, .nil, 0, []⟩
theorem b0_82 (d : List (Cell × AV)) (x : Cell × AV) : setS [(21, .any), (22, .any), (23, .tup [.c x.1, x.2])] (I82 d).nx (I82 d) = some (G82 d x) := by kernel_rfl
theorem b1_82 (d : List (Cell × AV)) : setS [(21, .any), (22, .any)] (I82 d).nx (I82 d) = some (J82 d) := by kernel_rfl
noncomputable def E82 (d : List (Cell × AV)) (x : Cell × AV) : S := match opsRun Tryz.prog false call0 n82 opsE82.toList rE82 (G82 d x) (gcE 1326 K82 [1328] [3, 4, 5, 20] n82 [1326, 1327, 1328, 1329]) with | some (_, s) => s | none => ⟨.nil, .nil, 0, []⟩
noncomputable abbrev en82 (d : List (Cell × AV)) (x : Cell × AV) : Option (Bool × S) := opsRun Tryz.prog false call0 n82 opsE82.toList rE82 (G82 d x) (gcE 1326 K82 [1328] [3, 4, 5, 20] n82 [1326, 1327, 1328, 1329])
noncomputable abbrev rd82 (d : List (Cell × AV)) (x : Cell × AV) := go82 [1328] [3, 20] [1326, 1327, 1328] bd82 (E82 d x)
theorem en_0 : en82 [] cp0 = some (true, E82 [] cp0) := by kernel_rfl
theorem rd_0 : rd82 [] cp0 = some (.normal, true, I82 [cp0], []) := by kernel_rfl
theorem en0_1 : en82 [cp0] cp1 = some (true, E82 [cp0] cp1) := by kernel_rfl
theorem rd0_1 : rd82 [cp0] cp1 = some (.normal, true, I82 [cp0, cp1], []) := by kernel_rfl
theorem en01_2 : en82 [cp0, cp1] cp2 = some (true, E82 [cp0, cp1] cp2) := by kernel_rfl
theorem rd01_2 : rd82 [cp0, cp1] cp2 = some (.normal, true, I82 [cp0, cp1, cp2], []) := by kernel_rfl
theorem en0_2 : en82 [cp0] cp2 = some (true, E82 [cp0] cp2) := by kernel_rfl
theorem rd0_2 : rd82 [cp0] cp2 = some (.normal, true, I82 [cp0, cp2], []) := by kernel_rfl
theorem en02_1 : en82 [cp0, cp2] cp1 = some (true, E82 [cp0, cp2] cp1) := by kernel_rfl
theorem rd02_1 : rd82 [cp0, cp2] cp1 = some (.normal, true, I82 [cp0, cp2, cp1], []) := by kernel_rfl
theorem en_1 : en82 [] cp1 = some (true, E82 [] cp1) := by kernel_rfl
theorem rd_1 : rd82 [] cp1 = some (.normal, true, I82 [cp1], []) := by kernel_rfl
theorem en1_0 : en82 [cp1] cp0 = some (true, E82 [cp1] cp0) := by kernel_rfl
theorem rd1_0 : rd82 [cp1] cp0 = some (.normal, true, I82 [cp1, cp0], []) := by kernel_rfl
theorem en10_2 : en82 [cp1, cp0] cp2 = some (true, E82 [cp1, cp0] cp2) := by kernel_rfl
theorem rd10_2 : rd82 [cp1, cp0] cp2 = some (.normal, true, I82 [cp1, cp0, cp2], []) := by kernel_rfl
theorem en1_2 : en82 [cp1] cp2 = some (true, E82 [cp1] cp2) := by kernel_rfl
theorem rd1_2 : rd82 [cp1] cp2 = some (.normal, true, I82 [cp1, cp2], []) := by kernel_rfl
theorem en12_0 : en82 [cp1, cp2] cp0 = some (true, E82 [cp1, cp2] cp0) := by kernel_rfl
theorem rd12_0 : rd82 [cp1, cp2] cp0 = some (.normal, true, I82 [cp1, cp2, cp0], []) := by kernel_rfl
theorem en_2 : en82 [] cp2 = some (true, E82 [] cp2) := by kernel_rfl
theorem rd_2 : rd82 [] cp2 = some (.normal, true, I82 [cp2], []) := by kernel_rfl
theorem en2_0 : en82 [cp2] cp0 = some (true, E82 [cp2] cp0) := by kernel_rfl
theorem rd2_0 : rd82 [cp2] cp0 = some (.normal, true, I82 [cp2, cp0], []) := by kernel_rfl
theorem en20_1 : en82 [cp2, cp0] cp1 = some (true, E82 [cp2, cp0] cp1) := by kernel_rfl
theorem rd20_1 : rd82 [cp2, cp0] cp1 = some (.normal, true, I82 [cp2, cp0, cp1], []) := by kernel_rfl
theorem en2_1 : en82 [cp2] cp1 = some (true, E82 [cp2] cp1) := by kernel_rfl
theorem rd2_1 : rd82 [cp2] cp1 = some (.normal, true, I82 [cp2, cp1], []) := by kernel_rfl
theorem en21_0 : en82 [cp2, cp1] cp0 = some (true, E82 [cp2, cp1] cp0) := by kernel_rfl
theorem rd21_0 : rd82 [cp2, cp1] cp0 = some (.normal, true, I82 [cp2, cp1, cp0], []) := by kernel_rfl
noncomputable def F82 (d : List (Cell × AV)) : S := fgt [2] n82 ⟨ofL [(2, .one (.c (.ptr 1327 0)))], hp82 [(1326, .map d), (1327, rw82)], 1328, []⟩
noncomputable def rest82 : Code := zR (zR (zR (zR (zR c82))))
noncomputable def e82 (i : Nat) : List (Cell × AV) := match i with | 0 => [cp0, cp1, cp2] | 1 => [cp0, cp2, cp1] | 2 => [cp1, cp0, cp2] | 3 => [cp1, cp2, cp0] | 4 => [cp2, cp0, cp1] | _ => [cp2, cp1, cp0]
theorem fin0_82 : go82 [] [2] [1326, 1327] rest82 (J82 [cp0, cp1, cp2]) = some (.ret, true, F82 [cp0, cp1, cp2], []) := by kernel_rfl
theorem fin1_82 : go82 [] [2] [1326, 1327] rest82 (J82 [cp0, cp2, cp1]) = some (.ret, true, F82 [cp0, cp2, cp1], []) := by kernel_rfl
theorem fin2_82 : go82 [] [2] [1326, 1327] rest82 (J82 [cp1, cp0, cp2]) = some (.ret, true, F82 [cp1, cp0, cp2], []) := by kernel_rfl
theorem fin3_82 : go82 [] [2] [1326, 1327] rest82 (J82 [cp1, cp2, cp0]) = some (.ret, true, F82 [cp1, cp2, cp0], []) := by kernel_rfl
theorem fin4_82 : go82 [] [2] [1326, 1327] rest82 (J82 [cp2, cp0, cp1]) = some (.ret, true, F82 [cp2, cp0, cp1], []) := by kernel_rfl
theorem fin5_82 : go82 [] [2] [1326, 1327] rest82 (J82 [cp2, cp1, cp0]) = some (.ret, true, F82 [cp2, cp1, cp0], []) := by kernel_rfl
theorem res82 (d : List (Cell × AV)) : resOf Tryz.prog n82 (F82 d) Tryz.f82.results.toList = some [.c (.ptr 1327 0)] := by kernel_rfl
noncomputable def hs82 : T Blk := hp82 [(1326, .mapP es82), (1327, rw82)]
theorem Fhp82 (d : List (Cell × AV)) : (F82 d).hp = hp82 [(1326, .map d), (1327, rw82)] := by kernel_rfl
theorem Fnx82 (d : List (Cell × AV)) : (F82 d).nx = 1328 := by kernel_rfl
theorem ofL_mem {α : Type} : ∀ {l : List (Nat × α)} {i : Nat} {x : α}, (ofL l).get i = some x → (i, x) ∈ l
  | [], i, x, h => by rw [show ofL ([] : List (Nat × α)) = .nil from rfl, T.get_nil] at h; cases h
  | (n, b) :: l, i, x, h => by
    unfold ofL at h
    split at h
    · rename_i t ht
      obtain ⟨t', h1, q⟩ := T.set_ok _ _ _ _ _ _ ht
      simp only [Option.some.injEq] at h1; subst h1
      rw [q] at h
      split at h
      · rename_i e; cases h; subst e; exact List.mem_cons_self ..
      · exact List.mem_cons_of_mem _ (ofL_mem h)
    · rw [T.get_nil] at h; cases h
theorem mem82 {b1 b2 y : Blk} {i : Nat} (h : (hp82 [(1326, b1), (1327, b2)]).get i = some y) : (i = 274 ∧ y = .mapR es82) ∨ (i = 275 ∧ y = .row 179 true none (.cells [.int .i64 (.ofNat 3), .map 274])) ∨ (i = 1326 ∧ y = b1) ∨ (i = 1327 ∧ y = b2) := by
  have := ofL_mem h
  simp only [List.mem_cons, Prod.mk.injEq, List.not_mem_nil, or_false] at this
  exact this
theorem g1_82 (b1 b2 : Blk) : (hp82 [(1326, b1), (1327, b2)]).get 274 = some (.mapR es82) := by kernel_rfl
theorem g2_82 (b1 b2 : Blk) : (hp82 [(1326, b1), (1327, b2)]).get 275 = some (.row 179 true none (.cells [.int .i64 (.ofNat 3), .map 274])) := by kernel_rfl
theorem g3_82 (b1 b2 : Blk) : (hp82 [(1326, b1), (1327, b2)]).get 1326 = some b1 := by kernel_rfl
theorem g4_82 (b1 b2 : Blk) : (hp82 [(1326, b1), (1327, b2)]).get 1327 = some b2 := by kernel_rfl
theorem EsR.permL {ρ : Rho} {l m : List (Cell × AV)} (h : l.Perm m) : ∀ {es : List MapEntry}, EsR ρ l es → ∃ es', EsR ρ m es' ∧ es'.Perm es := by
  induction h with
  | nil => intro es h; exact ⟨es, h, List.Perm.refl _⟩
  | cons x _ ih =>
    obtain ⟨c, v⟩ := x
    rintro es ⟨e, es', h1, h2, h3, rfl⟩
    obtain ⟨es2, g1, g2⟩ := ih h3
    exact ⟨e :: es2, ⟨e, es2, h1, h2, g1, rfl⟩, g2.cons e⟩
  | swap x y l =>
    obtain ⟨c, v⟩ := x
    obtain ⟨c', v'⟩ := y
    rintro es ⟨e, es', h1, h2, ⟨e2, es2, h3, h4, h5, rfl⟩, rfl⟩
    exact ⟨e2 :: e :: es2, ⟨e2, _, h3, h4, ⟨e, es2, h1, h2, h5, rfl⟩, rfl⟩, List.Perm.swap ..⟩
  | trans _ _ ih1 ih2 =>
    intro es h
    obtain ⟨es1, g1, g2⟩ := ih1 h
    obtain ⟨es2, g3, g4⟩ := ih2 g1
    exact ⟨es2, g3, g4.trans g2⟩
theorem wk82 {d : List (Cell × AV)} (hd : d.Perm es82) : WkH 1326 (hp82 [(1326, .map d), (1327, rw82)]) hs82 where
  ok := fun nm y hy => by
    rcases mem82 hy with ⟨rfl, rfl⟩ | ⟨rfl, rfl⟩ | ⟨rfl, rfl⟩ | ⟨rfl, rfl⟩
    · exact ⟨_, g1_82 _ _, fun _ _ _ h => h, fun h => h⟩
    · exact ⟨_, g2_82 _ _, fun _ _ _ h => h, fun h => h⟩
    · refine ⟨_, g3_82 _ _, fun ρ c o hb => ?_, fun h => by cases h⟩
      obtain ⟨ents, cl, h1, h2, h3⟩ := hb
      obtain ⟨es', g1, g2⟩ := EsR.permL hd h2
      exact ⟨ents, cl, es', h1, g1, g2, h3⟩
    · exact ⟨_, g4_82 _ _, fun _ _ _ h => h, fun h => h⟩
  old := fun nm hnm => by
    cases hy : hs82.get nm with
    | some y =>
      rcases mem82 hy with ⟨rfl, rfl⟩ | ⟨rfl, rfl⟩ | ⟨rfl, _⟩ | ⟨rfl, _⟩
      · exact (g1_82 _ _).symm
      · exact (g2_82 _ _).symm
      · omega
      · omega
    | none =>
      cases hx : (hp82 [(1326, .map d), (1327, rw82)]).get nm with
      | none => rfl
      | some x =>
        rcases mem82 hx with ⟨rfl, rfl⟩ | ⟨rfl, rfl⟩ | ⟨rfl, _⟩ | ⟨rfl, _⟩
        · rw [show hs82.get 274 = _ from g1_82 _ _] at hy; cases hy
        · rw [show hs82.get 275 = _ from g2_82 _ _] at hy; cases hy
        · omega
        · omega
abbrev Fin82 : X → S → Prop := fun x s1 => x = .ret ∧ ∃ d, d.Perm es82 ∧ s1 = F82 d
theorem top82 : Top ⟨.nil, hp82 [], 1326, []⟩ := fun nm h => by
  have h' : 1326 ≤ nm := h
  show (hp82 []).get nm = none
  cases hx : (hp82 []).get nm with
  | none => rfl
  | some x =>
    have := ofL_mem hx
    simp only [List.mem_cons, Prod.mk.injEq, List.not_mem_nil, or_false] at this
    rcases this with ⟨rfl, _⟩ | ⟨rfl, _⟩ <;> omega
theorem rgo82 : TO Tryz.prog n82 K82 [] o82 rg82 stC82 (ThenO Tryz.prog n82 K82 [] o82 Fin82 rest82) := by
  rw [rg82_eq]
  refine TO.range (α := Cell × AV) (enc := fun x => x) (l := es82) (I := I82) (nm := 274) zng form82 (by kernel_rfl : Tryz.prog.underlying 177 = some (.map 3 86)) c0_82 c1_82 (by simp) (by rw [o82_nx]; decide) (.inr (by kernel_rfl)) o82_nx c3_82 c2_82 c4_82 d0_82 ?_ ?_
  · intro d x r hp
    refine ⟨_, b0_82 d x, [3, 4, 5, 20], [1326, 1327, 1328, 1329], E82 d x, ?_⟩
    have h6 := perm3 hp
    have key : en82 d x = some (true, E82 d x) ∧ rd82 d x = some (.normal, true, I82 (d ++ [x]), []) := by
      match d, hp.length_eq with
      | [], _ =>
        simp only [List.nil_append, List.cons.injEq] at h6
        rcases h6 with ⟨rfl, _⟩ | ⟨rfl, _⟩ | ⟨rfl, _⟩ | ⟨rfl, _⟩ | ⟨rfl, _⟩ | ⟨rfl, _⟩
        · exact ⟨en_0, rd_0⟩
        · exact ⟨en_0, rd_0⟩
        · exact ⟨en_1, rd_1⟩
        · exact ⟨en_1, rd_1⟩
        · exact ⟨en_2, rd_2⟩
        · exact ⟨en_2, rd_2⟩
      | [a], _ =>
        simp only [List.cons_append, List.nil_append, List.cons.injEq] at h6
        rcases h6 with ⟨rfl, rfl, _⟩ | ⟨rfl, rfl, _⟩ | ⟨rfl, rfl, _⟩ | ⟨rfl, rfl, _⟩ | ⟨rfl, rfl, _⟩ | ⟨rfl, rfl, _⟩
        · exact ⟨en0_1, rd0_1⟩
        · exact ⟨en0_2, rd0_2⟩
        · exact ⟨en1_0, rd1_0⟩
        · exact ⟨en1_2, rd1_2⟩
        · exact ⟨en2_0, rd2_0⟩
        · exact ⟨en2_1, rd2_1⟩
      | [a, b], _ =>
        simp only [List.cons_append, List.nil_append, List.cons.injEq] at h6
        rcases h6 with ⟨rfl, rfl, rfl, _⟩ | ⟨rfl, rfl, rfl, _⟩ | ⟨rfl, rfl, rfl, _⟩ | ⟨rfl, rfl, rfl, _⟩ | ⟨rfl, rfl, rfl, _⟩ | ⟨rfl, rfl, rfl, _⟩
        · exact ⟨en01_2, rd01_2⟩
        · exact ⟨en02_1, rd02_1⟩
        · exact ⟨en10_2, rd10_2⟩
        · exact ⟨en12_0, rd12_0⟩
        · exact ⟨en20_1, rd20_1⟩
        · exact ⟨en21_0, rd21_0⟩
      | _ :: _ :: _ :: _, h => simp [es82] at h
    exact ⟨key.1, TO.path fit82 o82_nx key.2 trivial rfl⟩
  · intro d hp
    refine ⟨_, b1_82 d, ?_⟩
    rcases perm3 hp with rfl | rfl | rfl | rfl | rfl | rfl
    · exact TO.path fit82 o82_nx fin0_82 trivial ⟨rfl, _, hp, rfl⟩
    · exact TO.path fit82 o82_nx fin1_82 trivial ⟨rfl, _, hp, rfl⟩
    · exact TO.path fit82 o82_nx fin2_82 trivial ⟨rfl, _, hp, rfl⟩
    · exact TO.path fit82 o82_nx fin3_82 trivial ⟨rfl, _, hp, rfl⟩
    · exact TO.path fit82 o82_nx fin4_82 trivial ⟨rfl, _, hp, rfl⟩
    · exact TO.path fit82 o82_nx fin5_82 trivial ⟨rfl, _, hp, rfl⟩
theorem body82_to : TO Tryz.prog n82 K82 [] o82 c82 o82 Fin82 := by
  refine TO.seq (c := zL c82) (d := zR c82) (TO.path fit82 o82_nx a0_82 trivial ?_)
  refine TO.seq (c := zL (zR c82)) (d := zR (zR c82)) (TO.path fit82 o82_nx a1_82 trivial ?_)
  refine TO.seq (c := zL (zR (zR c82))) (d := zR (zR (zR c82))) (TO.path fit82 o82_nx a2_82 trivial ?_)
  refine TO.seq (c := zL (zR (zR (zR c82)))) (d := zR (zR (zR (zR c82)))) (TO.path fit82 o82_nx a3_82 trivial ?_)
  exact TO.seq (c := rg82) (d := rest82) rgo82
theorem copySmall : SmallN Tryz.prog 82 args82 1326 (hp82 []) 1328 hs82 (.one (.c (.ptr 1327 0))) :=
  TO.smallW (fn := Tryz.f82) (c := c82) Tryz.func82 body82 K82 top82 sl82_ok (body82_to.mono fun x s h => by
    obtain ⟨rfl, d, hd, rfl⟩ := h
    refine ⟨.inr rfl, _, res82 d, rfl, ?_, Fnx82 d⟩
    rw [Fhp82]
    exact wk82 hd)
end Go.Sx
