/-
  Parts of the executor Sx over the model's code (any program), or of this seat's walks: words and proofs that the row's text uses.
-/
import Derived.Test.YtganobhodimjnaaJ9
import Derived.Test.YtganobhodimjnaaH9
namespace Go.Sx
open Go.Proofs Go.RowKit
set_option maxRecDepth 100000
/-! ### the map's keys are few, and sectors -/
structure MapOk (m k : Nat) (l : List (Int × Int)) : Prop where
  len : l.length ≤ k
  key : ∀ p ∈ l, 0 ≤ p.1 ∧ p.1 < m
theorem putI_len (l : List (Int × Int)) (g v : Int) : (putI l g v).length ≤ l.length + 1 := by
  induction l with
  | nil => simp [putI]
  | cons p r ih =>
    obtain ⟨x, y⟩ := p
    unfold putI
    split
    · simp
    · simp; omega
theorem putI_mem {l : List (Int × Int)} {g v : Int} {p : Int × Int} (h : p ∈ putI l g v) : p = (g, v) ∨ p ∈ l := by
  induction l with
  | nil => simpa [putI] using h
  | cons q r ih =>
    obtain ⟨x, y⟩ := q
    unfold putI at h
    split at h
    · rcases List.mem_cons.1 h with h | h
      · exact .inl h
      · exact .inr (List.mem_cons_of_mem _ h)
    · rcases List.mem_cons.1 h with h | h
      · exact .inr (h ▸ List.mem_cons_self)
      · rcases ih h with h | h
        · exact .inl h
        · exact .inr (List.mem_cons_of_mem _ h)
section
variable {a b c sc : Int} {m : Nat} {st : St}
theorem MapOk.wr {k : Nat} {g kd : Int} {p : List Int} (h : MapOk m k st.2.1) : MapOk m (k + 1) (wr1 a b c m sc st g kd p).2.1 := by
  have h' : MapOk m (k + 1) st.2.1 := ⟨Nat.le_succ_of_le h.len, h.key⟩
  show MapOk m (k + 1) (wrEnd a b c m sc st.2.2 st.1 st.2.1 g kd p).2.2.1
  refine wr_cases (Q := fun r => MapOk m (k + 1) r.2.2.1) (fun _ => h') (fun _ _ _ => h') (fun _ _ => h') (fun _ _ _ => h') fun hs _ => ⟨?_, fun q hq => ?_⟩
  · have := putI_len st.2.1 g 1
    have := h.len
    show (putI st.2.1 g 1).length ≤ k + 1
    omega
  · rcases putI_mem hq with rfl | hq
    · exact hasS_iff.1 hs
    · exact h.key q hq
theorem MapOk.fld1 {k : Nat} {i : Int} (h : MapOk m k st.2.1) : MapOk m (k + 1) (fld1 a b c m sc st i).2.1 := by
  unfold Sx.fld1
  split
  · unfold wr63
    split
    · exact h.wr
    · exact ⟨Nat.le_succ_of_le h.len, h.key⟩
  · exact ⟨Nat.le_succ_of_le h.len, h.key⟩
theorem MapOk.flds : ∀ (j : Nat) {k : Nat} {i : Int} {st : St}, MapOk m k st.2.1 → MapOk m (k + j) (flds a b c m sc j st i).2.1
  | 0, k, i, st, h => h
  | j + 1, k, i, st, h => by
    rw [Sx.flds]
    have := MapOk.flds j (i := i + 1) (h.fld1 (a := a) (b := b) (c := c) (sc := sc) (i := i))
    rw [show k + (j + 1) = k + 1 + j by omega]
    exact this
theorem key_wf {l : List (Int × Int)} {k : Nat} (hm : m ≤ 140) (h : MapOk m k l) : ∀ p ∈ l, (Lit.int IntKind.i64 p.1).wf = true := fun p hp => by
  obtain ⟨h0, h1⟩ := h.key p hp
  unfold Lit.wf
  simp [IntKind.min, IntKind.max, IntKind.signed, IntKind.bits]
  omega
end
/-! ### an inode's comparison -/
theorem eq9 {A B : Fi.Ino9} : rE8_x1 A B = true ↔ A = B := by
  obtain ⟨k, l, s, d0, d1, d2, d3, sg, db⟩ := A
  obtain ⟨k', l', s', d0', d1', d2', d3', sg', db'⟩ := B
  simp [and_assoc]
section
variable {off : Nat} {sc : Int} {L F : List Int} {m N : Nat} {a b c out : Int} {G : List Int} {l : List (Int × Int)} {i o9 q1 q2 q3 q4 : Int} {A B D : Fi.Ino9} {ok : Bool}
theorem rE8_ok (f1 : inS a sc q3 = true → ok = true → A = D) (f2 : inS a sc q3 = false ∨ B = D → A = B) {Q : X → S → Prop} (hq : Q .normal (s8i off sc L F m N a b c out G l i o9 q1 q2 q3 q4 A B D)) : Okp (rE8 off sc L F m N a b c out G l i o9 q1 q2 q3 q4 A B D ok Q) := by
  rw [rE8_tree]; unfold rE8_t
  revert hq
  generalize s8i off sc L F m N a b c out G l i o9 q1 q2 q3 q4 A B D = S0
  intro hq
  have e0 : rE8_x0 A B = !rE8_x1 A B := rfl
  have tail : Okp (bif !inS a sc q3 then bif rE8_x0 A B then some (All [] ∧ False) else some (All [] ∧ Q X.normal S0) else bif rE8_x1 B D then bif rE8_x0 A B then some (All [] ∧ False) else some (All [] ∧ Q X.normal S0) else some (All [] ∧ Q X.normal S0)) := by
    rw [e0]
    refine .fork (fun h => ?_) (fun h => ?_)
    · have hin : inS a sc q3 = false := by simpa using h
      refine .no ?_ ⟨trivial, hq⟩
      rw [eq9.2 (f2 (.inl hin))]; rfl
    · refine .fork (fun h2 => ?_) (fun _ => ⟨trivial, hq⟩)
      refine .no ?_ ⟨trivial, hq⟩
      rw [eq9.2 (f2 (.inr (eq9.1 h2)))]; rfl
  refine .fork (fun h1 => .fork (fun h2 => ?_) (fun _ => tail)) (fun _ => tail)
  refine .no ?_ tail
  show (!rE8_x1 A D) = false
  rw [eq9.2 (f1 h1 h2)]; rfl
end
section
variable (off : Nat) (sc : Int) (L F : List Int) (m N : Nat) (a b c out : Int) (G : List Int) (l : List (Int × Int)) (i o9 q1 q2 q3 q4 : Int) (A B D : Fi.Ino9)
theorem s8l_nx : (s8l off sc L F m N a b c out G l i o9).nx = 17 := by kernel_rfl
theorem s8i_nx : (s8i off sc L F m N a b c out G l i o9 q1 q2 q3 q4 A B D).nx = 21 := by kernel_rfl
theorem s8i_low : low n8 17 (s8i off sc L F m N a b c out G l i o9 q1 q2 q3 q4 A B D) = s8l off sc L F m N a b c out G l i o9 := by kernel_rfl
end
section
variable {off : Nat} {sc : Int} {L F : List Int} {m N : Nat} {a b c out : Int} {G : List Int} {l : List (Int × Int)} {o9 : Int}
/-- what the law asks of each inode -/
structure Fo (a b c sc : Int) (m : Nat) (F G : List Int) (i : Int) : Prop where
  bo : (inoG a b c F m i).Ok
  ok : inoOk a b c G m i = inoOk a b c F m i
  f1 : inS a sc (inoP b c i).2.2.1 = true → inoOk a b c F m i = true → inoG a b c G m i = Fi.sh a b c i (inoG a b c F m i)
  f2 : inS a sc (inoP b c i).2.2.1 = false ∨ inoG a b c F m i = Fi.sh a b c i (inoG a b c F m i) → inoG a b c G m i = inoG a b c F m i
theorem loop8 (hg : geoB a b c = true) (hN : N = 64 * m) (hF : F.length = N) (hG : G.length = N) (hR : ∀ i : Int, 1 ≤ i → i ≤ inoN a b c → Fo a b c sc m F G i) : ∀ (k : Nat) (i : Int), 1 ≤ i → i + k = inoN a b c + 1 →
    Tr Try.prog n8 (.loop lp8) (s8l off sc L F m N a b c out G l i o9) (fun x s' => x = .exit 0 ∧ s' = s8l off sc L F m N a b c out G l (inoN a b c + 1) o9)
  | 0, i, h0, hk => by
    have : i = inoN a b c + 1 := by simpa using hk
    subst this
    refine Tr.loop (Tr.seq (c := gL lp8) (d := gR lp8) (Tr.treeL fit8 (m := 17) (by rw [s8l_nx]; exact Nat.le_refl _) (.of_eq (rA8_tree ..) (.no (by simp; omega) ⟨trivial, rfl, ?_⟩))))
    exact ⟨rfl, rfl⟩
  | k + 1, i, h0, hk => by
    push_cast at hk
    have h1 : i ≤ inoN a b c := by omega
    have hab := ab_small hg
    have hNe : inoN a b c = 3 * a * b := by unfold inoN; rw [if_pos hg]
    have ih := loop8 hg hN hF hG hR k (i + 1) (by omega) (by omega)
    obtain ⟨bo, hok, f1, f2⟩ := hR i h0 h1
    have hB : inoB a b c i = true := by unfold inoB; rw [hg]; simp; omega
    refine Tr.loop (Tr.seq (c := gL lp8) (d := gR lp8) (Tr.treeL fit8 (m := 17) (by rw [s8l_nx]; exact Nat.le_refl _) (.of_eq (rA8_tree ..) (.yes (by simp; exact h1) ⟨trivial, rfl, ?_⟩))))
    have next : Tr Try.prog n8 (gR (gR lp8)) (s8l off sc L F m N a b c out G l i o9) (Then Try.prog n8 (s8l off sc L F m N a b c out G l i o9) (fun x s' => x = .exit 0 ∧ s' = s8l off sc L F m N a b c out G l (inoN a b c + 1) o9) (.loop lp8)) := by
      refine Tr.treeFL fit8 (m := 17) (by rw [s8l_nx]; exact Nat.le_refl _) (.of_eq (rF8_tree ..) ⟨trivial, rfl, ?_⟩)
      have hi1 : IntKind.i64.wrap (i + 1) = i + 1 := IntWalk.i64_in _ (by omega)
      rw [hi1]
      exact ih
    refine Tr.seq (c := .block 1 bd8) (d := gR (gR lp8)) (Tr.low (m := 17) (by rw [s8l_nx]; exact Nat.le_refl _) (Tr.block ?_))
    have hb := rB8_tree off sc L F m N a b c out G l i o9
    have body : ∀ Q' : X → S → Prop, Q' .normal (s8i off sc L F m N a b c out G l i o9 (inoP b c i).1 (inoP b c i).2.1 (inoP b c i).2.2.1 (inoP b c i).2.2.2 (inoG a b c G m i) (inoG a b c F m i) (Fi.sh a b c i (inoG a b c F m i))) → Tr Try.prog n8 bd8 (s8l off sc L F m N a b c out G l i o9) Q' := fun Q' hq => by
      refine Tr.prefixQ (m := 3) (keep := [5, 7, 9, 10, 11, 12, 14, 15, 16, 17]) (res := res8) fit8 (Okp.of_eq (hb (fun s => Tr Try.prog n8 (tailN 3 bd8) s Q')) ⟨⟨hF, hN, hG, hN, trivial⟩, ?_⟩)
      rw [hB, hok]
      show Tr Try.prog n8 x8 (s8m off sc L F m N a b c out G l i o9 (inoP b c i).1 (inoP b c i).2.1 (inoP b c i).2.2.1 (inoP b c i).2.2.2 (inoG a b c G m i) (inoG a b c F m i) (inoOk a b c F m i) (inoOk a b c F m i)) Q'
      refine Tr.seq (c := gL x8) (d := gR x8) (Tr.treeF fit8 (.of_eq (rC8_tree ..) (.no (by simp) ⟨trivial, ?_⟩)))
      refine Tr.seq (c := gL (gR x8)) (d := gR (gR x8)) (Tr.treeF fit8 (.of_eq (rD8_tree ..) ⟨⟨bo, trivial⟩, ?_⟩))
      exact Tr.treeF fit8 (rE8_ok f1 f2 hq)
    exact body _ ⟨by rw [s8i_nx]; omega, by rw [s8i_low]; exact next⟩
end
end Go.Sx

namespace Go.Sx
open Go.Proofs Go.RowKit
set_option maxRecDepth 100000
abbrev End8 : X → S → Prop := EndV Try.prog n8 res8 (.one (.c (.bool true)))
abbrev R8 : X → Option (List AV) → Prop := fun x q => x = X.ret ∧ ∃ L, q = some L ∧ resRV L = .one (.c (.bool true))
section
variable {off : Nat} {sc : Int} {L F : List Int} {m N : Nat} {a b c : Int}
theorem fo_all (hm : (m : Int) = 2 + a * (2 + b + c)) (hF : F.length = 64 * m) (hy : ByA F m) (i : Int) : Fo a b c sc m F (fldR a b c m sc (F, [], 0)).1 i := by
  obtain ⟨h1, h2, h3⟩ := fldR_law (sc := sc) (st0 := (F, [], 0)) hm hF hy i
  refine ⟨?_, h1, h2, h3⟩
  unfold inoG
  cases hok : inoOk a b c F m i with
  | false =>
    show Fi.Ino9.zero.Ok
    exact ⟨by simp [Fi.Ino9.zero], by simp [Fi.Ino9.zero], by simp [Fi.Ino9.zero], Fi.u0, Fi.u0, Fi.u0, Fi.u0, Fi.u0, Fi.u0⟩
  | true =>
    obtain ⟨_, hs, _⟩ := inoV_bk hok
    obtain ⟨s0, s1⟩ := hasS_iff.1 hs
    exact (inoV_in hF hok (hy _ s0 s1)).ok
theorem after8b (hN : N = 64 * m) (hm140 : m ≤ 140) (hg : geoB a b c = true) (hm : (m : Int) = 2 + a * (2 + b + c)) (hF : F.length = 64 * m) (hy : ByA F m) : Tr Try.prog n8 u8c (s8b off sc L F m N a b c) End8 := by
  have hFN : F.length = N := by rw [hF, hN]
  have hab := ab_small hg
  have hNe : inoN a b c = 3 * a * b := by unfold inoN; rw [if_pos hg]
  have inv := fldR_inv (sc := sc) (st0 := (F, [], 0)) hm hF hy
  have hagain := fldR_again (sc := sc) (st0 := (F, [], 0)) hm hF hy
  have hmap : MapOk m (0 + (inoN a b c).toNat) (fldR a b c m sc (F, [], 0)).2.1 := MapOk.flds (a := a) (b := b) (c := c) (sc := sc) (inoN a b c).toNat (k := 0) (i := 1) (st := (F, [], 0)) ⟨by simp, fun p hp => by cases hp⟩
  have hout : (fldR a b c m sc (F, [], 0)).2.2 = 0 := inv.out
  have hGN : (fldR a b c m sc (F, [], 0)).1.length = N := by rw [inv.len, hN]
  have hby := inv.byt
  have hfo := fo_all (sc := sc) hm hF hy
  refine Tr.pieces fit8 (keep := [5, 7, 9, 10]) (m := 3) (.of_eq (run8_tree off sc L F m N a b c (fun s => Tr Try.prog n8 (tailN 3 u8c) s End8) R8) ⟨⟨hFN, hN, hm, hg, hy, trivial⟩, ?_⟩)
  show Tr Try.prog n8 v8 _ End8
  revert inv hagain hmap hout hGN hfo hby
  generalize fldR a b c m sc (F, [], 0) = r
  intro inv hagain hmap hout hGN hby hfo
  refine Tr.seq (c := gL v8) (d := gR v8) ?_
  refine Tr.seq (c := gL (gL v8)) (d := .block 0 (.loop lp8)) (Tr.treeL fit8 (m := 17) (Nat.le_refl _) (.of_eq (ini8_tree ..) ⟨trivial, rfl, ?_⟩))
  refine Tr.block ((loop8 hg hN hFN hGN (fun i _ _ => hfo i) (inoN a b c).toNat 1 (by omega) (by omega)).mono fun x s' hx => ?_)
  obtain ⟨rfl, rfl⟩ := hx
  simp only [if_true]
  show Tr Try.prog n8 (gR v8) (s8l off sc L F m N a b c r.2.2 r.1 r.2.1 (inoN a b c + 1) r.2.2) End8
  have hr : fldR a b c m sc (r.1, r.2.1, r.2.2) = r := hagain
  by_cases hl : r.2.1 = []
  · refine Tr.treeV fit8 (.of_eq (fin8a_tree off sc L F m N a b c r.2.2 r.1 r.2.1 (inoN a b c + 1) r.2.2 (RetV (.one (.c (.bool true))))) ?_)
    unfold fin8a_t
    rw [hr]
    exact .yes (by rw [hout]; rfl) ⟨⟨hl, hGN, hN, hm, hg, hby, hl, trivial⟩, .inr rfl, _, rfl, by rw [hout]; rfl⟩
  · refine Tr.treeV fit8n (.of_eq (fin8b_tree off sc L F m N a b c r.2.2 r.1 r.2.1 (inoN a b c + 1) r.2.2 (RetV (.one (.c (.bool true))))) ?_)
    unfold fin8b_t
    have e0 : fin8b_x0 sc m a b c r.2.2 r.1 r.2.1 = r.2.1.length := by show (fldR a b c m sc (r.1, r.2.1, r.2.2)).2.1.length = _; rw [hr]
    rw [hr, e0]
    have hlen : r.2.1.length ≤ 1000000 := by have := hmap.len; omega
    have hwf := key_wf hm140 hmap
    exact .yes (by simp) (.yes (by rw [hout]; rfl) ⟨⟨hl, hlen, hwf, hGN, hN, hm, hg, hby, hl, hlen, hwf, trivial⟩, .inr rfl, _, rfl, by rw [hout]; rfl⟩)
end
theorem body8 {n off cap : Nat} {sc : Int} {L : List Int} (hL : L.length = n * 64) (hc : n ≤ cap) (hy : Bytes L) : Tr Try.prog n8 c8 ⟨sl8 n off cap sc, ofL [(0, .win off .u8 L)], 1, []⟩ End8 := by
  refine Tr.pieces fit8 (keep := [0, 1, 5, 6]) (m := 3) (.of_eq (pre8_tree n off cap sc L (fun s => Tr Try.prog n8 (tailN 3 c8) s End8) R8) ?_)
  unfold pre8_t
  obtain ⟨k, hk⟩ : ∃ k, k = min n 140 := ⟨_, rfl⟩
  have x0 : pre8_x0 n = (k : Int) := by show (if (140 : Int) < (n : Int) then (140 : Int) else (n : Int)) = _; split <;> omega
  have x1 : pre8_x1 off cap = off := by show (if cap = 0 then off else off + 0) = off; split <;> rfl
  have x2 : pre8_x2 off cap = 0 := by show pre8_x1 off cap - off = 0; rw [x1]; omega
  have x3 : pre8_x3 n = k := by show (pre8_x0 n).toNat - 0 = k; rw [x0]; simp
  have x4 : pre8_x4 n = k * 64 := by show pre8_x3 n * 64 = _; rw [x3]
  have x5 : pre8_x5 n off cap = k * 64 := by show pre8_x2 off cap + pre8_x4 n = _; rw [x2, x4]; omega
  have x6 : pre8_x6 n = k := by show 0 + pre8_x3 n = k; rw [x3]; omega
  have x7 : pre8_x7 n = true := by show fits Try.prog.types[49]! (pre8_x6 n) = true; rw [x6]; exact fits49 (by omega)
  have hF : (L.take (k * 64)).length = 64 * k := by simp; omega
  have x8' : pre8_x8 n off cap L = L.take (k * 64) := by
    show [] ++ List.take (pre8_x4 n) (List.drop (pre8_x2 off cap) L) = _
    rw [x4, x2, List.drop_zero, List.nil_append]
  have x9 : pre8_x9 n off cap L = fndE (L.take (k * 64)) k := by show fndE (pre8_x8 n off cap L) (pre8_x6 n) = _; rw [x8', x6]
  have x10 : pre8_x10 n = k * 64 := by show 0 + pre8_x4 n = _; rw [x4]; omega
  have x11 : pre8_x11 n = k * 64 := by show pre8_x6 n * 64 = _; rw [x6]
  have x12 : pre8_x12 n = k * 64 := by show 0 + pre8_x11 n = _; rw [x11]; omega
  have x13 : pre8_x13 n = k := by show 0 + pre8_x6 n = k; rw [x6]; omega
  have x14 : pre8_x14 n = true := by show fits Try.prog.types[49]! (pre8_x13 n) = true; rw [x13]; exact fits49 (by omega)
  have hcl : List.take 0 (List.drop 0 (repl z64 0)) ++ List.take (pre8_x11 n) (List.drop 0 (pre8_x8 n off cap L)) = L.take (k * 64) := by rw [x11, x8']; exact clone_eq hF
  have hyF : ByA (L.take (k * 64)) k := fun i _ _ => bytes_bk (fun x hx => hy x (List.mem_of_mem_take hx)) i
  have g0 : decide (0 ≤ (k : Int) ∧ (k : Int) ≤ (cap : Int)) = true := by simp; omega
  have g1 : decide (off ≤ off ∧ k * 64 ≤ L.length) = true := by simp; omega
  refine .chk (by rw [x0]; exact g0) (.chk (by rw [x1, x5]; exact g1) ?_)
  rw [x3]
  by_cases hk0 : k = 0
  · refine .yes (by rw [hk0]; rfl) ⟨trivial, ?_⟩
    refine Tr.pieces (m := 2) fit8 (keep := [5, 7]) (.of_eq (zer8_tree n off cap sc L (fun s => Tr Try.prog n8 (tailN 2 t8) s End8) R8) ?_)
    unfold zer8_t
    exact .chk (by show decide (0 ≤ pre8_x0 n ∧ pre8_x0 n ≤ (cap : Int)) = true; rw [x0]; exact g0) (.chk (by show decide (off ≤ pre8_x1 off cap ∧ pre8_x5 n off cap ≤ L.length) = true; rw [x1, x5]; exact g1) (.yes (by show (pre8_x3 n).beq 0 = true; rw [x3, hk0]; rfl) ⟨trivial, rfl, _, rfl, rfl⟩))
  · have hb : k.beq 0 = false := beq0 (by omega)
    have gk : decide (0 < k ∧ true = true) = true := by simp; omega
    have hob : All [(L.take (k * 64)).length = k * 64, k * 64 = 64 * k] := ⟨by rw [hF]; omega, by omega, trivial⟩
    refine .no hb (.chk (by rw [x6, x7]; exact gk) ?_)
    rw [x9]
    cases he : (fndE (L.take (k * 64)) k != 0) with
    | true =>
      refine .yes rfl ?_
      rw [x8', x10, x6]
      refine ⟨hob, ?_⟩
      refine Tr.pieces (m := 2) fit8 (keep := [5, 7]) (.of_eq (err8_tree n off cap sc L (L.take (k * 64)) (k * 64) _ _ _ (fndE (L.take (k * 64)) k) (fun s => Tr Try.prog n8 (tailN 2 t8) s End8) R8) ?_)
      unfold err8_t
      have y11 : err8_x11 n off cap L = true := by show (pre8_x9 n off cap L != 0) = true; rw [x9]; exact he
      have y6 : err8_x6 (fndE (L.take (k * 64)) k) = true := he
      have y10 : err8_x10 n off cap L = fndE (L.take (k * 64)) k := x9
      have y9 : err8_x9 n off cap L = L.take (k * 64) := x8'
      have y12 : err8_x12 n = k * 64 := x10
      have y7 : err8_x7 n = k := x6
      refine .chk (by show decide (0 ≤ pre8_x0 n ∧ pre8_x0 n ≤ (cap : Int)) = true; rw [x0]; exact g0) (.chk (by show decide (off ≤ pre8_x1 off cap ∧ pre8_x5 n off cap ≤ L.length) = true; rw [x1, x5]; exact g1) (.no (by show (pre8_x3 n).beq 0 = false; rw [x3]; exact hb) (.chk (by show decide (0 < pre8_x6 n ∧ pre8_x7 n = true) = true; rw [x6, x7]; exact gk) (.yes y11 (.yes y6 ?_)))))
      rw [y9, y12, y7, y10]
      exact ⟨hob, rfl, _, rfl, by simp [resRV]⟩
    | false =>
      have hok := find_ok he
      have hg := find_geo hok
      have ht := find_tot hok
      unfold tot at ht
      rw [if_pos hg] at ht
      have hE : fndE (L.take (k * 64)) k = 0 := by simpa using he
      refine .no rfl (.chk (by rw [x6]; simp; exact hk0) (.chk (by rw [x12, x10]; simp) (.no (by rw [x6]; exact hb) (.chk (by rw [x13, x14]; exact gk) ?_))))
      rw [hcl, x8', x10, x6, x12, x13, hE]
      refine ⟨hob, ?_⟩
      refine Tr.pieces (m := 2) fit8 (keep := [5, 7]) (.of_eq (mid8_tree n off cap sc L (L.take (k * 64)) k (k * 64) _ _ _ 0 (fun s => Tr Try.prog n8 (tailN 2 t8) s End8) R8) ?_)
      unfold mid8_t
      have y6 : mid8_x6 0 = false := rfl
      have y11 : mid8_x11 n off cap L = false := by show (pre8_x9 n off cap L != 0) = false; rw [x9]; exact he
      have y9 : mid8_x9 n off cap L = L.take (k * 64) := x8'
      have y12 : mid8_x12 n = k * 64 := x10
      have y7 : mid8_x7 n = k := x6
      have y13 : mid8_x13 n = k * 64 := x11
      have y14 : mid8_x14 n = k * 64 := x12
      have y15 : mid8_x15 n = k := x13
      have y16 : mid8_x16 n = true := x14
      have hcl2 : List.take 0 (List.drop 0 (repl z64 0)) ++ List.take (mid8_x13 n) (List.drop 0 (mid8_x9 n off cap L)) = L.take (k * 64) := hcl
      refine .chk (by show decide (0 ≤ pre8_x0 n ∧ pre8_x0 n ≤ (cap : Int)) = true; rw [x0]; exact g0) (.chk (by show decide (off ≤ pre8_x1 off cap ∧ pre8_x5 n off cap ≤ L.length) = true; rw [x1, x5]; exact g1) (.no (by show (pre8_x3 n).beq 0 = false; rw [x3]; exact hb) (.chk (by show decide (0 < pre8_x6 n ∧ pre8_x7 n = true) = true; rw [x6, x7]; exact gk) (.no y11 (.chk (by rw [y7]; simp; exact hk0) (.chk (by rw [y14, y12]; simp) (.no (by rw [y7]; exact hb) (.chk (by rw [y15, y16]; exact gk) (.no y6 (.no y11 ?_))))))))))
      rw [hcl2, y9, y12, y7, y14, y15]
      refine ⟨hob, ?_⟩
      exact after8b (N := k * 64) (by omega) (by omega) hg ht.symm hF hyF
theorem body8_eq : Try.f8.body = some c8 := by kernel_rfl
section
variable {n off cap : Nat} {sc : Int} {L : List Int} {w : World} {b : Nat} {cs : Array Value} {t : TypeId} {fr : Nat × Nat}
theorem law8_win (hb : w.heap[b]? = some (.cells cs t fr)) (hL : L.length = n * 64) (hsz : off + n * 64 ≤ cs.size) (hcs : (cs.toList.drop off).take (n * 64) = L.map (Value.int .u8)) (hc : n ≤ cap) (hy : Bytes L) :
    Calls Try.prog 8 #[.slice (some ⟨b, off, none⟩) n cap, .int .u32 sc] w fun e w' => e = .returned (.bool true) ∧ Below w.heap.size w w' := by
  refine (Tr.calls (s := ⟨.nil, ofL [(0, .win off .u8 L)], 1, []⟩) (Q := fun v _ => v = .one (.c (.bool true))) Try.func8 body8_eq (sl8_ok n off cap sc) (by rw [win_eq]; exact top_one) (body8 hL hc hy)
    (fun nm => if nm = 0 then some (b, 0) else none) w [.slice (some ⟨b, off, none⟩) n cap, .int .u32 sc] ?_ ?_ ?_).mono fun e w' hh => ?_
  · rw [win_eq]
    refine ⟨fun nm x hx => ?_, fun nm nm' x y b c c' hx hy hw _ _ => ?_⟩
    · obtain ⟨rfl, rfl⟩ := get_one hx
      exact ⟨b, 0, _, rfl, hb, cs, t, fr, rfl, by rw [hL]; exact hsz, by rw [hL]; exact hcs⟩
    · obtain ⟨rfl, rfl⟩ := get_one hx
      cases hw
  · intro nm hn
    have : 1 ≤ nm := hn
    simp only []
    rw [if_neg (by omega)]
  · exact ⟨_, _, ⟨b, 0, rfl, rfl⟩, ⟨_, _, rfl, rfl, rfl⟩, rfl⟩
  · obtain ⟨v', s', L', V, ρ', rfl, ab, e1, e2, e3, e4, st⟩ := hh
    cases e2
    refine ⟨e1, st.os, st.tape, st.out, st.size, fun q hq => st.frame q hq fun nm c hm hlt _ => ?_⟩
    obtain ⟨x, h1, h2⟩ := st.own nm hm hlt
    have h1' : (ofL [(0, Blk.win off .u8 L)] : T Blk).get nm = some x := h1
    rw [win_eq] at h1'
    obtain ⟨rfl, rfl⟩ := get_one h1'
    cases h2
noncomputable def args8n (sc : Int) : List RV := [.one (.c .sl0), .one (.c (.int .u32 sc))]
theorem nil_run8 (sc : Int) : runA Try.prog sg8 300 8 (args8n sc) s0 ⟨0, [], []⟩ (fun v _ α => some (v, α.ob)) = some (.one (.c (.bool true)), []) := by kernel_rfl
theorem law8_nil : Calls Try.prog 8 #[.slice none 0 0, .int .u32 sc] w fun e w' => e = .returned (.bool true) ∧ Below w.heap.size w w' := by
  refine (pure_path fit8 (by rfl) (by rfl) (nil_run8 sc) trivial (fun _ => none) w [.slice none 0 0, .int .u32 sc] ?_).mono fun e w' ⟨V, e1, e2, e3⟩ => ⟨by cases e2; exact e1, e3⟩
  exact ⟨_, _, rfl, ⟨_, _, rfl, rfl, rfl⟩, rfl⟩
end
#print axioms law8_win
end Go.Sx
