/-
  A part of the executor Sx over the model's code (any program): its words, or its proof; no seat's statement stands here.
-/
import Derived.Test.YtganobhodimjnaaSxB
namespace Go.Sx

def upd (hp : Hp) (nm : Nat) (x : Option Blk) : Hp := fun i => if i = nm then x else hp i

theorem upd_same (hp : Hp) (nm : Nat) (x : Option Blk) : upd hp nm x nm = x := by simp [upd]
theorem upd_ne (hp : Hp) {nm i : Nat} (x : Option Blk) (h : i ≠ nm) : upd hp nm x i = hp i := by simp [upd, h]

def Upd.hp (u : Upd) (hp : Hp) (nx : Nat) : Hp :=
  match u with
  | .none => hp
  | .new b => Sx.upd hp nx (some b)
  | .wr nm b => Sx.upd hp nm (some b)
  | .mv nm b => Sx.upd (Sx.upd hp nm Option.none) nx (some b)

def Upd.nx (u : Upd) (nx : Nat) : Nat :=
  match u with
  | .new _ | .mv _ _ => nx + 1
  | _ => nx

def Upd.log : Upd → List Nat
  | .wr nm _ | .mv nm _ => [nm]
  | _ => []

structure Out (ρ : Rho) (hp : Hp) (nx : Nat) (w : World) (u : Upd) (v : RV) (V : Value) (ρ' : Rho) (w' : World) : Prop where
  val : RVR ρ' v V
  rel : HRel ρ' (u.hp hp nx) w'
  fresh : Fresh ρ' (u.nx nx)
  stp : Stp ρ hp nx w ρ' (u.hp hp nx) (u.nx nx) w' u.log

theorem Out.quiet {ρ : Rho} {hp : Hp} {nx : Nat} {w : World} {v : RV} {V : Value} (hv : RVR ρ v V) (hr : HRel ρ hp w) (hf : Fresh ρ nx) : Out ρ hp nx w .none v V ρ w :=
  ⟨hv, hr, hf, Stp.refl hf⟩

/-- one block turned -/
structure WrW (w : World) (b : Nat) (o : Obj) (w' : World) : Prop where
  size : w'.heap.size = w.heap.size
  at_ : w'.heap[b]? = some o
  other : ∀ i, i ≠ b → w'.heap[i]? = w.heap[i]?
  os : w'.os = w.os
  tape : w'.tape = w.tape
  out : w'.output = w.output

theorem HRel.wrOut {ρ : Rho} {hp : Hp} {nx : Nat} {w w' : World} {nm b c : Nat} {x y : Blk} {o : Obj} {v : RV} {V : Value} (hr : HRel ρ hp w) (hf : Fresh ρ nx)
    (hx : hp nm = some x) (hw : x.wr = true) (hb : ρ nm = some (b, c)) (ho : BlkR ρ c y o) (hW : WrW w b o w') (hv : RVR ρ v V) : Out ρ hp nx w (.wr nm y) v V ρ w' where
  val := hv
  rel := by
    constructor
    · intro i z hz
      by_cases h : i = nm
      · subst h
        simp only [Upd.hp, upd_same, Option.some.injEq] at hz
        subst hz
        exact ⟨b, c, o, hb, hW.at_, ho⟩
      · simp only [Upd.hp, upd_ne _ _ h] at hz
        obtain ⟨b', c', o', h1, h2, h3⟩ := hr.ok i z hz
        refine ⟨b', c', o', h1, ?_, h3⟩
        rw [hW.other b' fun e => ?_, h2]
        subst e
        exact h (hr.inj nm i x z b' c c' hx hz hw hb h1).symm
    · intro i j p q b1 c1 c2 hp1 hq1 hpw h1 h2
      by_cases hi : i = nm <;> by_cases hj : j = nm
      · rw [hi, hj]
      · subst hi
        simp only [Upd.hp, upd_ne _ _ hj] at hq1
        exact hr.inj _ _ _ _ _ _ _ hx hq1 hw h1 h2
      · subst hj
        simp only [Upd.hp, upd_ne _ _ hi] at hp1
        exact hr.inj _ _ _ _ _ _ _ hp1 hx hpw h1 h2
      · simp only [Upd.hp, upd_ne _ _ hi] at hp1
        simp only [Upd.hp, upd_ne _ _ hj] at hq1
        exact hr.inj _ _ _ _ _ _ _ hp1 hq1 hpw h1 h2
  fresh := hf
  stp := by
    constructor
    · exact Nat.le_refl _
    · exact fun _ _ => rfl
    · intro i _ hi
      simp only [Upd.log, List.mem_singleton] at hi
      simp [Upd.hp, upd_ne _ _ hi]
    · rw [hW.size]; exact Nat.le_refl _
    · intro i hi hL
      refine hW.other i fun e => ?_
      subst e
      by_cases hlt : nm < nx
      · exact hL nm c (by simp [Upd.log]) hlt hb
      · rw [hf nm (by omega)] at hb; cases hb
    · intro i b' c' hi he
      rw [hf i hi] at he; cases he
    · intro i hi _
      simp only [Upd.log, List.mem_singleton] at hi
      subst hi
      exact ⟨x, hx, hw⟩
    · exact hW.os
    · exact hW.tape
    · exact hW.out

/-- one block more -/
structure NewW (w : World) (o : Obj) (w' : World) : Prop where
  heap : w'.heap = w.heap.push o
  os : w'.os = w.os
  tape : w'.tape = w.tape
  out : w'.output = w.output

def ext (ρ : Rho) (nx b c : Nat) : Rho := fun i => if i = nx then some (b, c) else ρ i

theorem ext_sub {ρ : Rho} {nx : Nat} (hf : Fresh ρ nx) (b c : Nat) : Sub ρ (ext ρ nx b c) := by
  intro i x hx
  by_cases h : i = nx
  · subst h; rw [hf i (Nat.le_refl _)] at hx; cases hx
  · simp [ext, h, hx]

theorem lt_of_get {α : Type} {l : Array α} {i : Nat} {x : α} (h : l[i]? = some x) : i < l.size := by
  rcases Nat.lt_or_ge i l.size with h' | h'
  · exact h'
  · rw [Array.getElem?_eq_none h'] at h; cases h

theorem HRel.newOut {ρ : Rho} {hp : Hp} {nx : Nat} {w w' : World} {c : Nat} {y : Blk} {o : Obj} {v : RV} {V : Value} (hr : HRel ρ hp w) (hf : Fresh ρ nx)
    (ho : BlkR (ext ρ nx w.heap.size c) c y o) (hW : NewW w o w') (hv : RVR (ext ρ nx w.heap.size c) v V) : Out ρ hp nx w (.new y) v V (ext ρ nx w.heap.size c) w' := by
  have hn : ∀ x, hp nx ≠ some x := fun x hx => by
    obtain ⟨_, _, _, h, _⟩ := hr.ok nx x hx
    rw [hf nx (Nat.le_refl _)] at h; cases h
  have old : ∀ i b' c', i ≠ nx → ext ρ nx w.heap.size c i = some (b', c') → ρ i = some (b', c') := by
    intro i b' c' h e; simpa [ext, h] using e
  constructor
  · exact hv
  · constructor
    · intro i z hz
      by_cases h : i = nx
      · subst h
        simp only [Upd.hp, upd_same, Option.some.injEq] at hz
        subst hz
        exact ⟨w.heap.size, c, o, by simp [ext], by simp [hW.heap], ho⟩
      · simp only [Upd.hp, upd_ne _ _ h] at hz
        obtain ⟨b', c', o', h1, h2, h3⟩ := hr.ok i z hz
        refine ⟨b', c', o', by simp [ext, h, h1], ?_, h3.mono (ext_sub hf _ _)⟩
        have := lt_of_get h2
        rw [hW.heap, Array.getElem?_push_lt this, ← h2, Array.getElem?_eq_getElem this]
    · intro i j p q b1 c1 c2 hp1 hq1 hpw h1 h2
      by_cases hi : i = nx <;> by_cases hj : j = nx
      · rw [hi, hj]
      · subst hi
        simp only [Upd.hp, upd_ne _ _ hj] at hq1
        obtain ⟨b', c', o', g1, g2, _⟩ := hr.ok j q hq1
        rw [old j _ _ hj h2] at g1
        simp only [Option.some.injEq, Prod.mk.injEq] at g1
        have := lt_of_get g2
        simp [ext] at h1
        omega
      · subst hj
        simp only [Upd.hp, upd_ne _ _ hi] at hp1
        obtain ⟨b', c', o', g1, g2, _⟩ := hr.ok i p hp1
        rw [old i _ _ hi h1] at g1
        simp only [Option.some.injEq, Prod.mk.injEq] at g1
        have := lt_of_get g2
        simp [ext] at h2
        omega
      · simp only [Upd.hp, upd_ne _ _ hi] at hp1
        simp only [Upd.hp, upd_ne _ _ hj] at hq1
        exact hr.inj _ _ _ _ _ _ _ hp1 hq1 hpw (old i _ _ hi h1) (old j _ _ hj h2)
  · intro i hi
    simp only [Upd.nx] at hi
    have : i ≠ nx := by omega
    simp [ext, this, hf i (by omega)]
  · constructor
    · simp [Upd.nx]
    · intro i hi
      have : i ≠ nx := by omega
      simp [ext, this]
    · intro i hi _
      have : i ≠ nx := by omega
      simp [Upd.hp, upd_ne _ _ this]
    · rw [hW.heap]; simp
    · intro i hi _
      rw [hW.heap, Array.getElem?_push_lt hi, Array.getElem?_eq_getElem hi]
    · intro i b' c' hi he
      by_cases h : i = nx
      · subst h; simp [ext] at he; left; omega
      · have he := old i _ _ h he
        rw [hf i (by omega)] at he; cases he
    · intro i hi; cases hi
    · exact hW.os
    · exact hW.tape
    · exact hW.out

end Go.Sx
