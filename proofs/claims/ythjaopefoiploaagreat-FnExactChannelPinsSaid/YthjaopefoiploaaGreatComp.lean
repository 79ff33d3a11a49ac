/-
  Plain: connected components of sets of cells.
-/
import Derived.Test.YthjaopefoiploaaGreatGrow
namespace Go.Proofs.YthjaopefoiploaaGreat
abbrev Cel := Nat × Nat
def Adj (a b : Cel) : Prop := (a.1 = b.1 ∧ (a.2 = b.2 + 1 ∨ b.2 = a.2 + 1)) ∨ (a.2 = b.2 ∧ (a.1 = b.1 + 1 ∨ b.1 = a.1 + 1))
theorem Adj.symm {a b : Cel} (h : Adj a b) : Adj b a := by
  rcases h with ⟨h1, h2⟩ | ⟨h1, h2⟩
  · exact .inl ⟨h1.symm, h2.symm⟩
  · exact .inr ⟨h1.symm, h2.symm⟩
/-- the cell is on the chip and set -/
def On (S : List Bool) (a : Cel) : Prop := a.1 < 80 ∧ a.2 < 80 ∧ gb S a.1 a.2 = true
inductive Conn (S : List Bool) (a : Cel) : Cel → Prop where
  | refl : Conn S a a
  | step {b c : Cel} : Conn S a b → Adj b c → On S c → Conn S a c
theorem Conn.on {S : List Bool} {a b : Cel} (h : Conn S a b) (ha : On S a) : On S b := by
  cases h with
  | refl => exact ha
  | step _ _ h => exact h
theorem Conn.trans {S : List Bool} {a b c : Cel} (h : Conn S a b) (k : Conn S b c) : Conn S a c := by
  induction k with
  | refl => exact h
  | step _ h1 h2 ih => exact ih.step h1 h2
theorem Conn.symm {S : List Bool} {a b : Cel} (h : Conn S a b) (ha : On S a) : Conn S b a := by
  induction h with
  | refl => exact .refl
  | step h1 h2 h3 ih => exact (Conn.step .refl h2.symm (h1.on ha)).trans ih
/-- a set that is closed under the neighbours of another, within it -/
theorem Conn.sub {S T : List Bool} {a b : Cel} (h : Conn S a b) (ha : On T a) (hc : ∀ p q, On T p → Adj p q → On S q → On T q) : Conn T a b ∧ On T b := by
  induction h with
  | refl => exact ⟨.refl, ha⟩
  | step h1 h2 h3 ih =>
    have := hc _ _ ih.2 h2 h3
    exact ⟨ih.1.step h2 this, this⟩
theorem Conn.mono {S T : List Bool} {a b : Cel} (h : Conn T a b) (hc : ∀ p, On T p → On S p) : Conn S a b := by
  induction h with
  | refl => exact .refl
  | step h1 h2 h3 ih => exact ih.step h2 (hc _ h3)
open Classical in
noncomputable def compB (S : List Bool) (a : Cel) : List Bool := (List.range 6400).map fun j => decide (Conn S a (j / 80, j % 80))
theorem compB_len (S : List Bool) (a : Cel) : (compB S a).length = 6400 := by simp [compB]
open Classical in
theorem gb_comp {S : List Bool} {a : Cel} {y x : Nat} (hy : y < 80) (hx : x < 80) : gb (compB S a) y x = decide (Conn S a (y, x)) := by
  have h : y * 80 + x < 6400 := by omega
  have e1 : (y * 80 + x) / 80 = y := by omega
  have e2 : (y * 80 + x) % 80 = x := by omega
  rw [gb, gd_eq (by rw [compB_len]; exact h)]
  simp [compB, e1, e2]
theorem comp_iff {S : List Bool} {a : Cel} {y x : Nat} (hy : y < 80) (hx : x < 80) : gb (compB S a) y x = true ↔ Conn S a (y, x) := by
  rw [gb_comp hy hx]; simp
/-- a set that holds the seed, is connected with it and closed, is its component -/
theorem comp_of {S out : List Bool} {a : Cel} (hl : out.length = 6400) (ha : On S a) (ho : On out a) (hconn : ∀ b, On out b → Conn S a b) (hcl : ∀ b c, On out b → Adj b c → On S c → On out c) : out = compB S a := by
  refine gb_ext hl (compB_len _ _) fun y x hy hx => ?_
  rw [Bool.eq_iff_iff, comp_iff hy hx]
  constructor
  · intro h; exact hconn (y, x) ⟨hy, hx, h⟩
  · intro h
    exact (h.sub ho hcl).2.2.2

/-! ## all components, in the order of their first cells -/
def pos (a : Cel) : Nat := a.1 * 80 + a.2
def cel (j : Nat) : Cel := (j / 80, j % 80)
theorem pos_cel (j : Nat) : pos (cel j) = j := by simp [pos, cel]; omega
theorem cel_pos {a : Cel} (h : a.2 < 80) : cel (pos a) = a := by
  obtain ⟨y, x⟩ := a
  simp only [cel, pos, Prod.mk.injEq] at *
  omega
/-- the cell comes first in its component -/
def First (S : List Bool) (j : Nat) : Prop := On S (cel j) ∧ ∀ i, i < j → On S (cel i) → ¬ Conn S (cel i) (cel j)
open Classical in
noncomputable def firsts (S : List Bool) (n : Nat) : List Nat := (List.range n).filter fun j => decide (First S j)
noncomputable def comps (S : List Bool) : List (List Bool) := (firsts S 6400).map fun j => compB S (cel j)
open Classical in
theorem firsts_succ (S : List Bool) (n : Nat) : firsts S (n + 1) = if First S n then firsts S n ++ [n] else firsts S n := by
  rw [firsts, List.range_succ, List.filter_append]
  by_cases h : First S n <;> simp [h, firsts]
/-- what is left before the n-th cell is looked at -/
def Left (S : List Bool) (n : Nat) (a : Cel) : Prop := On S a ∧ ∀ i, i < n → On S (cel i) → ¬ Conn S (cel i) a
theorem left_zero {S : List Bool} {a : Cel} : Left S 0 a ↔ On S a := ⟨fun h => h.1, fun h => ⟨h, fun i hi => by omega⟩⟩
theorem left_first {S : List Bool} {n : Nat} : Left S n (cel n) ↔ First S n := Iff.rfl
theorem left_closed {S : List Bool} {n : Nat} {p q : Cel} (h : Left S n p) (ha : Adj p q) (hq : On S q) : Left S n q :=
  ⟨hq, fun i hi ho hc => h.2 i hi ho (hc.step ha.symm h.1)⟩
/-- the component within what is left is the component -/
theorem comp_left {S T : List Bool} {n : Nat} (hT : ∀ a : Cel, On T a ↔ Left S n a) {a : Cel} (ha : Left S n a) : compB T a = compB S a := by
  refine comp_of (compB_len _ _) ha.1 ⟨((hT a).2 ha).1, ((hT a).2 ha).2.1, (comp_iff ((hT a).2 ha).1 ((hT a).2 ha).2.1).2 .refl⟩ (fun b hb => ?_) (fun b c hb hbc hc => ?_)
  · exact ((comp_iff hb.1 hb.2.1).1 hb.2.2).mono fun p hp => ((hT p).1 hp).1
  · have h1 := (comp_iff hb.1 hb.2.1).1 hb.2.2
    have h2 := h1.on ((hT a).2 ha)
    have h3 := left_closed ((hT _).1 h2) hbc hc
    exact ⟨hc.1, hc.2.1, (comp_iff hc.1 hc.2.1).2 (h1.step hbc ((hT c).2 h3))⟩
theorem left_succ_skip {S : List Bool} {n : Nat} (h : ¬ First S n) {a : Cel} : Left S (n + 1) a ↔ Left S n a := by
  constructor
  · exact fun k => ⟨k.1, fun i hi => k.2 i (by omega)⟩
  · intro k
    refine ⟨k.1, fun i hi ho hc => ?_⟩
    by_cases e : i = n
    · subst e
      apply h
      exact ⟨ho, fun j hj hoj hcj => k.2 j hj hoj (hcj.trans hc)⟩
    · exact k.2 i (by omega) ho hc
theorem left_succ_take {S : List Bool} {n : Nat} (h : First S n) {a : Cel} : Left S (n + 1) a ↔ Left S n a ∧ ¬ Conn S (cel n) a := by
  constructor
  · exact fun k => ⟨⟨k.1, fun i hi => k.2 i (by omega)⟩, k.2 n (by omega) h.1⟩
  · rintro ⟨k, hn⟩
    refine ⟨k.1, fun i hi ho hc => ?_⟩
    by_cases e : i = n
    · subst e; exact hn hc
    · exact k.2 i (by omega) ho hc
end Go.Proofs.YthjaopefoiploaaGreat
