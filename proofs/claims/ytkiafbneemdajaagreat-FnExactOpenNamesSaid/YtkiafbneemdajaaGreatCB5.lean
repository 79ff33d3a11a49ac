/-
  Contracts of functions and plain facts that the last text of this folder uses, part 5.
-/
import Derived.Test.YtkiafbneemdajaaGreatCB4
import Derived.Shelf.SortM.Plain
import Derived.Shelf.SortM.SortNone
import Derived.Test.YtkiafbneemdajaaGreatProg
import Derived.ProofKit
import Derived.Deep.Slices
import Derived.Carry
namespace Go.Proofs.YtkiafbneemdajaaGreat
set_option linter.unusedVariables false
set_option linter.unusedSimpArgs false
open Go
set_option linter.unusedSimpArgs false
set_option linter.unusedSectionVars false
section
variable {α : Type} [Inhabited α] [DecidableEq α] {lt : α → α → Prop}
theorem cpt_len {xs : List α} : ∀ n, (cpt xs n).length ≤ n
  | 0 => Nat.le_refl _
  | n + 1 => by
    have := cpt_len (xs := xs) n
    rw [cpt]; split
    · simp; omega
    · omega
theorem cpt_mem {xs : List α} {x : α} : ∀ n, x ∈ cpt xs n ↔ ∃ i, i < n ∧ gd xs i = x
  | 0 => by simp [cpt]
  | n + 1 => by
    rw [cpt]
    constructor
    · intro h
      split at h
      · rcases List.mem_append.1 h with h | h
        · obtain ⟨i, h1, h2⟩ := (cpt_mem n).1 h; exact ⟨i, by omega, h2⟩
        · exact ⟨n, by omega, (List.mem_singleton.1 h).symm⟩
      · obtain ⟨i, h1, h2⟩ := (cpt_mem n).1 h; exact ⟨i, by omega, h2⟩
    · rintro ⟨i, h1, h2⟩
      by_cases e : i = n
      · subst e
        split
        · exact List.mem_append.2 (.inr (List.mem_singleton.2 h2.symm))
        · next c =>
          have c1 : i ≠ 0 := fun e => c (.inl e)
          have c2 : gd xs i = gd xs (i - 1) := Classical.byContradiction fun e => c (.inr e)
          exact (cpt_mem i).2 ⟨i - 1, by omega, by rw [← c2]; exact h2⟩
      · have h3 := (cpt_mem n).2 ⟨i, by omega, h2⟩
        split
        · exact List.mem_append.2 (.inl h3)
        · exact h3
theorem compact_mem {xs : List α} {x : α} : x ∈ compactL xs ↔ x ∈ xs := by
  rw [compactL, cpt_mem, List.mem_iff_getElem]
  constructor
  · rintro ⟨i, h1, h2⟩; exact ⟨i, h1, by rw [← gd_eq h1]; exact h2⟩
  · rintro ⟨i, h1, h2⟩; exact ⟨i, h1, by rw [gd_eq h1]; exact h2⟩
theorem cpt_strict (ht : ∀ a b c, lt a b → lt b c → lt a c) {xs : List α} (hs : ∀ i j, i < j → j < xs.length → gd xs i = gd xs j ∨ lt (gd xs i) (gd xs j)) : ∀ n, n ≤ xs.length → (cpt xs n).Pairwise lt
  | 0, _ => List.Pairwise.nil
  | n + 1, h => by
    have ih := cpt_strict ht hs n (by omega)
    rw [cpt]; split
    · next c =>
      refine List.pairwise_append.2 ⟨ih, List.pairwise_singleton _ _, fun a ha b hb => ?_⟩
      obtain ⟨i, h1, rfl⟩ := (cpt_mem n).1 ha
      obtain rfl := List.mem_singleton.1 hb
      have c1 : gd xs n ≠ gd xs (n - 1) := c.resolve_left (by omega)
      have h2 : lt (gd xs (n - 1)) (gd xs n) := (hs (n - 1) n (by omega) (by omega)).resolve_left (fun e => c1 e.symm)
      by_cases e : i = n - 1
      · subst e; exact h2
      · rcases hs i (n - 1) (by omega) (by omega) with h3 | h3
        · rw [h3]; exact h2
        · exact ht _ _ _ h3 h2
    · exact ih
theorem strict_eq (hi : ∀ a, ¬ lt a a) (ht : ∀ a b c, lt a b → lt b c → lt a c) : ∀ {xs ys : List α}, xs.Pairwise lt → ys.Pairwise lt → (∀ a, a ∈ xs ↔ a ∈ ys) → xs = ys
  | [], [], _, _, _ => rfl
  | [], y :: ys, _, _, h => absurd ((h y).2 (List.mem_cons_self ..)) (by simp)
  | x :: xs, [], _, _, h => absurd ((h x).1 (List.mem_cons_self ..)) (by simp)
  | x :: xs, y :: ys, h1, h2, h => by
    obtain ⟨a1, a2⟩ := List.pairwise_cons.1 h1
    obtain ⟨b1, b2⟩ := List.pairwise_cons.1 h2
    have e : x = y := by
      rcases List.mem_cons.1 ((h x).1 (List.mem_cons_self ..)) with h3 | h3
      · exact h3
      · rcases List.mem_cons.1 ((h y).2 (List.mem_cons_self ..)) with h4 | h4
        · exact h4.symm
        · exact absurd (ht _ _ _ (a1 _ h4) (b1 _ h3)) (hi _)
    subst e
    congr 1
    refine strict_eq hi ht a2 b2 fun a => ⟨fun h3 => ?_, fun h3 => ?_⟩
    · rcases List.mem_cons.1 ((h a).1 (List.mem_cons_of_mem _ h3)) with h4 | h4
      · exact absurd (h4 ▸ a1 _ h3) (hi _)
      · exact h4
    · rcases List.mem_cons.1 ((h a).2 (List.mem_cons_of_mem _ h3)) with h4 | h4
      · exact absurd (h4 ▸ b1 _ h3) (hi _)
      · exact h4
end
section
set_option linter.unusedSectionVars false
variable {α β : Type} [DecidableEq α] [DecidableEq β] {κ : Nat → α} {ν : Nat → β} {ok : Nat → Bool}
theorem oM_mem {k : α} (n : Nat) : k ∈ oM κ ν ok n ↔ ∃ i, i < n ∧ ∃ j, j < i ∧ ok i = true ∧ ok j = true ∧ κ i = k ∧ κ j = k ∧ ν i ≠ ν j := by
  have key : ∀ n, k ∈ oM κ ν ok n ↔ ∃ i, i < n ∧ κ i = k ∧ ok i = true ∧ ∃ w, mget (fM κ ν ok i) (κ i) = some w ∧ w ≠ ν i := by
    intro n
    induction n with
    | zero => simp [oM]
    | succ n ih =>
      rw [oM]
      constructor
      · intro h
        split at h
        · next c =>
          rcases List.mem_append.1 h with h | h
          · obtain ⟨i, hi, r⟩ := ih.1 h; exact ⟨i, by omega, r⟩
          · exact ⟨n, by omega, (List.mem_singleton.1 h).symm, c⟩
        · obtain ⟨i, hi, r⟩ := ih.1 h; exact ⟨i, by omega, r⟩
      · rintro ⟨i, hi, hk, r⟩
        by_cases e : i = n
        · subst e
          rw [if_pos r]
          exact List.mem_append.2 (.inr (List.mem_singleton.2 hk.symm))
        · have h3 := ih.2 ⟨i, by omega, hk, r⟩
          split
          · exact List.mem_append.2 (.inl h3)
          · exact h3
  rw [key]
  constructor
  · rintro ⟨i, hi, hk, ho, w, hw, hne⟩
    rcases fM_get (κ := κ) (ν := ν) (ok := ok) i (κ i) with ⟨h1, _⟩ | ⟨j, h1, h2, h3, h4⟩
    · rw [h1] at hw; cases hw
    · rw [h4] at hw; cases hw
      exact ⟨i, hi, j, h1, ho, h2, hk, h3.trans hk, fun e => hne e.symm⟩
  · rintro ⟨i, hi, j, hj, h1, h2, h3, h3', h4⟩
    rcases fM_get (κ := κ) (ν := ν) (ok := ok) i (κ i) with ⟨g1, g2⟩ | ⟨f, g1, g2, g3, g4⟩
    · exact absurd (h3'.trans h3.symm) (g2 j hj h2)
    · by_cases e : ν f = ν i
      · cases hm : mget (fM κ ν ok j) (κ j) with
        | none =>
          have h5 : mget (fM κ ν ok (j + 1)) (κ j) = some (ν j) := by rw [fM, if_pos ⟨h2, hm⟩, mget_app, hm]; simp
          have h6 := fM_mono h5 i (by omega)
          rw [h3', ← h3, g4] at h6
          exact absurd (e.symm.trans (Option.some.inj h6)) h4
        | some w =>
          have h6 := fM_mono hm i (by omega)
          rw [h3', ← h3, g4] at h6
          have h7 : w = ν i := (Option.some.inj h6).symm.trans e
          exact ⟨j, by omega, h3', h2, w, hm, fun c => h4 (h7.symm.trans c)⟩
      · exact ⟨i, hi, h3, h1, _, g4, e⟩
end
abbrev sle (a b : ByteArray) : Prop := toL a < toL b
theorem toL_inj {a b : ByteArray} (h : toL a = toL b) : a = b := by rw [← ofL_toL a, h, ofL_toL]
theorem strLt_iff {a b : ByteArray} : strLt a b = decide (sle a b) := by
  rw [strLt, Proofs.bytesLess_eq, Lib.toList_data, Lib.toList_data]; rfl
theorem sle_irr (a : ByteArray) : ¬ sle a a := List.lt_irrefl _
theorem sle_tr (a b c : ByteArray) (h1 : sle a b) (h2 : sle b c) : sle a c := List.lt_trans h1 h2
theorem sle_tri {a b : ByteArray} (h : ¬ sle a b) : b = a ∨ sle b a := by
  by_cases e : sle b a
  · exact .inr e
  · exact .inl (toL_inj (List.le_antisymm (List.not_lt.1 h) (List.not_lt.1 e)))
theorem sorted_gd {α : Type} [Inhabited α] {r : α → α → Prop} {xs : List α} (h : xs.Pairwise r) {i j : Nat} (hij : i < j) (hj : j < xs.length) : r (gd xs i) (gd xs j) := by
  rw [gd_eq (by omega), gd_eq hj]; exact List.pairwise_iff_getElem.1 h i j (by omega) hj hij
theorem srtI_strict (xs : List Int) : (compactL (xs.mergeSort fun x y => decide (x ≤ y))).Pairwise (· < ·) := by
  have h := List.pairwise_mergeSort (le := fun x y : Int => decide (x ≤ y)) (by intro a b c; simp; omega) (by intro a b; simp; omega) xs
  refine cpt_strict (lt := fun a b : Int => a < b) (fun _ _ _ => Int.lt_trans) (fun i j hij hj => ?_) _ (Nat.le_refl _)
  have := sorted_gd h hij hj
  have : gd (xs.mergeSort fun x y => decide (x ≤ y)) i ≤ gd (xs.mergeSort fun x y => decide (x ≤ y)) j := by simpa using this
  omega
theorem srtI_mem (xs : List Int) (x : Int) : x ∈ compactL (xs.mergeSort fun x y => decide (x ≤ y)) ↔ x ∈ xs := by
  rw [compact_mem]; exact (List.mergeSort_perm ..).mem_iff
theorem srtS_strict (xs : List ByteArray) : (compactL (srtS xs)).Pairwise sle := by
  have h := List.pairwise_mergeSort (le := fun x y : List UInt8 => decide (x ≤ y)) (by intro a b c h1 h2; exact decide_eq_true (List.le_trans (of_decide_eq_true h1) (of_decide_eq_true h2))) (by intro a b; simpa using List.le_total a b) (xs.map toL)
  have h2 : (srtS xs).Pairwise fun a b => a = b ∨ sle a b := by
    refine List.pairwise_map.2 (h.imp fun {a b} hab => ?_)
    have hab : a ≤ b := of_decide_eq_true hab
    by_cases e : a < b
    · exact .inr (by rw [sle, toL_ofL, toL_ofL]; exact e)
    · exact .inl (congrArg ofL (List.le_antisymm hab (List.not_lt.1 e)))
  exact cpt_strict sle_tr (fun i j hij hj => sorted_gd h2 hij hj) _ (Nat.le_refl _)
theorem srtS_mem (xs : List ByteArray) (x : ByteArray) : x ∈ compactL (srtS xs) ↔ x ∈ xs := by
  rw [compact_mem]; exact (srtS_perm xs).mem_iff
section
variable (l : List (List Rect)) (ls : List Label)
noncomputable def shK : List Int := oM (keyN (labR l ls)) (nameN ls) (okN (labR l ls)) ls.length
noncomputable def onK : List ByteArray := oM (nameN ls) (keyN (labR l ls)) (okN (labR l ls)) ls.length
noncomputable def shR : List Int := if labC l ls = 0 then compactL ((shK l ls).mergeSort fun x y => decide (x ≤ y)) else []
noncomputable def onR : List ByteArray := if labC l ls = 0 then compactL (srtS (onK l ls)) else []
theorem shR_len : (shR l ls).length ≤ ls.length := by
  unfold shR; split
  · refine Nat.le_trans (cpt_len _) ?_
    rw [List.length_mergeSort]; exact oM_len _
  · exact Nat.zero_le _
theorem onR_len : (onR l ls).length ≤ ls.length := by
  unfold onR; split
  · refine Nat.le_trans (cpt_len _) ?_
    rw [(srtS_perm _).length_eq]; exact oM_len _
  · exact Nat.zero_le _
variable {l ls}
theorem shR_uniq {zs : List Int} (hc : labC l ls = 0) (hz : zs.Pairwise (· < ·)) (hm : ∀ n, n ∈ zs ↔ ∃ i, i < ls.length ∧ ∃ j, j < i ∧ 0 ≤ n ∧ gd (labR l ls) i = n ∧ gd (labR l ls) j = n ∧ (gd ls i).name ≠ (gd ls j).name) : zs = shR l ls := by
  rw [shR, if_pos hc]
  refine strict_eq (fun _ => Int.lt_irrefl _) (fun _ _ _ => Int.lt_trans) hz (srtI_strict _) fun n => ?_
  rw [srtI_mem, hm, shK, oM_mem]
  constructor
  · rintro ⟨i, h1, j, h2, h3, h4, h5, h6⟩
    exact ⟨i, h1, j, h2, by simp [okN]; omega, by simp [okN]; omega, h4, h5, h6⟩
  · rintro ⟨i, h1, j, h2, h3, h3', h4, h5, h6⟩
    simp only [okN, Bool.not_eq_true', decide_eq_false_iff_not] at h3
    exact ⟨i, h1, j, h2, by rw [← h4]; simp only [keyN]; omega, h4, h5, h6⟩
theorem onR_uniq {zs : List ByteArray} (hc : labC l ls = 0) (hz : zs.Pairwise sle) (hm : ∀ n, n ∈ zs ↔ ∃ i, i < ls.length ∧ ∃ j, j < i ∧ 0 ≤ gd (labR l ls) i ∧ 0 ≤ gd (labR l ls) j ∧ gd (labR l ls) i ≠ gd (labR l ls) j ∧ (gd ls i).name = n ∧ (gd ls j).name = n) : zs = onR l ls := by
  rw [onR, if_pos hc]
  refine strict_eq sle_irr sle_tr hz (srtS_strict _) fun n => ?_
  rw [srtS_mem, hm, onK, oM_mem]
  constructor
  · rintro ⟨i, h1, j, h2, h3, h3', h4, h5, h6⟩
    exact ⟨i, h1, j, h2, by simp [okN]; omega, by simp [okN]; omega, h5, h6, h4⟩
  · rintro ⟨i, h1, j, h2, h3, h3', h4, h5, h6⟩
    simp only [okN, Bool.not_eq_true', decide_eq_false_iff_not] at h3 h3'
    exact ⟨i, h1, j, h2, by omega, by omega, h6, h4, h5⟩
theorem findL_lt {l : List (List Rect)} (n x y : Int) : findL l n x y < netN l := by
  unfold findL
  cases h : (pcL l 4).findIdx? (atB n x y) with
  | none => simp; omega
  | some i =>
    have hi : i < (pcL l 4).length := by
      rw [List.findIdx?_eq_some_iff_getElem] at h; exact h.1
    have := numR_lt (clsL_rt l) (i := i) (m := (pcL l 4).length) (by rw [clsL_len]; exact hi) hi
    show ((numR (clsL l) i : Nat) : Int) < netN l
    simp only [netN]; omega
end
end Go.Proofs.YtkiafbneemdajaaGreat
namespace Go.Proofs.YtkiafbneemdajaaGreat
set_option linter.unusedVariables false
set_option linter.unusedSimpArgs false
open Go
set_option linter.unusedSimpArgs false
set_option linter.unusedSectionVars false
section
variable {nets : List Int} {nm : Nat → ByteArray} {E : ByteArray} {n : Int} {i k : Nat} {f : ByteArray} {sh : Bool} {zs : List ByteArray}
def shI (nets : List Int) (nm : Nat → ByteArray) (E : ByteArray) (n : Int) (i : Nat) (f : ByteArray) (sh : Bool) : Prop :=
  (f = E → ∀ j, j < i → gd nets j ≠ n) ∧ (f ≠ E → ∃ j, j < i ∧ gd nets j = n ∧ nm j = f) ∧ (sh = true ↔ ∃ a, a < i ∧ ∃ j, j < a ∧ gd nets a = n ∧ gd nets j = n ∧ nm a ≠ nm j)
theorem shI.zero : shI nets nm E n 0 E false := ⟨fun _ j h => absurd h (Nat.not_lt_zero j), fun h => absurd rfl h, by simp⟩
theorem shI.skip (h : shI nets nm E n i f sh) (hn : gd nets i ≠ n) : shI nets nm E n (i + 1) f sh := by
  obtain ⟨h1, h2, h3⟩ := h
  refine ⟨fun e j hj => ?_, fun e => ?_, h3.trans ⟨?_, ?_⟩⟩
  · by_cases q : j = i
    · rw [q]; exact hn
    · exact h1 e j (by omega)
  · obtain ⟨j, h4, h5⟩ := h2 e; exact ⟨j, by omega, h5⟩
  · rintro ⟨a, h4, h5⟩; exact ⟨a, by omega, h5⟩
  · rintro ⟨a, h4, j, h5, h6, h7⟩
    by_cases q : a = i
    · subst q; exact absurd h6 hn
    · exact ⟨a, by omega, j, h5, h6, h7⟩
theorem shI.take (h : shI nets nm E n i f sh) (hn : gd nets i = n) (hne : nm i ≠ E) {sh' : Bool} (hs : sh' = true ↔ sh = true ∨ f ≠ E ∧ nm i ≠ f) : shI nets nm E n (i + 1) (nm i) sh' := by
  obtain ⟨h1, h2, h3⟩ := h
  refine ⟨fun e => absurd e hne, fun _ => ⟨i, by omega, hn, rfl⟩, ?_⟩
  rw [hs, h3]
  constructor
  · rintro (⟨a, h4, h5⟩ | ⟨h4, h5⟩)
    · exact ⟨a, by omega, h5⟩
    · obtain ⟨j, h6, h7, h8⟩ := h2 h4
      exact ⟨i, by omega, j, h6, hn, h7, by rw [h8]; exact h5⟩
  · rintro ⟨a, h4, j, h5, h6, h7, h8⟩
    by_cases q : a = i
    · subst q
      have hf : f ≠ E := fun e => h1 e j h5 h7
      by_cases q2 : nm a = f
      · obtain ⟨j0, h9, h10, h11⟩ := h2 hf
        have h12 : nm j ≠ nm j0 := fun e => h8 (by rw [q2, e, h11])
        have h13 : j ≠ j0 := fun e => h12 (by rw [e])
        by_cases q3 : j < j0
        · exact .inl ⟨j0, h9, j, q3, h10, h7, fun e => h12 e.symm⟩
        · exact .inl ⟨j, h5, j0, by omega, h7, h10, h12⟩
      · exact .inr ⟨hf, q2⟩
    · exact .inl ⟨a, by omega, j, h5, h6, h7, h8⟩
def opQ (nets : List Int) (nm : Nat → ByteArray) (a j : Nat) : Prop := 0 ≤ gd nets a ∧ 0 ≤ gd nets j ∧ gd nets a ≠ gd nets j ∧ nm a = nm j
def opI (nets : List Int) (nm : Nat → ByteArray) (i k : Nat) (zs : List ByteArray) : Prop :=
  zs.Pairwise sle ∧ ∀ n, n ∈ zs ↔ ∃ a j, (a < i ∧ j < a ∨ a = i ∧ j < k) ∧ opQ nets nm a j ∧ nm a = n
theorem opI.zero : opI nets nm 0 0 [] := ⟨List.Pairwise.nil, fun n => by simp⟩
theorem opI.skip (h : opI nets nm i k zs) (hq : ¬ opQ nets nm i k) : opI nets nm i (k + 1) zs := by
  refine ⟨h.1, fun n => (h.2 n).trans ⟨?_, ?_⟩⟩
  · rintro ⟨a, j, h1, h2⟩; exact ⟨a, j, by omega, h2⟩
  · rintro ⟨a, j, h1, h2, h3⟩
    refine ⟨a, j, ?_, h2, h3⟩
    rcases h1 with h1 | ⟨rfl, h1⟩
    · exact .inl h1
    · by_cases q : j = k
      · subst q; exact absurd h2 hq
      · exact .inr ⟨rfl, by omega⟩
theorem opI.take (h : opI nets nm i k zs) (hq : opQ nets nm i k) {ys : List ByteArray} (h1 : ys.Pairwise sle) (h2 : ∀ n, n ∈ ys ↔ n = nm i ∨ n ∈ zs) : opI nets nm i (k + 1) ys := by
  refine ⟨h1, fun n => (h2 n).trans ⟨?_, ?_⟩⟩
  · rintro (rfl | h3)
    · exact ⟨i, k, .inr ⟨rfl, by omega⟩, hq, rfl⟩
    · obtain ⟨a, j, h4, h5⟩ := (h.2 n).1 h3
      exact ⟨a, j, by omega, h5⟩
  · rintro ⟨a, j, h3, h4, h5⟩
    by_cases q : a = i
    · subst q; exact .inl h5.symm
    · exact .inr ((h.2 n).2 ⟨a, j, by omega, h4, h5⟩)
theorem opI.next (h : opI nets nm i i zs) : opI nets nm (i + 1) 0 zs := by
  refine ⟨h.1, fun n => (h.2 n).trans ⟨?_, ?_⟩⟩
  · rintro ⟨a, j, h1, h2⟩; exact ⟨a, j, by omega, h2⟩
  · rintro ⟨a, j, h1, h2⟩; exact ⟨a, j, by omega, h2⟩
end
section
variable {xs out : List ByteArray} {s : ByteArray} {i : Nat} {dn : Bool}
def insI (xs : List ByteArray) (s : ByteArray) (i : Nat) (dn : Bool) (out : List ByteArray) : Prop :=
  (dn = false → out = xs.take i ∧ ∀ j, j < i → sle (gd xs j) s) ∧ (dn = true → out.Pairwise sle ∧ (∀ n, n ∈ out ↔ n = s ∨ n ∈ xs.take i) ∧ (∃ j, j < i ∧ ¬ sle (gd xs j) s) ∧ out.length ≤ i + 1)
theorem insI.zero : insI xs s 0 false [] := ⟨fun _ => ⟨rfl, fun j h => absurd h (Nat.not_lt_zero j)⟩, fun h => by cases h⟩
theorem mem_take_gd {α : Type} [Inhabited α] {xs : List α} {i : Nat} (hi : i ≤ xs.length) {n : α} : n ∈ xs.take i ↔ ∃ j, j < i ∧ gd xs j = n := by
  rw [List.mem_iff_getElem]
  constructor
  · rintro ⟨j, h1, h2⟩
    have h3 : j < i := by rw [List.length_take] at h1; omega
    exact ⟨j, h3, by rw [gd_eq (by omega), ← h2]; simp⟩
  · rintro ⟨j, h1, h2⟩
    exact ⟨j, by rw [List.length_take]; omega, by rw [← h2, gd_eq (by omega)]; simp⟩
theorem take_gd {α : Type} [Inhabited α] {xs : List α} {i : Nat} (hi : i < xs.length) : xs.take (i + 1) = xs.take i ++ [gd xs i] := by
  rw [List.take_add_one, getG hi]; rfl
theorem insI.less (h : insI xs s i false out) (hi : i < xs.length) (hl : sle (gd xs i) s) : insI xs s (i + 1) false (out ++ [gd xs i]) := by
  obtain ⟨h1, h2⟩ := h.1 rfl
  refine ⟨fun _ => ⟨by rw [take_gd hi, h1], fun j hj => ?_⟩, fun h => by cases h⟩
  by_cases q : j = i
  · rw [q]; exact hl
  · exact h2 j (by omega)
theorem insI.same (hs : xs.Pairwise sle) (h : insI xs s i false out) (hi : i < xs.length) (he : gd xs i = s) : insI xs s (i + 1) true (out ++ [gd xs i]) := by
  obtain ⟨h1, h2⟩ := h.1 rfl
  refine ⟨fun h => (by cases h), fun _ => ⟨?_, fun n => ?_, ⟨i, by omega, by rw [he]; exact sle_irr _⟩, ?_⟩⟩
  · rw [h1, ← take_gd hi]; exact hs.sublist (List.take_sublist ..)
  · rw [h1, take_gd hi, he]; simp only [List.mem_append, List.mem_singleton]
    constructor
    · exact fun h => .inr h
    · rintro (h | h)
      · exact .inr h
      · exact h
  · rw [h1]; simp; omega
theorem insI.put (hs : xs.Pairwise sle) (h : insI xs s i false out) (hi : i < xs.length) (hl : ¬ sle (gd xs i) s) (he : gd xs i ≠ s) : insI xs s (i + 1) true (out ++ [s] ++ [gd xs i]) := by
  obtain ⟨h1, h2⟩ := h.1 rfl
  have hg : sle s (gd xs i) := (sle_tri hl).resolve_left fun e => he e.symm
  refine ⟨fun h => (by cases h), fun _ => ⟨?_, fun n => ?_, ⟨i, by omega, hl⟩, ?_⟩⟩
  · rw [h1]
    refine List.pairwise_append.2 ⟨List.pairwise_append.2 ⟨hs.sublist (List.take_sublist ..), List.pairwise_singleton _ _, fun a ha b hb => ?_⟩, List.pairwise_singleton _ _, fun a ha b hb => ?_⟩
    · obtain ⟨j, hj, rfl⟩ := (mem_take_gd (by omega)).1 ha
      rw [List.mem_singleton.1 hb]; exact h2 j hj
    · rw [List.mem_singleton.1 hb]
      rcases List.mem_append.1 ha with ha | ha
      · obtain ⟨j, hj, rfl⟩ := (mem_take_gd (by omega)).1 ha
        exact sle_tr _ _ _ (h2 j hj) hg
      · rw [List.mem_singleton.1 ha]; exact hg
  · rw [h1, take_gd hi]; simp only [List.mem_append, List.mem_singleton]
    constructor
    · rintro ((h | h) | h)
      · exact .inr (.inl h)
      · exact .inl h
      · exact .inr (.inr h)
    · rintro (h | h | h)
      · exact .inl (.inr h)
      · exact .inl (.inl h)
      · exact .inr h
  · rw [h1]; simp; omega
theorem insI.more (hs : xs.Pairwise sle) (h : insI xs s i true out) (hi : i < xs.length) : insI xs s (i + 1) true (out ++ [gd xs i]) := by
  obtain ⟨h1, h2, ⟨j, h3, h4⟩, h5⟩ := h.2 rfl
  refine ⟨fun h => (by cases h), fun _ => ⟨List.pairwise_append.2 ⟨h1, List.pairwise_singleton _ _, fun a ha b hb => ?_⟩, fun n => ?_, ⟨j, by omega, h4⟩, by simp; omega⟩⟩
  · rw [List.mem_singleton.1 hb]
    rcases (h2 a).1 ha with rfl | ha
    · have h6 := sorted_gd hs h3 hi
      rcases sle_tri h4 with e | e
      · rw [e]; exact h6
      · exact sle_tr _ _ _ e h6
    · obtain ⟨m, hm, rfl⟩ := (mem_take_gd (by omega)).1 ha
      exact sorted_gd hs hm hi
  · rw [take_gd hi]; simp only [List.mem_append, List.mem_singleton, h2]; exact or_assoc
theorem insI.len (h : insI xs s i dn out) (hi : i ≤ xs.length) : out.length ≤ i + 1 := by
  cases dn with
  | false => rw [(h.1 rfl).1, List.length_take]; omega
  | true => exact (h.2 rfl).2.2.2
theorem insI.full (h : insI xs s xs.length true out) : out.Pairwise sle ∧ (∀ n, n ∈ out ↔ n = s ∨ n ∈ xs) ∧ out.length ≤ xs.length + 1 := by
  obtain ⟨h1, h2, _, h5⟩ := h.2 rfl
  rw [List.take_length] at h2
  exact ⟨h1, h2, h5⟩
theorem insI.last (hs : xs.Pairwise sle) (h : insI xs s xs.length false out) : (out ++ [s]).Pairwise sle ∧ (∀ n, n ∈ out ++ [s] ↔ n = s ∨ n ∈ xs) ∧ (out ++ [s]).length ≤ xs.length + 1 := by
  obtain ⟨h1, h2⟩ := h.1 rfl
  rw [List.take_length] at h1
  subst h1
  refine ⟨List.pairwise_append.2 ⟨hs, List.pairwise_singleton _ _, fun a ha b hb => ?_⟩, fun n => ?_, by simp⟩
  · obtain ⟨j, hj, rfl⟩ := List.mem_iff_getElem.1 ha
    rw [List.mem_singleton.1 hb, ← gd_eq hj]; exact h2 j hj
  · simp only [List.mem_append, List.mem_singleton]; exact or_comm
end
section
variable {nets : List Int} {nm : Nat → ByteArray} {E f : ByteArray} {len n : Nat} {zs : List Int}
def shJ (nets : List Int) (nm : Nat → ByteArray) (len n : Nat) (zs : List Int) : Prop :=
  zs.Pairwise (· < ·) ∧ zs.length ≤ n ∧ ∀ m, m ∈ zs ↔ 0 ≤ m ∧ m < (n : Int) ∧ ∃ a, a < len ∧ ∃ j, j < a ∧ gd nets a = m ∧ gd nets j = m ∧ nm a ≠ nm j
theorem shJ.zero : shJ nets nm len 0 [] := ⟨List.Pairwise.nil, Nat.le_refl _, fun m => ⟨fun h => by simp at h, fun h => by omega⟩⟩
theorem shJ.no (h : shJ nets nm len n zs) (hI : shI nets nm E n len f false) : shJ nets nm len (n + 1) zs := by
  obtain ⟨h1, h2, h3⟩ := h
  refine ⟨h1, by omega, fun m => (h3 m).trans ⟨?_, ?_⟩⟩
  · rintro ⟨h4, h5, h6⟩; exact ⟨h4, by omega, h6⟩
  · rintro ⟨h4, h5, h6⟩
    by_cases q : m = n
    · subst q; exact absurd (hI.2.2.2 h6) (by decide)
    · exact ⟨h4, by omega, h6⟩
theorem shJ.yes (h : shJ nets nm len n zs) (hI : shI nets nm E n len f true) : shJ nets nm len (n + 1) (zs ++ [(n : Int)]) := by
  obtain ⟨h1, h2, h3⟩ := h
  refine ⟨List.pairwise_append.2 ⟨h1, List.pairwise_singleton _ _, fun a ha b hb => ?_⟩, by simp; omega, fun m => ?_⟩
  · rw [List.mem_singleton.1 hb]; exact ((h3 a).1 ha).2.1
  · rw [List.mem_append, List.mem_singleton, h3]
    constructor
    · rintro (⟨h4, h5, h6⟩ | rfl)
      · exact ⟨h4, by omega, h6⟩
      · exact ⟨by omega, by omega, hI.2.2.1 rfl⟩
    · rintro ⟨h4, h5, h6⟩
      by_cases q : m = n
      · exact .inr q
      · exact .inl ⟨h4, by omega, h6⟩
end
theorem labR_lt {l : List (List Rect)} {ls : List Label} (hc : labC l ls = 0) {i : Nat} (hi : i < ls.length) : gd (labR l ls) i < 24 := by
  have h1 : netE l = 0 := by
    unfold labC at hc; split at hc
    · exact hc
    · cases hc
  have h2 := (netE_ok h1).2
  have h3 : gd (labR l ls) i = labF l (gd ls i) := by
    rw [labR, if_pos hc, gd_eq (by rw [List.length_map]; exact hi), List.getElem_map, gd_eq hi]
  rw [h3, labF]
  have := findL_lt (l := l) (gd ls i).layer (gd ls i).at_.x (gd ls i).at_.y
  omega
theorem lab_name {l : List (List Rect)} {ls : List Label} (hc : labC l ls = 0) {i : Nat} (hi : i < ls.length) : (gd ls i).name ≠ ByteArray.mk #[] := by
  have h1 : labelsOk ls = true := by
    unfold labC at hc; split at hc
    · next c => simp at c; exact c.2
    · cases hc
  simp only [labelsOk, Bool.and_eq_true, Bool.not_eq_true', List.any_eq_false] at h1
  have h2 := h1.2 (gd ls i) (gd_mem hi)
  simp [validLb, isName] at h2
  intro e
  have h3 := h2.2.2.1
  rw [e] at h3
  exact absurd h3 (by decide)
theorem shJ.done {l : List (List Rect)} {ls : List Label} {zs : List Int} (hc : labC l ls = 0) (h : shJ (labR l ls) (nameN ls) ls.length 24 zs) : zs = shR l ls := by
  refine shR_uniq hc h.1 fun m => (h.2.2 m).trans ⟨?_, ?_⟩
  · rintro ⟨h1, h2, a, h3, j, h4, h5, h6, h7⟩; exact ⟨a, h3, j, h4, h1, h5, h6, h7⟩
  · rintro ⟨a, h3, j, h4, h1, h5, h6, h7⟩
    have := labR_lt hc h3
    exact ⟨h1, by omega, a, h3, j, h4, h5, h6, h7⟩
theorem opI.done {l : List (List Rect)} {ls : List Label} {zs : List ByteArray} (hc : labC l ls = 0) (h : opI (labR l ls) (nameN ls) ls.length 0 zs) : zs = onR l ls := by
  refine onR_uniq hc h.1 fun m => (h.2 m).trans ⟨?_, ?_⟩
  · rintro ⟨a, j, h1, ⟨h2, h3, h4, h5⟩, h6⟩
    exact ⟨a, by omega, j, by omega, h2, h3, h4, h6, h5.symm.trans h6⟩
  · rintro ⟨a, h1, j, h2, h3, h4, h5, h6, h7⟩
    exact ⟨a, j, .inl ⟨h1, h2⟩, ⟨h3, h4, h5, h6.trans h7.symm⟩, h6⟩
end Go.Proofs.YtkiafbneemdajaaGreat
namespace Go.Proofs.YtkiafbneemdajaaGreat
set_option linter.unusedVariables false
set_option linter.unusedSimpArgs false
open Go Go.Shelf
def sortI_ren : Go.Shelf.Ren := ⟨fun | 5 => 29 | 8 => 51 | 7 => 50 | 19 => 84 | 20 => 85 | 10 => 75 | 11 => 76 | 12 => 77 | 13 => 78 | 14 => 79 | 15 => 80 | 16 => 81 | 17 => 82 | 18 => 83 | 30 => 122 | 31 => 123 | 32 => 124 | 33 => 125 | 34 => 126 | 35 => 127 | 40 => 142 | n => n, fun | 23 => 26 | 25 => 2 | 3 => 3 | 32 => 89 | 22 => 26 | 0 => 0 | 44 => 129 | 46 => 131 | 4 => 4 | 36 => 121 | 35 => 120 | 41 => 126 | 5 => 5 | 9 => 9 | 53 => 161 | 57 => 165 | 63 => 178 | 64 => 179 | n => n, fun | n => n⟩
theorem sortI : Go.Proofs.SlLaysM.n5 Tryz.prog sortI_ren := {
  mixed := by kernel_rfl
  f5 := ⟨Tryz.f29.name, by decide, Tryz.func29.trans (congrArg some (by kernel_rfl))⟩
  f7 := ⟨Tryz.f50.name, by decide, Tryz.func50.trans (congrArg some (by kernel_rfl))⟩
  f8 := Tryz.func51.trans (congrArg some (by kernel_rfl))
  f10 := ⟨Tryz.f75.name, by decide, Tryz.func75.trans (congrArg some (by kernel_rfl))⟩
  f11 := ⟨Tryz.f76.name, by decide, Tryz.func76.trans (congrArg some (by kernel_rfl))⟩
  f12 := ⟨Tryz.f77.name, by decide, Tryz.func77.trans (congrArg some (by kernel_rfl))⟩
  f13 := ⟨Tryz.f78.name, by decide, Tryz.func78.trans (congrArg some (by kernel_rfl))⟩
  f14 := ⟨Tryz.f79.name, by decide, Tryz.func79.trans (congrArg some (by kernel_rfl))⟩
  f15 := ⟨Tryz.f80.name, by decide, Tryz.func80.trans (congrArg some (by kernel_rfl))⟩
  f16 := ⟨Tryz.f81.name, by decide, Tryz.func81.trans (congrArg some (by kernel_rfl))⟩
  f17 := ⟨Tryz.f82.name, by decide, Tryz.func82.trans (congrArg some (by kernel_rfl))⟩
  f18 := ⟨Tryz.f83.name, by decide, Tryz.func83.trans (congrArg some (by kernel_rfl))⟩
  f19 := Tryz.func84.trans (congrArg some (by kernel_rfl))
  f20 := Tryz.func85.trans (congrArg some (by kernel_rfl))
  f30 := ⟨Tryz.f122.name, by decide, Tryz.func122.trans (congrArg some (by kernel_rfl))⟩
  f31 := Tryz.func123.trans (congrArg some (by kernel_rfl))
  f32 := Tryz.func124.trans (congrArg some (by kernel_rfl))
  f33 := ⟨Tryz.f125.name, by decide, Tryz.func125.trans (congrArg some (by kernel_rfl))⟩
  f34 := ⟨Tryz.f126.name, by decide, Tryz.func126.trans (congrArg some (by kernel_rfl))⟩
  f35 := ⟨Tryz.f127.name, by decide, Tryz.func127.trans (congrArg some (by kernel_rfl))⟩
  f40 := ⟨Tryz.f142.name, by decide, Tryz.func142.trans (congrArg some (by kernel_rfl))⟩
  t0 := Tryz.underlying0
  a0 := Tryz.isAgg0
  z0 := Tryz.sizeOf0
  v0 := Tryz.zeroValue0
  t3 := Tryz.underlying3
  a3 := Tryz.isAgg3
  z3 := Tryz.sizeOf3
  v3 := Tryz.zeroValue3
  t4 := Tryz.underlying4
  a4 := Tryz.isAgg4
  z4 := Tryz.sizeOf4
  v4 := Tryz.zeroValue4
  t5 := Tryz.underlying5
  a5 := Tryz.isAgg5
  z5 := Tryz.sizeOf5
  v5 := Tryz.zeroValue5
  t9 := Tryz.underlying9
  a9 := Tryz.isAgg9
  z9 := Tryz.sizeOf9
  v9 := Tryz.zeroValue9
  t22 := Tryz.underlying26
  a22 := Tryz.isAgg26
  z22 := Tryz.sizeOf26
  v22 := Tryz.zeroValue26
  t23 := Tryz.underlying26
  a23 := Tryz.isAgg26
  z23 := Tryz.sizeOf26
  v23 := Tryz.zeroValue26
  t25 := Tryz.underlying2
  a25 := Tryz.isAgg2
  z25 := Tryz.sizeOf2
  v25 := Tryz.zeroValue2
  t32 := Tryz.underlying89
  a32 := Tryz.isAgg89
  z32 := Tryz.sizeOf89
  v32 := Tryz.zeroValue89
  t35 := Tryz.underlying120
  a35 := Tryz.isAgg120
  z35 := Tryz.sizeOf120
  v35 := Tryz.zeroValue120
  t36 := Tryz.underlying121
  a36 := Tryz.isAgg121
  z36 := Tryz.sizeOf121
  v36 := Tryz.zeroValue121
  t41 := Tryz.underlying126
  a41 := Tryz.isAgg126
  z41 := Tryz.sizeOf126
  v41 := Tryz.zeroValue126
  t44 := Tryz.underlying129
  a44 := Tryz.isAgg129
  z44 := Tryz.sizeOf129
  v44 := Tryz.zeroValue129
  t46 := Tryz.underlying131
  a46 := Tryz.isAgg131
  z46 := Tryz.sizeOf131
  v46 := Tryz.zeroValue131
  t53 := Tryz.underlying161
  a53 := Tryz.isAgg161
  z53 := Tryz.sizeOf161
  v53 := Tryz.zeroValue161
  t57 := Tryz.underlying165
  a57 := Tryz.isAgg165
  z57 := Tryz.sizeOf165
  v57 := Tryz.zeroValue165
  t63 := Tryz.underlying178
  a63 := Tryz.isAgg178
  z63 := Tryz.sizeOf178
  v63 := Tryz.zeroValue178
  t64 := Tryz.underlying179
  a64 := Tryz.isAgg179
  z64 := Tryz.sizeOf179
  v64 := Tryz.zeroValue179 }
def sortS_ren : Go.Shelf.Ren := ⟨fun | 6 => 36 | 8 => 51 | 9 => 54 | 19 => 84 | 20 => 85 | 21 => 86 | 22 => 87 | 23 => 88 | 24 => 89 | 25 => 90 | 26 => 91 | 27 => 92 | 28 => 93 | 29 => 94 | 36 => 128 | 31 => 123 | 32 => 124 | 37 => 129 | 38 => 130 | 39 => 131 | 41 => 143 | n => n, fun | 27 => 39 | 29 => 9 | 3 => 3 | 32 => 89 | 26 => 39 | 0 => 0 | 44 => 129 | 46 => 131 | 4 => 4 | 36 => 121 | 35 => 120 | 41 => 126 | 5 => 5 | 9 => 9 | 53 => 161 | 57 => 165 | 63 => 178 | 64 => 179 | n => n, fun | n => n⟩
theorem sortS : Go.Proofs.SlLaysM.n6 Tryz.prog sortS_ren := {
  mixed := by kernel_rfl
  f6 := ⟨Tryz.f36.name, by decide, Tryz.func36.trans (congrArg some (by kernel_rfl))⟩
  f8 := Tryz.func51.trans (congrArg some (by kernel_rfl))
  f9 := ⟨Tryz.f54.name, by decide, Tryz.func54.trans (congrArg some (by kernel_rfl))⟩
  f19 := Tryz.func84.trans (congrArg some (by kernel_rfl))
  f20 := Tryz.func85.trans (congrArg some (by kernel_rfl))
  f21 := ⟨Tryz.f86.name, by decide, Tryz.func86.trans (congrArg some (by kernel_rfl))⟩
  f22 := ⟨Tryz.f87.name, by decide, Tryz.func87.trans (congrArg some (by kernel_rfl))⟩
  f23 := ⟨Tryz.f88.name, by decide, Tryz.func88.trans (congrArg some (by kernel_rfl))⟩
  f24 := ⟨Tryz.f89.name, by decide, Tryz.func89.trans (congrArg some (by kernel_rfl))⟩
  f25 := ⟨Tryz.f90.name, by decide, Tryz.func90.trans (congrArg some (by kernel_rfl))⟩
  f26 := ⟨Tryz.f91.name, by decide, Tryz.func91.trans (congrArg some (by kernel_rfl))⟩
  f27 := ⟨Tryz.f92.name, by decide, Tryz.func92.trans (congrArg some (by kernel_rfl))⟩
  f28 := ⟨Tryz.f93.name, by decide, Tryz.func93.trans (congrArg some (by kernel_rfl))⟩
  f29 := ⟨Tryz.f94.name, by decide, Tryz.func94.trans (congrArg some (by kernel_rfl))⟩
  f31 := Tryz.func123.trans (congrArg some (by kernel_rfl))
  f32 := Tryz.func124.trans (congrArg some (by kernel_rfl))
  f36 := ⟨Tryz.f128.name, by decide, Tryz.func128.trans (congrArg some (by kernel_rfl))⟩
  f37 := ⟨Tryz.f129.name, by decide, Tryz.func129.trans (congrArg some (by kernel_rfl))⟩
  f38 := ⟨Tryz.f130.name, by decide, Tryz.func130.trans (congrArg some (by kernel_rfl))⟩
  f39 := ⟨Tryz.f131.name, by decide, Tryz.func131.trans (congrArg some (by kernel_rfl))⟩
  f41 := ⟨Tryz.f143.name, by decide, Tryz.func143.trans (congrArg some (by kernel_rfl))⟩
  t0 := Tryz.underlying0
  a0 := Tryz.isAgg0
  z0 := Tryz.sizeOf0
  v0 := Tryz.zeroValue0
  t3 := Tryz.underlying3
  a3 := Tryz.isAgg3
  z3 := Tryz.sizeOf3
  v3 := Tryz.zeroValue3
  t4 := Tryz.underlying4
  a4 := Tryz.isAgg4
  z4 := Tryz.sizeOf4
  v4 := Tryz.zeroValue4
  t5 := Tryz.underlying5
  a5 := Tryz.isAgg5
  z5 := Tryz.sizeOf5
  v5 := Tryz.zeroValue5
  t9 := Tryz.underlying9
  a9 := Tryz.isAgg9
  z9 := Tryz.sizeOf9
  v9 := Tryz.zeroValue9
  t26 := Tryz.underlying39
  a26 := Tryz.isAgg39
  z26 := Tryz.sizeOf39
  v26 := Tryz.zeroValue39
  t27 := Tryz.underlying39
  a27 := Tryz.isAgg39
  z27 := Tryz.sizeOf39
  v27 := Tryz.zeroValue39
  t29 := Tryz.underlying9
  a29 := Tryz.isAgg9
  z29 := Tryz.sizeOf9
  v29 := Tryz.zeroValue9
  t32 := Tryz.underlying89
  a32 := Tryz.isAgg89
  z32 := Tryz.sizeOf89
  v32 := Tryz.zeroValue89
  t35 := Tryz.underlying120
  a35 := Tryz.isAgg120
  z35 := Tryz.sizeOf120
  v35 := Tryz.zeroValue120
  t36 := Tryz.underlying121
  a36 := Tryz.isAgg121
  z36 := Tryz.sizeOf121
  v36 := Tryz.zeroValue121
  t41 := Tryz.underlying126
  a41 := Tryz.isAgg126
  z41 := Tryz.sizeOf126
  v41 := Tryz.zeroValue126
  t44 := Tryz.underlying129
  a44 := Tryz.isAgg129
  z44 := Tryz.sizeOf129
  v44 := Tryz.zeroValue129
  t46 := Tryz.underlying131
  a46 := Tryz.isAgg131
  z46 := Tryz.sizeOf131
  v46 := Tryz.zeroValue131
  t53 := Tryz.underlying161
  a53 := Tryz.isAgg161
  z53 := Tryz.sizeOf161
  v53 := Tryz.zeroValue161
  t57 := Tryz.underlying165
  a57 := Tryz.isAgg165
  z57 := Tryz.sizeOf165
  v57 := Tryz.zeroValue165
  t63 := Tryz.underlying178
  a63 := Tryz.isAgg178
  z63 := Tryz.sizeOf178
  v63 := Tryz.zeroValue178
  t64 := Tryz.underlying179
  a64 := Tryz.isAgg179
  z64 := Tryz.sizeOf179
  v64 := Tryz.zeroValue179 }
end Go.Proofs.YtkiafbneemdajaaGreat
namespace Go.Proofs.YtkiafbneemdajaaGreat
set_option linter.unusedVariables false
set_option linter.unusedSimpArgs false
open Go
set_option maxRecDepth 20000
set_option linter.unusedSimpArgs false
variable {G : Gh} {L : List Ch} {R : Value → Gh → List Ch → Prop}
theorem labels_le {l : List (List Rect)} {ls : List Label} (h : labC l ls = 0) : ls.length ≤ 1600 := by
  unfold labC at h
  split at h
  · next c =>
    simp [labelsOk] at c; omega
  · cases h
theorem sortI_s {v : Value} {xs : List Int} (hn : xs.length < 4611686018427387904) (k : R (.tuple #[]) G (osl 2 intT v (xs.mergeSort fun x y => decide (x ≤ y)) :: L)) : CallT Tryz.prog 29 #[v] G (osl 2 intT v xs :: L) R := sortInts sortI (F := intT) (fun _ => rfl) rfl hn k
theorem sortS_s {v : Value} {xs : List ByteArray} (hn : xs.length < 4611686018427387904) (k : R (.tuple #[]) G (osl 9 strT v (srtS xs) :: L)) : CallT Tryz.prog 36 #[v] G (osl 9 strT v xs :: L) R := sortStrs sortS (F := strT) (fun _ => rfl) rfl hn k
theorem shortX_i {v u : Value} {xs : List (Sl Rect)} {ls : List Label} (h1 : Rs G L slT v xs) (hd : RsE G L rectT xs) (h2 : Rs G L labelT u ls) (hlen : ∀ i, i < ls.length → (gd ls i).name.size ≤ 9223372036854775807)
    (k : ∀ v', R v' G (osl 2 intT v' (shR (er xs) ls) :: L)) : CallT Tryz.prog 10 #[v, u] G L R := by
  refine CallT.enter (args := _) Tryz.func10 rfl rfl (by kernel_rfl) rfl ?_
  refine WP.seq ?_
  refine WP.region ?_
  refine RG.pv rfl (PV.asg rfl rfl) ?_
  refine RG.nil ?_
  refine WP.seq ?_
  refine WP.region ?_
  refine RG.pv rfl (PV.move (v := v) rfl rfl) ?_
  refine RG.pv rfl (PV.move (v := u) rfl rfl) ?_
  refine RG.callF (vs := [v, u]) rfl rfl En28 rfl (labNets_i (Rs.up h1) hd.up (Rs.up h2) hlen (fun w16 => ?_))
  refine RG.pv rfl (PV.move (v := .tuple _) rfl rfl) ?_
  refine RG.pv rfl (PV.ext (v := w16) rfl rfl rfl) ?_
  refine RG.pv rfl (PV.ext rfl rfl rfl) ?_
  refine RG.pv rfl (PV.asg (v := w16) rfl rfl) ?_
  refine RG.pv rfl (PV.mvI (.inr rfl) rfl) ?_
  refine RG.nil ?_
  refine WP.seq ?_
  refine WP.seq ?_
  refine WP.region ?_
  refine RG.pv rfl (PV.mvI (.inl rfl) rfl) ?_
  refine RG.pv rfl (PV.neq rfl rfl rfl) ?_
  refine RG.nil ?_
  refine WP.cond rfl (fun h3 => ?_) (fun h3 => ?_)
  · have h3 : labC (er xs) ls ≠ 0 := by simpa using h3
    have e0 : shR (er xs) ls = [] := by rw [shR, if_neg h3]
    rw [e0] at k
    refine WP.seq ?_
    refine WP.region ?_
    refine RG.pv rfl (PV.asg rfl rfl) ?_
    refine RG.nil ?_
    refine WP.ret ?_
    exact ⟨_, _, ResV.one rfl rfl, Cv.nilP, k _⟩
  · have h3 : labC (er xs) ls = 0 := by simpa using h3
    have hl := labels_le h3
    have hnl : (labR (er xs) ls).length = ls.length := by rw [labR, if_pos h3, List.length_map]
    refine WP.skip ?_
    refine WP.seq ?_
    refine WP.region ?_
    refine RG.ot rfl (OT.mkMap (fun a : Int => Value.int .i64 a) (fun a : ByteArray => Value.string a) rfl fun m21 => ?_)
    refine RG.ot rfl (OT.bslice (F := intT) (els := []) rfl El26 rfl (by decide) rfl (by decide) trivial fun v22 => ?_)
    refine RG.pv rfl (PV.asg (v := (.map (some m21))) rfl rfl) ?_
    refine RG.pv rfl (PV.asg (v := v22) rfl rfl) ?_
    refine RG.nil ?_
    refine WP.seq ?_
    refine WP.seq ?_
    refine WP.region ?_
    refine RG.pv rfl (PV.move (v := w16) rfl rfl) ?_
    refine RG.pv rfl (PV.len (v := w16) rfl Tryz.underlying26 rfl SlF.o) ?_
    refine RG.pv rfl (PV.mvI (.inl rfl) rfl) ?_
    refine RG.nil ?_
    refine WP.block ?_
    refine WP.cv ((Cv.cast (L' := osl 2 intT v22 (oM (keyN (labR (er xs) ls)) (nameN ls) (okN (labR (er xs) ls)) 0) :: omap (fun a : Int => Value.int .i64 a) (fun a : ByteArray => Value.string a) m21 (fM (keyN (labR (er xs) ls)) (nameN ls) (okN (labR (er xs) ls)) 0) :: osl 2 intT w16 (labR (er xs) ls) :: L) rfl)) ?_
    refine WP.loop2 [1, 7, 23, 24] (fun (i : Nat) (q : Value) => i ≤ ls.length) (fun (i : Nat) (q : Value) => [(25, vi i), (8, q)]) (fun (i : Nat) (q : Value) => osl 2 intT q (oM (keyN (labR (er xs) ls)) (nameN ls) (okN (labR (er xs) ls)) i) :: omap (fun a : Int => Value.int .i64 a) (fun a : ByteArray => Value.string a) m21 (fM (keyN (labR (er xs) ls)) (nameN ls) (okN (labR (er xs) ls)) i) :: osl 2 intT w16 (labR (er xs) ls) :: L) (fun (i : Nat) (q : Value) => ls.length - i) 0 v22 (by omega) ⟨rfl, rfl, trivial⟩ Cv.p ?_
    rintro i q τ hi
    refine WP.seq ?_
    refine WP.region ?_
    refine RG.pv rfl (PV.lss rfl rfl rfl) ?_
    refine RG.nil ?_
    refine WP.seq ?_
    have hol := oM_len (κ := keyN (labR (er xs) ls)) (ν := nameN ls) (ok := okN (labR (er xs) ls)) i
    refine WP.cond rfl (fun h4 => ?_) (fun h4 => ?_)
    · have h4 := of_decide_eq_true h4
      have hil : i < ls.length := by omega
      refine WP.skip ?_
      refine WP.seq ?_
      refine WP.block ?_
      refine WP.seq ?_
      refine WP.region ?_
      refine RG.pv rfl (PV.mvI (.inl rfl) rfl) ?_
      refine RG.pv rfl (PV.idxS (v := w16) rfl Is26 rfl SlF.o rfl rfl (by omega)) ?_
      refine RG.pv rfl (PV.loadE1 rfl Sc2 rfl rfl (El.o (getG (by omega))) rfl) ?_
      refine RG.pv rfl (PV.mvI (.inr rfl) rfl) ?_
      refine RG.pv rfl (PV.mvI (.inr rfl) rfl) ?_
      refine RG.nil ?_
      refine WP.seq ?_
      refine WP.seq ?_
      refine WP.region ?_
      refine RG.pv rfl (PV.mvI (.inl rfl) rfl) ?_
      refine RG.pv rfl (PV.lss rfl rfl rfl) ?_
      refine RG.nil ?_
      refine WP.cond rfl (fun h5 => ?_) (fun h5 => ?_)
      · have h5 : okN (labR (er xs) ls) i = false := by unfold okN; rw [h5]; rfl
        have e1 : fM (keyN (labR (er xs) ls)) (nameN ls) (okN (labR (er xs) ls)) (i + 1) = fM (keyN (labR (er xs) ls)) (nameN ls) (okN (labR (er xs) ls)) i := by rw [fM, if_neg (by rw [h5]; simp)]
        have e2 : oM (keyN (labR (er xs) ls)) (nameN ls) (okN (labR (er xs) ls)) (i + 1) = oM (keyN (labR (er xs) ls)) (nameN ls) (okN (labR (er xs) ls)) i := by rw [oM, if_neg (by rw [h5]; simp)]
        refine WP.exit ?_
        refine WP.region ?_
        refine RG.pv rfl (PV.add rfl rfl rfl (by omega)) ?_
        refine RG.pv rfl (PV.mvI (.inl rfl) rfl) ?_
        refine RG.nil ?_
        exact ⟨rfl, i + 1, q, (by omega), ⟨rfl, rfl, trivial⟩, ⟨rfl, rfl, rfl, rfl, trivial⟩, (by simp only [e1, e2]; exact Cv.p), by omega⟩
      · have h5 : okN (labR (er xs) ls) i = true := by unfold okN; rw [h5]; rfl
        refine WP.skip ?_
        refine WP.seq ?_
        refine WP.region ?_
        refine RG.pv rfl (PV.move (v := (.map (some m21))) rfl rfl) ?_
        refine RG.pv rfl (PV.mvI (.inl rfl) rfl) ?_
        refine RG.pv rfl (PV.lookM (z0 := ByteArray.empty) rfl Tryz.underlying58 Tryz.underlying2 KeyF.i (fun w => by kernel_rfl) rfl rfl) ?_
        refine RG.pv rfl (PV.move (v := .tuple _) rfl rfl) ?_
        refine RG.pv rfl (PV.ext rfl rfl rfl) ?_
        refine RG.pv rfl (PV.ext rfl rfl rfl) ?_
        refine RG.pv rfl (PV.mvS (.inr rfl) rfl) ?_
        refine RG.pv rfl (PV.mvB (.inr rfl) rfl) ?_
        refine RG.nil ?_
        refine WP.seq ?_
        refine WP.region ?_
        refine RG.pv rfl (PV.mvB (.inl rfl) rfl) ?_
        refine RG.pv rfl (PV.not rfl rfl) ?_
        refine RG.nil ?_
        refine WP.cond rfl (fun h6 => ?_) (fun h6 => ?_)
        · have hm : mget (fM (keyN (labR (er xs) ls)) (nameN ls) (okN (labR (er xs) ls)) i) (gd (labR (er xs) ls) i) = none := by simpa using h6
          have e1 : fM (keyN (labR (er xs) ls)) (nameN ls) (okN (labR (er xs) ls)) (i + 1) = fM (keyN (labR (er xs) ls)) (nameN ls) (okN (labR (er xs) ls)) i ++ [(gd (labR (er xs) ls) i, (gd ls i).name)] := by rw [fM, if_pos ⟨h5, hm⟩]; rfl
          have e2 : oM (keyN (labR (er xs) ls)) (nameN ls) (okN (labR (er xs) ls)) (i + 1) = oM (keyN (labR (er xs) ls)) (nameN ls) (okN (labR (er xs) ls)) i := by
            rw [oM, if_neg]
            rintro ⟨_, w, hw, _⟩
            have hw : mget (fM (keyN (labR (er xs) ls)) (nameN ls) (okN (labR (er xs) ls)) i) (gd (labR (er xs) ls) i) = some w := hw
            rw [hm] at hw; cases hw
          refine WP.region ?_
          refine RG.pv rfl (PV.move (v := (.map (some m21))) rfl rfl) ?_
          refine RG.pv rfl (PV.mvI (.inl rfl) rfl) ?_
          refine RG.pv rfl (PV.move (v := u) rfl rfl) ?_
          refine RG.pv rfl (PV.mvI (.inl rfl) rfl) ?_
          refine RG.pv rfl (PV.idxS (v := u) rfl Is30 rfl (SlF.r h2) rfl rfl (by omega)) ?_
          refine RG.pv rfl (PV.field rfl Fo54_2 rfl) ?_
          refine RG.pv rfl (PV.loadF rfl Sc9 rfl rfl (El.r h2 (getG (by omega))) rfl) ?_
          refine RG.ot rfl (OT.newKey (f := (fun a : Int => Value.int .i64 a)) (g := (fun a : ByteArray => Value.string a)) rfl Tryz.underlying58 Tryz.underlying2 KeyF.i rfl rfl rfl (by assumption) ?_)
          refine RG.nil ?_
          refine WP.region ?_
          refine RG.pv rfl (PV.add rfl rfl rfl (by omega)) ?_
          refine RG.pv rfl (PV.mvI (.inl rfl) rfl) ?_
          refine RG.nil ?_
          exact ⟨rfl, i + 1, q, (by omega), ⟨rfl, rfl, trivial⟩, ⟨rfl, rfl, rfl, rfl, trivial⟩, (by simp only [e1, e2]; exact Cv.p), by omega⟩
        · obtain ⟨w, hm⟩ : ∃ w, mget (fM (keyN (labR (er xs) ls)) (nameN ls) (okN (labR (er xs) ls)) i) (gd (labR (er xs) ls) i) = some w := by
            cases h : mget (fM (keyN (labR (er xs) ls)) (nameN ls) (okN (labR (er xs) ls)) i) (gd (labR (er xs) ls) i) with
            | none => rw [h] at h6; cases h6
            | some w => exact ⟨w, rfl⟩
          have e1 : fM (keyN (labR (er xs) ls)) (nameN ls) (okN (labR (er xs) ls)) (i + 1) = fM (keyN (labR (er xs) ls)) (nameN ls) (okN (labR (er xs) ls)) i := by
            rw [fM, if_neg]
            rintro ⟨_, hw⟩
            have hw : mget (fM (keyN (labR (er xs) ls)) (nameN ls) (okN (labR (er xs) ls)) i) (gd (labR (er xs) ls) i) = none := hw
            rw [hm] at hw; cases hw
          refine WP.seq ?_
          refine WP.region ?_
          refine RG.pv rfl (PV.mvS (.inl rfl) rfl) ?_
          refine RG.pv rfl (PV.move (v := u) rfl rfl) ?_
          refine RG.pv rfl (PV.mvI (.inl rfl) rfl) ?_
          refine RG.pv rfl (PV.idxS (v := u) rfl Is30 rfl (SlF.r h2) rfl rfl (by omega)) ?_
          refine RG.pv rfl (PV.field rfl Fo54_2 rfl) ?_
          refine RG.pv rfl (PV.loadF rfl Sc9 rfl rfl (El.r h2 (getG (by omega))) rfl) ?_
          refine RG.pv rfl (PV.neqS rfl rfl rfl) ?_
          refine RG.nil ?_
          rw [hm]
          refine WP.cond rfl (fun h7 => ?_) (fun h7 => ?_)
          · have h7 : w ≠ (gd ls i).name := by simpa using h7
            have e2 : oM (keyN (labR (er xs) ls)) (nameN ls) (okN (labR (er xs) ls)) (i + 1) = oM (keyN (labR (er xs) ls)) (nameN ls) (okN (labR (er xs) ls)) i ++ [gd (labR (er xs) ls) i] := by rw [oM, if_pos ⟨h5, w, hm, h7⟩]; rfl
            refine WP.region ?_
            refine RG.pv rfl (PV.move (v := q) rfl rfl) ?_
            refine RG.pv rfl (PV.mvI (.inl rfl) rfl) ?_
            refine RG.ot rfl (OT.bslice (F := intT) (els := [_]) rfl El26 rfl (by decide) rfl (by decide) ⟨rfl, (Cl.c rfl), trivial⟩ fun v56 => ?_)
            refine RG.ot rfl (OT.append (v := q) (u := v56) (F := intT) rfl El26 rfl (by decide) rfl rfl Rs.o (OneL.c (fun _ => rfl)) rfl (by first | omega | (simp <;> omega)) fun v57 => ?_)
            refine RG.pv rfl (PV.asg (v := v57) rfl rfl) ?_
            refine RG.nil ?_
            refine WP.region ?_
            refine RG.pv rfl (PV.add rfl rfl rfl (by omega)) ?_
            refine RG.pv rfl (PV.mvI (.inl rfl) rfl) ?_
            refine RG.nil ?_
            exact ⟨rfl, i + 1, v57, (by omega), ⟨rfl, rfl, trivial⟩, ⟨rfl, rfl, rfl, rfl, trivial⟩, (by simp only [e1, e2]; exact Cv.p), by omega⟩
          · have h7 : w = (gd ls i).name := by simpa using h7
            have e2 : oM (keyN (labR (er xs) ls)) (nameN ls) (okN (labR (er xs) ls)) (i + 1) = oM (keyN (labR (er xs) ls)) (nameN ls) (okN (labR (er xs) ls)) i := by
              rw [oM, if_neg]
              rintro ⟨_, w', hw, hne⟩
              have hw : mget (fM (keyN (labR (er xs) ls)) (nameN ls) (okN (labR (er xs) ls)) i) (gd (labR (er xs) ls) i) = some w' := hw
              rw [hm] at hw; cases hw
              exact hne h7
            refine WP.skip ?_
            refine WP.region ?_
            refine RG.pv rfl (PV.add rfl rfl rfl (by omega)) ?_
            refine RG.pv rfl (PV.mvI (.inl rfl) rfl) ?_
            refine RG.nil ?_
            exact ⟨rfl, i + 1, q, (by omega), ⟨rfl, rfl, trivial⟩, ⟨rfl, rfl, rfl, rfl, trivial⟩, (by simp only [e1, e2]; exact Cv.p), by omega⟩
    · have h4 := of_decide_eq_false h4
      obtain rfl : i = ls.length := by omega
      rw [shR, if_pos h3, shK] at k
      refine WP.exit ?_
      refine WP.seq ?_
      refine WP.region ?_
      refine RG.pv rfl (PV.move (v := q) rfl rfl) ?_
      refine RG.callF (vs := [q]) rfl rfl En29 rfl (sortI_s (by omega) ?_)
      refine RG.nil ?_
      refine WP.seq ?_
      refine WP.region ?_
      refine RG.pv rfl (PV.move (v := q) rfl rfl) ?_
      refine RG.callF (vs := [q]) rfl rfl En30 rfl (compact_int (by rw [List.length_mergeSort]; omega) (fun v62 => ?_))
      refine RG.pv rfl (PV.asg (v := v62) rfl rfl) ?_
      refine RG.nil ?_
      refine WP.ret ?_
      exact ⟨_, _, ResV.one rfl rfl, Cv.p, k v62⟩
theorem openX_i {v u : Value} {xs : List (Sl Rect)} {ls : List Label} (h1 : Rs G L slT v xs) (hd : RsE G L rectT xs) (h2 : Rs G L labelT u ls) (hlen : ∀ i, i < ls.length → (gd ls i).name.size ≤ 9223372036854775807)
    (k : ∀ v', R v' G (osl 9 strT v' (onR (er xs) ls) :: L)) : CallT Tryz.prog 19 #[v, u] G L R := by
  refine CallT.enter (args := _) Tryz.func19 rfl rfl (by kernel_rfl) rfl ?_
  refine WP.seq ?_
  refine WP.region ?_
  refine RG.pv rfl (PV.asg rfl rfl) ?_
  refine RG.nil ?_
  refine WP.seq ?_
  refine WP.region ?_
  refine RG.pv rfl (PV.move (v := v) rfl rfl) ?_
  refine RG.pv rfl (PV.move (v := u) rfl rfl) ?_
  refine RG.callF (vs := [v, u]) rfl rfl En28 rfl (labNets_i (Rs.up h1) hd.up (Rs.up h2) hlen (fun w16 => ?_))
  refine RG.pv rfl (PV.move (v := .tuple _) rfl rfl) ?_
  refine RG.pv rfl (PV.ext (v := w16) rfl rfl rfl) ?_
  refine RG.pv rfl (PV.ext rfl rfl rfl) ?_
  refine RG.pv rfl (PV.asg (v := w16) rfl rfl) ?_
  refine RG.pv rfl (PV.mvI (.inr rfl) rfl) ?_
  refine RG.nil ?_
  refine WP.seq ?_
  refine WP.seq ?_
  refine WP.region ?_
  refine RG.pv rfl (PV.mvI (.inl rfl) rfl) ?_
  refine RG.pv rfl (PV.neq rfl rfl rfl) ?_
  refine RG.nil ?_
  refine WP.cond rfl (fun h3 => ?_) (fun h3 => ?_)
  · have h3 : labC (er xs) ls ≠ 0 := by simpa using h3
    have e0 : onR (er xs) ls = [] := by rw [onR, if_neg h3]
    rw [e0] at k
    refine WP.seq ?_
    refine WP.region ?_
    refine RG.pv rfl (PV.asg rfl rfl) ?_
    refine RG.nil ?_
    refine WP.ret ?_
    exact ⟨_, _, ResV.one rfl rfl, Cv.nilP, k _⟩
  · have h3 : labC (er xs) ls = 0 := by simpa using h3
    have hl := labels_le h3
    have hnl : (labR (er xs) ls).length = ls.length := by rw [labR, if_pos h3, List.length_map]
    refine WP.skip ?_
    refine WP.seq ?_
    refine WP.region ?_
    refine RG.ot rfl (OT.mkMap (fun a : ByteArray => Value.string a) (fun a : Int => Value.int .i64 a) rfl fun m21 => ?_)
    refine RG.ot rfl (OT.bslice (F := strT) (els := []) rfl El39 rfl (by decide) rfl (by decide) trivial fun v22 => ?_)
    refine RG.pv rfl (PV.asg (v := (.map (some m21))) rfl rfl) ?_
    refine RG.pv rfl (PV.asg (v := v22) rfl rfl) ?_
    refine RG.nil ?_
    refine WP.seq ?_
    refine WP.seq ?_
    refine WP.region ?_
    refine RG.pv rfl (PV.move (v := u) rfl rfl) ?_
    refine RG.pv rfl (PV.len (v := u) rfl Tryz.underlying30 rfl (SlF.r h2)) ?_
    refine RG.pv rfl (PV.mvI (.inl rfl) rfl) ?_
    refine RG.nil ?_
    refine WP.block ?_
    refine WP.cv ((Cv.cast (L' := osl 9 strT v22 (oM (nameN ls) (keyN (labR (er xs) ls)) (okN (labR (er xs) ls)) 0) :: omap (fun a : ByteArray => Value.string a) (fun a : Int => Value.int .i64 a) m21 (fM (nameN ls) (keyN (labR (er xs) ls)) (okN (labR (er xs) ls)) 0) :: osl 2 intT w16 (labR (er xs) ls) :: L) rfl)) ?_
    refine WP.loop2 [5, 7, 23, 24] (fun (i : Nat) (q : Value) => i ≤ ls.length) (fun (i : Nat) (q : Value) => [(25, vi i), (8, q)]) (fun (i : Nat) (q : Value) => osl 9 strT q (oM (nameN ls) (keyN (labR (er xs) ls)) (okN (labR (er xs) ls)) i) :: omap (fun a : ByteArray => Value.string a) (fun a : Int => Value.int .i64 a) m21 (fM (nameN ls) (keyN (labR (er xs) ls)) (okN (labR (er xs) ls)) i) :: osl 2 intT w16 (labR (er xs) ls) :: L) (fun (i : Nat) (q : Value) => ls.length - i) 0 v22 (by omega) ⟨rfl, rfl, trivial⟩ Cv.p ?_
    rintro i q τ hi
    refine WP.seq ?_
    refine WP.region ?_
    refine RG.pv rfl (PV.lss rfl rfl rfl) ?_
    refine RG.nil ?_
    refine WP.seq ?_
    have hol := oM_len (κ := nameN ls) (ν := keyN (labR (er xs) ls)) (ok := okN (labR (er xs) ls)) i
    refine WP.cond rfl (fun h4 => ?_) (fun h4 => ?_)
    · have h4 := of_decide_eq_true h4
      have hil : i < ls.length := by omega
      refine WP.skip ?_
      refine WP.seq ?_
      refine WP.block ?_
      refine WP.seq ?_
      refine WP.region ?_
      refine RG.pv rfl (PV.mvI (.inl rfl) rfl) ?_
      refine RG.pv rfl (PV.idxS (v := u) rfl Is30 rfl (SlF.r h2) rfl rfl (by omega)) ?_
      refine RG.pv rfl (PV.loadE rfl Ag54 rfl rfl (El.r h2 (getG (by omega)))) ?_
      refine RG.ot rfl (OT.alloc rfl Zr54 fun b10 => ?_)
      refine RG.pv rfl (PV.mvI (.inr rfl) rfl) ?_
      refine RG.ot rfl (OT.storeW (vs := [vi _, vi _, vi _, .string _]) rfl Sz54 rfl rfl (Cl.c rfl) rfl rfl (OneC.c rfl) ?_)
      refine RG.nil ?_
      refine WP.seq ?_
      refine WP.seq ?_
      refine WP.region ?_
      refine RG.pv rfl (PV.move (v := w16) rfl rfl) ?_
      refine RG.pv rfl (PV.mvI (.inl rfl) rfl) ?_
      refine RG.pv rfl (PV.idxS (v := w16) rfl Is26 rfl SlF.o rfl rfl (by omega)) ?_
      refine RG.pv rfl (PV.loadE1 rfl Sc2 rfl rfl (El.o (getG (by omega))) rfl) ?_
      refine RG.pv rfl (PV.lss rfl rfl rfl) ?_
      refine RG.nil ?_
      refine WP.cond rfl (fun h5 => ?_) (fun h5 => ?_)
      · have h5 : okN (labR (er xs) ls) i = false := by unfold okN; rw [h5]; rfl
        have e1 : fM (nameN ls) (keyN (labR (er xs) ls)) (okN (labR (er xs) ls)) (i + 1) = fM (nameN ls) (keyN (labR (er xs) ls)) (okN (labR (er xs) ls)) i := by rw [fM, if_neg (by rw [h5]; simp)]
        have e2 : oM (nameN ls) (keyN (labR (er xs) ls)) (okN (labR (er xs) ls)) (i + 1) = oM (nameN ls) (keyN (labR (er xs) ls)) (okN (labR (er xs) ls)) i := by rw [oM, if_neg (by rw [h5]; simp)]
        refine WP.exit ?_
        refine WP.region ?_
        refine RG.pv rfl (PV.add rfl rfl rfl (by omega)) ?_
        refine RG.pv rfl (PV.mvI (.inl rfl) rfl) ?_
        refine RG.nil ?_
        exact ⟨rfl, i + 1, q, (by omega), ⟨rfl, rfl, trivial⟩, ⟨rfl, rfl, rfl, rfl, trivial⟩, (by simp only [e1, e2]; exact Cv.p), by omega⟩
      · have h5 : okN (labR (er xs) ls) i = true := by unfold okN; rw [h5]; rfl
        refine WP.skip ?_
        refine WP.seq ?_
        refine WP.region ?_
        refine RG.pv rfl (PV.move (v := (.map (some m21))) rfl rfl) ?_
        refine RG.pv rfl (PV.field rfl Fo54_2 rfl) ?_
        refine RG.pv rfl (PV.load1 rfl Sc9 rfl (Rd.blk rfl)) ?_
        refine RG.pv rfl (PV.lookM (z0 := 0) rfl Tryz.underlying67 Tryz.underlying9 KeyF.s (fun w => by kernel_rfl) rfl rfl) ?_
        refine RG.pv rfl (PV.move (v := .tuple _) rfl rfl) ?_
        refine RG.pv rfl (PV.ext rfl rfl rfl) ?_
        refine RG.pv rfl (PV.ext rfl rfl rfl) ?_
        refine RG.pv rfl (PV.mvI (.inr rfl) rfl) ?_
        refine RG.pv rfl (PV.mvB (.inr rfl) rfl) ?_
        refine RG.nil ?_
        refine WP.seq ?_
        refine WP.region ?_
        refine RG.pv rfl (PV.mvB (.inl rfl) rfl) ?_
        refine RG.pv rfl (PV.not rfl rfl) ?_
        refine RG.nil ?_
        refine WP.cond rfl (fun h6 => ?_) (fun h6 => ?_)
        · have hm : mget (fM (nameN ls) (keyN (labR (er xs) ls)) (okN (labR (er xs) ls)) i) (gd ls i).name = none := by simpa using h6
          have e1 : fM (nameN ls) (keyN (labR (er xs) ls)) (okN (labR (er xs) ls)) (i + 1) = fM (nameN ls) (keyN (labR (er xs) ls)) (okN (labR (er xs) ls)) i ++ [((gd ls i).name, gd (labR (er xs) ls) i)] := by rw [fM, if_pos ⟨h5, hm⟩]; rfl
          have e2 : oM (nameN ls) (keyN (labR (er xs) ls)) (okN (labR (er xs) ls)) (i + 1) = oM (nameN ls) (keyN (labR (er xs) ls)) (okN (labR (er xs) ls)) i := by
            rw [oM, if_neg]
            rintro ⟨_, w, hw, _⟩
            have hw : mget (fM (nameN ls) (keyN (labR (er xs) ls)) (okN (labR (er xs) ls)) i) (gd ls i).name = some w := hw
            rw [hm] at hw; cases hw
          refine WP.regionHD [.s (.map (some m21))] (.q 0 (.q 1 (.q 2 (.q 3 (.q 4 (.q 5 (.q 6 (.l 7 Sch.nil)))))))) (by kernel_rfl) (by kernel_rfl) (by kernel_rfl) rfl ?_
          refine RH.pv rfl (fun _ _ _ _ h => h) (Gh.le_refl _) PickC.pick rfl (PV.move (v := (.map (some m21))) rfl rfl) ?_
          refine RH.pv rfl (fun _ _ _ _ h => h) (Gh.le_refl _) PickC.pick rfl (PV.field rfl Fo54_2 rfl) ?_
          refine RH.pv rfl (fun _ _ _ _ h => h) (Gh.le_refl _) PickC.pick rfl (PV.load1 rfl Sc9 rfl (Rd.blk rfl)) ?_
          refine RH.pv rfl (fun _ _ _ _ h => h) (Gh.le_refl _) PickC.pick rfl (PV.move (v := w16) rfl rfl) ?_
          refine RH.pv rfl (fun _ _ _ _ h => h) (Gh.le_refl _) PickC.pick rfl (PV.mvI (.inl rfl) rfl) ?_
          refine RH.pv rfl (fun _ _ _ _ h => h) (Gh.le_refl _) PickC.pick rfl (PV.idxS (v := w16) rfl Is26 rfl SlF.o rfl rfl (by omega)) ?_
          refine RH.pv rfl (fun _ _ _ _ h => h) (Gh.le_refl _) PickC.pick rfl (PV.loadE1 rfl Sc2 rfl rfl (El.o (getG (by omega))) rfl) ?_
          refine RH.ot rfl rfl (OT.newKey (f := (fun a : ByteArray => Value.string a)) (g := (fun a : Int => Value.int .i64 a)) rfl Tryz.underlying67 Tryz.underlying9 KeyF.s rfl rfl rfl (by assumption) ⟨Gh.le_refl _, PickC.pick, ?_⟩)
          refine RH.nil ?_
          refine WP.region ?_
          refine RG.pv rfl (PV.add rfl rfl rfl (by omega)) ?_
          refine RG.pv rfl (PV.mvI (.inl rfl) rfl) ?_
          refine RG.nil ?_
          exact ⟨rfl, i + 1, q, (by omega), ⟨rfl, rfl, trivial⟩, ⟨rfl, rfl, rfl, rfl, trivial⟩, (by simp only [e1, e2]; exact Cv.p), by omega⟩
        · obtain ⟨w, hm⟩ : ∃ w, mget (fM (nameN ls) (keyN (labR (er xs) ls)) (okN (labR (er xs) ls)) i) (gd ls i).name = some w := by
            cases h : mget (fM (nameN ls) (keyN (labR (er xs) ls)) (okN (labR (er xs) ls)) i) (gd ls i).name with
            | none => rw [h] at h6; cases h6
            | some w => exact ⟨w, rfl⟩
          have e1 : fM (nameN ls) (keyN (labR (er xs) ls)) (okN (labR (er xs) ls)) (i + 1) = fM (nameN ls) (keyN (labR (er xs) ls)) (okN (labR (er xs) ls)) i := by
            rw [fM, if_neg]
            rintro ⟨_, hw⟩
            have hw : mget (fM (nameN ls) (keyN (labR (er xs) ls)) (okN (labR (er xs) ls)) i) (gd ls i).name = none := hw
            rw [hm] at hw; cases hw
          refine WP.seq ?_
          refine WP.region ?_
          refine RG.pv rfl (PV.mvI (.inl rfl) rfl) ?_
          refine RG.pv rfl (PV.move (v := w16) rfl rfl) ?_
          refine RG.pv rfl (PV.mvI (.inl rfl) rfl) ?_
          refine RG.pv rfl (PV.idxS (v := w16) rfl Is26 rfl SlF.o rfl rfl (by omega)) ?_
          refine RG.pv rfl (PV.loadE1 rfl Sc2 rfl rfl (El.o (getG (by omega))) rfl) ?_
          refine RG.pv rfl (PV.neq rfl rfl rfl) ?_
          refine RG.nil ?_
          rw [hm]
          refine WP.cond rfl (fun h7 => ?_) (fun h7 => ?_)
          · have h7 : w ≠ gd (labR (er xs) ls) i := by simpa using h7
            have e2 : oM (nameN ls) (keyN (labR (er xs) ls)) (okN (labR (er xs) ls)) (i + 1) = oM (nameN ls) (keyN (labR (er xs) ls)) (okN (labR (er xs) ls)) i ++ [(gd ls i).name] := by rw [oM, if_pos ⟨h5, w, hm, h7⟩]; rfl
            refine WP.region ?_
            refine RG.pv rfl (PV.move (v := q) rfl rfl) ?_
            refine RG.pv rfl (PV.field rfl Fo54_2 rfl) ?_
            refine RG.pv rfl (PV.load1 rfl Sc9 rfl (Rd.blk rfl)) ?_
            refine RG.ot rfl (OT.bslice (F := strT) (els := [_]) rfl El39 rfl (by decide) rfl (by decide) ⟨rfl, (Cl.c rfl), trivial⟩ fun v60 => ?_)
            refine RG.ot rfl (OT.append (v := q) (u := v60) (F := strT) rfl El39 rfl (by decide) rfl rfl Rs.o (OneL.c (fun _ => rfl)) rfl (by first | omega | (simp <;> omega)) fun v61 => ?_)
            refine RG.pv rfl (PV.asg (v := v61) rfl rfl) ?_
            refine RG.nil ?_
            refine WP.region ?_
            refine RG.pv rfl (PV.add rfl rfl rfl (by omega)) ?_
            refine RG.pv rfl (PV.mvI (.inl rfl) rfl) ?_
            refine RG.nil ?_
            exact ⟨rfl, i + 1, v61, (by omega), ⟨rfl, rfl, trivial⟩, ⟨rfl, rfl, rfl, rfl, trivial⟩, (by simp only [e1, e2]; exact Cv.p), by omega⟩
          · have h7 : w = gd (labR (er xs) ls) i := by simpa using h7
            have e2 : oM (nameN ls) (keyN (labR (er xs) ls)) (okN (labR (er xs) ls)) (i + 1) = oM (nameN ls) (keyN (labR (er xs) ls)) (okN (labR (er xs) ls)) i := by
              rw [oM, if_neg]
              rintro ⟨_, w', hw, hne⟩
              have hw : mget (fM (nameN ls) (keyN (labR (er xs) ls)) (okN (labR (er xs) ls)) i) (gd ls i).name = some w' := hw
              rw [hm] at hw; cases hw
              exact hne h7
            refine WP.skip ?_
            refine WP.region ?_
            refine RG.pv rfl (PV.add rfl rfl rfl (by omega)) ?_
            refine RG.pv rfl (PV.mvI (.inl rfl) rfl) ?_
            refine RG.nil ?_
            exact ⟨rfl, i + 1, q, (by omega), ⟨rfl, rfl, trivial⟩, ⟨rfl, rfl, rfl, rfl, trivial⟩, (by simp only [e1, e2]; exact Cv.p), by omega⟩
    · have h4 := of_decide_eq_false h4
      obtain rfl : i = ls.length := by omega
      rw [onR, if_pos h3, onK] at k
      refine WP.exit ?_
      refine WP.seq ?_
      refine WP.region ?_
      refine RG.pv rfl (PV.move (v := q) rfl rfl) ?_
      refine RG.callF (vs := [q]) rfl rfl En36 rfl (sortS_s (by omega) ?_)
      refine RG.nil ?_
      refine WP.seq ?_
      refine WP.region ?_
      refine RG.pv rfl (PV.move (v := q) rfl rfl) ?_
      refine RG.callF (vs := [q]) rfl rfl En37 rfl (compact_str (by rw [(srtS_perm _).length_eq]; omega) (fun v66 => ?_))
      refine RG.pv rfl (PV.asg (v := v66) rfl rfl) ?_
      refine RG.nil ?_
      refine WP.ret ?_
      exact ⟨_, _, ResV.one rfl rfl, Cv.p, k v66⟩
end Go.Proofs.YtkiafbneemdajaaGreat
namespace Go.Proofs.YtkiafbneemdajaaGreat
set_option linter.unusedVariables false
set_option linter.unusedSimpArgs false
open Go
set_option maxRecDepth 20000
set_option linter.unusedSimpArgs false
variable {G : Gh} {L : List Ch} {R : Value → Gh → List Ch → Prop}
section
variable {P : Program} {σ : Nat → Value} {o : Oper} {T T' : TypeId} {x y : Operand}
theorem PV.geqS {p q : ByteArray} (ho : o.op = .binOp .geq T x y T') (hx : ev σ x = .string p) (hy : ev σ y = .string q) : PV P o σ G L (.bool (!strLt p q)) := by
  intro w hw
  simp [execOp, ho, hx, hy, eqGuard, binOp, Op.stringOp, strLt]
end
theorem shorted_r {v u : Value} {xs : List (Sl Rect)} {ls : List Label} (h1 : Rs G L slT v xs) (hd : RsE G L rectT xs) (h2 : Rs G L labelT u ls) (hlen : ∀ i, i < ls.length → (gd ls i).name.size ≤ 9223372036854775807) (k : ∀ v', R v' G (osl 2 intT v' (shR (er xs) ls) :: L)) : CallT Tryz.prog 7 #[v, u] G L R := by
  refine CallT.bd h2 fun hb2 => ?_
  refine CallT.enter (args := _) Tryz.func7 rfl rfl (by kernel_rfl) rfl ?_
  refine WP.seq ?_
  refine WP.region ?_
  refine RG.pv rfl (PV.asg rfl rfl) ?_
  refine RG.nil ?_
  refine WP.seq ?_
  refine WP.region ?_
  refine RG.ot rfl (OT.bslice (F := intT) (els := []) rfl El26 rfl (by decide) rfl (by decide) trivial fun v12 => ?_)
  refine RG.pv rfl (PV.asg (v := v12) rfl rfl) ?_
  refine RG.nil ?_
  refine WP.seq ?_
  refine WP.region ?_
  refine RG.pv rfl (PV.move (v := v) rfl rfl) ?_
  refine RG.pv rfl (PV.move (v := u) rfl rfl) ?_
  refine RG.callF (vs := [v, u]) rfl rfl En25 rfl (labNets_r (Rs.up h1) hd.up (Rs.up h2) hlen (fun w16 => ?_))
  refine RG.pv rfl (PV.move (v := .tuple _) rfl rfl) ?_
  refine RG.pv rfl (PV.ext (v := w16) rfl rfl rfl) ?_
  refine RG.pv rfl (PV.ext rfl rfl rfl) ?_
  refine RG.pv rfl (PV.asg (v := w16) rfl rfl) ?_
  refine RG.pv rfl (PV.mvI (.inr rfl) rfl) ?_
  refine RG.nil ?_
  refine WP.seq ?_
  refine WP.seq ?_
  refine WP.region ?_
  refine RG.pv rfl (PV.mvI (.inr rfl) rfl) ?_
  refine RG.nil ?_
  refine WP.block ?_
  refine WP.loop3 [1, 6, 7] (fun (n : Nat) (zs : List Int) (q : Value) => n ≤ 24 ∧ shJ (labR (er xs) ls) (nameN ls) ls.length n zs ∧ (labC (er xs) ls ≠ 0 → zs = [])) (fun (n : Nat) (zs : List Int) (q : Value) => [(8, vi n), (5, q)]) (fun (n : Nat) (zs : List Int) (q : Value) => osl 2 intT q zs :: osl 2 intT w16 (labR (er xs) ls) :: L) (fun (n : Nat) (zs : List Int) (q : Value) => 24 - n) 0 [] v12 ⟨by omega, shJ.zero, fun _ => rfl⟩ ⟨rfl, rfl, trivial⟩ Cv.p ?_
  rintro n zs q τ ⟨hn, hz, hc⟩
  refine WP.seq ?_
  refine WP.seq ?_
  refine WP.region ?_
  refine RG.pv rfl (PV.mvI (.inl rfl) rfl) ?_
  refine RG.pv rfl (PV.lss rfl rfl rfl) ?_
  refine RG.pv rfl (PV.mvB (.inl rfl) rfl) ?_
  refine RG.gs rfl rfl rfl (fun hp => (PV.mvI (.inl rfl) rfl)) ?_
  refine RG.gs rfl rfl rfl (fun hp => (PV.eql rfl (gs_t hp) rfl)) ?_
  refine RG.pv rfl (PV.pickA rfl rfl (fun hq => gs_t (geqT hq)) rfl) ?_
  refine RG.nil ?_
  have hzl : zs.length ≤ n := hz.2.1
  refine WP.cond rfl (fun h3 => ?_) (fun h3 => ?_)
  · have h3 : n < 24 ∧ labC (er xs) ls = 0 := by simp at h3; omega
    obtain ⟨h3, h4⟩ := h3
    have hnl : (labR (er xs) ls).length = ls.length := by rw [labR, if_pos h4, List.length_map]
    refine WP.skip ?_
    refine WP.seq ?_
    refine WP.block ?_
    refine WP.seq ?_
    refine WP.region ?_
    refine RG.pv rfl (PV.mvS (.inr rfl) rfl) ?_
    refine RG.nil ?_
    refine WP.seq ?_
    refine WP.region ?_
    refine RG.pv rfl (PV.mvB (.inr rfl) rfl) ?_
    refine RG.nil ?_
    refine WP.seq ?_
    refine WP.seq ?_
    refine WP.region ?_
    refine RG.pv rfl (PV.mvI (.inr rfl) rfl) ?_
    refine RG.nil ?_
    refine WP.block ?_
    refine WP.loop3 [1, 5, 6, 7, 8] (fun (i : Nat) (f : ByteArray) (sh : Bool) => i ≤ ls.length ∧ shI (labR (er xs) ls) (nameN ls) (ByteArray.mk #[]) n i f sh) (fun (i : Nat) (f : ByteArray) (sh : Bool) => [(11, vi i), (9, .string f), (10, .bool sh)]) (fun (i : Nat) (f : ByteArray) (sh : Bool) => osl 2 intT q zs :: osl 2 intT w16 (labR (er xs) ls) :: L) (fun (i : Nat) (f : ByteArray) (sh : Bool) => ls.length - i) 0 (ByteArray.mk #[]) false ⟨by omega, shI.zero⟩ ⟨rfl, rfl, rfl, trivial⟩ Cv.p ?_
    rintro i f sh τ1 ⟨hi, hI⟩
    refine WP.seq ?_
    refine WP.seq ?_
    refine WP.region ?_
    refine RG.pv rfl (PV.mvI (.inl rfl) rfl) ?_
    refine RG.pv rfl (PV.move (v := w16) rfl rfl) ?_
    refine RG.pv rfl (PV.len (v := w16) rfl Tryz.underlying26 rfl SlF.o) ?_
    refine RG.pv rfl (PV.lss rfl rfl rfl) ?_
    refine RG.nil ?_
    refine WP.cond rfl (fun h5 => ?_) (fun h5 => ?_)
    · have h5 := of_decide_eq_true h5
      have h50 : i < ls.length := by omega
      refine WP.skip ?_
      refine WP.seq ?_
      refine WP.block ?_
      refine WP.seq ?_
      refine WP.seq ?_
      refine WP.region ?_
      refine RG.pv rfl (PV.move (v := w16) rfl rfl) ?_
      refine RG.pv rfl (PV.mvI (.inl rfl) rfl) ?_
      refine RG.pv rfl (PV.idxS (v := w16) rfl Is26 rfl SlF.o rfl rfl (by omega)) ?_
      refine RG.pv rfl (PV.loadE1 rfl Sc2 rfl rfl (El.o (getG (by omega))) rfl) ?_
      refine RG.pv rfl (PV.mvI (.inl rfl) rfl) ?_
      refine RG.pv rfl (PV.neq rfl rfl rfl) ?_
      refine RG.nil ?_
      refine WP.cond rfl (fun h6 => ?_) (fun h6 => ?_)
      · have h6 : gd (labR (er xs) ls) i ≠ n := by simpa using h6
        refine WP.exit ?_
        refine WP.region ?_
        refine RG.pv rfl (PV.mvI (.inl rfl) rfl) ?_
        refine RG.pv rfl (PV.add rfl rfl rfl (by omega)) ?_
        refine RG.pv rfl (PV.mvI (.inr rfl) rfl) ?_
        refine RG.nil ?_
        exact ⟨rfl, i + 1, f, sh, ⟨by omega, hI.skip h6⟩, ⟨rfl, rfl, rfl, trivial⟩, ⟨rfl, rfl, rfl, rfl, rfl, trivial⟩, Cv.p, by omega⟩
      · have h6 : gd (labR (er xs) ls) i = n := by simpa using h6
        refine WP.skip ?_
        refine WP.seq ?_
        refine WP.region ?_
        refine RG.pv rfl (PV.mvB (.inl rfl) rfl) ?_
        refine RG.pv rfl (PV.mvB (.inl rfl) rfl) ?_
        refine RG.gs rfl rfl rfl (fun hp => (PV.mvS (.inl rfl) rfl)) ?_
        refine RG.gs rfl rfl rfl (fun hp => (PV.neqS rfl (gs_t hp) rfl)) ?_
        refine RG.gs rfl rfl rfl (fun hp => (PV.mvB (.inl rfl) (gs_t hp))) ?_
        refine RG.gs2 rfl rfl rfl (fun hp => (PV.move (v := u) rfl rfl)) ?_
        refine RG.gs2 rfl rfl rfl (fun hp => (PV.mvI (.inl rfl) rfl)) ?_
        refine RG.gs2 rfl rfl rfl (fun hp => (PV.idxS (v := u) rfl Is30 (gs_t hp) (SlF.r h2) (gs_t hp) rfl (by first | omega | (simp at hp; omega)))) ?_
        refine RG.gs2 rfl rfl rfl (fun hp => (PV.field rfl Fo54_2 (gs_t hp))) ?_
        refine RG.gs2 rfl rfl rfl (fun hp => (PV.loadF rfl Sc9 (gs_t hp) rfl (El.r h2 (getG (by first | omega | (simp at hp; omega)))) rfl)) ?_
        refine RG.gs2 rfl rfl rfl (fun hp => (PV.mvS (.inl rfl) rfl)) ?_
        refine RG.gs2 rfl rfl rfl (fun hp => (PV.neqS rfl (gs_t hp) (gs_t hp))) ?_
        refine RG.gs rfl rfl rfl (fun hp => (PV.pickA rfl (gs_t hp) (fun hq => gs_t (gandT hp hq)) rfl)) ?_
        refine RG.pv rfl (PV.pickO rfl rfl rfl (fun hq => gs_t (geqF hq))) ?_
        refine RG.pv rfl (PV.mvB (.inr rfl) rfl) ?_
        refine RG.nil ?_
        refine WP.region ?_
        refine RG.pv rfl (PV.move (v := u) rfl rfl) ?_
        refine RG.pv rfl (PV.mvI (.inl rfl) rfl) ?_
        refine RG.pv rfl (PV.idxS (v := u) rfl Is30 rfl (SlF.r h2) rfl rfl (by omega)) ?_
        refine RG.pv rfl (PV.field rfl Fo54_2 rfl) ?_
        refine RG.pv rfl (PV.loadF rfl Sc9 rfl rfl (El.r h2 (getG (by omega))) rfl) ?_
        refine RG.pv rfl (PV.mvS (.inr rfl) rfl) ?_
        refine RG.nil ?_
        refine WP.region ?_
        refine RG.pv rfl (PV.mvI (.inl rfl) rfl) ?_
        refine RG.pv rfl (PV.add rfl rfl rfl (by omega)) ?_
        refine RG.pv rfl (PV.mvI (.inr rfl) rfl) ?_
        refine RG.nil ?_
        exact ⟨rfl, i + 1, (gd ls i).name, (sh || (!decide (f = ByteArray.mk #[]) && !decide ((gd ls i).name = f))), ⟨by omega, hI.take h6 (lab_name h4 h50) (by simp [nameN])⟩, ⟨rfl, rfl, rfl, trivial⟩, ⟨rfl, rfl, rfl, rfl, rfl, trivial⟩, Cv.p, by omega⟩
    · have h5 := of_decide_eq_false h5
      obtain rfl : i = ls.length := by omega
      refine WP.exit ?_
      refine WP.seq ?_
      refine WP.region ?_
      refine RG.pv rfl (PV.mvB (.inl rfl) rfl) ?_
      refine RG.nil ?_
      refine WP.cond rfl (fun h7 => ?_) (fun h7 => ?_)
      · subst h7
        refine WP.region ?_
        refine RG.pv rfl (PV.move (v := q) rfl rfl) ?_
        refine RG.pv rfl (PV.mvI (.inl rfl) rfl) ?_
        refine RG.ot rfl (OT.bslice (F := intT) (els := [_]) rfl El26 rfl (by decide) rfl (by decide) ⟨rfl, (Cl.c rfl), trivial⟩ fun v61 => ?_)
        refine RG.ot rfl (OT.append (v := q) (u := v61) (F := intT) rfl El26 rfl (by decide) rfl rfl Rs.o (OneL.c (fun _ => rfl)) rfl (by first | omega | (simp <;> omega)) fun v62 => ?_)
        refine RG.pv rfl (PV.asg (v := v62) rfl rfl) ?_
        refine RG.nil ?_
        refine WP.region ?_
        refine RG.pv rfl (PV.mvI (.inl rfl) rfl) ?_
        refine RG.pv rfl (PV.add rfl rfl rfl (by omega)) ?_
        refine RG.pv rfl (PV.mvI (.inr rfl) rfl) ?_
        refine RG.nil ?_
        exact ⟨rfl, n + 1, (zs ++ [(n : Int)]), v62, ⟨by omega, hz.yes hI, fun c => absurd h4 c⟩, ⟨rfl, rfl, trivial⟩, ⟨rfl, rfl, rfl, trivial⟩, Cv.p, by omega⟩
      · subst h7
        refine WP.skip ?_
        refine WP.region ?_
        refine RG.pv rfl (PV.mvI (.inl rfl) rfl) ?_
        refine RG.pv rfl (PV.add rfl rfl rfl (by omega)) ?_
        refine RG.pv rfl (PV.mvI (.inr rfl) rfl) ?_
        refine RG.nil ?_
        exact ⟨rfl, n + 1, zs, q, ⟨by omega, hz.no hI, fun c => absurd h4 c⟩, ⟨rfl, rfl, trivial⟩, ⟨rfl, rfl, rfl, trivial⟩, Cv.p, by omega⟩
  · have e : zs = shR (er xs) ls := by
      by_cases c : labC (er xs) ls = 0
      · have : n = 24 := by simp [c] at h3; omega
        subst this
        exact hz.done c
      · rw [hc c, shR, if_neg c]
    rw [← e] at k
    refine WP.exit ?_
    refine WP.seq ?_
    refine WP.region ?_
    refine RG.pv rfl (PV.move (v := q) rfl rfl) ?_
    refine RG.pv rfl (PV.asg (v := q) rfl rfl) ?_
    refine RG.nil ?_
    refine WP.ret ?_
    exact ⟨_, _, ResV.one rfl rfl, Cv.p, k q⟩
theorem insert_r {v : Value} {xs : List ByteArray} {s : ByteArray} (h1 : Rs G L strT v xs) (hb : xs.length ≤ 3000000) (hs : xs.Pairwise sle) (k : ∀ v' zs, zs.Pairwise sle → (∀ n, n ∈ zs ↔ n = s ∨ n ∈ xs) → zs.length ≤ xs.length + 1 → R v' G (osl 9 strT v' zs :: L)) : CallT Tryz.prog 35 #[v, .string s] G L R := by
  refine CallT.enter (args := _) Tryz.func35 rfl rfl (by kernel_rfl) rfl ?_
  refine WP.seq ?_
  refine WP.region ?_
  refine RG.pv rfl (PV.asg rfl rfl) ?_
  refine RG.nil ?_
  refine WP.seq ?_
  refine WP.region ?_
  refine RG.ot rfl (OT.bslice (F := strT) (els := []) rfl El39 rfl (by decide) rfl (by decide) trivial fun v8 => ?_)
  refine RG.pv rfl (PV.asg (v := v8) rfl rfl) ?_
  refine RG.nil ?_
  refine WP.seq ?_
  refine WP.region ?_
  refine RG.pv rfl (PV.mvB (.inr rfl) rfl) ?_
  refine RG.nil ?_
  refine WP.seq ?_
  refine WP.seq ?_
  refine WP.region ?_
  refine RG.pv rfl (PV.mvI (.inr rfl) rfl) ?_
  refine RG.nil ?_
  refine WP.block ?_
  refine WP.loop4 [0, 1] (fun (i : Nat) (out : List ByteArray) (dn : Bool) (q : Value) => i ≤ xs.length ∧ insI xs s i dn out) (fun (i : Nat) (out : List ByteArray) (dn : Bool) (q : Value) => [(7, vi i), (6, .bool dn), (5, q)]) (fun (i : Nat) (out : List ByteArray) (dn : Bool) (q : Value) => osl 9 strT q out :: L) (fun (i : Nat) (out : List ByteArray) (dn : Bool) (q : Value) => xs.length - i) 0 [] false v8 ⟨by omega, insI.zero⟩ ⟨rfl, rfl, rfl, trivial⟩ Cv.p ?_
  rintro i out dn q τ ⟨hi, hI⟩
  refine WP.seq ?_
  refine WP.seq ?_
  refine WP.region ?_
  refine RG.pv rfl (PV.mvI (.inl rfl) rfl) ?_
  refine RG.pv rfl (PV.move (v := v) rfl rfl) ?_
  refine RG.pv rfl (PV.len (v := v) rfl Tryz.underlying39 rfl (SlF.r h1)) ?_
  refine RG.pv rfl (PV.lss rfl rfl rfl) ?_
  refine RG.nil ?_
  have hol := hI.len hi
  refine WP.cond rfl (fun h3 => ?_) (fun h3 => ?_)
  · have h3 := of_decide_eq_true h3
    have h30 : i < xs.length := by omega
    refine WP.skip ?_
    refine WP.seq ?_
    refine WP.block ?_
    refine WP.seq ?_
    refine WP.seq ?_
    refine WP.region ?_
    refine RG.pv rfl (PV.mvB (.inl rfl) rfl) ?_
    refine RG.pv rfl (PV.not rfl rfl) ?_
    refine RG.pv rfl (PV.mvB (.inl rfl) rfl) ?_
    refine RG.gs rfl rfl rfl (fun hp => (PV.move (v := v) rfl rfl)) ?_
    refine RG.gs rfl rfl rfl (fun hp => (PV.mvI (.inl rfl) rfl)) ?_
    refine RG.gs rfl rfl rfl (fun hp => (PV.idxS (v := v) rfl Is39 (gs_t hp) (SlF.r h1) (gs_t hp) rfl (by first | omega | (simp at hp; omega)))) ?_
    refine RG.gs rfl rfl rfl (fun hp => (PV.loadE1 rfl Sc9 (gs_t hp) rfl (El.r h1 (getG (by first | omega | (simp at hp; omega)))) rfl)) ?_
    refine RG.gs rfl rfl rfl (fun hp => (PV.mvS (.inl rfl) rfl)) ?_
    refine RG.gs rfl rfl rfl (fun hp => (PV.geqS rfl (gs_t hp) (gs_t hp))) ?_
    refine RG.pv rfl (PV.pickA rfl rfl (fun hq => gs_t (geqT hq)) rfl) ?_
    refine RG.nil ?_
    refine WP.cond rfl (fun h4 => ?_) (fun h4 => ?_)
    · have h4 : dn = false ∧ strLt (gd xs i) s = false := by simpa using h4
      obtain ⟨rfl, h5⟩ := h4
      have h5 : ¬ sle (gd xs i) s := by rw [strLt_iff] at h5; exact of_decide_eq_false h5
      refine WP.seq ?_
      refine WP.region ?_
      refine RG.pv rfl (PV.mvB (.inr rfl) rfl) ?_
      refine RG.nil ?_
      refine WP.seq ?_
      refine WP.region ?_
      refine RG.pv rfl (PV.move (v := v) rfl rfl) ?_
      refine RG.pv rfl (PV.mvI (.inl rfl) rfl) ?_
      refine RG.pv rfl (PV.idxS (v := v) rfl Is39 rfl (SlF.r h1) rfl rfl (by omega)) ?_
      refine RG.pv rfl (PV.loadE1 rfl Sc9 rfl rfl (El.r h1 (getG (by omega))) rfl) ?_
      refine RG.pv rfl (PV.mvS (.inl rfl) rfl) ?_
      refine RG.pv rfl (PV.neqS rfl rfl rfl) ?_
      refine RG.nil ?_
      refine WP.cond rfl (fun h6 => ?_) (fun h6 => ?_)
      · have h6 : gd xs i ≠ s := by simpa using h6
        refine WP.region ?_
        refine RG.pv rfl (PV.move (v := q) rfl rfl) ?_
        refine RG.pv rfl (PV.mvS (.inl rfl) rfl) ?_
        refine RG.ot rfl (OT.bslice (F := strT) (els := [_]) rfl El39 rfl (by decide) rfl (by decide) ⟨rfl, (Cl.c rfl), trivial⟩ fun v33 => ?_)
        refine RG.ot rfl (OT.append (v := q) (u := v33) (F := strT) rfl El39 rfl (by decide) rfl rfl Rs.o (OneL.c (fun _ => rfl)) rfl (by first | omega | (simp <;> omega)) fun v34 => ?_)
        refine RG.pv rfl (PV.asg (v := v34) rfl rfl) ?_
        refine RG.nil ?_
        refine WP.region ?_
        refine RG.pv rfl (PV.move (v := v34) rfl rfl) ?_
        refine RG.pv rfl (PV.move (v := v) rfl rfl) ?_
        refine RG.pv rfl (PV.mvI (.inl rfl) rfl) ?_
        refine RG.pv rfl (PV.idxS (v := v) rfl Is39 rfl (SlF.r h1) rfl rfl (by omega)) ?_
        refine RG.pv rfl (PV.loadE1 rfl Sc9 rfl rfl (El.r h1 (getG (by omega))) rfl) ?_
        refine RG.ot rfl (OT.bslice (F := strT) (els := [_]) rfl El39 rfl (by decide) rfl (by decide) ⟨rfl, (Cl.c rfl), trivial⟩ fun v40 => ?_)
        refine RG.ot rfl (OT.append (v := v34) (u := v40) (F := strT) rfl El39 rfl (by decide) rfl rfl Rs.o (OneL.c (fun _ => rfl)) rfl (by first | omega | (simp <;> omega)) fun v41 => ?_)
        refine RG.pv rfl (PV.asg (v := v41) rfl rfl) ?_
        refine RG.nil ?_
        refine WP.region ?_
        refine RG.pv rfl (PV.mvI (.inl rfl) rfl) ?_
        refine RG.pv rfl (PV.add rfl rfl rfl (by omega)) ?_
        refine RG.pv rfl (PV.mvI (.inr rfl) rfl) ?_
        refine RG.nil ?_
        exact ⟨rfl, i + 1, (out ++ [s] ++ [gd xs i]), true, v41, ⟨by omega, hI.put hs h30 h5 h6⟩, ⟨rfl, rfl, rfl, trivial⟩, ⟨rfl, rfl, trivial⟩, Cv.p, by omega⟩
      · have h6 : gd xs i = s := by simpa using h6
        refine WP.skip ?_
        refine WP.region ?_
        refine RG.pv rfl (PV.move (v := q) rfl rfl) ?_
        refine RG.pv rfl (PV.move (v := v) rfl rfl) ?_
        refine RG.pv rfl (PV.mvI (.inl rfl) rfl) ?_
        refine RG.pv rfl (PV.idxS (v := v) rfl Is39 rfl (SlF.r h1) rfl rfl (by omega)) ?_
        refine RG.pv rfl (PV.loadE1 rfl Sc9 rfl rfl (El.r h1 (getG (by omega))) rfl) ?_
        refine RG.ot rfl (OT.bslice (F := strT) (els := [_]) rfl El39 rfl (by decide) rfl (by decide) ⟨rfl, (Cl.c rfl), trivial⟩ fun v40 => ?_)
        refine RG.ot rfl (OT.append (v := q) (u := v40) (F := strT) rfl El39 rfl (by decide) rfl rfl Rs.o (OneL.c (fun _ => rfl)) rfl (by first | omega | (simp <;> omega)) fun v41 => ?_)
        refine RG.pv rfl (PV.asg (v := v41) rfl rfl) ?_
        refine RG.nil ?_
        refine WP.region ?_
        refine RG.pv rfl (PV.mvI (.inl rfl) rfl) ?_
        refine RG.pv rfl (PV.add rfl rfl rfl (by omega)) ?_
        refine RG.pv rfl (PV.mvI (.inr rfl) rfl) ?_
        refine RG.nil ?_
        exact ⟨rfl, i + 1, (out ++ [gd xs i]), true, v41, ⟨by omega, hI.same hs h30 h6⟩, ⟨rfl, rfl, rfl, trivial⟩, ⟨rfl, rfl, trivial⟩, Cv.p, by omega⟩
    · have h40 : dn = true ∨ dn = false ∧ sle (gd xs i) s := by
        cases dn with
        | true => exact .inl rfl
        | false => exact .inr ⟨rfl, by rw [strLt_iff] at h4; simpa using h4⟩
      have h5 : insI xs s (i + 1) dn (out ++ [gd xs i]) := by
        rcases h40 with rfl | ⟨rfl, h41⟩
        · exact hI.more hs h30
        · exact hI.less h30 h41
      refine WP.skip ?_
      refine WP.region ?_
      refine RG.pv rfl (PV.move (v := q) rfl rfl) ?_
      refine RG.pv rfl (PV.move (v := v) rfl rfl) ?_
      refine RG.pv rfl (PV.mvI (.inl rfl) rfl) ?_
      refine RG.pv rfl (PV.idxS (v := v) rfl Is39 rfl (SlF.r h1) rfl rfl (by omega)) ?_
      refine RG.pv rfl (PV.loadE1 rfl Sc9 rfl rfl (El.r h1 (getG (by omega))) rfl) ?_
      refine RG.ot rfl (OT.bslice (F := strT) (els := [_]) rfl El39 rfl (by decide) rfl (by decide) ⟨rfl, (Cl.c rfl), trivial⟩ fun v40 => ?_)
      refine RG.ot rfl (OT.append (v := q) (u := v40) (F := strT) rfl El39 rfl (by decide) rfl rfl Rs.o (OneL.c (fun _ => rfl)) rfl (by first | omega | (simp <;> omega)) fun v41 => ?_)
      refine RG.pv rfl (PV.asg (v := v41) rfl rfl) ?_
      refine RG.nil ?_
      refine WP.region ?_
      refine RG.pv rfl (PV.mvI (.inl rfl) rfl) ?_
      refine RG.pv rfl (PV.add rfl rfl rfl (by omega)) ?_
      refine RG.pv rfl (PV.mvI (.inr rfl) rfl) ?_
      refine RG.nil ?_
      exact ⟨rfl, i + 1, (out ++ [gd xs i]), dn, v41, ⟨by omega, h5⟩, ⟨rfl, rfl, rfl, trivial⟩, ⟨rfl, rfl, trivial⟩, Cv.p, by omega⟩
  · have h3 := of_decide_eq_false h3
    obtain rfl : i = xs.length := by omega
    refine WP.exit ?_
    refine WP.seq ?_
    refine WP.seq ?_
    refine WP.region ?_
    refine RG.pv rfl (PV.mvB (.inl rfl) rfl) ?_
    refine RG.pv rfl (PV.not rfl rfl) ?_
    refine RG.nil ?_
    refine WP.cond rfl (fun h4 => ?_) (fun h4 => ?_)
    · obtain rfl : dn = false := by simpa using h4
      obtain ⟨g1, g2, g3⟩ := hI.last hs
      refine WP.region ?_
      refine RG.pv rfl (PV.move (v := q) rfl rfl) ?_
      refine RG.pv rfl (PV.mvS (.inl rfl) rfl) ?_
      refine RG.ot rfl (OT.bslice (F := strT) (els := [_]) rfl El39 rfl (by decide) rfl (by decide) ⟨rfl, (Cl.c rfl), trivial⟩ fun v46 => ?_)
      refine RG.ot rfl (OT.append (v := q) (u := v46) (F := strT) rfl El39 rfl (by decide) rfl rfl Rs.o (OneL.c (fun _ => rfl)) rfl (by first | omega | (simp <;> omega)) fun v47 => ?_)
      refine RG.pv rfl (PV.asg (v := v47) rfl rfl) ?_
      refine RG.nil ?_
      refine WP.seq ?_
      refine WP.region ?_
      refine RG.pv rfl (PV.move (v := v47) rfl rfl) ?_
      refine RG.pv rfl (PV.asg (v := v47) rfl rfl) ?_
      refine RG.nil ?_
      refine WP.ret ?_
      exact ⟨_, _, ResV.one rfl rfl, Cv.p, k v47 _ g1 g2 g3⟩
    · obtain rfl : dn = true := by simpa using h4
      obtain ⟨g1, g2, g3⟩ := hI.full
      refine WP.skip ?_
      refine WP.seq ?_
      refine WP.region ?_
      refine RG.pv rfl (PV.move (v := q) rfl rfl) ?_
      refine RG.pv rfl (PV.asg (v := q) rfl rfl) ?_
      refine RG.nil ?_
      refine WP.ret ?_
      exact ⟨_, _, ResV.one rfl rfl, Cv.p, k q _ g1 g2 g3⟩
theorem opens_r {v u : Value} {xs : List (Sl Rect)} {ls : List Label} (h1 : Rs G L slT v xs) (hd : RsE G L rectT xs) (h2 : Rs G L labelT u ls) (hlen : ∀ i, i < ls.length → (gd ls i).name.size ≤ 9223372036854775807) (k : ∀ v', R v' G (osl 9 strT v' (onR (er xs) ls) :: L)) : CallT Tryz.prog 18 #[v, u] G L R := by
  refine CallT.bd h2 fun hb2 => ?_
  refine CallT.enter (args := _) Tryz.func18 rfl rfl (by kernel_rfl) rfl ?_
  refine WP.seq ?_
  refine WP.region ?_
  refine RG.pv rfl (PV.asg rfl rfl) ?_
  refine RG.nil ?_
  refine WP.seq ?_
  refine WP.region ?_
  refine RG.ot rfl (OT.bslice (F := strT) (els := []) rfl El39 rfl (by decide) rfl (by decide) trivial fun v10 => ?_)
  refine RG.pv rfl (PV.asg (v := v10) rfl rfl) ?_
  refine RG.nil ?_
  refine WP.seq ?_
  refine WP.region ?_
  refine RG.pv rfl (PV.move (v := v) rfl rfl) ?_
  refine RG.pv rfl (PV.move (v := u) rfl rfl) ?_
  refine RG.callF (vs := [v, u]) rfl rfl En25 rfl (labNets_r (Rs.up h1) hd.up (Rs.up h2) hlen (fun w14 => ?_))
  refine RG.pv rfl (PV.move (v := .tuple _) rfl rfl) ?_
  refine RG.pv rfl (PV.ext (v := w14) rfl rfl rfl) ?_
  refine RG.pv rfl (PV.ext rfl rfl rfl) ?_
  refine RG.pv rfl (PV.asg (v := w14) rfl rfl) ?_
  refine RG.pv rfl (PV.mvI (.inr rfl) rfl) ?_
  refine RG.nil ?_
  refine WP.seq ?_
  refine WP.seq ?_
  refine WP.region ?_
  refine RG.pv rfl (PV.mvI (.inr rfl) rfl) ?_
  refine RG.nil ?_
  refine WP.block ?_
  refine WP.loop3 [1, 6, 7] (fun (i : Nat) (zs : List ByteArray) (q : Value) => i ≤ (labR (er xs) ls).length ∧ opI (labR (er xs) ls) (nameN ls) i 0 zs ∧ (labC (er xs) ls ≠ 0 → zs = []) ∧ zs.length ≤ 1600 * i) (fun (i : Nat) (zs : List ByteArray) (q : Value) => [(8, vi i), (5, q)]) (fun (i : Nat) (zs : List ByteArray) (q : Value) => osl 9 strT q zs :: osl 2 intT w14 (labR (er xs) ls) :: L) (fun (i : Nat) (zs : List ByteArray) (q : Value) => (labR (er xs) ls).length - i) 0 [] v10 ⟨by omega, opI.zero, fun _ => rfl, by simp⟩ ⟨rfl, rfl, trivial⟩ Cv.p ?_
  rintro i zs q τ ⟨hi, hz, hc, hzl⟩
  refine WP.seq ?_
  refine WP.seq ?_
  refine WP.region ?_
  refine RG.pv rfl (PV.mvI (.inl rfl) rfl) ?_
  refine RG.pv rfl (PV.move (v := w14) rfl rfl) ?_
  refine RG.pv rfl (PV.len (v := w14) rfl Tryz.underlying26 rfl SlF.o) ?_
  refine RG.pv rfl (PV.lss rfl rfl rfl) ?_
  refine RG.pv rfl (PV.mvB (.inl rfl) rfl) ?_
  refine RG.gs rfl rfl rfl (fun hp => (PV.mvI (.inl rfl) rfl)) ?_
  refine RG.gs rfl rfl rfl (fun hp => (PV.eql rfl (gs_t hp) rfl)) ?_
  refine RG.pv rfl (PV.pickA rfl rfl (fun hq => gs_t (geqT hq)) rfl) ?_
  refine RG.nil ?_
  have hll : (labR (er xs) ls).length ≤ 1600 := by
    by_cases c : labC (er xs) ls = 0
    · have := labels_le c; have := labR_len (er xs) ls; omega
    · rw [labR, if_neg c]; exact Nat.zero_le _
  refine WP.cond rfl (fun h3 => ?_) (fun h3 => ?_)
  · have h3 : i < (labR (er xs) ls).length ∧ labC (er xs) ls = 0 := by simp at h3; omega
    obtain ⟨h3, h4⟩ := h3
    have hnl : (labR (er xs) ls).length = ls.length := by rw [labR, if_pos h4, List.length_map]
    refine WP.skip ?_
    refine WP.seq ?_
    refine WP.block ?_
    refine WP.seq ?_
    refine WP.region ?_
    refine RG.pv rfl (PV.mvI (.inr rfl) rfl) ?_
    refine RG.nil ?_
    refine WP.block ?_
    refine WP.loop3 [1, 6, 7, 8] (fun (m : Nat) (ys : List ByteArray) (w : Value) => m ≤ i ∧ opI (labR (er xs) ls) (nameN ls) i m ys ∧ ys.length ≤ 1600 * i + m) (fun (m : Nat) (ys : List ByteArray) (w : Value) => [(9, vi m), (5, w)]) (fun (m : Nat) (ys : List ByteArray) (w : Value) => osl 9 strT w ys :: osl 2 intT w14 (labR (er xs) ls) :: L) (fun (m : Nat) (ys : List ByteArray) (w : Value) => i - m) 0 zs q ⟨by omega, hz, by omega⟩ ⟨rfl, rfl, trivial⟩ Cv.p ?_
    rintro m ys w τ1 ⟨hm, hz, hyl⟩
    refine WP.seq ?_
    refine WP.seq ?_
    refine WP.region ?_
    refine RG.pv rfl (PV.mvI (.inl rfl) rfl) ?_
    refine RG.pv rfl (PV.mvI (.inl rfl) rfl) ?_
    refine RG.pv rfl (PV.lss rfl rfl rfl) ?_
    refine RG.nil ?_
    refine WP.cond rfl (fun h5 => ?_) (fun h5 => ?_)
    · have h5 := of_decide_eq_true h5
      have h50 : m < i := by omega
      refine WP.skip ?_
      refine WP.seq ?_
      refine WP.block ?_
      refine WP.seq ?_
      refine WP.regionQ (by kernel_rfl) (by kernel_rfl) ?_
      refine RQ.pv rfl (PV.move (v := w14) rfl rfl) ?_
      refine RQ.pv rfl (PV.mvI (.inl rfl) rfl) ?_
      refine RQ.pv rfl (PV.idxS (v := w14) rfl Is26 rfl SlF.o rfl rfl (by omega)) ?_
      refine RQ.pv rfl (PV.loadE1 rfl Sc2 rfl rfl (El.o (getG (by omega))) rfl) ?_
      refine RQ.pv rfl (PV.geq rfl rfl rfl) ?_
      refine RQ.pv rfl (PV.mvB (.inl rfl) rfl) ?_
      refine RQ.gs rfl rfl rfl (fun hp => (PV.move (v := w14) rfl rfl)) ?_
      refine RQ.gs rfl rfl rfl (fun hp => (PV.mvI (.inl rfl) rfl)) ?_
      refine RQ.gs rfl rfl rfl (fun hp => (PV.idxS (v := w14) rfl Is26 (gs_t hp) SlF.o (gs_t hp) rfl (by first | omega | (simp at hp; omega)))) ?_
      refine RQ.gs rfl rfl rfl (fun hp => (PV.loadE1 rfl Sc2 (gs_t hp) rfl (El.o (getG (by first | omega | (simp at hp; omega)))) rfl)) ?_
      refine RQ.gs rfl rfl rfl (fun hp => (PV.geq rfl (gs_t hp) rfl)) ?_
      refine RQ.pv rfl (PV.pickA rfl rfl (fun hq => gs_t (geqT hq)) rfl) ?_
      refine RQ.pv rfl (PV.mvB (.inl rfl) rfl) ?_
      refine RQ.gs rfl rfl rfl (fun hp => (PV.move (v := w14) rfl rfl)) ?_
      refine RQ.gs rfl rfl rfl (fun hp => (PV.mvI (.inl rfl) rfl)) ?_
      refine RQ.gs rfl rfl rfl (fun hp => (PV.idxS (v := w14) rfl Is26 (gs_t hp) SlF.o (gs_t hp) rfl (by first | omega | (simp at hp; omega)))) ?_
      refine RQ.gs rfl rfl rfl (fun hp => (PV.loadE1 rfl Sc2 (gs_t hp) rfl (El.o (getG (by first | omega | (simp at hp; omega)))) rfl)) ?_
      refine RQ.gs rfl rfl rfl (fun hp => (PV.move (v := w14) rfl rfl)) ?_
      refine RQ.gs rfl rfl rfl (fun hp => (PV.mvI (.inl rfl) rfl)) ?_
      refine RQ.gs rfl rfl rfl (fun hp => (PV.idxS (v := w14) rfl Is26 (gs_t hp) SlF.o (gs_t hp) rfl (by first | omega | (simp at hp; omega)))) ?_
      refine RQ.gs rfl rfl rfl (fun hp => (PV.loadE1 rfl Sc2 (gs_t hp) rfl (El.o (getG (by first | omega | (simp at hp; omega)))) rfl)) ?_
      refine RQ.gs rfl rfl rfl (fun hp => (PV.neq rfl (gs_t hp) (gs_t hp))) ?_
      refine RQ.pv rfl (PV.pickA rfl rfl (fun hq => gs_t (geqT hq)) rfl) ?_
      refine RQ.pv rfl (PV.mvB (.inl rfl) rfl) ?_
      refine RQ.gs rfl rfl rfl (fun hp => (PV.move (v := u) rfl rfl)) ?_
      refine RQ.gs rfl rfl rfl (fun hp => (PV.mvI (.inl rfl) rfl)) ?_
      refine RQ.gs rfl rfl rfl (fun hp => (PV.idxS (v := u) rfl Is30 (gs_t hp) (SlF.r h2) (gs_t hp) rfl (by first | omega | (simp at hp; omega)))) ?_
      refine RQ.gs rfl rfl rfl (fun hp => (PV.field rfl Fo54_2 (gs_t hp))) ?_
      refine RQ.gs rfl rfl rfl (fun hp => (PV.loadF rfl Sc9 (gs_t hp) rfl (El.r h2 (getG (by first | omega | (simp at hp; omega)))) rfl)) ?_
      refine RQ.gs rfl rfl rfl (fun hp => (PV.move (v := u) rfl rfl)) ?_
      refine RQ.gs rfl rfl rfl (fun hp => (PV.mvI (.inl rfl) rfl)) ?_
      refine RQ.gs rfl rfl rfl (fun hp => (PV.idxS (v := u) rfl Is30 (gs_t hp) (SlF.r h2) (gs_t hp) rfl (by first | omega | (simp at hp; omega)))) ?_
      refine RQ.gs rfl rfl rfl (fun hp => (PV.field rfl Fo54_2 (gs_t hp))) ?_
      refine RQ.gs rfl rfl rfl (fun hp => (PV.loadF rfl Sc9 (gs_t hp) rfl (El.r h2 (getG (by first | omega | (simp at hp; omega)))) rfl)) ?_
      refine RQ.gs rfl rfl rfl (fun hp => (PV.eqlS rfl (gs_t hp) (gs_t hp))) ?_
      refine RQ.pv rfl (PV.pickA rfl rfl (fun hq => gs_t (geqT hq)) rfl) ?_
      refine RQ.nil ?_
      refine WP.cond rfl (fun h6 => ?_) (fun h6 => ?_)
      · have h6 : opQ (labR (er xs) ls) (nameN ls) i m := by
          simp at h6; exact ⟨h6.1.1.1, h6.1.1.2, h6.1.2, h6.2⟩
        refine WP.region ?_
        refine RG.pv rfl (PV.move (v := w) rfl rfl) ?_
        refine RG.pv rfl (PV.move (v := u) rfl rfl) ?_
        refine RG.pv rfl (PV.mvI (.inl rfl) rfl) ?_
        refine RG.pv rfl (PV.idxS (v := u) rfl Is30 rfl (SlF.r h2) rfl rfl (by omega)) ?_
        refine RG.pv rfl (PV.field rfl Fo54_2 rfl) ?_
        refine RG.pv rfl (PV.loadF rfl Sc9 rfl rfl (El.r h2 (getG (by omega))) rfl) ?_
        refine RG.callF (vs := [w, _]) rfl rfl En35 rfl (insert_r Rs.o (by omega) hz.1 (fun v74 zsv74 h1v74 h2v74 h3v74 => ?_))
        refine RG.pv rfl (PV.asg (v := v74) rfl rfl) ?_
        refine RG.nil ?_
        refine WP.region ?_
        refine RG.pv rfl (PV.mvI (.inl rfl) rfl) ?_
        refine RG.pv rfl (PV.add rfl rfl rfl (by omega)) ?_
        refine RG.pv rfl (PV.mvI (.inr rfl) rfl) ?_
        refine RG.nil ?_
        exact ⟨rfl, m + 1, zsv74, v74, ⟨by omega, hz.take h6 h1v74 h2v74, by omega⟩, ⟨rfl, rfl, trivial⟩, ⟨rfl, rfl, rfl, rfl, trivial⟩, Cv.p, by omega⟩
      · have h6 : ¬ opQ (labR (er xs) ls) (nameN ls) i m := by
          rintro ⟨g1, g2, g3, g4⟩
          have g4 : (gd ls i).name = (gd ls m).name := g4
          simp [g1, g2, g3, g4] at h6
        refine WP.skip ?_
        refine WP.region ?_
        refine RG.pv rfl (PV.mvI (.inl rfl) rfl) ?_
        refine RG.pv rfl (PV.add rfl rfl rfl (by omega)) ?_
        refine RG.pv rfl (PV.mvI (.inr rfl) rfl) ?_
        refine RG.nil ?_
        exact ⟨rfl, m + 1, ys, w, ⟨by omega, hz.skip h6, by omega⟩, ⟨rfl, rfl, trivial⟩, ⟨rfl, rfl, rfl, rfl, trivial⟩, Cv.p, by omega⟩
    · have h5 := of_decide_eq_false h5
      obtain rfl : m = i := by omega
      refine WP.exit ?_
      refine WP.region ?_
      refine RG.pv rfl (PV.mvI (.inl rfl) rfl) ?_
      refine RG.pv rfl (PV.add rfl rfl rfl (by omega)) ?_
      refine RG.pv rfl (PV.mvI (.inr rfl) rfl) ?_
      refine RG.nil ?_
      exact ⟨rfl, m + 1, ys, w, ⟨by omega, hz.next, fun c => absurd h4 c, by omega⟩, ⟨rfl, rfl, trivial⟩, ⟨rfl, rfl, rfl, trivial⟩, Cv.p, by omega⟩
  · have e : zs = onR (er xs) ls := by
      by_cases c : labC (er xs) ls = 0
      · have hnl : (labR (er xs) ls).length = ls.length := by rw [labR, if_pos c, List.length_map]
        obtain rfl : i = ls.length := by simp [c] at h3; omega
        exact hz.done c
      · rw [hc c, onR, if_neg c]
    rw [← e] at k
    refine WP.exit ?_
    refine WP.seq ?_
    refine WP.region ?_
    refine RG.pv rfl (PV.move (v := q) rfl rfl) ?_
    refine RG.pv rfl (PV.asg (v := q) rfl rfl) ?_
    refine RG.nil ?_
    refine WP.ret ?_
    exact ⟨_, _, ResV.one rfl rfl, Cv.p, k q⟩
theorem eqStr_s {v u : Value} {xs ys : List ByteArray} (h1 : Rs G L strT v xs) (h2 : Rs G L strT u ys) (k : R (.bool (decide (xs = ys))) G L) : CallT Tryz.prog 20 #[v, u] G L R := by
  refine CallT.bd h1 fun hb => ?_
  refine CallT.bd h2 fun hb' => ?_
  refine CallT.enter (args := _) Tryz.func20 rfl rfl (by kernel_rfl) rfl ?_
  refine WP.seq ?_
  refine WP.region ?_
  refine RG.pv rfl (PV.mvB (.inr rfl) rfl) ?_
  refine RG.nil ?_
  refine WP.seq ?_
  refine WP.seq ?_
  refine WP.region ?_
  refine RG.pv rfl (PV.move (v := v) rfl rfl) ?_
  refine RG.pv rfl (PV.len (v := v) rfl Tryz.underlying39 rfl (SlF.r h1)) ?_
  refine RG.pv rfl (PV.move (v := u) rfl rfl) ?_
  refine RG.pv rfl (PV.len (v := u) rfl Tryz.underlying39 rfl (SlF.r h2)) ?_
  refine RG.pv rfl (PV.neq rfl rfl rfl) ?_
  refine RG.nil ?_
  refine WP.cond rfl (fun h3 => ?_) (fun h3 => ?_)
  · have e : decide (xs = ys) = false := by
      rw [decide_eq_false_iff_not]; rintro rfl; simp at h3
    rw [e] at k
    refine WP.seq ?_
    refine WP.region ?_
    refine RG.pv rfl (PV.mvB (.inr rfl) rfl) ?_
    refine RG.nil ?_
    refine WP.ret ?_
    exact ⟨_, _, ResV.one rfl rfl, Cv.p, k⟩
  · have hl : xs.length = ys.length := by simp at h3; omega
    refine WP.skip ?_
    refine WP.seq ?_
    refine WP.seq ?_
    refine WP.region ?_
    refine RG.pv rfl (PV.mvI (.inr rfl) rfl) ?_
    refine RG.nil ?_
    refine WP.block ?_
    refine WP.loop1 [0, 1] (fun i => i ≤ xs.length ∧ ∀ j, j < i → xs[j]? = ys[j]?) (fun i => [(5, vi i)]) (fun i => L) (fun i => xs.length - i) 0 ⟨by omega, fun j h => by omega⟩ ⟨rfl, trivial⟩ Cv.p ?_
    rintro i τ ⟨hi, he⟩
    refine WP.seq ?_
    refine WP.seq ?_
    refine WP.region ?_
    refine RG.pv rfl (PV.mvI (.inl rfl) rfl) ?_
    refine RG.pv rfl (PV.move (v := v) rfl rfl) ?_
    refine RG.pv rfl (PV.len (v := v) rfl Tryz.underlying39 rfl (SlF.r h1)) ?_
    refine RG.pv rfl (PV.lss rfl rfl rfl) ?_
    refine RG.nil ?_
    refine WP.cond rfl (fun h4 => ?_) (fun h4 => ?_)
    · have h4 := of_decide_eq_true h4
      have h5 : i < xs.length := by omega
      refine WP.skip ?_
      refine WP.seq ?_
      refine WP.block ?_
      refine WP.seq ?_
      refine WP.regionQ (by kernel_rfl) (by kernel_rfl) ?_
      refine RQ.pv rfl (PV.move (v := v) rfl rfl) ?_
      refine RQ.pv rfl (PV.mvI (.inl rfl) rfl) ?_
      refine RQ.pv rfl (PV.idxS (v := v) rfl Is39 rfl (SlF.r h1) rfl rfl (by omega)) ?_
      refine RQ.pv rfl (PV.loadE1 rfl Sc9 rfl rfl (El.r h1 (getG (by omega))) rfl) ?_
      refine RQ.pv rfl (PV.move (v := u) rfl rfl) ?_
      refine RQ.pv rfl (PV.mvI (.inl rfl) rfl) ?_
      refine RQ.pv rfl (PV.idxS (v := u) rfl Is39 rfl (SlF.r h2) rfl rfl (by omega)) ?_
      refine RQ.pv rfl (PV.loadE1 rfl Sc9 rfl rfl (El.r h2 (getG (by omega))) rfl) ?_
      refine RQ.pv rfl (PV.neqS rfl rfl rfl) ?_
      refine RQ.nil ?_
      refine WP.cond rfl (fun h6 => ?_) (fun h6 => ?_)
      · have e : decide (xs = ys) = false := by
          rw [decide_eq_false_iff_not]; rintro rfl; simp at h6
        rw [e] at k
        refine WP.seq ?_
        refine WP.region ?_
        refine RG.pv rfl (PV.mvB (.inr rfl) rfl) ?_
        refine RG.nil ?_
        refine WP.ret ?_
        exact ⟨_, _, ResV.one rfl rfl, Cv.p, k⟩
      · have e : gd xs i = gd ys i := by simpa using h6
        have he' : ∀ j, j < i + 1 → xs[j]? = ys[j]? := fun j h => by
          by_cases c : j = i
          · rw [c, getG h5, getG (show i < ys.length by omega), e]
          · exact he j (by omega)
        refine WP.skip ?_
        refine WP.region ?_
        refine RG.pv rfl (PV.mvI (.inl rfl) rfl) ?_
        refine RG.pv rfl (PV.add rfl rfl rfl (by omega)) ?_
        refine RG.pv rfl (PV.mvI (.inr rfl) rfl) ?_
        refine RG.nil ?_
        exact ⟨rfl, i + 1, ⟨by omega, he'⟩, ⟨rfl, trivial⟩, ⟨rfl, rfl, trivial⟩, Cv.p, by omega⟩
    · have h4 := of_decide_eq_false h4
      have e : decide (xs = ys) = true := by
        rw [decide_eq_true_iff]; exact pre_eq he hl (by omega)
      rw [e] at k
      refine WP.exit ?_
      refine WP.seq ?_
      refine WP.region ?_
      refine RG.pv rfl (PV.mvB (.inr rfl) rfl) ?_
      refine RG.nil ?_
      refine WP.ret ?_
      exact ⟨_, _, ResV.one rfl rfl, Cv.p, k⟩
theorem law_ShortedNets {v u : Value} {xs : List (Sl Rect)} {ls : List Label} (h1 : Rs G L slT v xs) (hd : RsE G L rectT xs) (h2 : Rs G L labelT u ls) (hlen : ∀ i, i < ls.length → (gd ls i).name.size ≤ 9223372036854775807) (k : R (.bool true) G L) : CallT Tryz.prog 3 #[v, u] G L R := by
  refine CallT.enter (args := _) Tryz.func3 rfl rfl (by kernel_rfl) rfl ?_
  refine WP.seq ?_
  refine WP.region ?_
  refine RG.pv rfl (PV.mvB (.inr rfl) rfl) ?_
  refine RG.nil ?_
  refine WP.seq ?_
  refine WP.region ?_
  refine RG.pv rfl (PV.mvI (.inr rfl) rfl) ?_
  refine RG.nil ?_
  refine WP.seq ?_
  refine WP.region ?_
  refine RG.pv rfl (PV.move (v := v) rfl rfl) ?_
  refine RG.pv rfl (PV.mvI (.inl rfl) rfl) ?_
  refine RG.callF (vs := [v, _]) rfl rfl En5 rfl (szRectSS_s (Rs.up h1) hd.up (by omega) (by omega) (fun r hr hr' => ?_))
  refine RG.pv rfl (PV.mvI (.inr rfl) rfl) ?_
  refine RG.nil ?_
  refine WP.seq ?_
  refine WP.seq ?_
  refine WP.region ?_
  refine RG.pv rfl (PV.mvI (.inl rfl) rfl) ?_
  refine RG.pv rfl (PV.lss rfl rfl rfl) ?_
  refine RG.nil ?_
  refine WP.cond rfl (fun h3 => ?_) (fun h3 => ?_)
  · refine WP.seq ?_
    refine WP.region ?_
    refine RG.pv rfl (PV.mvB (.inr rfl) rfl) ?_
    refine RG.nil ?_
    refine WP.ret ?_
    exact ⟨_, _, ResV.one rfl rfl, Cv.p, k⟩
  · have h3 := of_decide_eq_false h3
    have hsz : szOf xs ≤ 1048576 := by have := hr' (by omega); omega
    have hc0 : 0 ≤ costL lenS xs := costL_nonneg lenS_nn _
    have hb : xs.length ≤ 1048576 := by simp only [szOf] at hsz; omega
    have hbi : ∀ i, i < xs.length → (gd xs i).xs.length ≤ 1048576 := fun i hi => by
      have := costL_mem lenS_nn hi; simp only [lenS, szOf] at *; omega
    have hcx : costL nRS xs ≤ 4194304 := by rw [nRS_lenS]; simp only [szOf] at hsz; omega
    refine WP.skip ?_
    refine WP.seq ?_
    refine WP.region ?_
    refine RG.pv rfl (PV.move (v := u) rfl rfl) ?_
    refine RG.pv rfl (PV.mvI (.inl rfl) rfl) ?_
    refine RG.callF (vs := [u, _]) rfl rfl En6 rfl (szLabelS_s (Rs.up h2) (by omega) (by omega) hlen ?_)
    refine RG.pv rfl (PV.mvI (.inr rfl) rfl) ?_
    refine RG.nil ?_
    refine WP.seq ?_
    refine WP.seq ?_
    refine WP.region ?_
    refine RG.pv rfl (PV.mvI (.inl rfl) rfl) ?_
    refine RG.pv rfl (PV.lss rfl rfl rfl) ?_
    refine RG.nil ?_
    refine WP.cond rfl (fun h4 => ?_) (fun h4 => ?_)
    · refine WP.seq ?_
      refine WP.region ?_
      refine RG.pv rfl (PV.mvB (.inr rfl) rfl) ?_
      refine RG.nil ?_
      refine WP.ret ?_
      exact ⟨_, _, ResV.one rfl rfl, Cv.p, k⟩
    · have h4 := of_decide_eq_false h4
      have hll := szLbS_len (xs := ls) (n := r) (by omega)
      have hbl : ls.length ≤ 1048576 := by omega
      have hcr := shR_len (er xs) ls
      refine WP.skip ?_
      refine WP.seq ?_
      refine WP.region ?_
      refine RG.pv rfl (PV.move (v := v) rfl rfl) ?_
      refine RG.callF (vs := [v]) rfl rfl En8 rfl (toRectSS_s (Rs.up h1) hd.up hb hbi (fun v25 ysv25 hev25 => ?_))
      refine RG.pv rfl (PV.move (v := u) rfl rfl) ?_
      refine RG.callF (vs := [u]) rfl rfl En9 rfl (toLabelS_s (Rs.up h2) hbl (fun v27 => ?_))
      refine RG.callF (vs := [v25, v27]) rfl rfl En7 rfl (shorted_r Rs.o RsE.o Rs.o hlen (fun v28 => ?_))
      refine RG.pv rfl (PV.asg (v := v28) rfl rfl) ?_
      refine RG.nil ?_
      refine WP.seq ?_
      refine WP.region ?_
      refine RG.pv rfl (PV.move (v := v) rfl rfl) ?_
      refine RG.callF (vs := [v]) rfl rfl En8 rfl (toRectSS_s (Rs.up h1) hd.up hb hbi (fun v30 ysv30 hev30 => ?_))
      refine RG.pv rfl (PV.asg (v := v30) rfl rfl) ?_
      refine RG.nil ?_
      refine WP.seq ?_
      refine WP.region ?_
      refine RG.pv rfl (PV.move (v := u) rfl rfl) ?_
      refine RG.callF (vs := [u]) rfl rfl En9 rfl (toLabelS_s (Rs.up h2) hbl (fun v32 => ?_))
      refine RG.pv rfl (PV.asg (v := v32) rfl rfl) ?_
      refine RG.nil ?_
      refine WP.seq ?_
      refine WP.region ?_
      refine RG.pv rfl (PV.move (v := v30) rfl rfl) ?_
      refine RG.pv rfl (PV.move (v := v32) rfl rfl) ?_
      refine RG.callF (vs := [v30, v32]) rfl rfl En10 rfl (shortX_i Rs.o RsE.o Rs.o hlen (fun v35 => ?_))
      refine RG.pv rfl (PV.asg (v := v35) rfl rfl) ?_
      refine RG.nil ?_
      refine WP.seq ?_
      refine WP.seq ?_
      refine WP.region ?_
      refine RG.pv rfl (PV.move (v := v35) rfl rfl) ?_
      refine RG.pv rfl (PV.move (v := v28) rfl rfl) ?_
      refine RG.callF (vs := [v35, v28]) rfl rfl En11 rfl (eqInt_s Rs.o Rs.o ?_)
      refine RG.pv rfl (PV.not rfl rfl) ?_
      refine RG.nil ?_
      refine WP.cond rfl (fun h5 => ?_) (fun h5 => ?_)
      · simp [*] at h5
      · refine WP.skip ?_
        refine WP.seq ?_
        refine WP.seq ?_
        refine WP.region ?_
        refine RG.pv rfl (PV.move (v := v30) rfl rfl) ?_
        refine RG.pv rfl (PV.move (v := v) rfl rfl) ?_
        refine RG.callF (vs := [v]) rfl rfl En8 rfl (toRectSS_s (Rs.up h1) hd.up hb hbi (fun v42 ysv42 hev42 => ?_))
        refine RG.callF (vs := [v30, v42]) rfl rfl En12 rfl (eqRectSS_s Rs.o RsE.o Rs.o RsE.o ?_)
        refine RG.pv rfl (PV.not rfl rfl) ?_
        refine RG.nil ?_
        refine WP.cond rfl (fun h6 => ?_) (fun h6 => ?_)
        · simp [*] at h6
        · refine WP.skip ?_
          refine WP.seq ?_
          refine WP.seq ?_
          refine WP.region ?_
          refine RG.pv rfl (PV.move (v := v32) rfl rfl) ?_
          refine RG.pv rfl (PV.move (v := u) rfl rfl) ?_
          refine RG.callF (vs := [u]) rfl rfl En9 rfl (toLabelS_s (Rs.up h2) hbl (fun v47 => ?_))
          refine RG.callF (vs := [v32, v47]) rfl rfl En13 rfl (eqLabelS_s Rs.o Rs.o ?_)
          refine RG.pv rfl (PV.not rfl rfl) ?_
          refine RG.nil ?_
          refine WP.cond rfl (fun h7 => ?_) (fun h7 => ?_)
          · simp [*] at h7
          · have hm1 : costL nRS ysv30 ≤ 4194304 := by rw [costL_er hev30]; exact hcx
            have hm5 : costL nLb ls ≤ 4194304 := by rw [nLb_cost]; omega
            have hm2 : costL nI (shR (er ysv30) ls) ≤ 1048576 := by rw [hev30, nI_cost]; omega
            have hm3 : 0 ≤ costL nRS ysv30 := costL_nonneg nSl_nn _
            have hm4 : 0 ≤ costL nI (shR (er ysv30) ls) := by rw [nI_cost]; omega
            have hm6 : 0 ≤ costL nLb ls := by rw [nLb_cost]; omega
            refine WP.skip ?_
            refine WP.seq ?_
            refine WP.region ?_
            refine RG.pv rfl (PV.mvI (.inr rfl) rfl) ?_
            refine RG.nil ?_
            refine WP.seq ?_
            refine WP.region ?_
            refine RG.pv rfl (PV.move (v := v30) rfl rfl) ?_
            refine RG.pv rfl (PV.mvI (.inl rfl) rfl) ?_
            refine RG.callF (vs := [v30, _]) rfl rfl En14 rfl (CallT.exBg ysv30 (CallT.exS v30 (markRectSS_s (by omega) (by omega) ?_)))
            refine RG.pv rfl (PV.mvI (.inr rfl) rfl) ?_
            refine RG.nil ?_
            refine WP.seq ?_
            refine WP.region ?_
            refine RG.pv rfl (PV.move (v := v32) rfl rfl) ?_
            refine RG.pv rfl (PV.mvI (.inl rfl) rfl) ?_
            refine RG.callF (vs := [v32, _]) rfl rfl En15 rfl (CallT.exS v32 (markLabelS_s (by omega) (by omega) ?_))
            refine RG.pv rfl (PV.mvI (.inr rfl) rfl) ?_
            refine RG.nil ?_
            refine WP.seq ?_
            refine WP.seq ?_
            refine WP.region ?_
            refine RG.pv rfl (PV.mvI (.inl rfl) rfl) ?_
            refine RG.pv rfl (PV.lss rfl rfl rfl) ?_
            refine RG.pv rfl (PV.mvB (.inl rfl) rfl) ?_
            refine RG.gs rfl rfl rfl (fun hp => (PV.move (v := v35) rfl rfl)) ?_
            refine RG.gs rfl rfl rfl (fun hp => (PV.move (v := v28) rfl rfl)) ?_
            refine RG.gsC rfl rfl rfl rfl En11 (fun hp => ⟨_, (acons (gs_t hp) (acons (gs_t hp) anil)), eqInt_s Rs.o Rs.o ⟨rfl, rfl, rfl⟩⟩) ?_
            refine RG.gs rfl rfl rfl (fun hp => (PV.not rfl (gs_t hp))) ?_
            refine RG.pv rfl (PV.pickO rfl rfl rfl (fun hq => gs_t (geqF hq))) ?_
            refine RG.nil ?_
            refine WP.cond rfl (fun h8 => ?_) (fun h8 => ?_)
            · simp [*] at h8 <;> omega
            · skip
              refine WP.skip ?_
              refine WP.seq ?_
              refine WP.region ?_
              refine RG.pv rfl (PV.mvI (.inr rfl) rfl) ?_
              refine RG.nil ?_
              refine WP.seq ?_
              refine WP.region ?_
              refine RG.pv rfl (PV.move (v := v35) rfl rfl) ?_
              refine RG.pv rfl (PV.mvI (.inl rfl) rfl) ?_
              refine RG.callF (vs := [v35, _]) rfl rfl En16 rfl (CallT.exS v35 (markInt_s (by omega) (by omega) ?_))
              refine RG.pv rfl (PV.mvI (.inr rfl) rfl) ?_
              refine RG.nil ?_
              refine WP.seq ?_
              refine WP.region ?_
              refine RG.pv rfl (PV.mvI (.inr rfl) rfl) ?_
              refine RG.nil ?_
              refine WP.seq ?_
              refine WP.region ?_
              refine RG.pv rfl (PV.move (v := v35) rfl rfl) ?_
              refine RG.pv rfl (PV.mvI (.inl rfl) rfl) ?_
              refine RG.callF (vs := [v35, _]) rfl rfl En17 rfl (heldInt_s Rs.o (by omega) (by omega) ?_)
              refine RG.pv rfl (PV.mvI (.inr rfl) rfl) ?_
              refine RG.nil ?_
              refine WP.seq ?_
              refine WP.seq ?_
              refine WP.region ?_
              refine RG.pv rfl (PV.mvI (.inl rfl) rfl) ?_
              refine RG.pv rfl (PV.lss rfl rfl rfl) ?_
              refine RG.nil ?_
              refine WP.cond rfl (fun h9 => ?_) (fun h9 => ?_)
              · simp at h9; omega
              · refine WP.skip ?_
                refine WP.seq ?_
                refine WP.seq ?_
                refine WP.region ?_
                refine RG.pv rfl (PV.mvI (.inl rfl) rfl) ?_
                refine RG.pv rfl (PV.mvI (.inl rfl) rfl) ?_
                refine RG.pv rfl (PV.neq rfl rfl rfl) ?_
                refine RG.nil ?_
                refine WP.cond rfl (fun ha => ?_) (fun ha => ?_)
                · simp at ha
                · refine WP.skip ?_
                  refine WP.seq ?_
                  refine WP.region ?_
                  refine RG.pv rfl (PV.move (v := v) rfl rfl) ?_
                  refine RG.callF (vs := [v]) rfl rfl En8 rfl (toRectSS_s (Rs.up h1) hd.up hb hbi (fun v76 ysv76 hev76 => ?_))
                  refine RG.pv rfl (PV.move (v := u) rfl rfl) ?_
                  refine RG.callF (vs := [u]) rfl rfl En9 rfl (toLabelS_s (Rs.up h2) hbl (fun v78 => ?_))
                  refine RG.callF (vs := [v76, v78]) rfl rfl En10 rfl (shortX_i Rs.o RsE.o Rs.o hlen (fun v79 => ?_))
                  refine RG.pv rfl (PV.asg (v := v79) rfl rfl) ?_
                  refine RG.nil ?_
                  refine WP.seq ?_
                  refine WP.seq ?_
                  refine WP.region ?_
                  refine RG.pv rfl (PV.move (v := v79) rfl rfl) ?_
                  refine RG.pv rfl (PV.move (v := v28) rfl rfl) ?_
                  refine RG.callF (vs := [v79, v28]) rfl rfl En11 rfl (eqInt_s Rs.o Rs.o ?_)
                  refine RG.pv rfl (PV.not rfl rfl) ?_
                  refine RG.nil ?_
                  refine WP.cond rfl (fun hb2 => ?_) (fun hb2 => ?_)
                  · simp [*] at hb2
                  · skip
                    refine WP.skip ?_
                    refine WP.seq ?_
                    refine WP.region ?_
                    refine RG.pv rfl (PV.mvI (.inr rfl) rfl) ?_
                    refine RG.nil ?_
                    refine WP.seq ?_
                    refine WP.region ?_
                    refine RG.pv rfl (PV.move (v := v35) rfl rfl) ?_
                    refine RG.pv rfl (PV.mvI (.inl rfl) rfl) ?_
                    refine RG.callF (vs := [v35, _]) rfl rfl En17 rfl (heldInt_s Rs.o (by omega) (by omega) ?_)
                    refine RG.pv rfl (PV.mvI (.inr rfl) rfl) ?_
                    refine RG.nil ?_
                    refine WP.seq ?_
                    refine WP.seq ?_
                    refine WP.region ?_
                    refine RG.pv rfl (PV.mvI (.inl rfl) rfl) ?_
                    refine RG.pv rfl (PV.lss rfl rfl rfl) ?_
                    refine RG.nil ?_
                    refine WP.cond rfl (fun hc2 => ?_) (fun hc2 => ?_)
                    · simp at hc2; omega
                    · refine WP.skip ?_
                      refine WP.seq ?_
                      refine WP.seq ?_
                      refine WP.region ?_
                      refine RG.pv rfl (PV.mvI (.inl rfl) rfl) ?_
                      refine RG.pv rfl (PV.mvI (.inl rfl) rfl) ?_
                      refine RG.pv rfl (PV.neq rfl rfl rfl) ?_
                      refine RG.nil ?_
                      refine WP.cond rfl (fun hd2 => ?_) (fun hd2 => ?_)
                      · simp at hd2
                      · refine WP.skip ?_
                        refine WP.seq ?_
                        refine WP.region ?_
                        refine RG.pv rfl (PV.mvB (.inr rfl) rfl) ?_
                        refine RG.nil ?_
                        refine WP.ret ?_
                        exact ⟨_, _, ResV.one rfl rfl, Cv.p, k⟩
theorem law_OpenNames {v u : Value} {xs : List (Sl Rect)} {ls : List Label} (h1 : Rs G L slT v xs) (hd : RsE G L rectT xs) (h2 : Rs G L labelT u ls) (hlen : ∀ i, i < ls.length → (gd ls i).name.size ≤ 9223372036854775807) (k : R (.bool true) G L) : CallT Tryz.prog 4 #[v, u] G L R := by
  refine CallT.enter (args := _) Tryz.func4 rfl rfl (by kernel_rfl) rfl ?_
  refine WP.seq ?_
  refine WP.region ?_
  refine RG.pv rfl (PV.mvB (.inr rfl) rfl) ?_
  refine RG.nil ?_
  refine WP.seq ?_
  refine WP.region ?_
  refine RG.pv rfl (PV.mvI (.inr rfl) rfl) ?_
  refine RG.nil ?_
  refine WP.seq ?_
  refine WP.region ?_
  refine RG.pv rfl (PV.move (v := v) rfl rfl) ?_
  refine RG.pv rfl (PV.mvI (.inl rfl) rfl) ?_
  refine RG.callF (vs := [v, _]) rfl rfl En5 rfl (szRectSS_s (Rs.up h1) hd.up (by omega) (by omega) (fun r hr hr' => ?_))
  refine RG.pv rfl (PV.mvI (.inr rfl) rfl) ?_
  refine RG.nil ?_
  refine WP.seq ?_
  refine WP.seq ?_
  refine WP.region ?_
  refine RG.pv rfl (PV.mvI (.inl rfl) rfl) ?_
  refine RG.pv rfl (PV.lss rfl rfl rfl) ?_
  refine RG.nil ?_
  refine WP.cond rfl (fun h3 => ?_) (fun h3 => ?_)
  · refine WP.seq ?_
    refine WP.region ?_
    refine RG.pv rfl (PV.mvB (.inr rfl) rfl) ?_
    refine RG.nil ?_
    refine WP.ret ?_
    exact ⟨_, _, ResV.one rfl rfl, Cv.p, k⟩
  · have h3 := of_decide_eq_false h3
    have hsz : szOf xs ≤ 1048576 := by have := hr' (by omega); omega
    have hc0 : 0 ≤ costL lenS xs := costL_nonneg lenS_nn _
    have hb : xs.length ≤ 1048576 := by simp only [szOf] at hsz; omega
    have hbi : ∀ i, i < xs.length → (gd xs i).xs.length ≤ 1048576 := fun i hi => by
      have := costL_mem lenS_nn hi; simp only [lenS, szOf] at *; omega
    have hcx : costL nRS xs ≤ 4194304 := by rw [nRS_lenS]; simp only [szOf] at hsz; omega
    refine WP.skip ?_
    refine WP.seq ?_
    refine WP.region ?_
    refine RG.pv rfl (PV.move (v := u) rfl rfl) ?_
    refine RG.pv rfl (PV.mvI (.inl rfl) rfl) ?_
    refine RG.callF (vs := [u, _]) rfl rfl En6 rfl (szLabelS_s (Rs.up h2) (by omega) (by omega) hlen ?_)
    refine RG.pv rfl (PV.mvI (.inr rfl) rfl) ?_
    refine RG.nil ?_
    refine WP.seq ?_
    refine WP.seq ?_
    refine WP.region ?_
    refine RG.pv rfl (PV.mvI (.inl rfl) rfl) ?_
    refine RG.pv rfl (PV.lss rfl rfl rfl) ?_
    refine RG.nil ?_
    refine WP.cond rfl (fun h4 => ?_) (fun h4 => ?_)
    · refine WP.seq ?_
      refine WP.region ?_
      refine RG.pv rfl (PV.mvB (.inr rfl) rfl) ?_
      refine RG.nil ?_
      refine WP.ret ?_
      exact ⟨_, _, ResV.one rfl rfl, Cv.p, k⟩
    · have h4 := of_decide_eq_false h4
      have hll := szLbS_len (xs := ls) (n := r) (by omega)
      have hbl : ls.length ≤ 1048576 := by omega
      have hcr := onR_len (er xs) ls
      refine WP.skip ?_
      refine WP.seq ?_
      refine WP.region ?_
      refine RG.pv rfl (PV.move (v := v) rfl rfl) ?_
      refine RG.callF (vs := [v]) rfl rfl En8 rfl (toRectSS_s (Rs.up h1) hd.up hb hbi (fun v25 ysv25 hev25 => ?_))
      refine RG.pv rfl (PV.move (v := u) rfl rfl) ?_
      refine RG.callF (vs := [u]) rfl rfl En9 rfl (toLabelS_s (Rs.up h2) hbl (fun v27 => ?_))
      refine RG.callF (vs := [v25, v27]) rfl rfl En18 rfl (opens_r Rs.o RsE.o Rs.o hlen (fun v28 => ?_))
      refine RG.pv rfl (PV.asg (v := v28) rfl rfl) ?_
      refine RG.nil ?_
      refine WP.seq ?_
      refine WP.region ?_
      refine RG.pv rfl (PV.move (v := v) rfl rfl) ?_
      refine RG.callF (vs := [v]) rfl rfl En8 rfl (toRectSS_s (Rs.up h1) hd.up hb hbi (fun v30 ysv30 hev30 => ?_))
      refine RG.pv rfl (PV.asg (v := v30) rfl rfl) ?_
      refine RG.nil ?_
      refine WP.seq ?_
      refine WP.region ?_
      refine RG.pv rfl (PV.move (v := u) rfl rfl) ?_
      refine RG.callF (vs := [u]) rfl rfl En9 rfl (toLabelS_s (Rs.up h2) hbl (fun v32 => ?_))
      refine RG.pv rfl (PV.asg (v := v32) rfl rfl) ?_
      refine RG.nil ?_
      refine WP.seq ?_
      refine WP.region ?_
      refine RG.pv rfl (PV.move (v := v30) rfl rfl) ?_
      refine RG.pv rfl (PV.move (v := v32) rfl rfl) ?_
      refine RG.callF (vs := [v30, v32]) rfl rfl En19 rfl (openX_i Rs.o RsE.o Rs.o hlen (fun v35 => ?_))
      refine RG.pv rfl (PV.asg (v := v35) rfl rfl) ?_
      refine RG.nil ?_
      refine WP.seq ?_
      refine WP.seq ?_
      refine WP.region ?_
      refine RG.pv rfl (PV.move (v := v35) rfl rfl) ?_
      refine RG.pv rfl (PV.move (v := v28) rfl rfl) ?_
      refine RG.callF (vs := [v35, v28]) rfl rfl En20 rfl (eqStr_s Rs.o Rs.o ?_)
      refine RG.pv rfl (PV.not rfl rfl) ?_
      refine RG.nil ?_
      refine WP.cond rfl (fun h5 => ?_) (fun h5 => ?_)
      · simp [*] at h5
      · refine WP.skip ?_
        refine WP.seq ?_
        refine WP.seq ?_
        refine WP.region ?_
        refine RG.pv rfl (PV.move (v := v30) rfl rfl) ?_
        refine RG.pv rfl (PV.move (v := v) rfl rfl) ?_
        refine RG.callF (vs := [v]) rfl rfl En8 rfl (toRectSS_s (Rs.up h1) hd.up hb hbi (fun v42 ysv42 hev42 => ?_))
        refine RG.callF (vs := [v30, v42]) rfl rfl En12 rfl (eqRectSS_s Rs.o RsE.o Rs.o RsE.o ?_)
        refine RG.pv rfl (PV.not rfl rfl) ?_
        refine RG.nil ?_
        refine WP.cond rfl (fun h6 => ?_) (fun h6 => ?_)
        · simp [*] at h6
        · refine WP.skip ?_
          refine WP.seq ?_
          refine WP.seq ?_
          refine WP.region ?_
          refine RG.pv rfl (PV.move (v := v32) rfl rfl) ?_
          refine RG.pv rfl (PV.move (v := u) rfl rfl) ?_
          refine RG.callF (vs := [u]) rfl rfl En9 rfl (toLabelS_s (Rs.up h2) hbl (fun v47 => ?_))
          refine RG.callF (vs := [v32, v47]) rfl rfl En13 rfl (eqLabelS_s Rs.o Rs.o ?_)
          refine RG.pv rfl (PV.not rfl rfl) ?_
          refine RG.nil ?_
          refine WP.cond rfl (fun h7 => ?_) (fun h7 => ?_)
          · simp [*] at h7
          · have hm1 : costL nRS ysv30 ≤ 4194304 := by rw [costL_er hev30]; exact hcx
            have hm5 : costL nLb ls ≤ 4194304 := by rw [nLb_cost]; omega
            have hm2 : costL nS (onR (er ysv30) ls) ≤ 1048576 := by rw [hev30, nS_cost]; omega
            have hm3 : 0 ≤ costL nRS ysv30 := costL_nonneg nSl_nn _
            have hm4 : 0 ≤ costL nS (onR (er ysv30) ls) := by rw [nS_cost]; omega
            have hm6 : 0 ≤ costL nLb ls := by rw [nLb_cost]; omega
            refine WP.skip ?_
            refine WP.seq ?_
            refine WP.region ?_
            refine RG.pv rfl (PV.mvI (.inr rfl) rfl) ?_
            refine RG.nil ?_
            refine WP.seq ?_
            refine WP.region ?_
            refine RG.pv rfl (PV.move (v := v30) rfl rfl) ?_
            refine RG.pv rfl (PV.mvI (.inl rfl) rfl) ?_
            refine RG.callF (vs := [v30, _]) rfl rfl En14 rfl (CallT.exBg ysv30 (CallT.exS v30 (markRectSS_s (by omega) (by omega) ?_)))
            refine RG.pv rfl (PV.mvI (.inr rfl) rfl) ?_
            refine RG.nil ?_
            refine WP.seq ?_
            refine WP.region ?_
            refine RG.pv rfl (PV.move (v := v32) rfl rfl) ?_
            refine RG.pv rfl (PV.mvI (.inl rfl) rfl) ?_
            refine RG.callF (vs := [v32, _]) rfl rfl En15 rfl (CallT.exS v32 (markLabelS_s (by omega) (by omega) ?_))
            refine RG.pv rfl (PV.mvI (.inr rfl) rfl) ?_
            refine RG.nil ?_
            refine WP.seq ?_
            refine WP.seq ?_
            refine WP.region ?_
            refine RG.pv rfl (PV.mvI (.inl rfl) rfl) ?_
            refine RG.pv rfl (PV.lss rfl rfl rfl) ?_
            refine RG.pv rfl (PV.mvB (.inl rfl) rfl) ?_
            refine RG.gs rfl rfl rfl (fun hp => (PV.move (v := v35) rfl rfl)) ?_
            refine RG.gs rfl rfl rfl (fun hp => (PV.move (v := v28) rfl rfl)) ?_
            refine RG.gsC rfl rfl rfl rfl En20 (fun hp => ⟨_, (acons (gs_t hp) (acons (gs_t hp) anil)), eqStr_s Rs.o Rs.o ⟨rfl, rfl, rfl⟩⟩) ?_
            refine RG.gs rfl rfl rfl (fun hp => (PV.not rfl (gs_t hp))) ?_
            refine RG.pv rfl (PV.pickO rfl rfl rfl (fun hq => gs_t (geqF hq))) ?_
            refine RG.nil ?_
            refine WP.cond rfl (fun h8 => ?_) (fun h8 => ?_)
            · simp [*] at h8 <;> omega
            · skip
              refine WP.skip ?_
              refine WP.seq ?_
              refine WP.region ?_
              refine RG.pv rfl (PV.mvI (.inr rfl) rfl) ?_
              refine RG.nil ?_
              refine WP.seq ?_
              refine WP.region ?_
              refine RG.pv rfl (PV.move (v := v35) rfl rfl) ?_
              refine RG.pv rfl (PV.mvI (.inl rfl) rfl) ?_
              refine RG.callF (vs := [v35, _]) rfl rfl En21 rfl (CallT.exS v35 (markStringS_s (by omega) (by omega) ?_))
              refine RG.pv rfl (PV.mvI (.inr rfl) rfl) ?_
              refine RG.nil ?_
              refine WP.seq ?_
              refine WP.region ?_
              refine RG.pv rfl (PV.mvI (.inr rfl) rfl) ?_
              refine RG.nil ?_
              refine WP.seq ?_
              refine WP.region ?_
              refine RG.pv rfl (PV.move (v := v35) rfl rfl) ?_
              refine RG.pv rfl (PV.mvI (.inl rfl) rfl) ?_
              refine RG.callF (vs := [v35, _]) rfl rfl En22 rfl (heldStringS_s Rs.o (by omega) (by omega) ?_)
              refine RG.pv rfl (PV.mvI (.inr rfl) rfl) ?_
              refine RG.nil ?_
              refine WP.seq ?_
              refine WP.seq ?_
              refine WP.region ?_
              refine RG.pv rfl (PV.mvI (.inl rfl) rfl) ?_
              refine RG.pv rfl (PV.lss rfl rfl rfl) ?_
              refine RG.nil ?_
              refine WP.cond rfl (fun h9 => ?_) (fun h9 => ?_)
              · simp at h9; omega
              · refine WP.skip ?_
                refine WP.seq ?_
                refine WP.seq ?_
                refine WP.region ?_
                refine RG.pv rfl (PV.mvI (.inl rfl) rfl) ?_
                refine RG.pv rfl (PV.mvI (.inl rfl) rfl) ?_
                refine RG.pv rfl (PV.neq rfl rfl rfl) ?_
                refine RG.nil ?_
                refine WP.cond rfl (fun ha => ?_) (fun ha => ?_)
                · simp at ha
                · refine WP.skip ?_
                  refine WP.seq ?_
                  refine WP.region ?_
                  refine RG.pv rfl (PV.move (v := v) rfl rfl) ?_
                  refine RG.callF (vs := [v]) rfl rfl En8 rfl (toRectSS_s (Rs.up h1) hd.up hb hbi (fun v76 ysv76 hev76 => ?_))
                  refine RG.pv rfl (PV.move (v := u) rfl rfl) ?_
                  refine RG.callF (vs := [u]) rfl rfl En9 rfl (toLabelS_s (Rs.up h2) hbl (fun v78 => ?_))
                  refine RG.callF (vs := [v76, v78]) rfl rfl En19 rfl (openX_i Rs.o RsE.o Rs.o hlen (fun v79 => ?_))
                  refine RG.pv rfl (PV.asg (v := v79) rfl rfl) ?_
                  refine RG.nil ?_
                  refine WP.seq ?_
                  refine WP.seq ?_
                  refine WP.region ?_
                  refine RG.pv rfl (PV.move (v := v79) rfl rfl) ?_
                  refine RG.pv rfl (PV.move (v := v28) rfl rfl) ?_
                  refine RG.callF (vs := [v79, v28]) rfl rfl En20 rfl (eqStr_s Rs.o Rs.o ?_)
                  refine RG.pv rfl (PV.not rfl rfl) ?_
                  refine RG.nil ?_
                  refine WP.cond rfl (fun hb2 => ?_) (fun hb2 => ?_)
                  · simp [*] at hb2
                  · skip
                    refine WP.skip ?_
                    refine WP.seq ?_
                    refine WP.region ?_
                    refine RG.pv rfl (PV.mvI (.inr rfl) rfl) ?_
                    refine RG.nil ?_
                    refine WP.seq ?_
                    refine WP.region ?_
                    refine RG.pv rfl (PV.move (v := v35) rfl rfl) ?_
                    refine RG.pv rfl (PV.mvI (.inl rfl) rfl) ?_
                    refine RG.callF (vs := [v35, _]) rfl rfl En22 rfl (heldStringS_s Rs.o (by omega) (by omega) ?_)
                    refine RG.pv rfl (PV.mvI (.inr rfl) rfl) ?_
                    refine RG.nil ?_
                    refine WP.seq ?_
                    refine WP.seq ?_
                    refine WP.region ?_
                    refine RG.pv rfl (PV.mvI (.inl rfl) rfl) ?_
                    refine RG.pv rfl (PV.lss rfl rfl rfl) ?_
                    refine RG.nil ?_
                    refine WP.cond rfl (fun hc2 => ?_) (fun hc2 => ?_)
                    · simp at hc2; omega
                    · refine WP.skip ?_
                      refine WP.seq ?_
                      refine WP.seq ?_
                      refine WP.region ?_
                      refine RG.pv rfl (PV.mvI (.inl rfl) rfl) ?_
                      refine RG.pv rfl (PV.mvI (.inl rfl) rfl) ?_
                      refine RG.pv rfl (PV.neq rfl rfl rfl) ?_
                      refine RG.nil ?_
                      refine WP.cond rfl (fun hd2 => ?_) (fun hd2 => ?_)
                      · simp at hd2
                      · refine WP.skip ?_
                        refine WP.seq ?_
                        refine WP.region ?_
                        refine RG.pv rfl (PV.mvB (.inr rfl) rfl) ?_
                        refine RG.nil ?_
                        refine WP.ret ?_
                        exact ⟨_, _, ResV.one rfl rfl, Cv.p, k⟩
end Go.Proofs.YtkiafbneemdajaaGreat
namespace Go.Proofs.YtkiafbneemdajaaGreat
set_option linter.unusedVariables false
set_option linter.unusedSimpArgs false
open Go Go.ChangeShapes Go.WideShapes Go.ChangeAt Go.RowKit Go.Deep
set_option linter.unusedVariables false
def Gw (w : World) : Gh := ⟨wh w, w.os, w.tape, w.output, w.drawn⟩
theorem St.start (w : World) : St (Gw w) [] w := ⟨fun _ => none, trivial, Hp.le_refl _, (fun _ _ h => by cases h), fun _ => .inl rfl, rfl, rfl, rfl, Nat.le_refl _⟩
/-- behind a call that began in W, all of W's blocks are as they were -/
theorem St.below {W w' : World} {G : Gh} {L : List Ch} (l : Gh.le (Gw W) G) (h : St G L w') : Below W.heap.size W w' := by
  obtain ⟨hp, s, l1, l2, d, ok⟩ := h
  have ok' := Gh.le_ok l ok
  have up := Hp.le_trans l.1 l1
  have key : ∀ k, k < W.heap.size → w'.heap[k]? = W.heap[k]? := fun k hk => by
    have : (Gw W).f k = some W.heap[k] := by simp [Gw, wh, hk]
    have h2 := up k _ this
    simp only [wh] at h2
    rw [h2]; simp [hk]
  refine ⟨ok'.1, ok'.2.1, ok'.2.2.1, ?_, key⟩
  by_cases h0 : W.heap.size = 0
  · omega
  · have := key (W.heap.size - 1) (by omega)
    rw [Array.getElem?_eq_getElem (by omega : W.heap.size - 1 < W.heap.size)] at this
    have := (Array.getElem?_eq_some_iff.1 this).1
    omega
def Opn {ρ : Type} (P : Program) (t : TypeId) (F : FT ρ) (ok : Gh → ρ → Prop) : Prop :=
  ∀ {H : Type} {enc : TypeId × Value → H} {w : World} {fuel : Nat} {cs : List Value} {x : DataW H × List MemPlace}, DataW.trod enc P w 0 (fun _ => true) true fuel t cs = some x → ∃ a : ρ, cs = F.enc a ∧ ok (Gw w) a
def okI (_ : Gh) (n : Int) : Prop := -9223372036854775808 ≤ n ∧ n ≤ 9223372036854775807
def okS (_ : Gh) (s : ByteArray) : Prop := s.size ≤ 9223372036854775807
def okL {ρ : Type} [Inhabited ρ] (F : FT ρ) (ok : Gh → ρ → Prop) (G : Gh) (v : Value) : Prop := ∃ xs : List ρ, SL G F v xs ∧ ∀ i, i < xs.length → ok G (gd xs i)
section
variable {P : Program} {t e : TypeId}
theorem opnI (ht : P.underlying t = some (.int .i64)) : Opn P t intT okI := fun h => by
  obtain ⟨n, rfl, _, hw⟩ := DataW.trod_int ht h
  refine ⟨n, rfl, ?_⟩
  have : IntKind.i64.min ≤ n ∧ n ≤ IntKind.i64.max := by simpa [Lit.wf] using hw
  simp only [show IntKind.i64.min = -9223372036854775808 from rfl, show IntKind.i64.max = 9223372036854775807 from rfl] at this
  exact this
theorem opnS (ht : P.underlying t = some .string) : Opn P t strT okS := fun h => by
  obtain ⟨s, rfl, _, hs⟩ := DataW.trod_string ht h
  refine ⟨s, rfl, ?_⟩
  simp only [maxLen] at hs
  exact (by omega : s.size ≤ 9223372036854775807)
theorem cells_get {w : World} {a : Addr} {n : Nat} {cs : List Value} (h : w.cells? 0 a n = some cs) : cs.length = n ∧ ∀ j c, cs[j]? = some c → w.cell? (a.add j) = some c := by
  obtain ⟨_, h1, h2⟩ := World.cells?_some h
  refine ⟨h1, fun j c hc => ?_⟩
  have hj := (List.getElem?_eq_some_iff.1 hc).1
  rw [h2 j (by omega), hc]
theorem opnL {ρ : Type} [Inhabited ρ] {F : FT ρ} {ok : Gh → ρ → Prop} (ht : P.underlying t = some (.slice e)) (hE : Opn P e F ok) (hc : P.cellsOf e = F.sz) (h0 : 0 < F.sz) : Opn P t rawT (okL F ok) := fun {H enc w fuel cs x} h => by
  rcases open_slice ht h with ⟨rfl, _⟩ | ⟨a, len, cap, m, n, D, Pl, rfl, _, hl, hm, hmm, _, hel⟩
  · exact ⟨_, rfl, [], ⟨⟨0, Nat.le_refl _, Nat.zero_le _, .inr ⟨⟨_, rfl⟩, rfl⟩⟩, fun j c hj => by simp [FT.flat] at hj⟩, fun i hi => by simp at hi⟩
  have hmcap : m = cap := by simpa using hmm
  refine ⟨.slice (some a) len cap, rfl, ?_⟩
  have hall : ∀ i, i < len → ∃ r : ρ, w.cells? 0 (a.add (i * F.sz)) F.sz = some (F.enc r) ∧ ok (Gw w) r := fun i hi => by
    obtain ⟨cs', h1, h2⟩ := hel i (by omega)
    obtain ⟨r, rfl, hr⟩ := hE h2
    rw [hc] at h1
    exact ⟨r, h1, hr⟩
  have : ∃ f : Nat → ρ, ∀ i, i < len → w.cells? 0 (a.add (i * F.sz)) F.sz = some (F.enc (f i)) ∧ ok (Gw w) (f i) := choose_lt hall
  obtain ⟨f, hf⟩ := this
  have hlen : ((List.range len).map f).length = len := by simp
  have hget : ∀ i, i < len → ((List.range len).map f)[i]? = some (f i) := fun i hi => by simp [hi]
  have hsp : len ≠ 0 → a.spot = none := fun hz => by
    obtain ⟨h1, _⟩ := hf 0 (by omega)
    obtain ⟨hl1, hg⟩ := cells_get h1
    cases hq : (F.enc (f 0))[0]? with
    | none => rw [List.getElem?_eq_none_iff] at hq; omega
    | some c =>
      have hcell := hg 0 c hq
      cases hs : a.spot with
      | none => rfl
      | some s =>
        exfalso
        have h3 : ((a.add (0 * F.sz)).add 0).spot.isSome = true := by simp [Addr.add, hs]
        unfold World.cell? at hcell
        split at hcell
        · rw [if_pos h3] at hcell; cases hcell
        · cases hcell
  refine ⟨(List.range len).map f, ⟨⟨cap, by simpa using hl, hm, ?_⟩, ?_⟩, fun i hi => ?_⟩
  · by_cases hz : len = 0
    · exact .inr ⟨⟨some a, by simp⟩, by simpa using hz⟩
    · refine .inl ⟨a.block, a.off, ?_⟩
      have hsp := hsp hz
      simp only [hlen]
      obtain ⟨ab, ao, az⟩ := a
      simp only at hsp
      subst hsp; rfl
  · intro j c hj
    by_cases hz : len = 0
    · subst hz; simp [FT.flat] at hj
    have hsp := hsp hz
    have hjl : j < len * F.sz := by
      have := (List.getElem?_eq_some_iff.1 hj).1
      rwa [FT.flat_len, hlen] at this
    have hq : j / F.sz < len := (Nat.div_lt_iff_lt_mul h0).2 hjl
    have hr : j % F.sz < F.sz := Nat.mod_lt _ h0
    have hjd : j / F.sz * F.sz + j % F.sz = j := by rw [Nat.mul_comm]; exact Nat.div_add_mod j F.sz
    obtain ⟨h1, _⟩ := hf (j / F.sz) hq
    obtain ⟨_, hg⟩ := cells_get h1
    have hc' : (F.enc (f (j / F.sz)))[j % F.sz]? = some ((F.enc (f (j / F.sz)))[j % F.sz]'(by rw [F.len]; exact hr)) := List.getElem?_eq_getElem _
    have hfl := F.flat_get (hget _ hq) hc'
    rw [hjd, hj] at hfl
    have hcell := hg _ _ hc'
    obtain ⟨ab, ao, az⟩ := a
    simp only at hsp
    subst hsp
    rw [add_none, add_none, cell_hc, Nat.add_assoc, hjd] at hcell
    simp only [sb, so, Gw]
    rw [hcell]; exact hfl.symm
  · have hi' : i < len := by simpa using hi
    have : gd ((List.range len).map f) i = f i := by simp [gd, hi']
    rw [this]; exact (hf i hi').2
end
def okSl {ρ : Type} [Inhabited ρ] (F : FT ρ) (ok : Gh → ρ → Prop) (G : Gh) (s : Sl ρ) : Prop := SL G F s.v s.xs ∧ ∀ i, i < s.xs.length → ok G (gd s.xs i)
theorem opnSl {P : Program} {t e : TypeId} {ρ : Type} [Inhabited ρ] {F : FT ρ} {ok : Gh → ρ → Prop} (ht : P.underlying t = some (.slice e)) (hE : Opn P e F ok) (hc : P.cellsOf e = F.sz) (h0 : 0 < F.sz) : Opn P t slT (okSl F ok) := fun h => by
  obtain ⟨v, rfl, xs, h1, h2⟩ := opnL ht hE hc h0 h
  exact ⟨⟨v, xs⟩, rfl, h1, h2⟩
section
variable {P : Program} {t e : TypeId} {H : Type} {enc : TypeId × Value → H} {W : World} {r : Reach} {base : Nat} {v : Value} {d : DataW H} {ps : List MemPlace}
theorem argL {ok : Gh → Value → Prop} (ht : P.underlying t = some (.slice e)) (hO : Opn P t rawT ok) (hv : Value.okWide P W r base t v) (h : DataW.Trod enc P W 0 (fun _ => true) true t v d ps) : ok (Gw W) v := by
  obtain ⟨a, n, c, rfl⟩ := okWide_slice ht hv
  obtain ⟨fuel, hf⟩ := h
  obtain ⟨m, e1, hm⟩ := hO hf
  simp [Value.cells, rawT] at e1
  subst e1; exact hm
theorem argSl {ρ : Type} {ok : Gh → Sl ρ → Prop} (ht : P.underlying t = some (.slice e)) (hO : Opn P t slT ok) (hv : Value.okWide P W r base t v) (h : DataW.Trod enc P W 0 (fun _ => true) true t v d ps) : ∃ s : Sl ρ, v = s.v ∧ ok (Gw W) s := by
  obtain ⟨a, n, c, rfl⟩ := okWide_slice ht hv
  obtain ⟨fuel, hf⟩ := h
  obtain ⟨m, e1, hm⟩ := hO hf
  simp [Value.cells, slT] at e1
  exact ⟨m, e1, hm⟩
theorem trodAll_stays (hl : laidOutB P = true) {W' : World} (hb : Below W.heap.size W W') : ∀ {ts : List TypeId} {vs : List Value} {ds : List (DataW H)} {ps : List MemPlace}, (∀ t ∈ ts, P.readableRec t = true ∧ t < P.types.size) → (∀ x ∈ ps, x.block < W.heap.size) →
    DataW.TrodAll enc P W 0 (fun _ => true) true ts vs ds ps → DataW.TrodAll enc P W' 0 (fun b => decide (b < W.heap.size)) true ts vs ds ps
  | [], [], [], _, _, _, h => h
  | t :: ts, v :: vs, d :: ds, ps, hr, hlt, h => by
    obtain ⟨p, q, h1, h2, rfl⟩ := h
    have := hr t (.head _)
    exact ⟨p, q, Below.trod hl this.1 this.2 h1 hb (fun x hx => hlt x (List.mem_append_left _ hx)), trodAll_stays hl hb (fun t ht => hr t (.tail _ ht)) (fun x hx => hlt x (List.mem_append_right _ hx)) h2, rfl⟩
end
def recsB (P : Program) (ts : List TypeId) : Bool := ts.all fun t => P.readableRec t && Nat.blt t P.types.size
theorem recs_of {P : Program} {ts : List TypeId} (h : recsB P ts = true) : ∀ t ∈ ts, P.readableRec t = true ∧ t < P.types.size := by
  intro t ht
  have := List.all_eq_true.1 h t ht
  simp only [Bool.and_eq_true] at this
  exact ⟨this.1, Nat.le_of_ble_eq_true this.2⟩
/-- A LAW, LIFTED: the call returns true, the arguments read as they did. -/
theorem law_lifted {H : Type} {enc : TypeId × Value → H} {C : Checked} {os : Os} {f : FuncId} {fn : Func} {s : ChangeSpec} {tb : TypeId} (own : ownKnob C.prog.godebug = none) (started : os.Started) (noInit : C.prog.inits.idxOf? f = none) (hfn : C.prog.funcs[f]? = some fn) (hl : laidOutB C.prog = true)
    (hvars : s.vars = []) (hr : recsB C.prog fn.params.toList = true) (hres : fn.resultTypes = #[tb]) (htb : C.prog.underlying tb = some .bool)
    (hsp : ∀ ds : List (DataW H), ds.length = fn.params.toList.length → s.fn H ds = { results := [.lit (.bool true)], args := ds })
    (witness : ∃ (w : World) (tape : Tape) (i : Input), w.os = os ∧ (w.forCall tape i).Shaped C.prog ∧ i.vars = [] ∧ Input.okWide C.prog (w.forCall tape i) .any w.heap.size f i ∧
      s.pre6 enc C.prog fn [] false (w.forCall tape i).memory i.args ∧ ({} : Assume).holds C.prog (lone (Frame.enter C.prog f i.args .normal) [] (w.forCall tape i)))
    (walk : ∀ (W : World) (base : Nat) (args : Array Value) (ds : List (DataW H)) (ps : List MemPlace), (∀ (j : Nat) t v, fn.params[j]? = some t → args[j]? = some v → Value.okWide C.prog W .any base t v) →
      DataW.TrodAll enc C.prog W 0 (fun _ => true) true fn.params.toList args.toList ds ps → CallT C.prog f args (Gw W) [] fun v G _ => v = .bool true ∧ Gh.le (Gw W) G) :
    ReturnsInHanded {} C os f .any (s.pre6 enc C.prog fn [] false) (s.post enc C.prog fn false true false false) := by
  refine returnsInHanded_of_change own started noInit hfn witness ?_
  intro W base args ds gs before hval hW _ _
  have hW' := hW
  obtain ⟨p, q, hA, hV, rfl, hfz, hnd⟩ := hW
  rw [hvars] at hV
  obtain ⟨rfl, rfl⟩ := trodVars_none hV
  refine ((walk W base args ds p hval hA).run (St.start W)).mono ?_
  rintro e W' ⟨v, G, L, rfl, hs, rfl, hG⟩
  have hb := hs.below hG
  have hlt : ∀ x ∈ p, x.block < W.heap.size := fun x hx => hW'.lt x (List.mem_append_left _ hx)
  have hlen : ds.length = fn.params.toList.length := by
    have : ∀ (ts : List TypeId) (vs : List Value) (ds : List (DataW H)) (ps : List MemPlace), DataW.TrodAll enc C.prog W 0 (fun _ => true) true ts vs ds ps → ds.length = ts.length := by
      intro ts
      induction ts with
      | nil => intro vs ds ps h; cases vs <;> cases ds <;> simp_all [DataW.TrodAll]
      | cons t ts ih =>
        intro vs ds ps h
        cases vs <;> cases ds <;> simp only [DataW.TrodAll] at h
        obtain ⟨_, _, _, h2, _⟩ := h
        simp [ih _ _ _ h2]
    exact this _ _ _ _ hA
  refine ⟨_, rfl, ds, [], _, [], p, [], hW', ?_, ?_, ?_, hb.frame _, fun h => by cases h⟩
  · rw [List.append_nil, hsp ds hlen, hres]
    exact trodAll_mk1 (shut_bool htb true)
  · rw [List.append_nil, hsp ds hlen]
    exact trodAll_stays hl hb (recs_of hr) hlt hA
  · rw [List.append_nil, hsp ds hlen, hvars]
    exact rfl
end Go.Proofs.YtkiafbneemdajaaGreat
