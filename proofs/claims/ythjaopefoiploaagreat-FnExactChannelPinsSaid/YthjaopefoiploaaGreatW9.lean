/-
  Contracts: pieces and nets: copies, sizes, comparisons; the number of unit cells of a net; the law of it.
-/
import Derived.Test.YthjaopefoiploaaGreatW8
import Derived.Test.YthjaopefoiploaaGreatCanon3
namespace Go.Proofs.YthjaopefoiploaaGreat
open Go
set_option maxRecDepth 20000
set_option linter.unusedSimpArgs false
variable {G : Gh} {L : List Ch} {R : Value → Gh → List Ch → Prop}
def regs (xs : List Piece) : List (Sl Rect) := xs.map Piece.reg
theorem regs_len (xs : List Piece) : (regs xs).length = xs.length := by simp [regs]
theorem regs_gd {xs : List Piece} {i : Nat} (h : i < xs.length) : gd (regs xs) i = (gd xs i).reg := gd_map _ h
theorem RsE.reg {xs : List Piece} (h : RsE G L rectT (regs xs)) {i : Nat} (hi : i < xs.length) : Rs G L rectT (gd xs i).reg.v (gd xs i).reg.xs := by
  have := h i (by rw [regs_len]; exact hi); rwa [regs_gd hi] at this
def erP (p : Piece) : Int × List Rect := (p.layer, p.reg.xs)
def erPs (xs : List Piece) : List (Int × List Rect) := xs.map erP
theorem erPs_len (xs : List Piece) : (erPs xs).length = xs.length := by simp [erPs]
theorem erPs_gd {xs : List Piece} {i : Nat} (h : i < xs.length) : gd (erPs xs) i = erP (gd xs i) := gd_map _ h
theorem erPs_get {xs ys : List Piece} (h : erPs xs = erPs ys) {i : Nat} (hi : i < ys.length) : erP (gd xs i) = erP (gd ys i) := by
  have hl : xs.length = ys.length := by rw [← erPs_len, ← erPs_len, h]
  rw [← erPs_gd (by omega), ← erPs_gd hi, h]
theorem erPs_of {xs ys : List Piece} (hl : xs.length = ys.length) (h : ∀ i, i < ys.length → erP (gd xs i) = erP (gd ys i)) : erPs xs = erPs ys := by
  apply List.ext_getElem?
  intro i
  by_cases hi : i < ys.length
  · rw [getG (by rw [erPs_len]; omega), getG (by rw [erPs_len]; omega), erPs_gd (by omega), erPs_gd hi, h i hi]
  · rw [List.getElem?_eq_none (by rw [erPs_len]; omega), List.getElem?_eq_none (by rw [erPs_len]; omega)]
theorem erPs_regs {xs ys : List Piece} (h : erPs xs = erPs ys) : er (regs xs) = er (regs ys) := by
  have : ∀ zs : List Piece, er (regs zs) = (erPs zs).map Prod.snd := fun zs => by simp [er, regs, erPs, erP, Function.comp_def]
  rw [this, this, h]

/-! ## copies -/
/-! ## sizes -/
/-! ## comparisons -/
/-! ## the unit cells of a net -/
def netC (l : List (List Rect)) : Int := bif l.all isReg then costL areaS l else -1
theorem netC_false {l : List (List Rect)} {i : Nat} (h : i < l.length) (e : isReg (gd l i) = false) : netC l = -1 := by
  have : l.all isReg = false := by
    rw [List.all_eq_false]; exact ⟨gd l i, by rw [gd_eq h]; exact List.getElem_mem _, by simp [e]⟩
  simp [netC, this]
theorem netC_all {l : List (List Rect)} (h : ∀ i, i < l.length → isReg (gd l i) = true) : netC l = costL areaS l := by
  have : l.all isReg = true := by
    rw [List.all_eq_true]
    intro x hx
    obtain ⟨j, hj', rfl⟩ := List.getElem_of_mem hx
    rw [← gd_eq hj']; exact h j hj'
  simp [netC, this]
theorem areaS_reg {xs : List Rect} (h : isReg xs = true) : areaS xs = cnt (bits xs) := by
  have := cnt_canon (bits_length xs); rwa [isReg_eq h] at this
theorem area_bnd {l : List (List Rect)} (h : ∀ i, i < l.length → isReg (gd l i) = true) : ∀ i, i ≤ l.length → 0 ≤ costL areaS (l.take i) ∧ costL areaS (l.take i) ≤ 6400 * i
  | 0, _ => by simp [costL]
  | i + 1, hi => by
    have ih := area_bnd h i (by omega)
    have h1 := areaS_reg (h i (by omega))
    have h2 := cnt_le (bits (gd l i))
    rw [bits_length] at h2
    rw [costL_take _ (by omega), h1]; omega
theorem erregs_gd {xs : List Piece} {i : Nat} (h : i < xs.length) : gd (er (regs xs)) i = (gd xs i).reg.xs := by rw [er_gd, regs_gd h]
end Go.Proofs.YthjaopefoiploaaGreat
