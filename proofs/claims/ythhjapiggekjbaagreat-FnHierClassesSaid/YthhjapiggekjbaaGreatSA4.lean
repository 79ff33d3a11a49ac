/-
  Contracts of functions and plain facts that the last text of this folder uses, part 4.
-/
import Derived.Test.YthhjapiggekjbaaGreatSA3
namespace Go.Proofs.YthhjapiggekjbaaGreat
set_option linter.unusedVariables false
set_option linter.unusedSimpArgs false
open Go
set_option linter.unusedSimpArgs false
set_option linter.unusedVariables false
set_option maxRecDepth 20000
/-- a cell, without its memory -/
structure ECell where
  name : ByteArray
  shapes : List Shape
  labels : List Label
  insts : List Inst
  deriving DecidableEq, Inhabited
def erCl (c : Cell) : ECell := ⟨c.name, c.shapes.xs, c.labels.xs, c.insts.xs⟩
def erCls (xs : List Cell) : List ECell := xs.map erCl
theorem erCls_len (xs : List Cell) : (erCls xs).length = xs.length := by simp [erCls]
theorem erCls_gd {xs : List Cell} {i : Nat} (h : i < xs.length) : gd (erCls xs) i = erCl (gd xs i) := gd_map _ h
def okSh (s : Shape) : Bool := within s.layer 0 7 && validRect s.box
def okIn (k : Int) (n : Inst) : Bool :=
  within n.cell 0 (k - 1) && validT n.place && within n.cols 1 4 && within n.rows 1 4 && within n.sx (-80) 80 && within n.sy (-80) 80 && (decide (n.sx = 0) || decide (1 < n.cols)) && (decide (n.sy = 0) || decide (1 < n.rows))
def okCell (k : Int) (c : ECell) : Bool :=
  isName c.name && decide ((c.shapes.length : Int) ≤ 24) && decide ((c.labels.length : Int) ≤ 8) && decide ((c.insts.length : Int) ≤ 8) && !(c.shapes.any fun s => !okSh s) && !(c.labels.any fun l => !validLb l) && !(c.insts.any fun n => !okIn k n)
def nameAt (cs : List ECell) (i : Nat) : Bool := decide (∀ j, j < i → (gd cs j).name ≠ (gd cs i).name)
def cellAt (cs : List ECell) (i : Nat) : Bool := okCell i (gd cs i) && nameAt cs i
def okLib (cs : List ECell) : Bool := decide (1 ≤ cs.length) && decide (cs.length ≤ 8) && decide (∀ i, i < cs.length → cellAt cs i = true)
theorem okLib_false {cs : List ECell} {i : Nat} (h : i < cs.length) (e : cellAt cs i = false) : okLib cs = false := by
  simp only [okLib, Bool.and_eq_false_iff, decide_eq_false_iff_not]
  exact .inr fun hh => by rw [hh i h] at e; cases e
theorem okLib_all {cs : List ECell} (h1 : 1 ≤ cs.length) (h2 : cs.length ≤ 8) (h : ∀ i, i < cs.length → cellAt cs i = true) : okLib cs = true := by
  simp only [okLib, Bool.and_eq_true, decide_eq_true_eq]
  exact ⟨⟨h1, h2⟩, h⟩
theorem okLib_len {cs : List ECell} (h : okLib cs = true) : 1 ≤ cs.length ∧ cs.length ≤ 8 := by
  simp only [okLib, Bool.and_eq_true, decide_eq_true_eq] at h; exact h.1
theorem okLib_cell {cs : List ECell} (h : okLib cs = true) {i : Nat} (hi : i < cs.length) : okCell i (gd cs i) = true := by
  simp only [okLib, Bool.and_eq_true, decide_eq_true_eq] at h
  have := h.2 i hi
  simp only [cellAt, Bool.and_eq_true] at this; exact this.1
theorem any_not {α : Type} [Inhabited α] {p : α → Bool} {xs : List α} (h : (xs.any fun a => !p a) = false) {i : Nat} (hi : i < xs.length) : p (gd xs i) = true := by
  rw [List.any_eq_false] at h
  have := h (gd xs i) (gd_mem hi)
  simpa using this
theorem okLib_inst {cs : List ECell} (h : okLib cs = true) {i j : Nat} (hi : i < cs.length) (hj : j < (gd cs i).insts.length) : okIn i (gd (gd cs i).insts j) = true := by
  have := okLib_cell h hi
  simp only [okCell, Bool.and_eq_true, Bool.not_eq_true'] at this
  exact any_not this.2 hj
theorem okLib_shape {cs : List ECell} (h : okLib cs = true) {i j : Nat} (hi : i < cs.length) (hj : j < (gd cs i).shapes.length) : okSh (gd (gd cs i).shapes j) = true := by
  have := okLib_cell h hi
  simp only [okCell, Bool.and_eq_true, Bool.not_eq_true'] at this
  exact any_not this.1.1.2 hj
theorem okLib_cnt {cs : List ECell} (h : okLib cs = true) {i : Nat} (hi : i < cs.length) : (gd cs i).insts.length ≤ 8 ∧ (gd cs i).shapes.length ≤ 24 := by
  have := okLib_cell h hi
  simp only [okCell, Bool.and_eq_true, decide_eq_true_eq] at this
  omega
/-- what an instance of a valid library gives -/
theorem okIn_bd {k : Int} {n : Inst} (h : okIn k n = true) : (0 ≤ n.cell ∧ n.cell ≤ k - 1) ∧ validT n.place = true ∧ (1 ≤ n.cols ∧ n.cols ≤ 4) ∧ (1 ≤ n.rows ∧ n.rows ≤ 4) ∧ (-80 ≤ n.sx ∧ n.sx ≤ 80) ∧ (-80 ≤ n.sy ∧ n.sy ≤ 80) := by
  simp only [okIn, within, Bool.and_eq_true, decide_eq_true_eq] at h
  exact ⟨h.1.1.1.1.1.1.1, h.1.1.1.1.1.1.2, h.1.1.1.1.1.2, h.1.1.1.1.2, h.1.1.1.2, h.1.1.2⟩
theorem range_gd {n q : Nat} (h : q < n) : gd (List.range n) q = q := by unfold gd; simp [h]
def elPlace (n : Inst) (c r : Int) : Trans := ⟨n.place.o, n.place.x + c * n.sx, n.place.y + r * n.sy⟩
def elsOf (n : Inst) : List HElem := (List.range (n.rows.toNat * n.cols.toNat)).map fun q => ⟨n.cell, elPlace n ((q % n.cols.toNat : Nat) : Int) ((q / n.cols.toNat : Nat) : Int)⟩
def elems (ns : List Inst) : List HElem := ns.flatMap elsOf
theorem elsOf_len (n : Inst) : (elsOf n).length = n.rows.toNat * n.cols.toNat := by simp [elsOf]
theorem elsOf_gd {n : Inst} {c r : Nat} (hc : c < n.cols.toNat) (hr : r < n.rows.toNat) : r * n.cols.toNat + c < (elsOf n).length ∧ gd (elsOf n) (r * n.cols.toNat + c) = ⟨n.cell, elPlace n c r⟩ := by
  have h1 : r * n.cols.toNat + c < n.rows.toNat * n.cols.toNat := by
    have := Nat.mul_le_mul_right n.cols.toNat (show r + 1 ≤ n.rows.toNat by omega)
    rw [Nat.add_mul] at this; omega
  refine ⟨by rw [elsOf_len]; exact h1, ?_⟩
  have hm : (r * n.cols.toNat + c) % n.cols.toNat = c := by rw [Nat.add_comm, Nat.add_mul_mod_self_right, Nat.mod_eq_of_lt hc]
  have hd : (r * n.cols.toNat + c) / n.cols.toNat = r := by rw [Nat.add_comm, Nat.add_mul_div_right _ _ (by omega), Nat.div_eq_of_lt hc, Nat.zero_add]
  have hr : gd (List.range (n.rows.toNat * n.cols.toNat)) (r * n.cols.toNat + c) = r * n.cols.toNat + c := range_gd h1
  rw [elsOf, gd_map _ (by simpa using h1), hr, hm, hd]
theorem elsOf_step {n : Inst} {c r : Nat} (hc : c < n.cols.toNat) (hr : r < n.rows.toNat) : (elsOf n).take (r * n.cols.toNat + (c + 1)) = (elsOf n).take (r * n.cols.toNat + c) ++ [⟨n.cell, elPlace n c r⟩] := by
  obtain ⟨h1, h2⟩ := elsOf_gd hc hr
  rw [← Nat.add_assoc, List.take_add_one, getG h1, h2]; rfl
theorem elems_take {ns : List Inst} {i : Nat} (h : i < ns.length) : elems (ns.take (i + 1)) = elems (ns.take i) ++ elsOf (gd ns i) := by
  rw [elems, elems, List.take_add_one, getG h, List.flatMap_append]; simp
theorem elems_split {ns : List Inst} {i : Nat} (h : i < ns.length) : elems ns = elems (ns.take i) ++ elsOf (gd ns i) ++ elems (ns.drop (i + 1)) := by
  conv => lhs; rw [← List.take_append_drop (i + 1) ns]
  rw [elems, List.flatMap_append]
  have := elems_take h
  rw [elems] at this
  rw [this]; rfl
theorem elems_at {ns : List Inst} {i c r : Nat} (h : i < ns.length) (hc : c < (gd ns i).cols.toNat) (hr : r < (gd ns i).rows.toNat) :
    (elems (ns.take i)).length + (r * (gd ns i).cols.toNat + c) < (elems ns).length ∧ gd (elems ns) ((elems (ns.take i)).length + (r * (gd ns i).cols.toNat + c)) = ⟨(gd ns i).cell, elPlace (gd ns i) c r⟩ := by
  obtain ⟨h1, h2⟩ := elsOf_gd hc hr
  rw [elems_split h]
  refine ⟨by simp only [List.length_append]; omega, ?_⟩
  rw [List.append_assoc, gd_app_at, gd_app_l h1, h2]
/-- each element is one of an instance -/
theorem elems_mem {ns : List Inst} {e : HElem} (h : e ∈ elems ns) : ∃ j c r : Nat, j < ns.length ∧ c < (gd ns j).cols.toNat ∧ r < (gd ns j).rows.toNat ∧ e = ⟨(gd ns j).cell, elPlace (gd ns j) c r⟩ := by
  obtain ⟨n, hn, he⟩ := List.mem_flatMap.1 h
  obtain ⟨j, hj, rfl⟩ := List.getElem_of_mem hn
  rw [← gd_eq hj] at he
  obtain ⟨q, hq, rfl⟩ := List.mem_map.1 he
  have hq := List.mem_range.1 hq
  have h0 : 0 < (gd ns j).cols.toNat := by
    rcases Nat.eq_zero_or_pos (gd ns j).cols.toNat with h | h
    · rw [h] at hq; omega
    · exact h
  exact ⟨j, q % (gd ns j).cols.toNat, q / (gd ns j).cols.toNat, hj, Nat.mod_lt _ h0, (Nat.div_lt_iff_lt_mul h0).2 hq, rfl⟩
theorem mul_bd {a b A B : Int} (ha : 0 ≤ a ∧ a ≤ A) (hb : -B ≤ b ∧ b ≤ B) (hB : 0 ≤ B) : -(A * B) ≤ a * b ∧ a * b ≤ A * B := by
  have h1 : a * b ≤ a * B := Int.mul_le_mul_of_nonneg_left hb.2 ha.1
  have h2 : a * -B ≤ a * b := Int.mul_le_mul_of_nonneg_left hb.1 ha.1
  have h3 : a * B ≤ A * B := Int.mul_le_mul_of_nonneg_right ha.2 hB
  rw [Int.mul_neg] at h2
  omega
theorem elPlace_bd {k : Int} {n : Inst} (h : okIn k n = true) {c r : Nat} (hc : c < n.cols.toNat) (hr : r < n.rows.toNat) : (0 ≤ (elPlace n c r).o ∧ (elPlace n c r).o ≤ 7) ∧ (-320 ≤ (elPlace n c r).x ∧ (elPlace n c r).x ≤ 320) ∧ -320 ≤ (elPlace n c r).y ∧ (elPlace n c r).y ≤ 320 := by
  obtain ⟨_, h2, h3, h4, h5, h6⟩ := okIn_bd h
  obtain ⟨q1, q2, q3⟩ := validT_iff.1 h2
  have e1 := mul_bd (a := (c : Int)) (b := n.sx) (A := 3) (B := 80) (by omega) h5 (by omega)
  have e2 := mul_bd (a := (r : Int)) (b := n.sy) (A := 3) (B := 80) (by omega) h6 (by omega)
  refine ⟨q1, ?_, ?_⟩ <;> simp only [elPlace] <;> omega
theorem elem_bd {cs : List ECell} (h : okLib cs = true) {k : Nat} (hk : k < cs.length) {i : Nat} (hi : i < (elems (gd cs k).insts).length) :
    (0 ≤ (gd (elems (gd cs k).insts) i).cell ∧ (gd (elems (gd cs k).insts) i).cell < k) ∧ (0 ≤ (gd (elems (gd cs k).insts) i).place.o ∧ (gd (elems (gd cs k).insts) i).place.o ≤ 7) ∧ (-320 ≤ (gd (elems (gd cs k).insts) i).place.x ∧ (gd (elems (gd cs k).insts) i).place.x ≤ 320) ∧ -320 ≤ (gd (elems (gd cs k).insts) i).place.y ∧ (gd (elems (gd cs k).insts) i).place.y ≤ 320 := by
  obtain ⟨j, c, r, hj, hc, hr, e⟩ := elems_mem (gd_mem hi)
  have ho := okLib_inst h hk hj
  rw [e]
  exact ⟨by have := (okIn_bd ho).1; simp only; omega, elPlace_bd ho hc hr⟩
theorem elems_bd {cs : List ECell} (h : okLib cs = true) {k : Nat} (hk : k < cs.length) : ∀ i, i ≤ (gd cs k).insts.length → (elems ((gd cs k).insts.take i)).length ≤ 16 * i
  | 0, _ => by simp [elems]
  | i + 1, hi => by
    have ih := elems_bd h hk i (by omega)
    obtain ⟨_, _, h3, h4, _, _⟩ := okIn_bd (okLib_inst h hk (j := i) (by omega))
    have := Nat.mul_le_mul (show (gd (gd cs k).insts i).rows.toNat ≤ 4 by omega) (show (gd (gd cs k).insts i).cols.toNat ≤ 4 by omega)
    rw [elems_take (by omega), List.length_append, elsOf_len]; omega
theorem elems_len_bd {cs : List ECell} (h : okLib cs = true) {k : Nat} (hk : k < cs.length) : (elems (gd cs k).insts).length ≤ 128 := by
  have := elems_bd h hk _ (Nat.le_refl _)
  rw [List.take_of_length_le (Nat.le_refl _)] at this
  have := (okLib_cnt h hk).1
  omega
def cntI (ks : List Int) (n : Inst) : Int := n.cols * n.rows * gd ks n.cell.toNat
def ownCnt (ks : List Int) (ns : List Inst) : Int := 1 + costL (cntI ks) ns
def cnts (cs : List ECell) : Nat → List Int
  | 0 => []
  | n + 1 => cnts cs n ++ [ownCnt (cnts cs n) (gd cs n).insts]
theorem cnts_len (cs : List ECell) : ∀ n, (cnts cs n).length = n
  | 0 => rfl
  | n + 1 => by simp [cnts, cnts_len cs n]
def cntOf (cs : List ECell) (k : Nat) : Int := ownCnt (cnts cs k) (gd cs k).insts
theorem cnts_gd (cs : List ECell) : ∀ {n i : Nat}, i < n → gd (cnts cs n) i = cntOf cs i
  | n + 1, i, h => by
    rw [cnts]
    by_cases e : i < n
    · rw [gd_app_l (by rw [cnts_len]; exact e), cnts_gd cs e]
    · obtain rfl : i = n := by omega
      have := gd_app_r (xs := cnts cs i) (a := ownCnt (cnts cs i) (gd cs i).insts)
      rw [cnts_len] at this
      rw [this]; rfl
theorem costL_bdH {α : Type} [Inhabited α] {n : α → Int} {B : Int} (hB : 0 ≤ B) {xs : List α} (h : ∀ i, i < xs.length → 0 ≤ n (gd xs i) ∧ n (gd xs i) ≤ B) : ∀ i, i ≤ xs.length → 0 ≤ costL n (xs.take i) ∧ costL n (xs.take i) ≤ B * i
  | 0, _ => by simp [costL]
  | i + 1, hi => by
    have ih := costL_bdH hB h i (by omega)
    have := h i (by omega)
    rw [costL_take n (by omega)]
    have e : B * ((i + 1 : Nat) : Int) = B * i + B := by rw [Int.natCast_add, Int.mul_add]; simp
    omega
theorem cntI_bd {k M : Int} {ks : List Int} {n : Inst} (h : okIn k n = true) (hk : 0 ≤ gd ks n.cell.toNat ∧ gd ks n.cell.toNat ≤ M) : 0 ≤ cntI ks n ∧ cntI ks n ≤ 16 * M := by
  obtain ⟨_, _, h3, h4, _, _⟩ := okIn_bd h
  have e1 := mul_bd (a := n.cols) (b := n.rows) (A := 4) (B := 4) (by omega) (by omega) (by omega)
  have e0 : 0 ≤ n.cols * n.rows := Int.mul_nonneg (by omega) (by omega)
  have e2 := mul_bd (a := n.cols * n.rows) (b := gd ks n.cell.toNat) (A := 16) (B := M) (by omega) (by omega) (by omega)
  have e3 : 0 ≤ n.cols * n.rows * gd ks n.cell.toNat := Int.mul_nonneg e0 hk.1
  simp only [cntI]; omega
theorem ownCnt_bd {cs : List ECell} (h : okLib cs = true) {M : Int} (hM : 0 ≤ M) {k : Nat} (hk : k < cs.length) (hh : ∀ i, i < k → 0 ≤ gd (cnts cs k) i ∧ gd (cnts cs k) i ≤ M) : ∀ i, i ≤ (gd cs k).insts.length → 1 ≤ 1 + costL (cntI (cnts cs k)) ((gd cs k).insts.take i) ∧ 1 + costL (cntI (cnts cs k)) ((gd cs k).insts.take i) ≤ 1 + 128 * M := by
  intro i hi
  have hc := (okLib_cnt h hk).1
  have := costL_bdH (n := cntI (cnts cs k)) (B := 16 * M) (by omega) (xs := (gd cs k).insts) (fun j hj => cntI_bd (okLib_inst h hk hj) (hh _ (by have := (okIn_bd (okLib_inst h hk hj)).1; omega))) i hi
  have e : 16 * M * i ≤ 16 * M * 8 := Int.mul_le_mul_of_nonneg_left (by omega) (by omega)
  omega
theorem cntOf_bd {cs : List ECell} (h : okLib cs = true) : ∀ k, k < cs.length → 1 ≤ cntOf cs k ∧ cntOf cs k ≤ 129 ^ (k + 1) := by
  intro k
  induction k using Nat.strongRecOn with
  | ind k ih =>
    intro hk
    have := ownCnt_bd h (M := 129 ^ k) (Int.le_of_lt (Int.pow_pos (show (0 : Int) < 129 by omega))) hk (fun i hi => by
      have hb := ih i hi (by omega)
      rw [cnts_gd cs hi]
      refine ⟨by omega, Int.le_trans hb.2 ?_⟩
      have := Nat.pow_le_pow_right (n := 129) (by omega) (show i + 1 ≤ k by omega)
      exact_mod_cast this) _ (Nat.le_refl _)
    rw [List.take_of_length_le (Nat.le_refl _)] at this
    refine ⟨this.1, Int.le_trans this.2 ?_⟩
    have h1 : (1 : Int) ≤ 129 ^ k := by
      have : (0 : Int) < 129 ^ k := Int.pow_pos (show (0 : Int) < 129 by omega)
      omega
    rw [Int.pow_succ]; omega
theorem cnts_big {cs : List ECell} (h : okLib cs = true) {k : Nat} (hk : k < cs.length) : ∀ i, i < k → 0 ≤ gd (cnts cs k) i ∧ gd (cnts cs k) i ≤ 594467302491009 := by
  intro i hi
  rw [cnts_gd cs hi]
  have h1 := cntOf_bd h i (by omega)
  have h2 := (okLib_len h).2
  have : (129 : Nat) ^ (i + 1) ≤ 129 ^ 7 := Nat.pow_le_pow_right (by omega) (by omega)
  have h3' : ((129 : Int) ^ (i + 1)) ≤ 129 ^ 7 := by exact_mod_cast this
  have h3 : ((129 : Int) ^ (i + 1)) ≤ 594467302491009 := Int.le_trans h3' (by decide)
  omega
structure EOcc where
  cell : Int
  place : Trans
  path : List Int
  deriving DecidableEq, Inhabited
def erO (o : Occ) : EOcc := ⟨o.cell, o.place, o.path.xs⟩
def erOs (xs : List Occ) : List EOcc := xs.map erO
theorem erOs_len (xs : List Occ) : (erOs xs).length = xs.length := by simp [erOs]
theorem erOs_gd {xs : List Occ} {i : Nat} (h : i < xs.length) : gd (erOs xs) i = erO (gd xs i) := gd_map _ h
def cmpo (a b : Int) : Int := (if 4 ≤ b then b % 4 + 4 - a % 4 else b % 4 + a % 4) % 4 + (if decide (4 ≤ a) = decide (4 ≤ b) then 0 else 4)
theorem cmpo_in {a b : Int} : 0 ≤ cmpo a b ∧ cmpo a b ≤ 7 := by
  unfold cmpo
  generalize (if 4 ≤ b then b % 4 + 4 - a % 4 else b % 4 + a % 4) = z
  split <;> omega
def cmpT (t u : Trans) : Trans := ⟨cmpo t.o u.o, (moveP u ⟨t.x, t.y⟩).x, (moveP u ⟨t.x, t.y⟩).y⟩
def kid (o : EOcc) (e : HElem) (n : Nat) : EOcc := ⟨e.cell, cmpT e.place o.place, o.path ++ [(n : Int)]⟩
def occF (cs : List ECell) : Nat → EOcc → List EOcc
  | 0, o => [o]
  | f + 1, o => o :: ((List.range (elems (gd cs o.cell.toNat).insts).length).flatMap fun n => occF cs f (kid o (gd (elems (gd cs o.cell.toNat).insts) n) n))
/-- an occurrence and those below its first elements -/
def occTo (cs : List ECell) (f : Nat) (o : EOcc) (i : Nat) : List EOcc := o :: ((List.range i).flatMap fun n => occF cs f (kid o (gd (elems (gd cs o.cell.toNat).insts) n) n))
theorem occTo_zero (cs : List ECell) (f : Nat) (o : EOcc) : occTo cs f o 0 = [o] := rfl
theorem occTo_succ (cs : List ECell) (f : Nat) (o : EOcc) (i : Nat) : occTo cs f o (i + 1) = occTo cs f o i ++ occF cs f (kid o (gd (elems (gd cs o.cell.toNat).insts) i) i) := by
  simp [occTo, List.range_succ, List.flatMap_append]
theorem occTo_all (cs : List ECell) (f : Nat) (o : EOcc) : occTo cs f o (elems (gd cs o.cell.toNat).insts).length = occF cs (f + 1) o := rfl
def oIn (f : Nat) (o : EOcc) : Prop := (0 ≤ o.cell ∧ o.cell < f) ∧ (0 ≤ o.place.o ∧ o.place.o ≤ 7) ∧ (-(320 * (8 - (f : Int))) ≤ o.place.x ∧ o.place.x ≤ 320 * (8 - f)) ∧ -(320 * (8 - (f : Int))) ≤ o.place.y ∧ o.place.y ≤ 320 * (8 - f)
theorem kid_in {cs : List ECell} (h : okLib cs = true) {f : Nat} {o : EOcc} (ho : oIn (f + 1) o) (hl : o.cell.toNat < cs.length) {i : Nat} (hi : i < (elems (gd cs o.cell.toNat).insts).length) : oIn f (kid o (gd (elems (gd cs o.cell.toNat).insts) i) i) := by
  obtain ⟨h1, h2, h3, h4⟩ := elem_bd h hl hi
  obtain ⟨⟨k1, k2⟩, k3, k4, k5⟩ := ho
  obtain ⟨t1, t2, t3, t4⟩ : InB 320 (turnP o.place.o ⟨(gd (elems (gd cs o.cell.toNat).insts) i).place.x, (gd (elems (gd cs o.cell.toNat).insts) i).place.y⟩) := turnP_in ⟨h3.1, h3.2, h4.1, h4.2⟩
  refine ⟨?_, ?_, ?_, ?_⟩
  · simp only [kid]; omega
  · exact cmpo_in
  · simp only [kid, cmpT, moveP]; omega
  · simp only [kid, cmpT, moveP]; omega
theorem flatMap_len {α : Type} (g : Nat → List α) : ∀ n, (((List.range n).flatMap g).length : Int) = ((List.range n).map fun i => ((g i).length : Int)).sum
  | 0 => rfl
  | n + 1 => by
    have ih := flatMap_len g n
    simp only [List.range_succ, List.flatMap_append, List.length_append, List.map_append, List.sum_append, Int.natCast_add, ih]
    simp
/-- the sum over the elements is the sum over the instances -/
theorem sum_elems (g : Int → Int) : ∀ ns : List Inst, (∀ i, i < ns.length → 1 ≤ (gd ns i).cols ∧ 1 ≤ (gd ns i).rows) → (((elems ns).map fun e => g e.cell).sum : Int) = costL (fun n => n.cols * n.rows * g n.cell) ns
  | [], _ => rfl
  | n :: ns, h => by
    have ih := sum_elems g ns (fun i hi => by have := h (i + 1) (by simpa using hi); simpa [gd] using this)
    have h0 := h 0 (by simp)
    have e0 : gd (n :: ns) 0 = n := by simp [gd]
    rw [e0] at h0
    have e : elems (n :: ns) = elsOf n ++ elems ns := rfl
    rw [e, List.map_append, List.sum_append, ih, costL]
    congr 1
    have : (elsOf n).map (fun e => g e.cell) = List.replicate (n.rows.toNat * n.cols.toNat) (g n.cell) := by
      rw [elsOf, List.map_map, List.eq_replicate_iff]
      simp [Function.comp_def]
    rw [this, List.sum_replicate_int]
    rw [Int.natCast_mul, Int.toNat_of_nonneg (by omega), Int.toNat_of_nonneg (by omega), Int.mul_comm n.rows]
theorem map_range_gd {α β : Type} [Inhabited α] (g : α → β) (xs : List α) : (List.range xs.length).map (fun i => g (gd xs i)) = xs.map g := by
  apply List.ext_getElem?
  intro i
  by_cases hi : i < xs.length
  · simp [hi, gd_eq hi]
  · simp [List.getElem?_eq_none (Nat.le_of_not_lt hi), List.getElem?_eq_none (l := List.range xs.length) (by simpa using Nat.le_of_not_lt hi)]
theorem occF_len {cs : List ECell} (h : okLib cs = true) : ∀ (f : Nat) (o : EOcc), 0 ≤ o.cell → o.cell.toNat < f → o.cell.toNat < cs.length → ((occF cs f o).length : Int) = cntOf cs o.cell.toNat
  | 0, _, _, h, _ => by omega
  | f + 1, o, h0, hf, hl => by
    rw [occF, List.length_cons, Int.natCast_add, flatMap_len]
    have e1 : ∀ i ∈ List.range (elems (gd cs o.cell.toNat).insts).length, ((occF cs f (kid o (gd (elems (gd cs o.cell.toNat).insts) i) i)).length : Int) = cntOf cs (gd (elems (gd cs o.cell.toNat).insts) i).cell.toNat := fun i hi => by
      have hi := List.mem_range.1 hi
      have hb := (elem_bd h hl hi).1
      exact occF_len h f _ hb.1 (by simp only [kid]; omega) (by simp only [kid]; omega)
    rw [List.map_congr_left e1, map_range_gd (fun e : HElem => cntOf cs e.cell.toNat), sum_elems (fun c => cntOf cs c.toNat) _ (fun i hi => by have := okIn_bd (okLib_inst h hl hi); omega), cntOf, ownCnt]
    have e2 : ∀ ns : List Inst, (∀ n ∈ ns, n.cell.toNat < o.cell.toNat) → costL (fun n => n.cols * n.rows * cntOf cs n.cell.toNat) ns = costL (cntI (cnts cs o.cell.toNat)) ns := by
      intro ns
      induction ns with
      | nil => intro _; rfl
      | cons n ns ih =>
        intro hn
        rw [costL, costL, ih (fun m hm => hn m (.tail _ hm)), cntI, cnts_gd cs (hn n (.head _))]
    rw [e2 _ (fun n hn => by
      obtain ⟨j, hj, rfl⟩ := List.getElem_of_mem hn
      have := (okIn_bd (okLib_inst h hl hj)).1
      rw [gd_eq hj] at this
      omega)]
    omega
theorem occTo_le {cs : List ECell} {f : Nat} {o : EOcc} {i : Nat} (hi : i ≤ (elems (gd cs o.cell.toNat).insts).length) : (occTo cs f o i).length ≤ (occF cs (f + 1) o).length := by
  rw [← occTo_all, occTo, occTo, List.length_cons, List.length_cons]
  have : (List.range i).flatMap (fun n => occF cs f (kid o (gd (elems (gd cs o.cell.toNat).insts) n) n)) = ((List.range (elems (gd cs o.cell.toNat).insts).length).take i).flatMap (fun n => occF cs f (kid o (gd (elems (gd cs o.cell.toNat).insts) n) n)) := by
    rw [List.take_range, Nat.min_eq_left hi]
  rw [this]
  have h2 := congrArg List.length (congrArg (List.flatMap (fun n => occF cs f (kid o (gd (elems (gd cs o.cell.toNat).insts) n) n))) (List.take_append_drop i (List.range (elems (gd cs o.cell.toNat).insts).length)))
  rw [List.flatMap_append, List.length_append] at h2
  omega
def top (cell : Int) : EOcc := ⟨cell, ⟨0, 0, 0⟩, []⟩
def occAll (cs : List ECell) (cell : Int) : List EOcc := occF cs (cell.toNat + 1) (top cell)
def hasCl (cs : List ECell) (cell : Int) : Bool := okLib cs && within cell 0 ((cs.length : Int) - 1)
def occE (cs : List ECell) (cell : Int) : Int :=
  bif !okLib cs then 1 else bif !within cell 0 ((cs.length : Int) - 1) then 5 else bif decide (200 < cntOf cs cell.toNat) then 3 else bif (occAll cs cell).any fun o => !validT o.place then 2 else 0
def occR (cs : List ECell) (cell : Int) : List EOcc := bif decide (occE cs cell = 0) then occAll cs cell else []
theorem occE_zero {cs : List ECell} {cell : Int} (h : occE cs cell = 0) : okLib cs = true ∧ (0 ≤ cell ∧ cell < cs.length) ∧ cntOf cs cell.toNat ≤ 200 ∧ ∀ o ∈ occAll cs cell, validT o.place = true := by
  unfold occE at h
  cases h1 : okLib cs with
  | false => rw [h1] at h; cases h
  | true =>
    cases h2 : within cell 0 ((cs.length : Int) - 1) with
    | false => rw [h1, h2] at h; cases h
    | true =>
      cases h3 : decide (200 < cntOf cs cell.toNat) with
      | true => rw [h1, h2, h3] at h; cases h
      | false =>
        cases h4 : (occAll cs cell).any fun o => !validT o.place with
        | true => rw [h1, h2, h3, h4] at h; cases h
        | false =>
          refine ⟨rfl, ?_, ?_, fun o ho => ?_⟩
          · simp only [within, Bool.and_eq_true, decide_eq_true_eq] at h2; omega
          · have := of_decide_eq_false h3; omega
          · rw [List.any_eq_false] at h4
            simpa using h4 o ho
theorem occR_ok {cs : List ECell} {cell : Int} (h : occE cs cell = 0) : occR cs cell = occAll cs cell := by rw [occR, h]; rfl
theorem occR_no {cs : List ECell} {cell : Int} (h : occE cs cell ≠ 0) : occR cs cell = [] := by rw [occR, decide_eq_false h]; rfl
theorem occAll_len {cs : List ECell} {cell : Int} (h : okLib cs = true) (hc : 0 ≤ cell ∧ cell < cs.length) : ((occAll cs cell).length : Int) = cntOf cs cell.toNat := occF_len h _ (top cell) hc.1 (by simp [top]) (by simp only [top]; omega)
/-- the cells of occurrences are those of the library -/
theorem occF_cell {cs : List ECell} (h : okLib cs = true) : ∀ (f : Nat) (o : EOcc), 0 ≤ o.cell → o.cell.toNat < f → o.cell.toNat < cs.length → ∀ q ∈ occF cs f o, 0 ≤ q.cell ∧ q.cell ≤ o.cell
  | 0, _, _, h, _, _, _ => by omega
  | f + 1, o, h0, hf, hl, q, hq => by
    rw [occF, List.mem_cons] at hq
    rcases hq with rfl | hq
    · exact ⟨h0, Int.le_refl _⟩
    · obtain ⟨i, hi, hq⟩ := List.mem_flatMap.1 hq
      have hb := (elem_bd h hl (List.mem_range.1 hi)).1
      have := occF_cell h f _ hb.1 (by simp only [kid]; omega) (by simp only [kid]; omega) q hq
      simp only [kid] at this
      omega
theorem occR_cell {cs : List ECell} {cell : Int} {i : Nat} (hi : i < (occR cs cell).length) : okLib cs = true ∧ (0 ≤ (gd (occR cs cell) i).cell ∧ (gd (occR cs cell) i).cell < cs.length) ∧ validT (gd (occR cs cell) i).place = true ∧ (occR cs cell).length ≤ 200 := by
  by_cases h : occE cs cell = 0
  · have hm := gd_mem hi
    rw [occR_ok h] at hm ⊢
    obtain ⟨h1, h2, h3, h4⟩ := occE_zero h
    have := occF_cell h1 _ (top cell) h2.1 (by simp [top]) (by simp only [top]; omega) _ hm
    have hl := occAll_len h1 h2
    exact ⟨h1, by simp only [top] at this; omega, h4 _ hm, by omega⟩
  · rw [occR_no h] at hi; simp at hi
def flatOf (cs : List ECell) (o : EOcc) : List Shape := (gd cs o.cell.toNat).shapes.map fun s => ⟨s.layer, moveR o.place s.box⟩
def flatL (cs : List ECell) (os : List EOcc) : List Shape := os.flatMap (flatOf cs)
theorem flatOf_len (cs : List ECell) (o : EOcc) : (flatOf cs o).length = (gd cs o.cell.toNat).shapes.length := by simp [flatOf]
theorem flatL_take {cs : List ECell} {os : List EOcc} {i : Nat} (h : i < os.length) : flatL cs (os.take (i + 1)) = flatL cs (os.take i) ++ flatOf cs (gd os i) := by
  rw [flatL, flatL, List.take_add_one, getG h, List.flatMap_append]; simp
theorem flatOf_step {cs : List ECell} {o : EOcc} {k : Nat} (h : k < (gd cs o.cell.toNat).shapes.length) : (flatOf cs o).take (k + 1) = (flatOf cs o).take k ++ [⟨(gd (gd cs o.cell.toNat).shapes k).layer, moveR o.place (gd (gd cs o.cell.toNat).shapes k).box⟩] := by
  rw [List.take_add_one, getG (by rw [flatOf_len]; exact h), flatOf, gd_map _ h]; rfl
theorem flatL_bd {cs : List ECell} {cell : Int} : ∀ i, i ≤ (occR cs cell).length → (flatL cs ((occR cs cell).take i)).length ≤ 24 * i
  | 0, _ => by simp [flatL]
  | i + 1, hi => by
    have ih := flatL_bd (cs := cs) (cell := cell) i (by omega)
    obtain ⟨h1, h2, _, _⟩ := occR_cell (cs := cs) (cell := cell) (i := i) (by omega)
    have := (okLib_cnt h1 (i := (gd (occR cs cell) i).cell.toNat) (by omega)).2
    rw [flatL_take (by omega), List.length_append, flatOf_len]; omega
def shE (cs : List ECell) (cell : Int) : Int := bif decide (occE cs cell = 0) then (bif (flatL cs (occR cs cell)).any fun s => !validRect s.box then 2 else 0) else occE cs cell
def shR (cs : List ECell) (cell : Int) : List Shape := bif decide (shE cs cell = 0) then flatL cs (occR cs cell) else []
theorem shE_zero {cs : List ECell} {cell : Int} (h : shE cs cell = 0) : occE cs cell = 0 ∧ ∀ s ∈ flatL cs (occR cs cell), validRect s.box = true := by
  unfold shE at h
  by_cases h1 : occE cs cell = 0
  · rw [decide_eq_true h1, cond_true] at h
    cases h2 : (flatL cs (occR cs cell)).any fun s => !validRect s.box with
    | true => rw [h2] at h; cases h
    | false =>
      refine ⟨h1, fun s hs => ?_⟩
      rw [List.any_eq_false] at h2
      simpa using h2 s hs
  · rw [decide_eq_false h1, cond_false] at h; exact absurd h h1
theorem shR_ok {cs : List ECell} {cell : Int} (h : shE cs cell = 0) : shR cs cell = flatL cs (occR cs cell) := by rw [shR, h]; rfl
theorem shR_no {cs : List ECell} {cell : Int} (h : shE cs cell ≠ 0) : shR cs cell = [] := by rw [shR, decide_eq_false h]; rfl
theorem shR_valid {cs : List ECell} {cell : Int} {i : Nat} (hi : i < (shR cs cell).length) : validRect (gd (shR cs cell) i).box = true := by
  by_cases h : shE cs cell = 0
  · have hm := gd_mem hi
    rw [shR_ok h] at hm ⊢
    exact (shE_zero h).2 _ hm
  · rw [shR_no h] at hi; simp at hi
def boxesOf (ss : List Shape) (l : Nat) : List Rect := (ss.filter fun s => decide (s.layer = (l : Int))).map Shape.box
def layL (ss : List Shape) : List (List Rect) := (List.range 8).map fun l => canon (bits (boxesOf ss l))
theorem boxesOf_step {ss : List Shape} {i l : Nat} (h : i < ss.length) : boxesOf (ss.take (i + 1)) l = boxesOf (ss.take i) l ++ (if (gd ss i).layer = (l : Int) then [(gd ss i).box] else []) := by
  rw [boxesOf, boxesOf, List.take_add_one, getG h, List.filter_append, List.map_append]
  by_cases e : (gd ss i).layer = (l : Int) <;> simp [e]
theorem validR_in {r : Rect} (h : validRect r = true) : RIn 40 r := by
  have := valid_bd h; exact this
def rootOf (o : EOcc) : Int := match o.path with | [] => -1 | a :: _ => a
def rootAt (cs : List ECell) (o : EOcc) : List RShape := (flatOf cs o).map fun s => ⟨rootOf o, s⟩
def rootL (cs : List ECell) (os : List EOcc) : List RShape := os.flatMap (rootAt cs)
theorem rootL_flat (cs : List ECell) (os : List EOcc) : (rootL cs os).map RShape.shape = flatL cs os := by
  induction os with
  | nil => rfl
  | cons o os ih =>
    have e1 : rootL cs (o :: os) = rootAt cs o ++ rootL cs os := rfl
    have e2 : flatL cs (o :: os) = flatOf cs o ++ flatL cs os := rfl
    rw [e1, e2, List.map_append, ih]
    congr 1
    simp [rootAt, Function.comp_def]
theorem rootAt_len (cs : List ECell) (o : EOcc) : (rootAt cs o).length = (gd cs o.cell.toNat).shapes.length := by rw [rootAt, List.length_map, flatOf_len]
theorem rootL_len (cs : List ECell) (os : List EOcc) : (rootL cs os).length = (flatL cs os).length := by rw [← rootL_flat, List.length_map]
theorem flatL_split {cs : List ECell} {os : List EOcc} {i : Nat} (h : i < os.length) : flatL cs os = flatL cs (os.take i) ++ (flatOf cs (gd os i) ++ flatL cs (os.drop (i + 1))) := by
  conv => lhs; rw [← List.take_append_drop (i + 1) os]
  rw [flatL, List.flatMap_append]
  have := flatL_take (cs := cs) h
  rw [flatL] at this
  rw [this, List.append_assoc]; rfl
/-- the next rooted shape -/
theorem rootAt_step {cs : List ECell} {os : List EOcc} {i k : Nat} (h : i < os.length) (hk : k < (gd cs (gd os i).cell.toNat).shapes.length) :
    (rootL cs (os.take i) ++ (rootAt cs (gd os i)).take k).length < (flatL cs os).length ∧ (rootAt cs (gd os i)).take (k + 1) = (rootAt cs (gd os i)).take k ++ [⟨rootOf (gd os i), gd (flatL cs os) (rootL cs (os.take i) ++ (rootAt cs (gd os i)).take k).length⟩] := by
  have hl : ((rootAt cs (gd os i)).take k).length = k := by rw [List.length_take, rootAt_len]; omega
  have hf : k < (flatOf cs (gd os i)).length := by rw [flatOf_len]; exact hk
  have e : gd (flatL cs os) (rootL cs (os.take i) ++ (rootAt cs (gd os i)).take k).length = gd (flatOf cs (gd os i)) k := by
    rw [List.length_append, hl, rootL_len, flatL_split h, gd_app_at, gd_app_l hf]
  refine ⟨?_, ?_⟩
  · rw [List.length_append, hl, rootL_len, flatL_split h, List.length_append, List.length_append]; omega
  · rw [e, List.take_add_one, getG (by rw [rootAt_len]; exact hk), rootAt, gd_map _ hf]; rfl
def elN (cs : List ECell) (cell : Int) : Nat := (elems (gd cs cell.toNat).insts).length
theorem shE_lib {cs : List ECell} {cell : Int} (h : shE cs cell = 0) : okLib cs = true ∧ 0 ≤ cell ∧ cell < cs.length := by
  have := occE_zero (shE_zero h).1
  exact ⟨this.1, this.2.1⟩
/-- the composed orientation as the reference writes it -/
theorem cmpo_r {a b : Int} (ha : 0 ≤ a ∧ a ≤ 7) (hb : 0 ≤ b ∧ b ≤ 7) : cmpo a b = (b % 4 + (if 4 ≤ b then -(a % 4) else a % 4) + 4) % 4 + 4 * (if 4 ≤ b then 1 - a / 4 else a / 4) := by
  have ea : a = 0 ∨ a = 1 ∨ a = 2 ∨ a = 3 ∨ a = 4 ∨ a = 5 ∨ a = 6 ∨ a = 7 := by omega
  have eb : b = 0 ∨ b = 1 ∨ b = 2 ∨ b = 3 ∨ b = 4 ∨ b = 5 ∨ b = 6 ∨ b = 7 := by omega
  rcases ea with rfl | rfl | rfl | rfl | rfl | rfl | rfl | rfl <;> rcases eb with rfl | rfl | rfl | rfl | rfl | rfl | rfl | rfl <;> decide
end Go.Proofs.YthhjapiggekjbaaGreat
namespace Go.Proofs.YthhjapiggekjbaaGreat
set_option linter.unusedVariables false
set_option linter.unusedSimpArgs false
open Go
set_option maxRecDepth 20000
set_option linter.unusedSimpArgs false
variable {G : Gh} {L : List Ch} {R : Value → Gh → List Ch → Prop}
def shs (xs : List Cell) : List (Sl Shape) := xs.map Cell.shapes
def lbs (xs : List Cell) : List (Sl Label) := xs.map Cell.labels
def ins (xs : List Cell) : List (Sl Inst) := xs.map Cell.insts
/-- the library reads as xs -/
structure RLib (G : Gh) (L : List Ch) (v : Value) (xs : List Cell) : Prop where
  c : Rs G L cellT v xs
  s : RsE G L shapeT (shs xs)
  l : RsE G L labelT (lbs xs)
  n : RsE G L instT (ins xs)
theorem RLib.up {L' : List Ch} {v : Value} {xs : List Cell} (h : RLib G L v xs) [p : PickC L L'] : RLib G L' v xs := ⟨h.c.up, h.s.up, h.l.up, h.n.up⟩
theorem RLib.cv {L' : List Ch} {v : Value} {xs : List Cell} (c : Cv L' L) (h : RLib G L v xs) : RLib G L' v xs := ⟨h.c.cv c, h.s.cv c, h.l.cv c, h.n.cv c⟩
theorem RLib.sa {v : Value} {xs : List Cell} (h : RLib G L v xs) {i : Nat} (hi : i < xs.length) : Rs G L shapeT (gd xs i).shapes.v (gd xs i).shapes.xs := by
  have := h.s i (by simpa [shs] using hi); rwa [shs, gd_map _ hi] at this
theorem RLib.la {v : Value} {xs : List Cell} (h : RLib G L v xs) {i : Nat} (hi : i < xs.length) : Rs G L labelT (gd xs i).labels.v (gd xs i).labels.xs := by
  have := h.l i (by simpa [lbs] using hi); rwa [lbs, gd_map _ hi] at this
theorem RLib.na {v : Value} {xs : List Cell} (h : RLib G L v xs) {i : Nat} (hi : i < xs.length) : Rs G L instT (gd xs i).insts.v (gd xs i).insts.xs := by
  have := h.n i (by simpa [ins] using hi); rwa [ins, gd_map _ hi] at this
/-- the cells of a cell of the library are one each -/
theorem RLib.one {L' : List Ch} {v : Value} {xs : List Cell} (h : RLib G L v xs) {i : Nat} (hi : i < xs.length) [p : PickC L L'] : OneC G L' [.string (gd xs i).name, (gd xs i).shapes.v, (gd xs i).labels.v, (gd xs i).insts.v] :=
  OneC.val rfl (OneC.sl (SlF.r (h.sa hi)) (OneC.sl (SlF.r (h.la hi)) (OneC.sl (SlF.r (h.na hi)) OneC.nil)))
/-- names are no longer than a machine bears -/
def lenL (ls : List Label) : Prop := ∀ i, i < ls.length → (gd ls i).name.size ≤ 9223372036854775807
def lenC (cs : List ECell) : Prop := ∀ i, i < cs.length → (gd cs i).name.size ≤ 9223372036854775807 ∧ lenL (gd cs i).labels
/-- lists of at most 2^20 -/
def few (cs : List ECell) : Prop := cs.length ≤ 1048576 ∧ ∀ i, i < cs.length → (gd cs i).shapes.length ≤ 1048576 ∧ (gd cs i).labels.length ≤ 1048576 ∧ (gd cs i).insts.length ≤ 1048576
theorem Cv.grow3 {α β γ : Type} {e1 e2 e3 : TypeId} {F1 : FT α} {F2 : FT β} {F3 : FT γ} {u1 u2 u3 : Value} {us1 : List α} {us2 : List β} {us3 : List γ} {y1 y1' : List (Sl α)} {y2 y2' : List (Sl β)} {y3 y3' : List (Sl γ)} (h1 : y1' = y1 ++ [⟨u1, us1⟩]) (h2 : y2' = y2 ++ [⟨u2, us2⟩]) (h3 : y3' = y3 ++ [⟨u3, us3⟩]) :
    Cv (osl e1 F1 u1 us1 :: osl e2 F2 u2 us2 :: osl e3 F3 u3 us3 :: bagS e1 F1 y1 :: bagS e2 F2 y2 :: bagS e3 F3 y3 :: L) (bagS e1 F1 y1' :: bagS e2 F2 y2' :: bagS e3 F3 y3' :: L) :=
  (Cv.p (C := osl e1 F1 u1 us1 :: bagS e1 F1 y1 :: osl e2 F2 u2 us2 :: bagS e2 F2 y2 :: osl e3 F3 u3 us3 :: bagS e3 F3 y3 :: L)).trans ((Cv.grow h1).trans (Cv.cons ((Cv.grow h2).trans (Cv.cons (Cv.grow h3)))))
/-- .. the same with the cells themselves -/
theorem few.one {xs : List Cell} {i : Nat} (hf : few (erCls xs)) (hi : i < xs.length) : (gd xs i).shapes.xs.length ≤ 1048576 ∧ (gd xs i).labels.xs.length ≤ 1048576 ∧ (gd xs i).insts.xs.length ≤ 1048576 := by
  have := hf.2 i (by rw [erCls_len]; exact hi)
  rwa [erCls_gd hi] at this
theorem lenC.one {xs : List Cell} (h : lenC (erCls xs)) {i : Nat} (hi : i < xs.length) : (gd xs i).name.size ≤ 9223372036854775807 ∧ lenL (gd xs i).labels.xs := by
  have := h i (by rw [erCls_len]; exact hi); rwa [erCls_gd hi] at this
end Go.Proofs.YthhjapiggekjbaaGreat
namespace Go.Proofs.YthhjapiggekjbaaGreat
set_option linter.unusedVariables false
set_option linter.unusedSimpArgs false
open Go
set_option maxRecDepth 20000
set_option linter.unusedSimpArgs false
variable {G : Gh} {L : List Ch} {R : Value → Gh → List Ch → Prop}
theorem okSh_i {s : Shape} (k : R (.bool (okSh s)) G L) : CallT Tryz.prog 236 #[vT shapeT s] G L R := by
  refine CallT.enter (args := _) Tryz.func236 rfl rfl (by kernel_rfl) rfl ?_
  refine WP.seq ?_
  refine WP.region ?_
  refine RG.ot rfl (OT.box (cs := shapeT.enc s) rfl rfl rfl fun b1 => ?_)
  refine RG.pv rfl (PV.mvB (.inr rfl) rfl) ?_
  refine RG.nil ?_
  refine WP.seq ?_
  refine WP.region ?_
  refine RG.pv rfl (PV.field rfl Fo142_0 rfl) ?_
  refine RG.pv rfl (PV.load1 rfl Sc2 rfl (Rd.blk rfl)) ?_
  refine RG.callF (vs := [_, _, _]) rfl rfl En43 rfl (within_s ?_)
  refine RG.pv rfl (PV.mvB (.inl rfl) rfl) ?_
  refine RG.gs rfl rfl rfl (fun hp => (PV.field rfl Fo142_1 rfl)) ?_
  refine RG.gs rfl rfl rfl (fun hp => (PV.loadB (vs := [_, _, _, _]) rfl Ag140 (gs_t hp) rfl rfl)) ?_
  refine RG.gsC rfl rfl rfl rfl En83 (fun hp => ⟨_, (acons (gs_t hp) anil), validRect_s ⟨rfl, rfl, rfl⟩⟩) ?_
  refine RG.pv rfl (PV.pickA rfl rfl (fun hq => gs_t (geqT hq)) rfl) ?_
  refine RG.pv rfl (PV.mvB (.inr rfl) rfl) ?_
  refine RG.nil ?_
  refine WP.ret ?_
  exact ⟨_, _, ResV.one rfl rfl, Cv.p, k⟩
theorem validT_i {t : Trans} (k : R (.bool (validT t)) G L) : CallT Tryz.prog 134 #[vtrans t] G L R := by
  refine CallT.enter (args := _) Tryz.func134 rfl rfl (by kernel_rfl) rfl ?_
  refine WP.seq ?_
  refine WP.region ?_
  refine RG.ot rfl (OT.box (cs := transT.enc t) rfl rfl rfl fun b1 => ?_)
  refine RG.pv rfl (PV.mvB (.inr rfl) rfl) ?_
  refine RG.nil ?_
  refine WP.seq ?_
  refine WP.region ?_
  refine RG.pv rfl (PV.field rfl Fo136_0 rfl) ?_
  refine RG.pv rfl (PV.load1 rfl Sc2 rfl (Rd.blk rfl)) ?_
  refine RG.callF (vs := [_, _, _]) rfl rfl En43 rfl (within_s ?_)
  refine RG.pv rfl (PV.mvB (.inl rfl) rfl) ?_
  refine RG.gs rfl rfl rfl (fun hp => (PV.field rfl Fo136_1 rfl)) ?_
  refine RG.gs rfl rfl rfl (fun hp => (PV.load1 rfl Sc2 (gs_t hp) (Rd.blk rfl))) ?_
  refine RG.gsC rfl rfl rfl rfl En43 (fun hp => ⟨_, (acons (gs_t hp) (acons rfl (acons rfl anil))), within_s ⟨rfl, rfl, rfl⟩⟩) ?_
  refine RG.pv rfl (PV.pickA rfl rfl (fun hq => gs_t (geqT hq)) rfl) ?_
  refine RG.pv rfl (PV.mvB (.inl rfl) rfl) ?_
  refine RG.gs rfl rfl rfl (fun hp => (PV.field rfl Fo136_2 rfl)) ?_
  refine RG.gs rfl rfl rfl (fun hp => (PV.load1 rfl Sc2 (gs_t hp) (Rd.blk rfl))) ?_
  refine RG.gsC rfl rfl rfl rfl En43 (fun hp => ⟨_, (acons (gs_t hp) (acons rfl (acons rfl anil))), within_s ⟨rfl, rfl, rfl⟩⟩) ?_
  refine RG.pv rfl (PV.pickA rfl rfl (fun hq => gs_t (geqT hq)) rfl) ?_
  refine RG.pv rfl (PV.mvB (.inr rfl) rfl) ?_
  refine RG.nil ?_
  refine WP.ret ?_
  have e : validT t = ((within t.o 0 7 && within t.x (-80) 80) && within t.y (-80) 80) := (Bool.and_assoc _ _ _).symm
  rw [e] at k
  exact ⟨_, _, ResV.one rfl rfl, Cv.p, k⟩
theorem okIn_i {n : Inst} {k0 : Int} (hk : 0 ≤ k0 ∧ k0 ≤ 1000) (k : R (.bool (okIn k0 n)) G L) : CallT Tryz.prog 242 #[vT instT n, vi k0] G L R := by
  refine CallT.enter (args := _) Tryz.func242 rfl rfl (by kernel_rfl) rfl ?_
  refine WP.seq ?_
  refine WP.region ?_
  refine RG.ot rfl (OT.box (cs := instT.enc n) rfl rfl rfl fun b2 => ?_)
  refine RG.pv rfl (PV.mvB (.inr rfl) rfl) ?_
  refine RG.nil ?_
  refine WP.seq ?_
  refine WP.region ?_
  refine RG.pv rfl (PV.field rfl Fo195_0 rfl) ?_
  refine RG.pv rfl (PV.load1 rfl Sc2 rfl (Rd.blk rfl)) ?_
  refine RG.pv rfl (PV.mvI (.inl rfl) rfl) ?_
  refine RG.pv rfl (PV.sub rfl rfl rfl (by omega)) ?_
  refine RG.callF (vs := [_, _, _]) rfl rfl En43 rfl (within_s ?_)
  refine RG.pv rfl (PV.mvB (.inl rfl) rfl) ?_
  refine RG.gs rfl rfl rfl (fun hp => (PV.field rfl Fo195_1 rfl)) ?_
  refine RG.gs rfl rfl rfl (fun hp => (PV.loadB (vs := [_, _, _]) rfl Ag136 (gs_t hp) rfl rfl)) ?_
  refine RG.gsC rfl rfl rfl rfl En134 (fun hp => ⟨_, (acons (gs_t hp) anil), validT_i ⟨rfl, rfl, rfl⟩⟩) ?_
  refine RG.pv rfl (PV.pickA rfl rfl (fun hq => gs_t (geqT hq)) rfl) ?_
  refine RG.pv rfl (PV.mvB (.inl rfl) rfl) ?_
  refine RG.gs rfl rfl rfl (fun hp => (PV.field rfl Fo195_2 rfl)) ?_
  refine RG.gs rfl rfl rfl (fun hp => (PV.load1 rfl Sc2 (gs_t hp) (Rd.blk rfl))) ?_
  refine RG.gsC rfl rfl rfl rfl En43 (fun hp => ⟨_, (acons (gs_t hp) (acons rfl (acons rfl anil))), within_s ⟨rfl, rfl, rfl⟩⟩) ?_
  refine RG.pv rfl (PV.pickA rfl rfl (fun hq => gs_t (geqT hq)) rfl) ?_
  refine RG.pv rfl (PV.mvB (.inl rfl) rfl) ?_
  refine RG.gs rfl rfl rfl (fun hp => (PV.field rfl Fo195_3 rfl)) ?_
  refine RG.gs rfl rfl rfl (fun hp => (PV.load1 rfl Sc2 (gs_t hp) (Rd.blk rfl))) ?_
  refine RG.gsC rfl rfl rfl rfl En43 (fun hp => ⟨_, (acons (gs_t hp) (acons rfl (acons rfl anil))), within_s ⟨rfl, rfl, rfl⟩⟩) ?_
  refine RG.pv rfl (PV.pickA rfl rfl (fun hq => gs_t (geqT hq)) rfl) ?_
  refine RG.pv rfl (PV.mvB (.inl rfl) rfl) ?_
  refine RG.gs rfl rfl rfl (fun hp => (PV.field rfl Fo195_4 rfl)) ?_
  refine RG.gs rfl rfl rfl (fun hp => (PV.load1 rfl Sc2 (gs_t hp) (Rd.blk rfl))) ?_
  refine RG.gsC rfl rfl rfl rfl En43 (fun hp => ⟨_, (acons (gs_t hp) (acons rfl (acons rfl anil))), within_s ⟨rfl, rfl, rfl⟩⟩) ?_
  refine RG.pv rfl (PV.pickA rfl rfl (fun hq => gs_t (geqT hq)) rfl) ?_
  refine RG.pv rfl (PV.mvB (.inl rfl) rfl) ?_
  refine RG.gs rfl rfl rfl (fun hp => (PV.field rfl Fo195_5 rfl)) ?_
  refine RG.gs rfl rfl rfl (fun hp => (PV.load1 rfl Sc2 (gs_t hp) (Rd.blk rfl))) ?_
  refine RG.gsC rfl rfl rfl rfl En43 (fun hp => ⟨_, (acons (gs_t hp) (acons rfl (acons rfl anil))), within_s ⟨rfl, rfl, rfl⟩⟩) ?_
  refine RG.pv rfl (PV.pickA rfl rfl (fun hq => gs_t (geqT hq)) rfl) ?_
  refine RG.pv rfl (PV.mvB (.inl rfl) rfl) ?_
  refine RG.gs rfl rfl rfl (fun hp => (PV.field rfl Fo195_4 rfl)) ?_
  refine RG.gs rfl rfl rfl (fun hp => (PV.load1 rfl Sc2 (gs_t hp) (Rd.blk rfl))) ?_
  refine RG.gs rfl rfl rfl (fun hp => (PV.eql rfl (gs_t hp) rfl)) ?_
  refine RG.gs rfl rfl rfl (fun hp => (PV.mvB (.inl rfl) (gs_t hp))) ?_
  refine RG.gs2 rfl rfl rfl (fun hp => (PV.field rfl Fo195_2 rfl)) ?_
  refine RG.gs2 rfl rfl rfl (fun hp => (PV.load1 rfl Sc2 (gs_t hp) (Rd.blk rfl))) ?_
  refine RG.gs2 rfl rfl rfl (fun hp => (PV.gtr rfl (gs_t hp) rfl)) ?_
  refine RG.gs rfl rfl rfl (fun hp => (PV.pickO rfl (gs_t hp) rfl (fun hq => gs_t (gandF hp hq)))) ?_
  refine RG.pv rfl (PV.pickA rfl rfl (fun hq => gs_t (geqT hq)) rfl) ?_
  refine RG.pv rfl (PV.mvB (.inl rfl) rfl) ?_
  refine RG.gs rfl rfl rfl (fun hp => (PV.field rfl Fo195_5 rfl)) ?_
  refine RG.gs rfl rfl rfl (fun hp => (PV.load1 rfl Sc2 (gs_t hp) (Rd.blk rfl))) ?_
  refine RG.gs rfl rfl rfl (fun hp => (PV.eql rfl (gs_t hp) rfl)) ?_
  refine RG.gs rfl rfl rfl (fun hp => (PV.mvB (.inl rfl) (gs_t hp))) ?_
  refine RG.gs2 rfl rfl rfl (fun hp => (PV.field rfl Fo195_3 rfl)) ?_
  refine RG.gs2 rfl rfl rfl (fun hp => (PV.load1 rfl Sc2 (gs_t hp) (Rd.blk rfl))) ?_
  refine RG.gs2 rfl rfl rfl (fun hp => (PV.gtr rfl (gs_t hp) rfl)) ?_
  refine RG.gs rfl rfl rfl (fun hp => (PV.pickO rfl (gs_t hp) rfl (fun hq => gs_t (gandF hp hq)))) ?_
  refine RG.pv rfl (PV.pickA rfl rfl (fun hq => gs_t (geqT hq)) rfl) ?_
  refine RG.pv rfl (PV.mvB (.inr rfl) rfl) ?_
  refine RG.nil ?_
  refine WP.ret ?_
  exact ⟨_, _, ResV.one rfl rfl, Cv.p, k⟩
theorem notSh_s {s : Shape} (k : R (.bool (!okSh s)) G L) : CallT Tryz.prog 235 #[vT shapeT s] G L R := by
  refine CallT.enter (args := _) Tryz.func235 rfl rfl (by kernel_rfl) rfl ?_
  refine WP.seq ?_
  refine WP.region ?_
  refine RG.ot rfl (OT.box (cs := shapeT.enc s) rfl rfl rfl fun b1 => ?_)
  refine RG.pv rfl (PV.mvB (.inr rfl) rfl) ?_
  refine RG.nil ?_
  refine WP.seq ?_
  refine WP.region ?_
  refine RG.pv rfl (PV.loadW rfl Ag142 rfl rfl) ?_
  refine RG.callF (vs := [_]) rfl rfl En236 rfl (okSh_i ?_)
  refine RG.pv rfl (PV.not rfl rfl) ?_
  refine RG.pv rfl (PV.mvB (.inr rfl) rfl) ?_
  refine RG.nil ?_
  refine WP.ret ?_
  exact ⟨_, _, ResV.one rfl rfl, Cv.p, k⟩
theorem notLb2_s {l : Label} (hs : l.name.size ≤ 9223372036854775807) (k : R (.bool (!validLb l)) G L) : CallT Tryz.prog 238 #[vT labelT l] G L R := by
  refine CallT.enter (args := _) Tryz.func238 rfl rfl (by kernel_rfl) rfl ?_
  refine WP.seq ?_
  refine WP.region ?_
  refine RG.ot rfl (OT.box (cs := labelT.enc l) rfl rfl rfl fun b1 => ?_)
  refine RG.pv rfl (PV.mvB (.inr rfl) rfl) ?_
  refine RG.nil ?_
  refine WP.seq ?_
  refine WP.region ?_
  refine RG.pv rfl (PV.loadW rfl Ag193 rfl rfl) ?_
  refine RG.callF (vs := [_]) rfl rfl En239 rfl (validLb_i hs ?_)
  refine RG.pv rfl (PV.not rfl rfl) ?_
  refine RG.pv rfl (PV.mvB (.inr rfl) rfl) ?_
  refine RG.nil ?_
  refine WP.ret ?_
  exact ⟨_, _, ResV.one rfl rfl, Cv.p, k⟩
theorem notIn_s {n : Inst} {k0 : Int} {b : Nat} (hk : 0 ≤ k0 ∧ k0 ≤ 1000) (hb : Rd G L b 0 (vi k0)) (k : R (.bool (!okIn k0 n)) G L) : CallT Tryz.prog 241 #[vT instT n, .pointer (some ⟨b, 0, none⟩)] G L R := by
  refine CallT.enter (args := _) Tryz.func241 rfl rfl (by kernel_rfl) rfl ?_
  refine WP.seq ?_
  refine WP.region ?_
  refine RG.ot rfl (OT.box (cs := instT.enc n) rfl rfl rfl fun b2 => ?_)
  refine RG.pv rfl (PV.mvB (.inr rfl) rfl) ?_
  refine RG.nil ?_
  refine WP.seq ?_
  refine WP.region ?_
  refine RG.pv rfl (PV.loadW rfl Ag195 rfl rfl) ?_
  refine RG.pv rfl (PV.load1 rfl Sc2 rfl (Rd.up hb)) ?_
  refine RG.callF (vs := [_, _]) rfl rfl En242 rfl (okIn_i hk ?_)
  refine RG.pv rfl (PV.not rfl rfl) ?_
  refine RG.pv rfl (PV.mvB (.inr rfl) rfl) ?_
  refine RG.nil ?_
  refine WP.ret ?_
  exact ⟨_, _, ResV.one rfl rfl, Cv.p, k⟩
theorem indexF_shape {v fv : Value} {xs : List (Shape)} {p : (Shape) → Bool} (h1 : Rs G L shapeT v xs) (hf : ∀ i, i < xs.length → CB Tryz.prog G L fv [vT shapeT (gd xs i)] (.bool (p (gd xs i)))) (k : R (vi (idxI p xs)) G L) : CallT Tryz.prog 248 #[v, fv] G L R := by
  refine CallT.bd h1 fun hb => ?_
  refine CallT.enter (args := _) Tryz.func248 rfl rfl (by kernel_rfl) rfl ?_
  refine WP.seq ?_
  refine WP.region ?_
  refine RG.pv rfl (PV.mvI (.inr rfl) rfl) ?_
  refine RG.nil ?_
  refine WP.seq ?_
  refine WP.seq ?_
  refine WP.region ?_
  refine RG.pv rfl (PV.move (v := v) rfl rfl) ?_
  refine RG.pv rfl (PV.len (v := v) rfl Tryz.underlying83 rfl (SlF.r h1)) ?_
  refine RG.pv rfl (PV.mvI (.inl rfl) rfl) ?_
  refine RG.nil ?_
  refine WP.block ?_
  refine WP.loop1 [0, 1, 7] (fun i => i ≤ xs.length ∧ ∀ j, j < i → p (gd xs j) = false) (fun i => [(8, vi i)]) (fun i => L) (fun i => xs.length - i) 0 ⟨by omega, fun j h => by omega⟩ ⟨rfl, trivial⟩ Cv.p ?_
  rintro i τ ⟨hi, hj⟩
  refine WP.seq ?_
  refine WP.region ?_
  refine RG.pv rfl (PV.lss rfl rfl rfl) ?_
  refine RG.nil ?_
  refine WP.seq ?_
  refine WP.cond rfl (fun h2 => ?_) (fun h2 => ?_)
  · have h2 := of_decide_eq_true h2
    refine WP.skip ?_
    refine WP.seq ?_
    refine WP.block ?_
    refine WP.seq ?_
    refine WP.region ?_
    refine RG.pv rfl (PV.mvI (.inl rfl) rfl) ?_
    refine RG.pv rfl (PV.mvI (.inr rfl) rfl) ?_
    refine RG.nil ?_
    refine WP.seq ?_
    refine WP.region ?_
    refine RG.pv rfl (PV.move (v := fv) rfl rfl) ?_
    refine RG.pv rfl (PV.move (v := v) rfl rfl) ?_
    refine RG.pv rfl (PV.mvI (.inl rfl) rfl) ?_
    refine RG.pv rfl (PV.idxS (v := v) rfl Is83 rfl (SlF.r h1) rfl rfl (by omega)) ?_
    refine RG.pv rfl (PV.loadE rfl Ag142 rfl rfl (El.r h1 (getG (by omega)))) ?_
    refine RG.callB (vs := [_]) rfl rfl rfl rfl (CB.up (hf i (by omega))) ?_
    refine RG.nil ?_
    refine WP.cond rfl (fun h3 => ?_) (fun h3 => ?_)
    · rw [idxI_at (by omega) h3 hj] at k
      refine WP.seq ?_
      refine WP.region ?_
      refine RG.pv rfl (PV.mvI (.inl rfl) rfl) ?_
      refine RG.pv rfl (PV.mvI (.inr rfl) rfl) ?_
      refine RG.nil ?_
      refine WP.ret ?_
      exact ⟨_, _, ResV.one rfl rfl, Cv.p, k⟩
    · have hj' : ∀ j, j < i + 1 → p (gd xs j) = false := fun j h => by
        by_cases c : j = i
        · rw [c]; exact h3
        · exact hj j (by omega)
      refine WP.skip ?_
      refine WP.region ?_
      refine RG.pv rfl (PV.add rfl rfl rfl (by omega)) ?_
      refine RG.pv rfl (PV.mvI (.inl rfl) rfl) ?_
      refine RG.nil ?_
      exact ⟨rfl, i + 1, ⟨by omega, hj'⟩, ⟨rfl, trivial⟩, ⟨rfl, rfl, rfl, trivial⟩, Cv.p, by omega⟩
  · have h2 := of_decide_eq_false h2
    rw [idxI_none (fun j h => hj j (by omega))] at k
    refine WP.exit ?_
    refine WP.seq ?_
    refine WP.region ?_
    refine RG.pv rfl (PV.mvI (.inr rfl) rfl) ?_
    refine RG.nil ?_
    refine WP.ret ?_
    exact ⟨_, _, ResV.one rfl rfl, Cv.p, k⟩
theorem containsF_shape {v fv : Value} {xs : List (Shape)} {p : (Shape) → Bool} (h1 : Rs G L shapeT v xs) (hf : ∀ i, i < xs.length → CB Tryz.prog G L fv [vT shapeT (gd xs i)] (.bool (p (gd xs i)))) (k : R (.bool (xs.any p)) G L) : CallT Tryz.prog 234 #[v, fv] G L R := by
  rw [← idxI_any] at k
  refine CallT.enter (args := _) Tryz.func234 rfl rfl (by kernel_rfl) rfl ?_
  refine WP.seq ?_
  refine WP.region ?_
  refine RG.pv rfl (PV.mvB (.inr rfl) rfl) ?_
  refine RG.nil ?_
  refine WP.seq ?_
  refine WP.region ?_
  refine RG.pv rfl (PV.move (v := v) rfl rfl) ?_
  refine RG.pv rfl (PV.move (v := fv) rfl rfl) ?_
  refine RG.callF (vs := [v, fv]) rfl rfl En248 rfl (indexF_shape (Rs.up h1) (fun i hi => (hf i hi).up) ?_)
  refine RG.pv rfl (PV.geq rfl rfl rfl) ?_
  refine RG.pv rfl (PV.mvB (.inr rfl) rfl) ?_
  refine RG.nil ?_
  refine WP.ret ?_
  exact ⟨_, _, ResV.one rfl rfl, Cv.p, k⟩
theorem indexF_inst {v fv : Value} {xs : List (Inst)} {p : (Inst) → Bool} (h1 : Rs G L instT v xs) (hf : ∀ i, i < xs.length → CB Tryz.prog G L fv [vT instT (gd xs i)] (.bool (p (gd xs i)))) (k : R (vi (idxI p xs)) G L) : CallT Tryz.prog 251 #[v, fv] G L R := by
  refine CallT.bd h1 fun hb => ?_
  refine CallT.enter (args := _) Tryz.func251 rfl rfl (by kernel_rfl) rfl ?_
  refine WP.seq ?_
  refine WP.region ?_
  refine RG.pv rfl (PV.mvI (.inr rfl) rfl) ?_
  refine RG.nil ?_
  refine WP.seq ?_
  refine WP.seq ?_
  refine WP.region ?_
  refine RG.pv rfl (PV.move (v := v) rfl rfl) ?_
  refine RG.pv rfl (PV.len (v := v) rfl Tryz.underlying114 rfl (SlF.r h1)) ?_
  refine RG.pv rfl (PV.mvI (.inl rfl) rfl) ?_
  refine RG.nil ?_
  refine WP.block ?_
  refine WP.loop1 [0, 1, 7] (fun i => i ≤ xs.length ∧ ∀ j, j < i → p (gd xs j) = false) (fun i => [(8, vi i)]) (fun i => L) (fun i => xs.length - i) 0 ⟨by omega, fun j h => by omega⟩ ⟨rfl, trivial⟩ Cv.p ?_
  rintro i τ ⟨hi, hj⟩
  refine WP.seq ?_
  refine WP.region ?_
  refine RG.pv rfl (PV.lss rfl rfl rfl) ?_
  refine RG.nil ?_
  refine WP.seq ?_
  refine WP.cond rfl (fun h2 => ?_) (fun h2 => ?_)
  · have h2 := of_decide_eq_true h2
    refine WP.skip ?_
    refine WP.seq ?_
    refine WP.block ?_
    refine WP.seq ?_
    refine WP.region ?_
    refine RG.pv rfl (PV.mvI (.inl rfl) rfl) ?_
    refine RG.pv rfl (PV.mvI (.inr rfl) rfl) ?_
    refine RG.nil ?_
    refine WP.seq ?_
    refine WP.region ?_
    refine RG.pv rfl (PV.move (v := fv) rfl rfl) ?_
    refine RG.pv rfl (PV.move (v := v) rfl rfl) ?_
    refine RG.pv rfl (PV.mvI (.inl rfl) rfl) ?_
    refine RG.pv rfl (PV.idxS (v := v) rfl Is114 rfl (SlF.r h1) rfl rfl (by omega)) ?_
    refine RG.pv rfl (PV.loadE rfl Ag195 rfl rfl (El.r h1 (getG (by omega)))) ?_
    refine RG.callB (vs := [_]) rfl rfl rfl rfl (CB.up (hf i (by omega))) ?_
    refine RG.nil ?_
    refine WP.cond rfl (fun h3 => ?_) (fun h3 => ?_)
    · rw [idxI_at (by omega) h3 hj] at k
      refine WP.seq ?_
      refine WP.region ?_
      refine RG.pv rfl (PV.mvI (.inl rfl) rfl) ?_
      refine RG.pv rfl (PV.mvI (.inr rfl) rfl) ?_
      refine RG.nil ?_
      refine WP.ret ?_
      exact ⟨_, _, ResV.one rfl rfl, Cv.p, k⟩
    · have hj' : ∀ j, j < i + 1 → p (gd xs j) = false := fun j h => by
        by_cases c : j = i
        · rw [c]; exact h3
        · exact hj j (by omega)
      refine WP.skip ?_
      refine WP.region ?_
      refine RG.pv rfl (PV.add rfl rfl rfl (by omega)) ?_
      refine RG.pv rfl (PV.mvI (.inl rfl) rfl) ?_
      refine RG.nil ?_
      exact ⟨rfl, i + 1, ⟨by omega, hj'⟩, ⟨rfl, trivial⟩, ⟨rfl, rfl, rfl, trivial⟩, Cv.p, by omega⟩
  · have h2 := of_decide_eq_false h2
    rw [idxI_none (fun j h => hj j (by omega))] at k
    refine WP.exit ?_
    refine WP.seq ?_
    refine WP.region ?_
    refine RG.pv rfl (PV.mvI (.inr rfl) rfl) ?_
    refine RG.nil ?_
    refine WP.ret ?_
    exact ⟨_, _, ResV.one rfl rfl, Cv.p, k⟩
theorem containsF_inst {v fv : Value} {xs : List (Inst)} {p : (Inst) → Bool} (h1 : Rs G L instT v xs) (hf : ∀ i, i < xs.length → CB Tryz.prog G L fv [vT instT (gd xs i)] (.bool (p (gd xs i)))) (k : R (.bool (xs.any p)) G L) : CallT Tryz.prog 240 #[v, fv] G L R := by
  rw [← idxI_any] at k
  refine CallT.enter (args := _) Tryz.func240 rfl rfl (by kernel_rfl) rfl ?_
  refine WP.seq ?_
  refine WP.region ?_
  refine RG.pv rfl (PV.mvB (.inr rfl) rfl) ?_
  refine RG.nil ?_
  refine WP.seq ?_
  refine WP.region ?_
  refine RG.pv rfl (PV.move (v := v) rfl rfl) ?_
  refine RG.pv rfl (PV.move (v := fv) rfl rfl) ?_
  refine RG.callF (vs := [v, fv]) rfl rfl En251 rfl (indexF_inst (Rs.up h1) (fun i hi => (hf i hi).up) ?_)
  refine RG.pv rfl (PV.geq rfl rfl rfl) ?_
  refine RG.pv rfl (PV.mvB (.inr rfl) rfl) ?_
  refine RG.nil ?_
  refine WP.ret ?_
  exact ⟨_, _, ResV.one rfl rfl, Cv.p, k⟩
theorem okCell_i {c : Cell} {k0 : Int} (hk : 0 ≤ k0 ∧ k0 ≤ 1000) (h1 : Rs G L shapeT c.shapes.v c.shapes.xs) (h2 : Rs G L labelT c.labels.v c.labels.xs) (h3 : Rs G L instT c.insts.v c.insts.xs) (hs : c.name.size ≤ 9223372036854775807) (hlen : lenL c.labels.xs)
    (k : R (.bool (okCell k0 (erCl c))) G L) : CallT Tryz.prog 216 #[vT cellT c, vi k0] G L R := by
  refine CallT.enter (args := _) Tryz.func216 rfl rfl (by kernel_rfl) rfl ?_
  refine WP.seq ?_
  refine WP.region ?_
  refine RG.ot rfl (OT.box (cs := cellT.enc c) rfl rfl rfl fun b2 => ?_)
  refine RG.ot rfl (OT.box (cs := [vi k0]) rfl rfl rfl fun b3 => ?_)
  refine RG.pv rfl (PV.mvB (.inr rfl) rfl) ?_
  refine RG.nil ?_
  refine WP.seq ?_
  refine WP.seq ?_
  refine WP.region ?_
  refine RG.pv rfl (PV.field rfl Fo116_0 rfl) ?_
  refine RG.pv rfl (PV.load1 rfl Sc9 rfl (Rd.blk rfl)) ?_
  refine RG.callF (vs := [_]) rfl rfl En233 rfl (isName_i hs ?_)
  refine RG.pv rfl (PV.not rfl rfl) ?_
  refine RG.pv rfl (PV.mvB (.inl rfl) rfl) ?_
  refine RG.gs rfl rfl rfl (fun hp => (PV.field rfl Fo116_1 rfl)) ?_
  refine RG.gs rfl rfl rfl (fun hp => (PV.load1 rfl Sc83 (gs_t hp) (Rd.blk rfl))) ?_
  refine RG.gs rfl rfl rfl (fun hp => (PV.len rfl Tryz.underlying83 (gs_t hp) (SlF.r h1))) ?_
  refine RG.gs rfl rfl rfl (fun hp => (PV.gtr rfl (gs_t hp) rfl)) ?_
  refine RG.pv rfl (PV.pickO rfl rfl rfl (fun hq => gs_t (geqF hq))) ?_
  refine RG.pv rfl (PV.mvB (.inl rfl) rfl) ?_
  refine RG.gs rfl rfl rfl (fun hp => (PV.field rfl Fo116_2 rfl)) ?_
  refine RG.gs rfl rfl rfl (fun hp => (PV.load1 rfl Sc113 (gs_t hp) (Rd.blk rfl))) ?_
  refine RG.gs rfl rfl rfl (fun hp => (PV.len rfl Tryz.underlying113 (gs_t hp) (SlF.r h2))) ?_
  refine RG.gs rfl rfl rfl (fun hp => (PV.gtr rfl (gs_t hp) rfl)) ?_
  refine RG.pv rfl (PV.pickO rfl rfl rfl (fun hq => gs_t (geqF hq))) ?_
  refine RG.pv rfl (PV.mvB (.inl rfl) rfl) ?_
  refine RG.gs rfl rfl rfl (fun hp => (PV.field rfl Fo116_3 rfl)) ?_
  refine RG.gs rfl rfl rfl (fun hp => (PV.load1 rfl Sc114 (gs_t hp) (Rd.blk rfl))) ?_
  refine RG.gs rfl rfl rfl (fun hp => (PV.len rfl Tryz.underlying114 (gs_t hp) (SlF.r h3))) ?_
  refine RG.gs rfl rfl rfl (fun hp => (PV.gtr rfl (gs_t hp) rfl)) ?_
  refine RG.pv rfl (PV.pickO rfl rfl rfl (fun hq => gs_t (geqF hq))) ?_
  refine RG.nil ?_
  refine WP.cond rfl (fun h4 => ?_) (fun h4 => ?_)
  · have e : okCell k0 (erCl c) = false := by
      simp [okCell, erCl] at h4 ⊢
      grind
    rw [e] at k
    refine WP.seq ?_
    refine WP.region ?_
    refine RG.pv rfl (PV.mvB (.inr rfl) rfl) ?_
    refine RG.nil ?_
    refine WP.ret ?_
    exact ⟨_, _, ResV.one rfl rfl, Cv.p, k⟩
  · refine WP.skip ?_
    refine WP.seq ?_
    refine WP.region ?_
    refine RG.pv rfl (PV.field rfl Fo116_1 rfl) ?_
    refine RG.pv rfl (PV.load1 rfl Sc83 rfl (Rd.blk rfl)) ?_
    refine RG.callF (vs := [_, _]) rfl rfl En234 rfl (containsF_shape (Rs.up h1) (p := fun s => !okSh s) (fun i hi => CB.mk0 En235 fun L' R c k => notSh_s k) ?_)
    refine RG.pv rfl (PV.not rfl rfl) ?_
    refine RG.pv rfl (PV.mvB (.inl rfl) rfl) ?_
    refine RG.gs rfl rfl rfl (fun hp => (PV.field rfl Fo116_2 rfl)) ?_
    refine RG.gs rfl rfl rfl (fun hp => (PV.load1 rfl Sc113 (gs_t hp) (Rd.blk rfl))) ?_
    refine RG.gsC rfl rfl rfl rfl En237 (fun hp => ⟨_, (acons (gs_t hp) (acons rfl anil)), containsF_label (Rs.up h2) (p := fun l => !validLb l) (fun i hi => CB.mk0 En238 fun L' R c k => notLb2_s (hlen i hi) k) ⟨rfl, rfl, rfl⟩⟩) ?_
    refine RG.gs rfl rfl rfl (fun hp => (PV.not rfl (gs_t hp))) ?_
    refine RG.pv rfl (PV.pickA rfl rfl (fun hq => gs_t (geqT hq)) rfl) ?_
    refine RG.pv rfl (PV.mvB (.inl rfl) rfl) ?_
    refine RG.gs rfl rfl rfl (fun hp => (PV.field rfl Fo116_3 rfl)) ?_
    refine RG.gs rfl rfl rfl (fun hp => (PV.load1 rfl Sc114 (gs_t hp) (Rd.blk rfl))) ?_
    refine RG.gs rfl rfl rfl (fun hp => (PV.mkf1 rfl rfl)) ?_
    refine RG.gsC rfl rfl rfl rfl En240 (fun hp => ⟨_, (acons (gs_t hp) (acons (gs_t hp) anil)), containsF_inst (Rs.up h3) (p := fun n => !okIn k0 n) (fun i hi => CB.mk1 En241 fun L' R c k => notIn_s hk (Rd.cv (Rd.blk rfl) c) k) ⟨rfl, rfl, rfl⟩⟩) ?_
    refine RG.gs rfl rfl rfl (fun hp => (PV.not rfl (gs_t hp))) ?_
    refine RG.pv rfl (PV.pickA rfl rfl (fun hq => gs_t (geqT hq)) rfl) ?_
    refine RG.pv rfl (PV.mvB (.inr rfl) rfl) ?_
    refine RG.nil ?_
    refine WP.ret ?_
    have e : okCell k0 (erCl c) = (!(c.shapes.xs.any fun s => !okSh s) && !(c.labels.xs.any fun l => !validLb l) && !(c.insts.xs.any fun n => !okIn k0 n)) := by
      simp [okCell, erCl] at h4 ⊢
      grind
    rw [e] at k
    exact ⟨_, _, ResV.one rfl rfl, Cv.p, k⟩
theorem named1_s {c : Cell} {nm : ByteArray} {b : Nat} (hb : Rd G L b 0 (.string nm)) (k : R (.bool (decide (c.name = nm))) G L) : CallT Tryz.prog 244 #[vT cellT c, .pointer (some ⟨b, 0, none⟩)] G L R := by
  refine CallT.enter (args := _) Tryz.func244 rfl rfl (by kernel_rfl) rfl ?_
  refine WP.seq ?_
  refine WP.region ?_
  refine RG.ot rfl (OT.box (cs := cellT.enc c) rfl rfl rfl fun b2 => ?_)
  refine RG.pv rfl (PV.mvB (.inr rfl) rfl) ?_
  refine RG.nil ?_
  refine WP.seq ?_
  refine WP.region ?_
  refine RG.pv rfl (PV.field rfl Fo116_0 rfl) ?_
  refine RG.pv rfl (PV.load1 rfl Sc9 rfl (Rd.blk rfl)) ?_
  refine RG.pv rfl (PV.load1 rfl Sc9 rfl (Rd.up hb)) ?_
  refine RG.pv rfl (PV.eqlS rfl rfl rfl) ?_
  refine RG.pv rfl (PV.mvB (.inr rfl) rfl) ?_
  refine RG.nil ?_
  refine WP.ret ?_
  exact ⟨_, _, ResV.one rfl rfl, Cv.p, k⟩
theorem indexF_cell {v fv : Value} {xs : List (Cell)} {p : (Cell) → Bool} (h1 : Rs G L cellT v xs) (hf : ∀ i, i < xs.length → CB Tryz.prog G L fv [vT cellT (gd xs i)] (.bool (p (gd xs i)))) (k : R (vi (idxI p xs)) G L) : CallT Tryz.prog 243 #[v, fv] G L R := by
  refine CallT.bd h1 fun hb => ?_
  refine CallT.enter (args := _) Tryz.func243 rfl rfl (by kernel_rfl) rfl ?_
  refine WP.seq ?_
  refine WP.region ?_
  refine RG.pv rfl (PV.mvI (.inr rfl) rfl) ?_
  refine RG.nil ?_
  refine WP.seq ?_
  refine WP.seq ?_
  refine WP.region ?_
  refine RG.pv rfl (PV.move (v := v) rfl rfl) ?_
  refine RG.pv rfl (PV.len (v := v) rfl Tryz.underlying29 rfl (SlF.r h1)) ?_
  refine RG.pv rfl (PV.mvI (.inl rfl) rfl) ?_
  refine RG.nil ?_
  refine WP.block ?_
  refine WP.loop1 [0, 1, 7] (fun i => i ≤ xs.length ∧ ∀ j, j < i → p (gd xs j) = false) (fun i => [(8, vi i)]) (fun i => L) (fun i => xs.length - i) 0 ⟨by omega, fun j h => by omega⟩ ⟨rfl, trivial⟩ Cv.p ?_
  rintro i τ ⟨hi, hj⟩
  refine WP.seq ?_
  refine WP.region ?_
  refine RG.pv rfl (PV.lss rfl rfl rfl) ?_
  refine RG.nil ?_
  refine WP.seq ?_
  refine WP.cond rfl (fun h2 => ?_) (fun h2 => ?_)
  · have h2 := of_decide_eq_true h2
    refine WP.skip ?_
    refine WP.seq ?_
    refine WP.block ?_
    refine WP.seq ?_
    refine WP.region ?_
    refine RG.pv rfl (PV.mvI (.inl rfl) rfl) ?_
    refine RG.pv rfl (PV.mvI (.inr rfl) rfl) ?_
    refine RG.nil ?_
    refine WP.seq ?_
    refine WP.region ?_
    refine RG.pv rfl (PV.move (v := fv) rfl rfl) ?_
    refine RG.pv rfl (PV.move (v := v) rfl rfl) ?_
    refine RG.pv rfl (PV.mvI (.inl rfl) rfl) ?_
    refine RG.pv rfl (PV.idxS (v := v) rfl Is29 rfl (SlF.r h1) rfl rfl (by omega)) ?_
    refine RG.pv rfl (PV.loadE rfl Ag116 rfl rfl (El.r h1 (getG (by omega)))) ?_
    refine RG.callB (vs := [_]) rfl rfl rfl rfl (CB.up (hf i (by omega))) ?_
    refine RG.nil ?_
    refine WP.cond rfl (fun h3 => ?_) (fun h3 => ?_)
    · rw [idxI_at (by omega) h3 hj] at k
      refine WP.seq ?_
      refine WP.region ?_
      refine RG.pv rfl (PV.mvI (.inl rfl) rfl) ?_
      refine RG.pv rfl (PV.mvI (.inr rfl) rfl) ?_
      refine RG.nil ?_
      refine WP.ret ?_
      exact ⟨_, _, ResV.one rfl rfl, Cv.p, k⟩
    · have hj' : ∀ j, j < i + 1 → p (gd xs j) = false := fun j h => by
        by_cases c : j = i
        · rw [c]; exact h3
        · exact hj j (by omega)
      refine WP.skip ?_
      refine WP.region ?_
      refine RG.pv rfl (PV.add rfl rfl rfl (by omega)) ?_
      refine RG.pv rfl (PV.mvI (.inl rfl) rfl) ?_
      refine RG.nil ?_
      exact ⟨rfl, i + 1, ⟨by omega, hj'⟩, ⟨rfl, trivial⟩, ⟨rfl, rfl, rfl, trivial⟩, Cv.p, by omega⟩
  · have h2 := of_decide_eq_false h2
    rw [idxI_none (fun j h => hj j (by omega))] at k
    refine WP.exit ?_
    refine WP.seq ?_
    refine WP.region ?_
    refine RG.pv rfl (PV.mvI (.inr rfl) rfl) ?_
    refine RG.nil ?_
    refine WP.ret ?_
    exact ⟨_, _, ResV.one rfl rfl, Cv.p, k⟩
theorem named_i {l : Lib} {nm : ByteArray} (h1 : Rs G L cellT l.cells.v l.cells.xs) (k : R (vi (idxI (fun c : Cell => decide (c.name = nm)) l.cells.xs)) G L) : CallT Tryz.prog 217 #[vT libT l, .string nm] G L R := by
  refine CallT.enter (args := _) Tryz.func217 rfl rfl (by kernel_rfl) rfl ?_
  refine WP.seq ?_
  refine WP.region ?_
  refine RG.ot rfl (OT.box (cs := libT.enc l) rfl rfl rfl fun b2 => ?_)
  refine RG.ot rfl (OT.box rfl rfl rfl fun b3 => ?_)
  refine RG.pv rfl (PV.mvI (.inr rfl) rfl) ?_
  refine RG.nil ?_
  refine WP.seq ?_
  refine WP.region ?_
  refine RG.pv rfl (PV.field rfl Fo31_0 rfl) ?_
  refine RG.pv rfl (PV.load1 rfl Sc29 rfl (Rd.blk rfl)) ?_
  refine RG.pv rfl (PV.mkf1 rfl rfl) ?_
  refine RG.callF (vs := [_, _]) rfl rfl En243 rfl (indexF_cell (Rs.up h1) (p := fun c => decide (c.name = nm)) (fun i hi => CB.mk1 En244 fun L' R c k => named1_s (Rd.cv (Rd.blk rfl) c) k) ?_)
  refine RG.pv rfl (PV.mvI (.inr rfl) rfl) ?_
  refine RG.nil ?_
  refine WP.ret ?_
  exact ⟨_, _, ResV.one rfl rfl, Cv.p, k⟩
theorem named_at {xs : List Cell} {i : Nat} (hi : i < xs.length) : decide (idxI (fun c : Cell => decide (c.name = (gd xs i).name)) xs = (i : Int)) = nameAt (erCls xs) i := by
  have hn : ∀ j, j < xs.length → (gd (erCls xs) j).name = (gd xs j).name := fun j hj => by rw [erCls_gd hj]; rfl
  by_cases h : ∀ j, j < i → (gd xs j).name ≠ (gd xs i).name
  · rw [idxI_at (i := i) hi (by simp) (fun j hj => by simpa using h j hj)]
    have : nameAt (erCls xs) i = true := by
      rw [nameAt, decide_eq_true_iff]
      intro j hj
      rw [hn j (by omega), hn i hi]; exact h j hj
    rw [this]; simp
  · have hx : nameAt (erCls xs) i = false := by
      rw [nameAt, decide_eq_false_iff_not]
      intro hh
      exact h fun j hj => by rw [← hn j (by omega), ← hn i hi]; exact hh j hj
    rw [hx, decide_eq_false_iff_not]
    intro e
    apply h
    intro j hj hq
    have hex : ∃ m, m ≤ j ∧ (gd xs m).name = (gd xs i).name ∧ ∀ l, l < m → (gd xs l).name ≠ (gd xs i).name := by
      induction j using Nat.strongRecOn with
      | ind j ih =>
        by_cases c : ∃ l, l < j ∧ (gd xs l).name = (gd xs i).name
        · obtain ⟨l, hl, hq2⟩ := c
          obtain ⟨m, a1, a2, a3⟩ := ih l hl (by omega) hq2
          exact ⟨m, by omega, a2, a3⟩
        · exact ⟨j, Nat.le_refl _, hq, fun l hl hh => c ⟨l, hl, hh⟩⟩
    obtain ⟨m, a1, a2, a3⟩ := hex
    rw [idxI_at (i := m) (by omega) (by simpa using a2) (fun l hl => by simpa using a3 l hl)] at e
    omega
theorem okLib_i {l : Lib} (hL : RLib G L l.cells.v l.cells.xs) (hlen : lenC (erCls l.cells.xs)) (k : R (.bool (okLib (erCls l.cells.xs))) G L) : CallT Tryz.prog 185 #[vT libT l] G L R := by
  have hE := erCls_len l.cells.xs
  refine CallT.bd hL.c fun hb => ?_
  refine CallT.enter (args := _) Tryz.func185 rfl rfl (by kernel_rfl) rfl ?_
  refine WP.seq ?_
  refine WP.region ?_
  refine RG.ot rfl (OT.box (cs := libT.enc l) rfl rfl rfl fun b1 => ?_)
  refine RG.pv rfl (PV.mvB (.inr rfl) rfl) ?_
  refine RG.nil ?_
  refine WP.seq ?_
  refine WP.seq ?_
  refine WP.region ?_
  refine RG.pv rfl (PV.field rfl Fo31_0 rfl) ?_
  refine RG.pv rfl (PV.load1 rfl Sc29 rfl (Rd.blk rfl)) ?_
  refine RG.pv rfl (PV.len rfl Tryz.underlying29 rfl (SlF.r hL.c)) ?_
  refine RG.pv rfl (PV.lss rfl rfl rfl) ?_
  refine RG.pv rfl (PV.mvB (.inl rfl) rfl) ?_
  refine RG.gs rfl rfl rfl (fun hp => (PV.field rfl Fo31_0 rfl)) ?_
  refine RG.gs rfl rfl rfl (fun hp => (PV.load1 rfl Sc29 (gs_t hp) (Rd.blk rfl))) ?_
  refine RG.gs rfl rfl rfl (fun hp => (PV.len rfl Tryz.underlying29 (gs_t hp) (SlF.r hL.c))) ?_
  refine RG.gs rfl rfl rfl (fun hp => (PV.gtr rfl (gs_t hp) rfl)) ?_
  refine RG.pv rfl (PV.pickO rfl rfl rfl (fun hq => gs_t (geqF hq))) ?_
  refine RG.nil ?_
  refine WP.cond rfl (fun h0 => ?_) (fun h0 => ?_)
  · have e : okLib (erCls l.cells.xs) = false := by
      simp at h0
      simp [okLib, hE]; omega
    rw [e] at k
    refine WP.seq ?_
    refine WP.region ?_
    refine RG.pv rfl (PV.mvB (.inr rfl) rfl) ?_
    refine RG.nil ?_
    refine WP.ret ?_
    exact ⟨_, _, ResV.one rfl rfl, Cv.p, k⟩
  · simp at h0
    refine WP.skip ?_
    refine WP.seq ?_
    refine WP.seq ?_
    refine WP.region ?_
    refine RG.pv rfl (PV.field rfl Fo31_0 rfl) ?_
    refine RG.pv rfl (PV.load1 rfl Sc29 rfl (Rd.blk rfl)) ?_
    refine RG.pv rfl (PV.len rfl Tryz.underlying29 rfl (SlF.r hL.c)) ?_
    refine RG.pv rfl (PV.mvI (.inl rfl) rfl) ?_
    refine RG.nil ?_
    refine WP.block ?_
    refine WP.loop1 [1, 16, 17] (fun i => i ≤ l.cells.xs.length ∧ ∀ j, j < i → cellAt (erCls l.cells.xs) j = true) (fun i => [(18, vi i)]) (fun i => blk b1 31 (libT.enc l) :: L) (fun i => l.cells.xs.length - i) 0 ⟨by omega, fun j h => by omega⟩ ⟨rfl, trivial⟩ Cv.p ?_
    rintro i τ ⟨hi, hj⟩
    refine WP.seq ?_
    refine WP.region ?_
    refine RG.pv rfl (PV.lss rfl rfl rfl) ?_
    refine RG.nil ?_
    refine WP.seq ?_
    refine WP.cond rfl (fun h2 => ?_) (fun h2 => ?_)
    · have h2 := of_decide_eq_true h2
      have h3 : i < l.cells.xs.length := by omega
      refine WP.skip ?_
      refine WP.seq ?_
      refine WP.block ?_
      refine WP.seq ?_
      refine WP.region ?_
      refine RG.pv rfl (PV.mvI (.inl rfl) rfl) ?_
      refine RG.pv rfl (PV.idxS rfl Is29 rfl (SlF.r hL.c) rfl rfl (by omega)) ?_
      refine RG.pv rfl (PV.loadE rfl Ag116 rfl rfl (El.r hL.c (getG (by omega)))) ?_
      refine RG.ot rfl (OT.alloc rfl Zr116 fun b4 => ?_)
      refine RG.pv rfl (PV.mvI (.inr rfl) rfl) ?_
      refine RG.ot rfl (OT.storeW (vs := [.string _, _, _, _]) rfl Sz116 rfl rfl (Cl.c rfl) rfl rfl (hL.one h3) ?_)
      refine RG.nil ?_
      refine WP.seq ?_
      refine WP.region ?_
      refine RG.pv rfl (PV.loadW rfl Ag116 rfl rfl) ?_
      refine RG.pv rfl (PV.mvI (.inl rfl) rfl) ?_
      refine RG.callF (vs := [_, _]) rfl rfl En216 rfl (okCell_i (by omega) (hL.sa (by omega)).up (hL.la (by omega)).up (hL.na (by omega)).up (hlen.one (by omega)).1 (hlen.one (by omega)).2 ?_)
      refine RG.pv rfl (PV.not rfl rfl) ?_
      refine RG.pv rfl (PV.mvB (.inl rfl) rfl) ?_
      refine RG.gs rfl rfl rfl (fun hp => (PV.loadW rfl Ag31 rfl rfl)) ?_
      refine RG.gs rfl rfl rfl (fun hp => (PV.field rfl Fo116_0 rfl)) ?_
      refine RG.gs rfl rfl rfl (fun hp => (PV.load1 rfl Sc9 (gs_t hp) (Rd.blk rfl))) ?_
      refine RG.gsC rfl rfl rfl rfl En217 (fun hp => ⟨_, (acons (gs_t hp) (acons (gs_t hp) anil)), named_i hL.c.up ⟨rfl, rfl, rfl⟩⟩) ?_
      refine RG.gs rfl rfl rfl (fun hp => (PV.mvI (.inl rfl) rfl)) ?_
      refine RG.gs rfl rfl rfl (fun hp => (PV.neq rfl (gs_t hp) (gs_t hp))) ?_
      refine RG.pv rfl (PV.pickO rfl rfl rfl (fun hq => gs_t (geqF hq))) ?_
      refine RG.nil ?_
      refine WP.cond rfl (fun h4 => ?_) (fun h4 => ?_)
      · have e : cellAt (erCls l.cells.xs) i = false := by
          simp [cellAt, erCls_gd h3, ← named_at h3] at h4 ⊢
          grind
        rw [okLib_false (by omega) e] at k
        refine WP.seq ?_
        refine WP.region ?_
        refine RG.pv rfl (PV.mvB (.inr rfl) rfl) ?_
        refine RG.nil ?_
        refine WP.ret ?_
        exact ⟨_, _, ResV.one rfl rfl, Cv.p, k⟩
      · have e : cellAt (erCls l.cells.xs) i = true := by
          simp [cellAt, erCls_gd h3, ← named_at h3] at h4 ⊢
          grind
        have hj' : ∀ j, j < i + 1 → cellAt (erCls l.cells.xs) j = true := fun j h => by
          by_cases c : j = i
          · rw [c]; exact e
          · exact hj j (by omega)
        refine WP.skip ?_
        refine WP.region ?_
        refine RG.pv rfl (PV.add rfl rfl rfl (by omega)) ?_
        refine RG.pv rfl (PV.mvI (.inl rfl) rfl) ?_
        refine RG.nil ?_
        exact ⟨rfl, i + 1, ⟨by omega, hj'⟩, ⟨rfl, trivial⟩, ⟨rfl, rfl, rfl, trivial⟩, Cv.p, by omega⟩
    · have h2 := of_decide_eq_false h2
      rw [okLib_all (by omega) (by omega) (fun j h => hj j (by omega))] at k
      refine WP.exit ?_
      refine WP.seq ?_
      refine WP.region ?_
      refine RG.pv rfl (PV.mvB (.inr rfl) rfl) ?_
      refine RG.nil ?_
      refine WP.ret ?_
      exact ⟨_, _, ResV.one rfl rfl, Cv.p, k⟩
theorem l09Rect_r {r : Rect} (k : R (.bool (validRect r)) G L) : CallT Tryz.prog 143 #[vrect r] G L R := by
  refine CallT.enter (args := _) Tryz.func143 rfl rfl (by kernel_rfl) rfl ?_
  refine WP.seq ?_
  refine WP.region ?_
  refine RG.ot rfl (OT.box (cs := rectT.enc r) rfl rfl rfl fun b1 => ?_)
  refine RG.pv rfl (PV.mvB (.inr rfl) rfl) ?_
  refine RG.nil ?_
  refine WP.seq ?_
  refine WP.region ?_
  refine RG.pv rfl (PV.field rfl Fo140_0 rfl) ?_
  refine RG.pv rfl (PV.load1 rfl Sc2 rfl (Rd.blk rfl)) ?_
  refine RG.pv rfl (PV.leq rfl rfl rfl) ?_
  refine RG.pv rfl (PV.mvB (.inl rfl) rfl) ?_
  refine RG.gs rfl rfl rfl (fun hp => (PV.field rfl Fo140_0 rfl)) ?_
  refine RG.gs rfl rfl rfl (fun hp => (PV.load1 rfl Sc2 (gs_t hp) (Rd.blk rfl))) ?_
  refine RG.gs rfl rfl rfl (fun hp => (PV.field rfl Fo140_2 rfl)) ?_
  refine RG.gs rfl rfl rfl (fun hp => (PV.load1 rfl Sc2 (gs_t hp) (Rd.blk rfl))) ?_
  refine RG.gs rfl rfl rfl (fun hp => (PV.lss rfl (gs_t hp) (gs_t hp))) ?_
  refine RG.pv rfl (PV.pickA rfl rfl (fun hq => gs_t (geqT hq)) rfl) ?_
  refine RG.pv rfl (PV.mvB (.inl rfl) rfl) ?_
  refine RG.gs rfl rfl rfl (fun hp => (PV.field rfl Fo140_2 rfl)) ?_
  refine RG.gs rfl rfl rfl (fun hp => (PV.load1 rfl Sc2 (gs_t hp) (Rd.blk rfl))) ?_
  refine RG.gs rfl rfl rfl (fun hp => (PV.leq rfl (gs_t hp) rfl)) ?_
  refine RG.pv rfl (PV.pickA rfl rfl (fun hq => gs_t (geqT hq)) rfl) ?_
  refine RG.pv rfl (PV.mvB (.inl rfl) rfl) ?_
  refine RG.gs rfl rfl rfl (fun hp => (PV.field rfl Fo140_1 rfl)) ?_
  refine RG.gs rfl rfl rfl (fun hp => (PV.load1 rfl Sc2 (gs_t hp) (Rd.blk rfl))) ?_
  refine RG.gs rfl rfl rfl (fun hp => (PV.leq rfl rfl (gs_t hp))) ?_
  refine RG.pv rfl (PV.pickA rfl rfl (fun hq => gs_t (geqT hq)) rfl) ?_
  refine RG.pv rfl (PV.mvB (.inl rfl) rfl) ?_
  refine RG.gs rfl rfl rfl (fun hp => (PV.field rfl Fo140_1 rfl)) ?_
  refine RG.gs rfl rfl rfl (fun hp => (PV.load1 rfl Sc2 (gs_t hp) (Rd.blk rfl))) ?_
  refine RG.gs rfl rfl rfl (fun hp => (PV.field rfl Fo140_3 rfl)) ?_
  refine RG.gs rfl rfl rfl (fun hp => (PV.load1 rfl Sc2 (gs_t hp) (Rd.blk rfl))) ?_
  refine RG.gs rfl rfl rfl (fun hp => (PV.lss rfl (gs_t hp) (gs_t hp))) ?_
  refine RG.pv rfl (PV.pickA rfl rfl (fun hq => gs_t (geqT hq)) rfl) ?_
  refine RG.pv rfl (PV.mvB (.inl rfl) rfl) ?_
  refine RG.gs rfl rfl rfl (fun hp => (PV.field rfl Fo140_3 rfl)) ?_
  refine RG.gs rfl rfl rfl (fun hp => (PV.load1 rfl Sc2 (gs_t hp) (Rd.blk rfl))) ?_
  refine RG.gs rfl rfl rfl (fun hp => (PV.leq rfl (gs_t hp) rfl)) ?_
  refine RG.pv rfl (PV.pickA rfl rfl (fun hq => gs_t (geqT hq)) rfl) ?_
  refine RG.pv rfl (PV.mvB (.inr rfl) rfl) ?_
  refine RG.nil ?_
  refine WP.ret ?_
  exact ⟨_, _, ResV.one rfl rfl, Cv.p, k⟩
theorem l09Trans_r {t : Trans} (k : R (.bool (validT t)) G L) : CallT Tryz.prog 103 #[vtrans t] G L R := by
  refine CallT.enter (args := _) Tryz.func103 rfl rfl (by kernel_rfl) rfl ?_
  refine WP.seq ?_
  refine WP.region ?_
  refine RG.ot rfl (OT.box (cs := transT.enc t) rfl rfl rfl fun b1 => ?_)
  refine RG.pv rfl (PV.mvB (.inr rfl) rfl) ?_
  refine RG.nil ?_
  refine WP.seq ?_
  refine WP.region ?_
  refine RG.pv rfl (PV.field rfl Fo136_0 rfl) ?_
  refine RG.pv rfl (PV.load1 rfl Sc2 rfl (Rd.blk rfl)) ?_
  refine RG.callF (vs := [_, _, _]) rfl rfl En151 rfl (l09In_s ?_)
  refine RG.pv rfl (PV.mvB (.inl rfl) rfl) ?_
  refine RG.gs rfl rfl rfl (fun hp => (PV.field rfl Fo136_1 rfl)) ?_
  refine RG.gs rfl rfl rfl (fun hp => (PV.load1 rfl Sc2 (gs_t hp) (Rd.blk rfl))) ?_
  refine RG.gsC rfl rfl rfl rfl En151 (fun hp => ⟨_, (acons (gs_t hp) (acons rfl (acons rfl anil))), l09In_s ⟨rfl, rfl, rfl⟩⟩) ?_
  refine RG.pv rfl (PV.pickA rfl rfl (fun hq => gs_t (geqT hq)) rfl) ?_
  refine RG.pv rfl (PV.mvB (.inl rfl) rfl) ?_
  refine RG.gs rfl rfl rfl (fun hp => (PV.field rfl Fo136_2 rfl)) ?_
  refine RG.gs rfl rfl rfl (fun hp => (PV.load1 rfl Sc2 (gs_t hp) (Rd.blk rfl))) ?_
  refine RG.gsC rfl rfl rfl rfl En151 (fun hp => ⟨_, (acons (gs_t hp) (acons rfl (acons rfl anil))), l09In_s ⟨rfl, rfl, rfl⟩⟩) ?_
  refine RG.pv rfl (PV.pickA rfl rfl (fun hq => gs_t (geqT hq)) rfl) ?_
  refine RG.pv rfl (PV.mvB (.inr rfl) rfl) ?_
  refine RG.nil ?_
  refine WP.ret ?_
  have e : validT t = ((within t.o 0 7 && within t.x (-80) 80) && within t.y (-80) 80) := (Bool.and_assoc _ _ _).symm
  rw [e] at k
  exact ⟨_, _, ResV.one rfl rfl, Cv.p, k⟩
theorem okSh_r {s : Shape} (k : R (.bool (okSh s)) G L) : CallT Tryz.prog 198 #[vT shapeT s] G L R := by
  refine CallT.enter (args := _) Tryz.func198 rfl rfl (by kernel_rfl) rfl ?_
  refine WP.seq ?_
  refine WP.region ?_
  refine RG.ot rfl (OT.box (cs := shapeT.enc s) rfl rfl rfl fun b1 => ?_)
  refine RG.pv rfl (PV.mvB (.inr rfl) rfl) ?_
  refine RG.nil ?_
  refine WP.seq ?_
  refine WP.region ?_
  refine RG.pv rfl (PV.field rfl Fo142_0 rfl) ?_
  refine RG.pv rfl (PV.load1 rfl Sc2 rfl (Rd.blk rfl)) ?_
  refine RG.callF (vs := [_]) rfl rfl En222 rfl (l09Layer_s ?_)
  refine RG.pv rfl (PV.mvB (.inl rfl) rfl) ?_
  refine RG.gs rfl rfl rfl (fun hp => (PV.field rfl Fo142_1 rfl)) ?_
  refine RG.gs rfl rfl rfl (fun hp => (PV.loadB (vs := [_, _, _, _]) rfl Ag140 (gs_t hp) rfl rfl)) ?_
  refine RG.gsC rfl rfl rfl rfl En143 (fun hp => ⟨_, (acons (gs_t hp) anil), l09Rect_r ⟨rfl, rfl, rfl⟩⟩) ?_
  refine RG.pv rfl (PV.pickA rfl rfl (fun hq => gs_t (geqT hq)) rfl) ?_
  refine RG.pv rfl (PV.mvB (.inr rfl) rfl) ?_
  refine RG.nil ?_
  refine WP.ret ?_
  exact ⟨_, _, ResV.one rfl rfl, Cv.p, k⟩
theorem okIn_r {n : Inst} {k0 : Int} (hk : 0 ≤ k0 ∧ k0 ≤ 1000) (k : R (.bool (okIn k0 n)) G L) : CallT Tryz.prog 200 #[vT instT n, vi k0] G L R := by
  refine CallT.enter (args := _) Tryz.func200 rfl rfl (by kernel_rfl) rfl ?_
  refine WP.seq ?_
  refine WP.region ?_
  refine RG.ot rfl (OT.box (cs := instT.enc n) rfl rfl rfl fun b2 => ?_)
  refine RG.pv rfl (PV.mvB (.inr rfl) rfl) ?_
  refine RG.nil ?_
  refine WP.seq ?_
  refine WP.seq ?_
  refine WP.region ?_
  refine RG.pv rfl (PV.field rfl Fo195_0 rfl) ?_
  refine RG.pv rfl (PV.load1 rfl Sc2 rfl (Rd.blk rfl)) ?_
  refine RG.pv rfl (PV.mvI (.inl rfl) rfl) ?_
  refine RG.pv rfl (PV.sub rfl rfl rfl (by omega)) ?_
  refine RG.callF (vs := [_, _, _]) rfl rfl En151 rfl (l09In_s ?_)
  refine RG.pv rfl (PV.not rfl rfl) ?_
  refine RG.pv rfl (PV.mvB (.inl rfl) rfl) ?_
  refine RG.gs rfl rfl rfl (fun hp => (PV.field rfl Fo195_1 rfl)) ?_
  refine RG.gs rfl rfl rfl (fun hp => (PV.loadB (vs := [_, _, _]) rfl Ag136 (gs_t hp) rfl rfl)) ?_
  refine RG.gsC rfl rfl rfl rfl En103 (fun hp => ⟨_, (acons (gs_t hp) anil), l09Trans_r ⟨rfl, rfl, rfl⟩⟩) ?_
  refine RG.gs rfl rfl rfl (fun hp => (PV.not rfl (gs_t hp))) ?_
  refine RG.pv rfl (PV.pickO rfl rfl rfl (fun hq => gs_t (geqF hq))) ?_
  refine RG.pv rfl (PV.mvB (.inl rfl) rfl) ?_
  refine RG.gs rfl rfl rfl (fun hp => (PV.field rfl Fo195_2 rfl)) ?_
  refine RG.gs rfl rfl rfl (fun hp => (PV.load1 rfl Sc2 (gs_t hp) (Rd.blk rfl))) ?_
  refine RG.gsC rfl rfl rfl rfl En151 (fun hp => ⟨_, (acons (gs_t hp) (acons rfl (acons rfl anil))), l09In_s ⟨rfl, rfl, rfl⟩⟩) ?_
  refine RG.gs rfl rfl rfl (fun hp => (PV.not rfl (gs_t hp))) ?_
  refine RG.pv rfl (PV.pickO rfl rfl rfl (fun hq => gs_t (geqF hq))) ?_
  refine RG.pv rfl (PV.mvB (.inl rfl) rfl) ?_
  refine RG.gs rfl rfl rfl (fun hp => (PV.field rfl Fo195_3 rfl)) ?_
  refine RG.gs rfl rfl rfl (fun hp => (PV.load1 rfl Sc2 (gs_t hp) (Rd.blk rfl))) ?_
  refine RG.gsC rfl rfl rfl rfl En151 (fun hp => ⟨_, (acons (gs_t hp) (acons rfl (acons rfl anil))), l09In_s ⟨rfl, rfl, rfl⟩⟩) ?_
  refine RG.gs rfl rfl rfl (fun hp => (PV.not rfl (gs_t hp))) ?_
  refine RG.pv rfl (PV.pickO rfl rfl rfl (fun hq => gs_t (geqF hq))) ?_
  refine RG.nil ?_
  refine WP.cond rfl (fun h1 => ?_) (fun h1 => ?_)
  · have e : okIn k0 n = false := by
      simp [okIn] at h1 ⊢; grind
    rw [e] at k
    refine WP.seq ?_
    refine WP.region ?_
    refine RG.pv rfl (PV.mvB (.inr rfl) rfl) ?_
    refine RG.nil ?_
    refine WP.ret ?_
    exact ⟨_, _, ResV.one rfl rfl, Cv.p, k⟩
  · refine WP.skip ?_
    refine WP.seq ?_
    refine WP.seq ?_
    refine WP.region ?_
    refine RG.pv rfl (PV.field rfl Fo195_4 rfl) ?_
    refine RG.pv rfl (PV.load1 rfl Sc2 rfl (Rd.blk rfl)) ?_
    refine RG.callF (vs := [_, _, _]) rfl rfl En151 rfl (l09In_s ?_)
    refine RG.pv rfl (PV.not rfl rfl) ?_
    refine RG.pv rfl (PV.mvB (.inl rfl) rfl) ?_
    refine RG.gs rfl rfl rfl (fun hp => (PV.field rfl Fo195_5 rfl)) ?_
    refine RG.gs rfl rfl rfl (fun hp => (PV.load1 rfl Sc2 (gs_t hp) (Rd.blk rfl))) ?_
    refine RG.gsC rfl rfl rfl rfl En151 (fun hp => ⟨_, (acons (gs_t hp) (acons rfl (acons rfl anil))), l09In_s ⟨rfl, rfl, rfl⟩⟩) ?_
    refine RG.gs rfl rfl rfl (fun hp => (PV.not rfl (gs_t hp))) ?_
    refine RG.pv rfl (PV.pickO rfl rfl rfl (fun hq => gs_t (geqF hq))) ?_
    refine RG.nil ?_
    refine WP.cond rfl (fun h2 => ?_) (fun h2 => ?_)
    · have e : okIn k0 n = false := by
        simp [okIn] at h2 ⊢; grind
      rw [e] at k
      refine WP.seq ?_
      refine WP.region ?_
      refine RG.pv rfl (PV.mvB (.inr rfl) rfl) ?_
      refine RG.nil ?_
      refine WP.ret ?_
      exact ⟨_, _, ResV.one rfl rfl, Cv.p, k⟩
    · have e : okIn k0 n = ((decide (1 < n.cols) || decide (n.sx = 0)) && (decide (1 < n.rows) || decide (n.sy = 0))) := by
        simp [okIn] at h1 h2 ⊢; grind
      rw [e] at k
      refine WP.skip ?_
      refine WP.seq ?_
      refine WP.region ?_
      refine RG.pv rfl (PV.field rfl Fo195_2 rfl) ?_
      refine RG.pv rfl (PV.load1 rfl Sc2 rfl (Rd.blk rfl)) ?_
      refine RG.pv rfl (PV.gtr rfl rfl rfl) ?_
      refine RG.pv rfl (PV.mvB (.inl rfl) rfl) ?_
      refine RG.gs rfl rfl rfl (fun hp => (PV.field rfl Fo195_4 rfl)) ?_
      refine RG.gs rfl rfl rfl (fun hp => (PV.load1 rfl Sc2 (gs_t hp) (Rd.blk rfl))) ?_
      refine RG.gs rfl rfl rfl (fun hp => (PV.eql rfl (gs_t hp) rfl)) ?_
      refine RG.pv rfl (PV.pickO rfl rfl rfl (fun hq => gs_t (geqF hq))) ?_
      refine RG.pv rfl (PV.mvB (.inl rfl) rfl) ?_
      refine RG.gs rfl rfl rfl (fun hp => (PV.field rfl Fo195_3 rfl)) ?_
      refine RG.gs rfl rfl rfl (fun hp => (PV.load1 rfl Sc2 (gs_t hp) (Rd.blk rfl))) ?_
      refine RG.gs rfl rfl rfl (fun hp => (PV.gtr rfl (gs_t hp) rfl)) ?_
      refine RG.gs rfl rfl rfl (fun hp => (PV.mvB (.inl rfl) (gs_t hp))) ?_
      refine RG.gs2 rfl rfl rfl (fun hp => (PV.field rfl Fo195_5 rfl)) ?_
      refine RG.gs2 rfl rfl rfl (fun hp => (PV.load1 rfl Sc2 (gs_t hp) (Rd.blk rfl))) ?_
      refine RG.gs2 rfl rfl rfl (fun hp => (PV.eql rfl (gs_t hp) rfl)) ?_
      refine RG.gs rfl rfl rfl (fun hp => (PV.pickO rfl (gs_t hp) rfl (fun hq => gs_t (gandF hp hq)))) ?_
      refine RG.pv rfl (PV.pickA rfl rfl (fun hq => gs_t (geqT hq)) rfl) ?_
      refine RG.pv rfl (PV.mvB (.inr rfl) rfl) ?_
      refine RG.nil ?_
      refine WP.ret ?_
      exact ⟨_, _, ResV.one rfl rfl, Cv.p, k⟩
theorem okCell_r {c : Cell} {k0 : Int} (hk : 0 ≤ k0 ∧ k0 ≤ 1000) (h1 : Rs G L shapeT c.shapes.v c.shapes.xs) (h2 : Rs G L labelT c.labels.v c.labels.xs) (h3 : Rs G L instT c.insts.v c.insts.xs) (hs : c.name.size ≤ 9223372036854775807) (hlen : lenL c.labels.xs)
    (k : R (.bool (okCell k0 (erCl c))) G L) : CallT Tryz.prog 150 #[vT cellT c, vi k0] G L R := by
  have any0 : ∀ {α : Type} [Inhabited α] {p : α → Bool} {xs : List α}, (∀ j, j < xs.length → p (gd xs j) = true) → (xs.any fun a => !p a) = false := fun {α} _ {p xs} h => by
    rw [List.any_eq_false]; intro a ha; obtain ⟨j, hj, rfl⟩ := List.getElem_of_mem ha; have := h j hj; rw [gd_eq hj] at this; simp [this]
  have any1 : ∀ {α : Type} [Inhabited α] {p : α → Bool} {xs : List α} {j : Nat}, j < xs.length → p (gd xs j) = false → (xs.any fun a => !p a) = true := fun {α} _ {p xs j} h e =>
    List.any_eq_true.2 ⟨gd xs j, gd_mem h, by simp [e]⟩
  refine CallT.bd h1 fun hb1 => ?_
  refine CallT.bd h2 fun hb2 => ?_
  refine CallT.bd h3 fun hb3 => ?_
  refine CallT.enter (args := _) Tryz.func150 rfl rfl (by kernel_rfl) rfl ?_
  refine WP.seq ?_
  refine WP.region ?_
  refine RG.ot rfl (OT.box (cs := cellT.enc c) rfl rfl rfl fun b2 => ?_)
  refine RG.pv rfl (PV.mvB (.inr rfl) rfl) ?_
  refine RG.nil ?_
  refine WP.seq ?_
  refine WP.seq ?_
  refine WP.region ?_
  refine RG.pv rfl (PV.field rfl Fo116_0 rfl) ?_
  refine RG.pv rfl (PV.load1 rfl Sc9 rfl (Rd.blk rfl)) ?_
  refine RG.callF (vs := [_]) rfl rfl En197 rfl (isName_r hs ?_)
  refine RG.pv rfl (PV.not rfl rfl) ?_
  refine RG.pv rfl (PV.mvB (.inl rfl) rfl) ?_
  refine RG.gs rfl rfl rfl (fun hp => (PV.field rfl Fo116_1 rfl)) ?_
  refine RG.gs rfl rfl rfl (fun hp => (PV.load1 rfl Sc83 (gs_t hp) (Rd.blk rfl))) ?_
  refine RG.gs rfl rfl rfl (fun hp => (PV.len rfl Tryz.underlying83 (gs_t hp) (SlF.r h1))) ?_
  refine RG.gs rfl rfl rfl (fun hp => (PV.gtr rfl (gs_t hp) rfl)) ?_
  refine RG.pv rfl (PV.pickO rfl rfl rfl (fun hq => gs_t (geqF hq))) ?_
  refine RG.pv rfl (PV.mvB (.inl rfl) rfl) ?_
  refine RG.gs rfl rfl rfl (fun hp => (PV.field rfl Fo116_2 rfl)) ?_
  refine RG.gs rfl rfl rfl (fun hp => (PV.load1 rfl Sc113 (gs_t hp) (Rd.blk rfl))) ?_
  refine RG.gs rfl rfl rfl (fun hp => (PV.len rfl Tryz.underlying113 (gs_t hp) (SlF.r h2))) ?_
  refine RG.gs rfl rfl rfl (fun hp => (PV.gtr rfl (gs_t hp) rfl)) ?_
  refine RG.pv rfl (PV.pickO rfl rfl rfl (fun hq => gs_t (geqF hq))) ?_
  refine RG.pv rfl (PV.mvB (.inl rfl) rfl) ?_
  refine RG.gs rfl rfl rfl (fun hp => (PV.field rfl Fo116_3 rfl)) ?_
  refine RG.gs rfl rfl rfl (fun hp => (PV.load1 rfl Sc114 (gs_t hp) (Rd.blk rfl))) ?_
  refine RG.gs rfl rfl rfl (fun hp => (PV.len rfl Tryz.underlying114 (gs_t hp) (SlF.r h3))) ?_
  refine RG.gs rfl rfl rfl (fun hp => (PV.gtr rfl (gs_t hp) rfl)) ?_
  refine RG.pv rfl (PV.pickO rfl rfl rfl (fun hq => gs_t (geqF hq))) ?_
  refine RG.nil ?_
  refine WP.cond rfl (fun h4 => ?_) (fun h4 => ?_)
  · have e : okCell k0 (erCl c) = false := by
      simp [okCell, erCl] at h4 ⊢
      grind
    rw [e] at k
    refine WP.seq ?_
    refine WP.region ?_
    refine RG.pv rfl (PV.mvB (.inr rfl) rfl) ?_
    refine RG.nil ?_
    refine WP.ret ?_
    exact ⟨_, _, ResV.one rfl rfl, Cv.p, k⟩
  · have e0 : okCell k0 (erCl c) = (!(c.shapes.xs.any fun s => !okSh s) && !(c.labels.xs.any fun l => !validLb l) && !(c.insts.xs.any fun n => !okIn k0 n)) := by
      simp [okCell, erCl] at h4 ⊢
      grind
    rw [e0] at k
    refine WP.skip ?_
    refine WP.seq ?_
    refine WP.seq ?_
    refine WP.region ?_
    refine RG.pv rfl (PV.mvI (.inr rfl) rfl) ?_
    refine RG.nil ?_
    refine WP.block ?_
    refine WP.loop1 [1, 2] (fun i => i ≤ c.shapes.xs.length ∧ ∀ j, j < i → okSh (gd c.shapes.xs j) = true) (fun i => [(5, vi i)]) (fun i => blk b2 116 (cellT.enc c) :: L) (fun i => c.shapes.xs.length - i) 0 ⟨by omega, fun j h => by omega⟩ ⟨rfl, trivial⟩ Cv.p ?_
    rintro i τ ⟨hi, hj⟩
    refine WP.seq ?_
    refine WP.seq ?_
    refine WP.region ?_
    refine RG.pv rfl (PV.mvI (.inl rfl) rfl) ?_
    refine RG.pv rfl (PV.field rfl Fo116_1 rfl) ?_
    refine RG.pv rfl (PV.load1 rfl Sc83 rfl (Rd.blk rfl)) ?_
    refine RG.pv rfl (PV.len rfl Tryz.underlying83 rfl (SlF.r h1)) ?_
    refine RG.pv rfl (PV.lss rfl rfl rfl) ?_
    refine RG.nil ?_
    refine WP.cond rfl (fun h5 => ?_) (fun h5 => ?_)
    · have h5 := of_decide_eq_true h5
      refine WP.skip ?_
      refine WP.seq ?_
      refine WP.block ?_
      refine WP.seq ?_
      refine WP.region ?_
      refine RG.pv rfl (PV.field rfl Fo116_1 rfl) ?_
      refine RG.pv rfl (PV.load1 rfl Sc83 rfl (Rd.blk rfl)) ?_
      refine RG.pv rfl (PV.mvI (.inl rfl) rfl) ?_
      refine RG.pv rfl (PV.idxS rfl Is83 rfl (SlF.r h1) rfl rfl (by omega)) ?_
      refine RG.pv rfl (PV.loadE rfl Ag142 rfl rfl (El.r h1 (getG (by omega)))) ?_
      refine RG.callF (vs := [_]) rfl rfl En198 rfl (okSh_r ?_)
      refine RG.pv rfl (PV.not rfl rfl) ?_
      refine RG.nil ?_
      refine WP.cond rfl (fun h6 => ?_) (fun h6 => ?_)
      · rw [any1 (j := i) (by omega) (by simpa using h6)] at k
        refine WP.seq ?_
        refine WP.region ?_
        refine RG.pv rfl (PV.mvB (.inr rfl) rfl) ?_
        refine RG.nil ?_
        refine WP.ret ?_
        exact ⟨_, _, ResV.one rfl rfl, Cv.p, k⟩
      · have hj' : ∀ j, j < i + 1 → okSh (gd c.shapes.xs j) = true := fun j h => by
          by_cases q : j = i
          · rw [q]; simpa using h6
          · exact hj j (by omega)
        refine WP.skip ?_
        refine WP.region ?_
        refine RG.pv rfl (PV.mvI (.inl rfl) rfl) ?_
        refine RG.pv rfl (PV.add rfl rfl rfl (by omega)) ?_
        refine RG.pv rfl (PV.mvI (.inr rfl) rfl) ?_
        refine RG.nil ?_
        exact ⟨rfl, i + 1, ⟨by omega, hj'⟩, ⟨rfl, trivial⟩, ⟨rfl, rfl, trivial⟩, Cv.p, by omega⟩
    · have h5 := of_decide_eq_false h5
      rw [any0 (fun j h => hj j (by omega))] at k
      refine WP.exit ?_
      refine WP.seq ?_
      refine WP.seq ?_
      refine WP.region ?_
      refine RG.pv rfl (PV.mvI (.inr rfl) rfl) ?_
      refine RG.nil ?_
      refine WP.block ?_
      refine WP.loop1 [1, 2] (fun i => i ≤ c.labels.xs.length ∧ ∀ j, j < i → validLb (gd c.labels.xs j) = true) (fun i => [(6, vi i)]) (fun i => blk b2 116 (cellT.enc c) :: L) (fun i => c.labels.xs.length - i) 0 ⟨by omega, fun j h => by omega⟩ ⟨rfl, trivial⟩ Cv.p ?_
      rintro i τ ⟨hi, hj⟩
      refine WP.seq ?_
      refine WP.seq ?_
      refine WP.region ?_
      refine RG.pv rfl (PV.mvI (.inl rfl) rfl) ?_
      refine RG.pv rfl (PV.field rfl Fo116_2 rfl) ?_
      refine RG.pv rfl (PV.load1 rfl Sc113 rfl (Rd.blk rfl)) ?_
      refine RG.pv rfl (PV.len rfl Tryz.underlying113 rfl (SlF.r h2)) ?_
      refine RG.pv rfl (PV.lss rfl rfl rfl) ?_
      refine RG.nil ?_
      refine WP.cond rfl (fun h5 => ?_) (fun h5 => ?_)
      · have h5 := of_decide_eq_true h5
        refine WP.skip ?_
        refine WP.seq ?_
        refine WP.block ?_
        refine WP.seq ?_
        refine WP.region ?_
        refine RG.pv rfl (PV.field rfl Fo116_2 rfl) ?_
        refine RG.pv rfl (PV.load1 rfl Sc113 rfl (Rd.blk rfl)) ?_
        refine RG.pv rfl (PV.mvI (.inl rfl) rfl) ?_
        refine RG.pv rfl (PV.idxS rfl Is113 rfl (SlF.r h2) rfl rfl (by omega)) ?_
        refine RG.pv rfl (PV.loadE rfl Ag193 rfl rfl (El.r h2 (getG (by omega)))) ?_
        refine RG.callF (vs := [_]) rfl rfl En199 rfl (validLb_r (hlen _ (by omega)) ?_)
        refine RG.pv rfl (PV.not rfl rfl) ?_
        refine RG.nil ?_
        refine WP.cond rfl (fun h6 => ?_) (fun h6 => ?_)
        · rw [any1 (p := validLb) (j := i) (by omega) (by simpa using h6)] at k
          refine WP.seq ?_
          refine WP.region ?_
          refine RG.pv rfl (PV.mvB (.inr rfl) rfl) ?_
          refine RG.nil ?_
          refine WP.ret ?_
          exact ⟨_, _, ResV.one rfl rfl, Cv.p, k⟩
        · have hj' : ∀ j, j < i + 1 → validLb (gd c.labels.xs j) = true := fun j h => by
            by_cases q : j = i
            · rw [q]; simpa using h6
            · exact hj j (by omega)
          refine WP.skip ?_
          refine WP.region ?_
          refine RG.pv rfl (PV.mvI (.inl rfl) rfl) ?_
          refine RG.pv rfl (PV.add rfl rfl rfl (by omega)) ?_
          refine RG.pv rfl (PV.mvI (.inr rfl) rfl) ?_
          refine RG.nil ?_
          exact ⟨rfl, i + 1, ⟨by omega, hj'⟩, ⟨rfl, trivial⟩, ⟨rfl, rfl, trivial⟩, Cv.p, by omega⟩
      · have h5 := of_decide_eq_false h5
        rw [any0 (p := validLb) (fun j h => hj j (by omega))] at k
        refine WP.exit ?_
        refine WP.seq ?_
        refine WP.seq ?_
        refine WP.region ?_
        refine RG.pv rfl (PV.mvI (.inr rfl) rfl) ?_
        refine RG.nil ?_
        refine WP.block ?_
        refine WP.loop1 [1, 2] (fun i => i ≤ c.insts.xs.length ∧ ∀ j, j < i → okIn k0 (gd c.insts.xs j) = true) (fun i => [(7, vi i)]) (fun i => blk b2 116 (cellT.enc c) :: L) (fun i => c.insts.xs.length - i) 0 ⟨by omega, fun j h => by omega⟩ ⟨rfl, trivial⟩ Cv.p ?_
        rintro i τ ⟨hi, hj⟩
        refine WP.seq ?_
        refine WP.seq ?_
        refine WP.region ?_
        refine RG.pv rfl (PV.mvI (.inl rfl) rfl) ?_
        refine RG.pv rfl (PV.field rfl Fo116_3 rfl) ?_
        refine RG.pv rfl (PV.load1 rfl Sc114 rfl (Rd.blk rfl)) ?_
        refine RG.pv rfl (PV.len rfl Tryz.underlying114 rfl (SlF.r h3)) ?_
        refine RG.pv rfl (PV.lss rfl rfl rfl) ?_
        refine RG.nil ?_
        refine WP.cond rfl (fun h5 => ?_) (fun h5 => ?_)
        · have h5 := of_decide_eq_true h5
          refine WP.skip ?_
          refine WP.seq ?_
          refine WP.block ?_
          refine WP.seq ?_
          refine WP.region ?_
          refine RG.pv rfl (PV.field rfl Fo116_3 rfl) ?_
          refine RG.pv rfl (PV.load1 rfl Sc114 rfl (Rd.blk rfl)) ?_
          refine RG.pv rfl (PV.mvI (.inl rfl) rfl) ?_
          refine RG.pv rfl (PV.idxS rfl Is114 rfl (SlF.r h3) rfl rfl (by omega)) ?_
          refine RG.pv rfl (PV.loadE rfl Ag195 rfl rfl (El.r h3 (getG (by omega)))) ?_
          refine RG.pv rfl (PV.mvI (.inl rfl) rfl) ?_
          refine RG.callF (vs := [_, _]) rfl rfl En200 rfl (okIn_r hk ?_)
          refine RG.pv rfl (PV.not rfl rfl) ?_
          refine RG.nil ?_
          refine WP.cond rfl (fun h6 => ?_) (fun h6 => ?_)
          · rw [any1 (p := okIn k0) (j := i) (by omega) (by simpa using h6)] at k
            refine WP.seq ?_
            refine WP.region ?_
            refine RG.pv rfl (PV.mvB (.inr rfl) rfl) ?_
            refine RG.nil ?_
            refine WP.ret ?_
            exact ⟨_, _, ResV.one rfl rfl, Cv.p, k⟩
          · have hj' : ∀ j, j < i + 1 → okIn k0 (gd c.insts.xs j) = true := fun j h => by
              by_cases q : j = i
              · rw [q]; simpa using h6
              · exact hj j (by omega)
            refine WP.skip ?_
            refine WP.region ?_
            refine RG.pv rfl (PV.mvI (.inl rfl) rfl) ?_
            refine RG.pv rfl (PV.add rfl rfl rfl (by omega)) ?_
            refine RG.pv rfl (PV.mvI (.inr rfl) rfl) ?_
            refine RG.nil ?_
            exact ⟨rfl, i + 1, ⟨by omega, hj'⟩, ⟨rfl, trivial⟩, ⟨rfl, rfl, trivial⟩, Cv.p, by omega⟩
        · have h5 := of_decide_eq_false h5
          rw [any0 (p := okIn k0) (fun j h => hj j (by omega))] at k
          refine WP.exit ?_
          refine WP.seq ?_
          refine WP.region ?_
          refine RG.pv rfl (PV.mvB (.inr rfl) rfl) ?_
          refine RG.nil ?_
          refine WP.ret ?_
          exact ⟨_, _, ResV.one rfl rfl, Cv.p, k⟩
theorem okLib_r {l : Lib} (hL : RLib G L l.cells.v l.cells.xs) (hlen : lenC (erCls l.cells.xs)) (k : R (.bool (okLib (erCls l.cells.xs))) G L) : CallT Tryz.prog 99 #[vT libT l] G L R := by
  have hE := erCls_len l.cells.xs
  have hn : ∀ j, j < l.cells.xs.length → (gd (erCls l.cells.xs) j).name = (gd l.cells.xs j).name := fun j hj => by rw [erCls_gd hj]; rfl
  refine CallT.bd hL.c fun hb => ?_
  refine CallT.enter (args := _) Tryz.func99 rfl rfl (by kernel_rfl) rfl ?_
  refine WP.seq ?_
  refine WP.region ?_
  refine RG.ot rfl (OT.box (cs := libT.enc l) rfl rfl rfl fun b1 => ?_)
  refine RG.pv rfl (PV.mvB (.inr rfl) rfl) ?_
  refine RG.nil ?_
  refine WP.seq ?_
  refine WP.seq ?_
  refine WP.region ?_
  refine RG.pv rfl (PV.field rfl Fo31_0 rfl) ?_
  refine RG.pv rfl (PV.load1 rfl Sc29 rfl (Rd.blk rfl)) ?_
  refine RG.pv rfl (PV.len rfl Tryz.underlying29 rfl (SlF.r hL.c)) ?_
  refine RG.pv rfl (PV.lss rfl rfl rfl) ?_
  refine RG.pv rfl (PV.mvB (.inl rfl) rfl) ?_
  refine RG.gs rfl rfl rfl (fun hp => (PV.field rfl Fo31_0 rfl)) ?_
  refine RG.gs rfl rfl rfl (fun hp => (PV.load1 rfl Sc29 (gs_t hp) (Rd.blk rfl))) ?_
  refine RG.gs rfl rfl rfl (fun hp => (PV.len rfl Tryz.underlying29 (gs_t hp) (SlF.r hL.c))) ?_
  refine RG.gs rfl rfl rfl (fun hp => (PV.gtr rfl (gs_t hp) rfl)) ?_
  refine RG.pv rfl (PV.pickO rfl rfl rfl (fun hq => gs_t (geqF hq))) ?_
  refine RG.nil ?_
  refine WP.cond rfl (fun h0 => ?_) (fun h0 => ?_)
  · have e : okLib (erCls l.cells.xs) = false := by
      simp at h0
      simp [okLib, hE]; omega
    rw [e] at k
    refine WP.seq ?_
    refine WP.region ?_
    refine RG.pv rfl (PV.mvB (.inr rfl) rfl) ?_
    refine RG.nil ?_
    refine WP.ret ?_
    exact ⟨_, _, ResV.one rfl rfl, Cv.p, k⟩
  · simp at h0
    refine WP.skip ?_
    refine WP.seq ?_
    refine WP.seq ?_
    refine WP.region ?_
    refine RG.pv rfl (PV.mvI (.inr rfl) rfl) ?_
    refine RG.nil ?_
    refine WP.block ?_
    refine WP.loop1 [1] (fun i => i ≤ l.cells.xs.length ∧ ∀ j, j < i → cellAt (erCls l.cells.xs) j = true) (fun i => [(3, vi i)]) (fun i => blk b1 31 (libT.enc l) :: L) (fun i => l.cells.xs.length - i) 0 ⟨by omega, fun j h => by omega⟩ ⟨rfl, trivial⟩ Cv.p ?_
    rintro i τ ⟨hi, hj⟩
    refine WP.seq ?_
    refine WP.seq ?_
    refine WP.region ?_
    refine RG.pv rfl (PV.mvI (.inl rfl) rfl) ?_
    refine RG.pv rfl (PV.field rfl Fo31_0 rfl) ?_
    refine RG.pv rfl (PV.load1 rfl Sc29 rfl (Rd.blk rfl)) ?_
    refine RG.pv rfl (PV.len rfl Tryz.underlying29 rfl (SlF.r hL.c)) ?_
    refine RG.pv rfl (PV.lss rfl rfl rfl) ?_
    refine RG.nil ?_
    refine WP.cond rfl (fun h2 => ?_) (fun h2 => ?_)
    · have h2 := of_decide_eq_true h2
      have h3 : i < l.cells.xs.length := by omega
      refine WP.skip ?_
      refine WP.seq ?_
      refine WP.block ?_
      refine WP.seq ?_
      refine WP.seq ?_
      refine WP.region ?_
      refine RG.pv rfl (PV.field rfl Fo31_0 rfl) ?_
      refine RG.pv rfl (PV.load1 rfl Sc29 rfl (Rd.blk rfl)) ?_
      refine RG.pv rfl (PV.mvI (.inl rfl) rfl) ?_
      refine RG.pv rfl (PV.idxS rfl Is29 rfl (SlF.r hL.c) rfl rfl (by omega)) ?_
      refine RG.pv rfl (PV.loadE rfl Ag116 rfl rfl (El.r hL.c (getG (by omega)))) ?_
      refine RG.pv rfl (PV.mvI (.inl rfl) rfl) ?_
      refine RG.callF (vs := [_, _]) rfl rfl En150 rfl (okCell_r (by omega) (hL.sa (by omega)).up (hL.la (by omega)).up (hL.na (by omega)).up (hlen.one (by omega)).1 (hlen.one (by omega)).2 ?_)
      refine RG.pv rfl (PV.not rfl rfl) ?_
      refine RG.nil ?_
      refine WP.cond rfl (fun h4 => ?_) (fun h4 => ?_)
      · have e : cellAt (erCls l.cells.xs) i = false := by
          simp at h4
          rw [cellAt, erCls_gd h3, h4]; rfl
        rw [okLib_false (by omega) e] at k
        refine WP.seq ?_
        refine WP.region ?_
        refine RG.pv rfl (PV.mvB (.inr rfl) rfl) ?_
        refine RG.nil ?_
        refine WP.ret ?_
        exact ⟨_, _, ResV.one rfl rfl, Cv.p, k⟩
      · simp at h4
        refine WP.skip ?_
        refine WP.seq ?_
        refine WP.region ?_
        refine RG.pv rfl (PV.mvI (.inr rfl) rfl) ?_
        refine RG.nil ?_
        refine WP.block ?_
        refine WP.loop1 [1, 3] (fun m => m ≤ i ∧ ∀ j, j < m → (gd l.cells.xs j).name ≠ (gd l.cells.xs i).name) (fun m => [(4, vi m)]) (fun m => blk b1 31 (libT.enc l) :: L) (fun m => i - m) 0 ⟨by omega, fun j h => by omega⟩ ⟨rfl, trivial⟩ Cv.p ?_
        rintro m τ ⟨hm, hq⟩
        refine WP.seq ?_
        refine WP.seq ?_
        refine WP.region ?_
        refine RG.pv rfl (PV.mvI (.inl rfl) rfl) ?_
        refine RG.pv rfl (PV.mvI (.inl rfl) rfl) ?_
        refine RG.pv rfl (PV.lss rfl rfl rfl) ?_
        refine RG.nil ?_
        refine WP.cond rfl (fun h5 => ?_) (fun h5 => ?_)
        · have h5 := of_decide_eq_true h5
          refine WP.skip ?_
          refine WP.seq ?_
          refine WP.block ?_
          refine WP.seq ?_
          refine WP.regionQ (by kernel_rfl) (by kernel_rfl) ?_
          refine RQ.pv rfl (PV.field rfl Fo31_0 rfl) ?_
          refine RQ.pv rfl (PV.load1 rfl Sc29 rfl (Rd.blk rfl)) ?_
          refine RQ.pv rfl (PV.mvI (.inl rfl) rfl) ?_
          refine RQ.pv rfl (PV.idxS rfl Is29 rfl (SlF.r hL.c) rfl rfl (by omega)) ?_
          refine RQ.pv rfl (PV.field rfl Fo116_0 rfl) ?_
          refine RQ.pv rfl (PV.loadF rfl Sc9 rfl rfl (El.r hL.c (getG (by omega))) rfl) ?_
          refine RQ.pv rfl (PV.field rfl Fo31_0 rfl) ?_
          refine RQ.pv rfl (PV.load1 rfl Sc29 rfl (Rd.blk rfl)) ?_
          refine RQ.pv rfl (PV.mvI (.inl rfl) rfl) ?_
          refine RQ.pv rfl (PV.idxS rfl Is29 rfl (SlF.r hL.c) rfl rfl (by omega)) ?_
          refine RQ.pv rfl (PV.field rfl Fo116_0 rfl) ?_
          refine RQ.pv rfl (PV.loadF rfl Sc9 rfl rfl (El.r hL.c (getG (by omega))) rfl) ?_
          refine RQ.pv rfl (PV.eqlS rfl rfl rfl) ?_
          refine RQ.nil ?_
          refine WP.cond rfl (fun h6 => ?_) (fun h6 => ?_)
          · have h6 := of_decide_eq_true h6
            have e : cellAt (erCls l.cells.xs) i = false := by
              have : nameAt (erCls l.cells.xs) i = false := by
                rw [nameAt, decide_eq_false_iff_not]
                intro hh
                have := hh m (by omega)
                rw [hn m (by omega), hn i h3] at this
                exact this h6
              rw [cellAt, this, Bool.and_false]
            rw [okLib_false (by omega) e] at k
            refine WP.seq ?_
            refine WP.region ?_
            refine RG.pv rfl (PV.mvB (.inr rfl) rfl) ?_
            refine RG.nil ?_
            refine WP.ret ?_
            exact ⟨_, _, ResV.one rfl rfl, Cv.p, k⟩
          · have h6 := of_decide_eq_false h6
            have hq' : ∀ j, j < m + 1 → (gd l.cells.xs j).name ≠ (gd l.cells.xs i).name := fun j h => by
              by_cases c : j = m
              · rw [c]; exact h6
              · exact hq j (by omega)
            refine WP.skip ?_
            refine WP.region ?_
            refine RG.pv rfl (PV.mvI (.inl rfl) rfl) ?_
            refine RG.pv rfl (PV.add rfl rfl rfl (by omega)) ?_
            refine RG.pv rfl (PV.mvI (.inr rfl) rfl) ?_
            refine RG.nil ?_
            exact ⟨rfl, m + 1, ⟨by omega, hq'⟩, ⟨rfl, trivial⟩, ⟨rfl, rfl, trivial⟩, Cv.p, by omega⟩
        · have h5 := of_decide_eq_false h5
          have e : cellAt (erCls l.cells.xs) i = true := by
            have : nameAt (erCls l.cells.xs) i = true := by
              rw [nameAt, decide_eq_true_iff]
              intro j hj2
              rw [hn j (by omega), hn i h3]
              exact hq j (by omega)
            rw [cellAt, this, erCls_gd h3, h4]; rfl
          have hj' : ∀ j, j < i + 1 → cellAt (erCls l.cells.xs) j = true := fun j h => by
            by_cases c : j = i
            · rw [c]; exact e
            · exact hj j (by omega)
          refine WP.exit ?_
          refine WP.region ?_
          refine RG.pv rfl (PV.mvI (.inl rfl) rfl) ?_
          refine RG.pv rfl (PV.add rfl rfl rfl (by omega)) ?_
          refine RG.pv rfl (PV.mvI (.inr rfl) rfl) ?_
          refine RG.nil ?_
          exact ⟨rfl, i + 1, ⟨by omega, hj'⟩, ⟨rfl, trivial⟩, ⟨rfl, trivial⟩, Cv.p, by omega⟩
    · have h2 := of_decide_eq_false h2
      rw [okLib_all (by omega) (by omega) (fun j h => hj j (by omega))] at k
      refine WP.exit ?_
      refine WP.seq ?_
      refine WP.region ?_
      refine RG.pv rfl (PV.mvB (.inr rfl) rfl) ?_
      refine RG.nil ?_
      refine WP.ret ?_
      exact ⟨_, _, ResV.one rfl rfl, Cv.p, k⟩
theorem hasCl_r {l : Lib} {cell : Int} (hL : RLib G L l.cells.v l.cells.xs) (hlen : lenC (erCls l.cells.xs)) (k : R (.bool (hasCl (erCls l.cells.xs) cell)) G L) : CallT Tryz.prog 100 #[vT libT l, vi cell] G L R := by
  have hE := erCls_len l.cells.xs
  refine CallT.bd hL.c fun hb => ?_
  rw [hasCl, hE] at k
  refine CallT.enter (args := _) Tryz.func100 rfl rfl (by kernel_rfl) rfl ?_
  refine WP.seq ?_
  refine WP.region ?_
  refine RG.ot rfl (OT.box (cs := libT.enc l) rfl rfl rfl fun b2 => ?_)
  refine RG.pv rfl (PV.mvB (.inr rfl) rfl) ?_
  refine RG.nil ?_
  refine WP.seq ?_
  refine WP.region ?_
  refine RG.pv rfl (PV.loadW rfl Ag31 rfl rfl) ?_
  refine RG.callF (vs := [_]) rfl rfl En99 rfl (okLib_r hL.up hlen ?_)
  refine RG.pv rfl (PV.mvB (.inl rfl) rfl) ?_
  refine RG.gs rfl rfl rfl (fun hp => (PV.mvI (.inl rfl) rfl)) ?_
  refine RG.gs rfl rfl rfl (fun hp => (PV.field rfl Fo31_0 rfl)) ?_
  refine RG.gs rfl rfl rfl (fun hp => (PV.load1 rfl Sc29 (gs_t hp) (Rd.blk rfl))) ?_
  refine RG.gs rfl rfl rfl (fun hp => (PV.len rfl Tryz.underlying29 (gs_t hp) (SlF.r hL.c))) ?_
  refine RG.gs rfl rfl rfl (fun hp => (PV.sub rfl (gs_t hp) rfl (by first | omega | (simp at hp; omega)))) ?_
  refine RG.gsC rfl rfl rfl rfl En151 (fun hp => ⟨_, (acons (gs_t hp) (acons rfl (acons (gs_t hp) anil))), l09In_s ⟨rfl, rfl, rfl⟩⟩) ?_
  refine RG.pv rfl (PV.pickA rfl rfl (fun hq => gs_t (geqT hq)) rfl) ?_
  refine RG.pv rfl (PV.mvB (.inr rfl) rfl) ?_
  refine RG.nil ?_
  refine WP.ret ?_
  exact ⟨_, _, ResV.one rfl rfl, Cv.p, k⟩
def celE (cs : List ECell) (cell : Int) : Int := bif !okLib cs then 1 else bif !within cell 0 ((cs.length : Int) - 1) then 5 else 0
theorem celE_i {l : Lib} {cell : Int} (hL : RLib G L l.cells.v l.cells.xs) (hlen : lenC (erCls l.cells.xs)) (k : R (vi (celE (erCls l.cells.xs) cell)) G L) : CallT Tryz.prog 131 #[vT libT l, vi cell] G L R := by
  have hE := erCls_len l.cells.xs
  refine CallT.bd hL.c fun hb => ?_
  rw [celE, hE] at k
  refine CallT.enter (args := _) Tryz.func131 rfl rfl (by kernel_rfl) rfl ?_
  refine WP.seq ?_
  refine WP.region ?_
  refine RG.ot rfl (OT.box (cs := libT.enc l) rfl rfl rfl fun b2 => ?_)
  refine RG.pv rfl (PV.mvI (.inr rfl) rfl) ?_
  refine RG.nil ?_
  refine WP.seq ?_
  refine WP.block ?_
  refine WP.seq ?_
  refine WP.region ?_
  refine RG.pv rfl (PV.loadW rfl Ag31 rfl rfl) ?_
  refine RG.callF (vs := [_]) rfl rfl En185 rfl (okLib_i hL.up hlen ?_)
  refine RG.pv rfl (PV.not rfl rfl) ?_
  refine RG.pv rfl (PV.mvB (.inr rfl) rfl) ?_
  refine RG.nil ?_
  refine WP.cond rfl (fun h1 => ?_) (fun h1 => ?_)
  · rw [h1, cond_true] at k
    refine WP.seq ?_
    refine WP.region ?_
    refine RG.pv rfl (PV.mvI (.inr rfl) rfl) ?_
    refine RG.nil ?_
    refine WP.ret ?_
    exact ⟨_, _, ResV.one rfl rfl, Cv.p, k⟩
  · rw [h1, cond_false] at k
    refine WP.seq ?_
    refine WP.region ?_
    refine RG.pv rfl (PV.mvI (.inl rfl) rfl) ?_
    refine RG.pv rfl (PV.field rfl Fo31_0 rfl) ?_
    refine RG.pv rfl (PV.load1 rfl Sc29 rfl (Rd.blk rfl)) ?_
    refine RG.pv rfl (PV.len rfl Tryz.underlying29 rfl (SlF.r hL.c)) ?_
    refine RG.pv rfl (PV.sub rfl rfl rfl (by omega)) ?_
    refine RG.callF (vs := [_, _, _]) rfl rfl En43 rfl (within_s ?_)
    refine RG.pv rfl (PV.not rfl rfl) ?_
    refine RG.pv rfl (PV.mvB (.inr rfl) rfl) ?_
    refine RG.nil ?_
    refine WP.cond rfl (fun h2 => ?_) (fun h2 => ?_)
    · rw [h2, cond_true] at k
      refine WP.seq ?_
      refine WP.region ?_
      refine RG.pv rfl (PV.mvI (.inr rfl) rfl) ?_
      refine RG.nil ?_
      refine WP.ret ?_
      exact ⟨_, _, ResV.one rfl rfl, Cv.p, k⟩
    · rw [h2, cond_false] at k
      refine WP.skip ?_
      refine WP.seq ?_
      refine WP.region ?_
      refine RG.pv rfl (PV.mvI (.inr rfl) rfl) ?_
      refine RG.nil ?_
      refine WP.ret ?_
      exact ⟨_, _, ResV.one rfl rfl, Cv.p, k⟩
theorem part0 {α : Type} [Inhabited α] {xs : List α} {i n : Nat} (h : i < n) (h' : i < xs.length) : ((xs.take n).drop 0)[i]? = some (gd xs i) := by
  rw [List.drop_zero, List.getElem?_take, if_pos h, getG h']
theorem erCl_insts {xs : List Cell} {i : Nat} (h : i < xs.length) : (gd (erCls xs) i).insts = (gd xs i).insts.xs := by rw [erCls_gd h]; rfl
/-- one step of a count -/
theorem cnt_step {cs : List ECell} (hok : okLib cs = true) {i m : Nat} (hi : i < cs.length) (hm : m < (gd cs i).insts.length) :
    (0 ≤ (gd (gd cs i).insts m).cell ∧ (gd (gd cs i).insts m).cell < i) ∧ (0 ≤ (gd (gd cs i).insts m).cols * (gd (gd cs i).insts m).rows ∧ (gd (gd cs i).insts m).cols * (gd (gd cs i).insts m).rows ≤ 16) ∧
    (0 ≤ (gd (gd cs i).insts m).cols * (gd (gd cs i).insts m).rows * gd (cnts cs i) (gd (gd cs i).insts m).cell.toNat ∧ (gd (gd cs i).insts m).cols * (gd (gd cs i).insts m).rows * gd (cnts cs i) (gd (gd cs i).insts m).cell.toNat ≤ 9511476839856144) ∧
    (1 ≤ 1 + costL (cntI (cnts cs i)) ((gd cs i).insts.take m) ∧ 1 + costL (cntI (cnts cs i)) ((gd cs i).insts.take m) ≤ 76091814718849153) ∧
    1 + costL (cntI (cnts cs i)) ((gd cs i).insts.take (m + 1)) = 1 + costL (cntI (cnts cs i)) ((gd cs i).insts.take m) + (gd (gd cs i).insts m).cols * (gd (gd cs i).insts m).rows * gd (cnts cs i) (gd (gd cs i).insts m).cell.toNat := by
  have ho := okLib_inst hok hi hm
  obtain ⟨h1, _, h3, h4, _, _⟩ := okIn_bd ho
  have e1 := mul_bd (a := (gd (gd cs i).insts m).cols) (b := (gd (gd cs i).insts m).rows) (A := 4) (B := 4) (by omega) (by omega) (by omega)
  have e0 : 0 ≤ (gd (gd cs i).insts m).cols * (gd (gd cs i).insts m).rows := Int.mul_nonneg (by omega) (by omega)
  have hb := cnts_big hok hi
  have e2 := cntI_bd (ks := cnts cs i) (M := 594467302491009) ho (hb _ (by omega))
  have e3 := ownCnt_bd hok (M := 594467302491009) (by omega) hi hb m (by omega)
  simp only [cntI] at e2
  refine ⟨by omega, by omega, by omega, by omega, ?_⟩
  rw [costL_take _ hm, ← Int.add_assoc]; rfl
theorem elCnt_i {l : Lib} {cell : Int} (hL : RLib G L l.cells.v l.cells.xs) (hok : okLib (erCls l.cells.xs) = true) (hc : 0 ≤ cell ∧ cell < (erCls l.cells.xs).length) (k : R (vi (cntOf (erCls l.cells.xs) cell.toNat)) G L) : CallT Tryz.prog 132 #[vT libT l, vi cell] G L R := by
  have hE := erCls_len l.cells.xs
  have h8 := okLib_len hok
  refine CallT.enter (args := _) Tryz.func132 rfl rfl (by kernel_rfl) rfl ?_
  refine WP.seq ?_
  refine WP.region ?_
  refine RG.ot rfl (OT.box (cs := libT.enc l) rfl rfl rfl fun b2 => ?_)
  refine RG.pv rfl (PV.mvI (.inr rfl) rfl) ?_
  refine RG.nil ?_
  refine WP.seq ?_
  refine WP.region ?_
  refine RG.ot rfl (OT.bslice (F := intT) (els := []) rfl El26 rfl (by decide) rfl (by decide) trivial fun v11 => ?_)
  refine RG.pv rfl (PV.asg (v := v11) rfl rfl) ?_
  refine RG.nil ?_
  refine WP.seq ?_
  refine WP.seq ?_
  refine WP.region ?_
  refine RG.pv rfl (PV.field rfl Fo31_0 rfl) ?_
  refine RG.pv rfl (PV.load1 rfl Sc29 rfl (Rd.blk rfl)) ?_
  refine RG.pv rfl (PV.mvI (.inl rfl) rfl) ?_
  refine RG.pv rfl (PV.add rfl rfl rfl (by omega)) ?_
  refine RG.pv rfl (PV.slc (h := cell.toNat + 1) rfl Is29 rfl (SlF.r hL.c) optAt.n (optAt.s rfl (by omega)) (by omega) (by omega)) ?_
  refine RG.pv rfl (PV.len rfl Tryz.underlying29 rfl (SlF.r (Rs.slv (F := cellT) hL.c (by omega) (by omega)))) ?_
  refine RG.pv rfl (PV.mvI (.inl rfl) rfl) ?_
  refine RG.nil ?_
  refine WP.block ?_
  have hpl : (List.drop 0 (List.take (cell.toNat + 1) l.cells.xs)).length = cell.toNat + 1 := by simp; omega
  refine WP.cv (Cv.eqS (xs := []) (ys := cnts (erCls l.cells.xs) 0) rfl) ?_
  refine WP.loop2 [1, 16, 17] (fun (i : Nat) (v : Value) => i ≤ cell.toNat + 1) (fun (i : Nat) (v : Value) => [(18, vi i), (5, v)]) (fun (i : Nat) (v : Value) => osl 2 intT v (cnts (erCls l.cells.xs) i) :: blk b2 31 (libT.enc l) :: L) (fun (i : Nat) (v : Value) => cell.toNat + 1 - i) 0 v11 (by omega) ⟨rfl, rfl, trivial⟩ Cv.p ?_
  rintro i v τ hi
  refine WP.seq ?_
  refine WP.region ?_
  refine RG.pv rfl (PV.lss rfl rfl rfl) ?_
  refine RG.nil ?_
  refine WP.seq ?_
  have hcl := cnts_len (erCls l.cells.xs) i
  refine WP.cond rfl (fun h2 => ?_) (fun h2 => ?_)
  · have h2 := of_decide_eq_true h2
    have h3 : i < l.cells.xs.length := by omega
    have hin := erCl_insts h3
    have h8i := (okLib_cnt hok (i := i) (by omega)).1
    rw [hin] at h8i
    refine WP.skip ?_
    refine WP.seq ?_
    refine WP.block ?_
    refine WP.seq ?_
    refine WP.region ?_
    refine RG.pv rfl (PV.idxS rfl Is29 rfl (SlF.r (Rs.slv (F := cellT) hL.c (by omega) (by omega))) rfl rfl (by omega)) ?_
    refine RG.pv rfl (PV.loadE rfl Ag116 rfl rfl (El.r (Rs.slv (F := cellT) hL.c (lo := 0) (hi := cell.toNat + 1) (by omega) (by omega)) (part0 (by omega) (by omega)))) ?_
    refine RG.ot rfl (OT.alloc rfl Zr116 fun b7 => ?_)
    refine RG.ot rfl (OT.storeW (vs := [.string _, _, _, _]) rfl Sz116 rfl rfl (Cl.c rfl) rfl rfl (hL.one h3) ?_)
    refine RG.nil ?_
    refine WP.seq ?_
    refine WP.region ?_
    refine RG.pv rfl (PV.mvI (.inr rfl) rfl) ?_
    refine RG.nil ?_
    refine WP.seq ?_
    refine WP.seq ?_
    refine WP.region ?_
    refine RG.pv rfl (PV.field rfl Fo116_3 rfl) ?_
    refine RG.pv rfl (PV.load1 rfl Sc114 rfl (Rd.blk rfl)) ?_
    refine RG.pv rfl (PV.len rfl Tryz.underlying114 rfl (SlF.r (hL.na h3))) ?_
    refine RG.pv rfl (PV.mvI (.inl rfl) rfl) ?_
    refine RG.nil ?_
    refine WP.block ?_
    refine WP.loop2 [1, 5, 16, 17, 18, 23, 24] (fun (m : Nat) (own : Int) => m ≤ (gd l.cells.xs i).insts.xs.length ∧ own = 1 + costL (cntI (cnts (erCls l.cells.xs) i)) ((gd (erCls l.cells.xs) i).insts.take m)) (fun (m : Nat) (own : Int) => [(25, vi m), (8, vi own)]) (fun (m : Nat) (own : Int) => osl 2 intT v (cnts (erCls l.cells.xs) i) :: blk b2 31 (libT.enc l) :: L) (fun (m : Nat) (own : Int) => (gd l.cells.xs i).insts.xs.length - m) 0 1 ⟨by omega, by simp [costL]⟩ ⟨rfl, rfl, trivial⟩ Cv.p ?_
    rintro m own τ ⟨hm, he⟩
    refine WP.seq ?_
    refine WP.region ?_
    refine RG.pv rfl (PV.lss rfl rfl rfl) ?_
    refine RG.nil ?_
    refine WP.seq ?_
    refine WP.cond rfl (fun h4 => ?_) (fun h4 => ?_)
    · have h4 := of_decide_eq_true h4
      have hst := cnt_step hok (i := i) (m := m) (by omega) (by rw [hin]; omega)
      rw [hin] at hst he
      obtain ⟨q1, q2, q3, q4, q5⟩ := hst
      refine WP.skip ?_
      refine WP.seq ?_
      refine WP.block ?_
      refine WP.seq ?_
      refine WP.region ?_
      refine RG.pv rfl (PV.idxS rfl Is114 rfl (SlF.r (hL.na h3)) rfl rfl (by omega)) ?_
      refine RG.pv rfl (PV.loadE rfl Ag195 rfl rfl (El.r (hL.na h3) (getG (by omega)))) ?_
      refine RG.ot rfl (OT.alloc rfl Zr195 fun b10 => ?_)
      refine RG.ot rfl (OT.storeW (vs := [vi _, vi _, vi _, vi _, vi _, vi _, vi _, vi _]) rfl Sz195 rfl rfl (Cl.c rfl) rfl rfl (OneC.c rfl) ?_)
      refine RG.nil ?_
      refine WP.regionQ (by kernel_rfl) (by kernel_rfl) ?_
      refine RQ.pv rfl (PV.mvI (.inl rfl) rfl) ?_
      refine RQ.pv rfl (PV.field rfl Fo195_2 rfl) ?_
      refine RQ.pv rfl (PV.load1 rfl Sc2 rfl (Rd.blk rfl)) ?_
      refine RQ.pv rfl (PV.field rfl Fo195_3 rfl) ?_
      refine RQ.pv rfl (PV.load1 rfl Sc2 rfl (Rd.blk rfl)) ?_
      refine RQ.pv rfl (PV.mul rfl rfl rfl (by omega)) ?_
      refine RQ.pv rfl (PV.move (v := v) rfl rfl) ?_
      refine RQ.pv rfl (PV.field rfl Fo195_0 rfl) ?_
      refine RQ.pv rfl (PV.load1 rfl Sc2 rfl (Rd.blk rfl)) ?_
      refine RQ.pv rfl (PV.idxS (j := (gd (gd l.cells.xs i).insts.xs m).cell.toNat) (v := v) rfl Is26 rfl SlF.o rfl (by omega) (by omega)) ?_
      refine RQ.pv rfl (PV.loadE1 rfl Sc2 rfl rfl (El.o (getG (by omega))) rfl) ?_
      refine RQ.pv rfl (PV.mul rfl rfl rfl (by omega)) ?_
      refine RQ.pv rfl (PV.add rfl rfl rfl (by omega)) ?_
      refine RQ.pv rfl (PV.mvI (.inr rfl) rfl) ?_
      refine RQ.nil ?_
      refine WP.region ?_
      refine RG.pv rfl (PV.add rfl rfl rfl (by omega)) ?_
      refine RG.pv rfl (PV.mvI (.inl rfl) rfl) ?_
      refine RG.nil ?_
      exact ⟨rfl, m + 1, _, ⟨by omega, by rw [hin, q5, he]⟩, ⟨rfl, rfl, trivial⟩, ⟨rfl, rfl, rfl, rfl, rfl, rfl, rfl, trivial⟩, Cv.p, by omega⟩
    · have h4 := of_decide_eq_false h4
      have e : own = ownCnt (cnts (erCls l.cells.xs) i) (gd (erCls l.cells.xs) i).insts := by rw [he, List.take_of_length_le (by rw [hin]; omega)]; rfl
      refine WP.exit ?_
      refine WP.region ?_
      refine RG.pv rfl (PV.move (v := v) rfl rfl) ?_
      refine RG.pv rfl (PV.mvI (.inl rfl) rfl) ?_
      refine RG.ot rfl (OT.bslice (F := intT) (els := [_]) rfl El26 rfl (by decide) rfl (by decide) ⟨rfl, (Cl.c rfl), trivial⟩ fun v45 => ?_)
      refine RG.ot rfl (OT.append (v := v) (u := v45) (F := intT) rfl El26 rfl (by decide) rfl rfl Rs.o (OneL.c (fun _ => rfl)) rfl (by first | omega | (simp <;> omega)) fun v46 => ?_)
      refine RG.pv rfl (PV.asg (v := v46) rfl rfl) ?_
      refine RG.nil ?_
      refine WP.region ?_
      refine RG.pv rfl (PV.add rfl rfl rfl (by omega)) ?_
      refine RG.pv rfl (PV.mvI (.inl rfl) rfl) ?_
      refine RG.nil ?_
      exact ⟨rfl, i + 1, _, (by omega), ⟨rfl, rfl, trivial⟩, ⟨rfl, rfl, rfl, trivial⟩, ((Cv.p (C := osl 2 intT v46 (cnts (erCls l.cells.xs) i ++ [own]) :: blk b2 31 (libT.enc l) :: L)).trans (Cv.eqS (by rw [e]; rfl))), by omega⟩
  · have h2 := of_decide_eq_false h2
    have e : gd (cnts (erCls l.cells.xs) i) cell.toNat = cntOf (erCls l.cells.xs) cell.toNat := cnts_gd _ (by omega)
    rw [← e] at k
    refine WP.exit ?_
    refine WP.seq ?_
    refine WP.region ?_
    refine RG.pv rfl (PV.move (v := v) rfl rfl) ?_
    refine RG.pv rfl (PV.mvI (.inl rfl) rfl) ?_
    refine RG.pv rfl (PV.idxS (j := cell.toNat) (v := v) rfl Is26 rfl SlF.o rfl (by omega) (by omega)) ?_
    refine RG.pv rfl (PV.loadE1 rfl Sc2 rfl rfl (El.o (getG (by omega))) rfl) ?_
    refine RG.pv rfl (PV.mvI (.inr rfl) rfl) ?_
    refine RG.nil ?_
    refine WP.ret ?_
    exact ⟨_, _, ResV.one rfl rfl, Cv.p, k⟩
theorem elCnt_r {l : Lib} {cell : Int} (hL : RLib G L l.cells.v l.cells.xs) (hlen : lenC (erCls l.cells.xs)) (hok : okLib (erCls l.cells.xs) = true) (hc : 0 ≤ cell ∧ cell < (erCls l.cells.xs).length) (k : R (vi (cntOf (erCls l.cells.xs) cell.toNat)) G L) : CallT Tryz.prog 101 #[vT libT l, vi cell] G L R := by
  have hE := erCls_len l.cells.xs
  have h8 := okLib_len hok
  have hh : hasCl (erCls l.cells.xs) cell = true := by simp [hasCl, hok, within]; omega
  refine CallT.enter (args := _) Tryz.func101 rfl rfl (by kernel_rfl) rfl ?_
  refine WP.seq ?_
  refine WP.region ?_
  refine RG.ot rfl (OT.box (cs := libT.enc l) rfl rfl rfl fun b2 => ?_)
  refine RG.pv rfl (PV.mvI (.inr rfl) rfl) ?_
  refine RG.nil ?_
  refine WP.seq ?_
  refine WP.seq ?_
  refine WP.region ?_
  refine RG.pv rfl (PV.loadW rfl Ag31 rfl rfl) ?_
  refine RG.pv rfl (PV.mvI (.inl rfl) rfl) ?_
  refine RG.callF (vs := [_, _]) rfl rfl En100 rfl (hasCl_r hL.up hlen ?_)
  refine RG.pv rfl (PV.not rfl rfl) ?_
  refine RG.nil ?_
  refine WP.cond rfl (fun h1 => ?_) (fun h1 => ?_)
  · exfalso; simp [hh] at h1
  refine WP.skip ?_
  refine WP.seq ?_
  refine WP.region ?_
  refine RG.ot rfl (OT.bslice (F := intT) (els := []) rfl El26 rfl (by decide) rfl (by decide) trivial fun v14 => ?_)
  refine RG.pv rfl (PV.asg (v := v14) rfl rfl) ?_
  refine RG.nil ?_
  refine WP.seq ?_
  refine WP.seq ?_
  refine WP.region ?_
  refine RG.pv rfl (PV.mvI (.inr rfl) rfl) ?_
  refine RG.nil ?_
  refine WP.block ?_
  refine WP.cv (Cv.eqS (xs := []) (ys := cnts (erCls l.cells.xs) 0) rfl) ?_
  refine WP.loop2 [1, 2] (fun (i : Nat) (v : Value) => i ≤ l.cells.xs.length) (fun (i : Nat) (v : Value) => [(6, vi i), (5, v)]) (fun (i : Nat) (v : Value) => osl 2 intT v (cnts (erCls l.cells.xs) i) :: blk b2 31 (libT.enc l) :: L) (fun (i : Nat) (v : Value) => l.cells.xs.length - i) 0 v14 (by omega) ⟨rfl, rfl, trivial⟩ Cv.p ?_
  rintro i v τ hi
  refine WP.seq ?_
  refine WP.seq ?_
  refine WP.region ?_
  refine RG.pv rfl (PV.mvI (.inl rfl) rfl) ?_
  refine RG.pv rfl (PV.field rfl Fo31_0 rfl) ?_
  refine RG.pv rfl (PV.load1 rfl Sc29 rfl (Rd.blk rfl)) ?_
  refine RG.pv rfl (PV.len rfl Tryz.underlying29 rfl (SlF.r hL.c)) ?_
  refine RG.pv rfl (PV.lss rfl rfl rfl) ?_
  refine RG.nil ?_
  have hcl := cnts_len (erCls l.cells.xs) i
  refine WP.cond rfl (fun h2 => ?_) (fun h2 => ?_)
  · have h2 := of_decide_eq_true h2
    have h3 : i < l.cells.xs.length := by omega
    have hin := erCl_insts h3
    have h8i := (okLib_cnt hok (i := i) (by omega)).1
    rw [hin] at h8i
    refine WP.skip ?_
    refine WP.seq ?_
    refine WP.block ?_
    refine WP.seq ?_
    refine WP.region ?_
    refine RG.pv rfl (PV.mvI (.inr rfl) rfl) ?_
    refine RG.nil ?_
    refine WP.seq ?_
    refine WP.region ?_
    refine RG.pv rfl (PV.field rfl Fo31_0 rfl) ?_
    refine RG.pv rfl (PV.load1 rfl Sc29 rfl (Rd.blk rfl)) ?_
    refine RG.pv rfl (PV.mvI (.inl rfl) rfl) ?_
    refine RG.pv rfl (PV.idxS rfl Is29 rfl (SlF.r hL.c) rfl rfl (by omega)) ?_
    refine RG.pv rfl (PV.field rfl Fo116_3 rfl) ?_
    refine RG.pv rfl (PV.loadF rfl Sc114 rfl rfl (El.r hL.c (getG (by omega))) rfl) ?_
    refine RG.pv rfl (PV.asg rfl rfl) ?_
    refine RG.nil ?_
    refine WP.seq ?_
    refine WP.seq ?_
    refine WP.region ?_
    refine RG.pv rfl (PV.mvI (.inr rfl) rfl) ?_
    refine RG.nil ?_
    refine WP.block ?_
    refine WP.loop2 [1, 2, 5, 6, 8] (fun (m : Nat) (own : Int) => m ≤ (gd l.cells.xs i).insts.xs.length ∧ own = 1 + costL (cntI (cnts (erCls l.cells.xs) i)) ((gd (erCls l.cells.xs) i).insts.take m)) (fun (m : Nat) (own : Int) => [(9, vi m), (7, vi own)]) (fun (m : Nat) (own : Int) => osl 2 intT v (cnts (erCls l.cells.xs) i) :: blk b2 31 (libT.enc l) :: L) (fun (m : Nat) (own : Int) => (gd l.cells.xs i).insts.xs.length - m) 0 1 ⟨by omega, by simp [costL]⟩ ⟨rfl, rfl, trivial⟩ Cv.p ?_
    rintro m own τ ⟨hm, he⟩
    refine WP.seq ?_
    refine WP.seq ?_
    refine WP.region ?_
    refine RG.pv rfl (PV.mvI (.inl rfl) rfl) ?_
    refine RG.pv rfl (PV.move rfl rfl) ?_
    refine RG.pv rfl (PV.len rfl Tryz.underlying114 rfl (SlF.r (hL.na h3))) ?_
    refine RG.pv rfl (PV.lss rfl rfl rfl) ?_
    refine RG.nil ?_
    refine WP.cond rfl (fun h4 => ?_) (fun h4 => ?_)
    · have h4 := of_decide_eq_true h4
      have hst := cnt_step hok (i := i) (m := m) (by omega) (by rw [hin]; omega)
      rw [hin] at hst he
      obtain ⟨q1, q2, q3, q4, q5⟩ := hst
      refine WP.skip ?_
      refine WP.seq ?_
      refine WP.block ?_
      refine WP.regionQ (by kernel_rfl) (by kernel_rfl) ?_
      refine RQ.pv rfl (PV.mvI (.inl rfl) rfl) ?_
      refine RQ.pv rfl (PV.move rfl rfl) ?_
      refine RQ.pv rfl (PV.mvI (.inl rfl) rfl) ?_
      refine RQ.pv rfl (PV.idxS rfl Is114 rfl (SlF.r (hL.na h3)) rfl rfl (by omega)) ?_
      refine RQ.pv rfl (PV.field rfl Fo195_2 rfl) ?_
      refine RQ.pv rfl (PV.loadF rfl Sc2 rfl rfl (El.r (hL.na h3) (getG (by omega))) rfl) ?_
      refine RQ.pv rfl (PV.move rfl rfl) ?_
      refine RQ.pv rfl (PV.mvI (.inl rfl) rfl) ?_
      refine RQ.pv rfl (PV.idxS rfl Is114 rfl (SlF.r (hL.na h3)) rfl rfl (by omega)) ?_
      refine RQ.pv rfl (PV.field rfl Fo195_3 rfl) ?_
      refine RQ.pv rfl (PV.loadF rfl Sc2 rfl rfl (El.r (hL.na h3) (getG (by omega))) rfl) ?_
      refine RQ.pv rfl (PV.mul rfl rfl rfl (by omega)) ?_
      refine RQ.pv rfl (PV.move (v := v) rfl rfl) ?_
      refine RQ.pv rfl (PV.move rfl rfl) ?_
      refine RQ.pv rfl (PV.mvI (.inl rfl) rfl) ?_
      refine RQ.pv rfl (PV.idxS rfl Is114 rfl (SlF.r (hL.na h3)) rfl rfl (by omega)) ?_
      refine RQ.pv rfl (PV.field rfl Fo195_0 rfl) ?_
      refine RQ.pv rfl (PV.loadF rfl Sc2 rfl rfl (El.r (hL.na h3) (getG (by omega))) rfl) ?_
      refine RQ.pv rfl (PV.idxS (j := (gd (gd l.cells.xs i).insts.xs m).cell.toNat) (v := v) rfl Is26 rfl SlF.o rfl (by omega) (by omega)) ?_
      refine RQ.pv rfl (PV.loadE1 rfl Sc2 rfl rfl (El.o (getG (by omega))) rfl) ?_
      refine RQ.pv rfl (PV.mul rfl rfl rfl (by omega)) ?_
      refine RQ.pv rfl (PV.add rfl rfl rfl (by omega)) ?_
      refine RQ.pv rfl (PV.mvI (.inr rfl) rfl) ?_
      refine RQ.nil ?_
      refine WP.region ?_
      refine RG.pv rfl (PV.mvI (.inl rfl) rfl) ?_
      refine RG.pv rfl (PV.add rfl rfl rfl (by omega)) ?_
      refine RG.pv rfl (PV.mvI (.inr rfl) rfl) ?_
      refine RG.nil ?_
      exact ⟨rfl, m + 1, _, ⟨by omega, by rw [hin, q5, he]⟩, ⟨rfl, rfl, trivial⟩, ⟨rfl, rfl, rfl, rfl, rfl, trivial⟩, Cv.p, by omega⟩
    · have h4 := of_decide_eq_false h4
      have e : own = ownCnt (cnts (erCls l.cells.xs) i) (gd (erCls l.cells.xs) i).insts := by rw [he, List.take_of_length_le (by rw [hin]; omega)]; rfl
      refine WP.exit ?_
      refine WP.region ?_
      refine RG.pv rfl (PV.move (v := v) rfl rfl) ?_
      refine RG.pv rfl (PV.mvI (.inl rfl) rfl) ?_
      refine RG.ot rfl (OT.bslice (F := intT) (els := [_]) rfl El26 rfl (by decide) rfl (by decide) ⟨rfl, (Cl.c rfl), trivial⟩ fun v58 => ?_)
      refine RG.ot rfl (OT.append (v := v) (u := v58) (F := intT) rfl El26 rfl (by decide) rfl rfl Rs.o (OneL.c (fun _ => rfl)) rfl (by first | omega | (simp <;> omega)) fun v59 => ?_)
      refine RG.pv rfl (PV.asg (v := v59) rfl rfl) ?_
      refine RG.nil ?_
      refine WP.region ?_
      refine RG.pv rfl (PV.mvI (.inl rfl) rfl) ?_
      refine RG.pv rfl (PV.add rfl rfl rfl (by omega)) ?_
      refine RG.pv rfl (PV.mvI (.inr rfl) rfl) ?_
      refine RG.nil ?_
      exact ⟨rfl, i + 1, _, (by omega), ⟨rfl, rfl, trivial⟩, ⟨rfl, rfl, trivial⟩, ((Cv.p (C := osl 2 intT v59 (cnts (erCls l.cells.xs) i ++ [own]) :: blk b2 31 (libT.enc l) :: L)).trans (Cv.eqS (by rw [e]; rfl))), by omega⟩
  · have h2 := of_decide_eq_false h2
    have e : gd (cnts (erCls l.cells.xs) i) cell.toNat = cntOf (erCls l.cells.xs) cell.toNat := cnts_gd _ (by omega)
    rw [← e] at k
    refine WP.exit ?_
    refine WP.seq ?_
    refine WP.region ?_
    refine RG.pv rfl (PV.move (v := v) rfl rfl) ?_
    refine RG.pv rfl (PV.mvI (.inl rfl) rfl) ?_
    refine RG.pv rfl (PV.idxS (j := cell.toNat) (v := v) rfl Is26 rfl SlF.o rfl (by omega) (by omega)) ?_
    refine RG.pv rfl (PV.loadE1 rfl Sc2 rfl rfl (El.o (getG (by omega))) rfl) ?_
    refine RG.pv rfl (PV.mvI (.inr rfl) rfl) ?_
    refine RG.nil ?_
    refine WP.ret ?_
    exact ⟨_, _, ResV.one rfl rfl, Cv.p, k⟩
end Go.Proofs.YthhjapiggekjbaaGreat
namespace Go.Proofs.YthhjapiggekjbaaGreat
set_option linter.unusedVariables false
set_option linter.unusedSimpArgs false
open Go
set_option maxRecDepth 20000
set_option linter.unusedSimpArgs false
variable {G : Gh} {L : List Ch} {R : Value → Gh → List Ch → Prop}
/-- a transform that may have left its range -/
def TBig (t : Trans) : Prop := (0 ≤ t.o ∧ t.o ≤ 7) ∧ -100000 ≤ t.x ∧ t.x ≤ 100000 ∧ -100000 ≤ t.y ∧ t.y ≤ 100000
theorem moveBig_i {t : Trans} {p : Pt} (ht : TBig t) (hp : InB 1000 p) (k : R (vpt (moveP t p)) G L) : CallT Tryz.prog 135 #[vtrans t, vpt p] G L R := by
  obtain ⟨hq1, hq2, hq3, hq4⟩ : InB 1000 (turnP t.o p) := turnP_in hp
  obtain ⟨_, ht1, ht2, ht3, ht4⟩ := id ht
  refine CallT.enter (args := _) Tryz.func135 rfl rfl (by kernel_rfl) rfl ?_
  refine WP.seq ?_
  refine WP.region ?_
  refine RG.ot rfl (OT.box (cs := transT.enc t) rfl rfl rfl fun b2 => ?_)
  refine RG.ot rfl (OT.box (cs := ptT.enc p) rfl rfl rfl fun b3 => ?_)
  refine RG.ot rfl (OT.alloc rfl Zr183 fun b4 => ?_)
  refine RG.nil ?_
  refine WP.seq ?_
  refine WP.region ?_
  refine RG.pv rfl (PV.field rfl Fo136_0 rfl) ?_
  refine RG.pv rfl (PV.load1 rfl Sc2 rfl (Rd.blk rfl)) ?_
  refine RG.pv rfl (PV.loadW rfl Ag183 rfl rfl) ?_
  refine RG.callF (vs := [_, _]) rfl rfl En189 rfl (turn_s ht.1 hp ?_)
  refine RG.ot rfl (OT.storeW (vs := [vi _, vi _]) rfl Sz183 rfl rfl (Cl.c rfl) rfl rfl (OneC.c rfl) ?_)
  refine RG.nil ?_
  refine WP.seq ?_
  refine WP.region ?_
  refine RG.pv rfl (PV.field rfl Fo183_0 rfl) ?_
  refine RG.pv rfl (PV.load1 rfl Sc2 rfl (Rd.blk rfl)) ?_
  refine RG.pv rfl (PV.field rfl Fo136_1 rfl) ?_
  refine RG.pv rfl (PV.load1 rfl Sc2 rfl (Rd.blk rfl)) ?_
  refine RG.pv rfl (PV.add rfl rfl rfl (by omega)) ?_
  refine RG.pv rfl (PV.field rfl Fo183_1 rfl) ?_
  refine RG.pv rfl (PV.load1 rfl Sc2 rfl (Rd.blk rfl)) ?_
  refine RG.pv rfl (PV.field rfl Fo136_2 rfl) ?_
  refine RG.pv rfl (PV.load1 rfl Sc2 rfl (Rd.blk rfl)) ?_
  refine RG.pv rfl (PV.add rfl rfl rfl (by omega)) ?_
  refine RG.pv rfl (PV.build (vs := [(0, [vi _]), (1, [vi _])]) (out := [_, _]) rfl Zr183 Pl183 ⟨rfl, (Cl.c rfl), ⟨rfl, (Cl.c rfl), trivial⟩⟩ rfl) ?_
  refine RG.ot rfl (OT.storeW (vs := [vi _, vi _]) rfl Sz183 rfl rfl (Cl.c rfl) rfl rfl (OneC.c rfl) ?_)
  refine RG.nil ?_
  refine WP.ret ?_
  exact ⟨_, _, ResV.one rfl (RV1.cell rfl Ag183 rfl), Cv.p, k⟩
theorem composed_i {a b : Int} (ha : 0 ≤ a ∧ a ≤ 7) (hb : 0 ≤ b ∧ b ≤ 7) (k : R (vi (cmpo a b)) G L) : CallT Tryz.prog 219 #[vi a, vi b] G L R := by
  refine CallT.enter (args := _) Tryz.func219 rfl rfl (by kernel_rfl) rfl ?_
  refine WP.seq ?_
  refine WP.region ?_
  refine RG.pv rfl (PV.mvI (.inr rfl) rfl) ?_
  refine RG.nil ?_
  refine WP.seq ?_
  refine WP.region ?_
  refine RG.pv rfl (PV.mvI (.inl rfl) rfl) ?_
  refine RG.pv rfl (PV.rem rfl rfl rfl (by omega) (by omega) (by omega)) ?_
  refine RG.pv rfl (PV.mvI (.inl rfl) rfl) ?_
  refine RG.pv rfl (PV.rem rfl rfl rfl (by omega) (by omega) (by omega)) ?_
  refine RG.pv rfl (PV.add rfl rfl rfl (by omega)) ?_
  refine RG.pv rfl (PV.mvI (.inr rfl) rfl) ?_
  refine RG.nil ?_
  refine WP.cut1 [0, 1] (fun (q : Int) => q = (if 4 ≤ b then b % 4 + 4 - a % 4 else b % 4 + a % 4)) (fun (q : Int) => [(5, vi q)]) (fun (q : Int) => L) ?_ ?_
  refine WP.seq ?_
  refine WP.region ?_
  refine RG.pv rfl (PV.mvI (.inl rfl) rfl) ?_
  refine RG.pv rfl (PV.geq rfl rfl rfl) ?_
  refine RG.nil ?_
  refine WP.cond rfl (fun h1 => ?_) (fun h1 => ?_)
  · have h1 := of_decide_eq_true h1
    refine WP.region ?_
    refine RG.pv rfl (PV.mvI (.inl rfl) rfl) ?_
    refine RG.pv rfl (PV.rem rfl rfl rfl (by omega) (by omega) (by omega)) ?_
    refine RG.pv rfl (PV.add rfl rfl rfl (by omega)) ?_
    refine RG.pv rfl (PV.mvI (.inl rfl) rfl) ?_
    refine RG.pv rfl (PV.rem rfl rfl rfl (by omega) (by omega) (by omega)) ?_
    refine RG.pv rfl (PV.sub rfl rfl rfl (by omega)) ?_
    refine RG.pv rfl (PV.mvI (.inr rfl) rfl) ?_
    refine RG.nil ?_
    exact ⟨rfl, (b % 4 + 4 - a % 4), (by rw [if_pos (by omega)]), ⟨rfl, trivial⟩, ⟨rfl, rfl, trivial⟩, Cv.p⟩
  · have h1 := of_decide_eq_false h1
    refine WP.skip ?_
    exact ⟨rfl, (b % 4 + a % 4), (by rw [if_neg (by omega)]), ⟨rfl, trivial⟩, ⟨rfl, rfl, trivial⟩, Cv.p⟩
  rintro q τ1 hq
  have hqb : 0 ≤ q ∧ q ≤ 20 := by rw [hq]; split <;> omega
  refine WP.seq ?_
  refine WP.region ?_
  refine RG.pv rfl (PV.mvI (.inl rfl) rfl) ?_
  refine RG.pv rfl (PV.rem rfl rfl rfl (by omega) (by omega) (by omega)) ?_
  refine RG.pv rfl (PV.mvI (.inr rfl) rfl) ?_
  refine RG.nil ?_
  refine WP.cut1 [] (fun (z : Int) => z = cmpo a b) (fun (z : Int) => [(6, vi z)]) (fun (z : Int) => L) ?_ ?_
  refine WP.seq ?_
  refine WP.region ?_
  refine RG.pv rfl (PV.mvI (.inl rfl) rfl) ?_
  refine RG.pv rfl (PV.geq rfl rfl rfl) ?_
  refine RG.pv rfl (PV.mvI (.inl rfl) rfl) ?_
  refine RG.pv rfl (PV.geq rfl rfl rfl) ?_
  refine RG.pv rfl (PV.neqB rfl Tryz.underlying4 rfl rfl) ?_
  refine RG.nil ?_
  refine WP.cond rfl (fun h2 => ?_) (fun h2 => ?_)
  · refine WP.region ?_
    refine RG.pv rfl (PV.mvI (.inl rfl) rfl) ?_
    refine RG.pv rfl (PV.add rfl rfl rfl (by omega)) ?_
    refine RG.pv rfl (PV.mvI (.inr rfl) rfl) ?_
    refine RG.nil ?_
    exact ⟨rfl, (q % 4 + 4), (by rw [cmpo, ← hq, if_neg]; intro e; simp [e] at h2), ⟨rfl, trivial⟩, trivial, Cv.p⟩
  · refine WP.skip ?_
    exact ⟨rfl, (q % 4), (by rw [cmpo, ← hq, if_pos]; omega; simpa using h2), ⟨rfl, trivial⟩, trivial, Cv.p⟩
  rintro z τ2 hz
  refine WP.seq ?_
  refine WP.region ?_
  refine RG.pv rfl (PV.mvI (.inl rfl) rfl) ?_
  refine RG.pv rfl (PV.mvI (.inr rfl) rfl) ?_
  refine RG.nil ?_
  refine WP.ret ?_
  rw [← hz] at k
  exact ⟨_, _, ResV.one rfl rfl, Cv.p, k⟩
theorem pt_in {t : Trans} {b : Int} (h : (-b ≤ t.x ∧ t.x ≤ b) ∧ -b ≤ t.y ∧ t.y ≤ b) : InB b ⟨t.x, t.y⟩ := ⟨h.1.1, h.1.2, h.2.1, h.2.2⟩
theorem compose_i {t u : Trans} (ho : 0 ≤ t.o ∧ t.o ≤ 7) (ht : (-1000 ≤ t.x ∧ t.x ≤ 1000) ∧ -1000 ≤ t.y ∧ t.y ≤ 1000) (hu : TBig u) (k : R (vtrans (cmpT t u)) G L) : CallT Tryz.prog 188 #[vtrans t, vtrans u] G L R := by
  refine CallT.enter (args := _) Tryz.func188 rfl rfl (by kernel_rfl) rfl ?_
  refine WP.seq ?_
  refine WP.region ?_
  refine RG.ot rfl (OT.box (cs := transT.enc t) rfl rfl rfl fun b2 => ?_)
  refine RG.ot rfl (OT.box (cs := transT.enc u) rfl rfl rfl fun b3 => ?_)
  refine RG.ot rfl (OT.alloc rfl Zr136 fun b4 => ?_)
  refine RG.nil ?_
  refine WP.seq ?_
  refine WP.region ?_
  refine RG.pv rfl (PV.loadW rfl Ag136 rfl rfl) ?_
  refine RG.pv rfl (PV.field rfl Fo136_1 rfl) ?_
  refine RG.pv rfl (PV.load1 rfl Sc2 rfl (Rd.blk rfl)) ?_
  refine RG.pv rfl (PV.field rfl Fo136_2 rfl) ?_
  refine RG.pv rfl (PV.load1 rfl Sc2 rfl (Rd.blk rfl)) ?_
  refine RG.pv rfl (PV.build (vs := [(0, [vi _]), (1, [vi _])]) (out := [_, _]) rfl Zr183 Pl183 ⟨rfl, (Cl.c rfl), ⟨rfl, (Cl.c rfl), trivial⟩⟩ rfl) ?_
  refine RG.callF (vs := [_, _]) rfl rfl En135 rfl (moveBig_i (p := ⟨_, _⟩) hu (pt_in ht) ?_)
  refine RG.ot rfl (OT.alloc rfl Zr183 fun b5 => ?_)
  refine RG.ot rfl (OT.storeW (vs := [vi _, vi _]) rfl Sz183 rfl rfl (Cl.c rfl) rfl rfl (OneC.c rfl) ?_)
  refine RG.nil ?_
  refine WP.seq ?_
  refine WP.regionHD [.b b4] (.q 0 (.q 1 (.q 2 (.q 3 (.q 5 (.q 6 (.q 7 (.q 8 (.l 4 (.q 9 (.l 10 Sch.nil))))))))))) (by kernel_rfl) (by kernel_rfl) (by kernel_rfl) rfl ?_
  refine RH.pv rfl (fun _ _ _ _ h => h) (Gh.le_refl _) PickC.pick rfl (PV.field rfl Fo136_0 rfl) ?_
  refine RH.pv rfl (fun _ _ _ _ h => h) (Gh.le_refl _) PickC.pick rfl (PV.load1 rfl Sc2 rfl (Rd.blk rfl)) ?_
  refine RH.pv rfl (fun _ _ _ _ h => h) (Gh.le_refl _) PickC.pick rfl (PV.field rfl Fo136_0 rfl) ?_
  refine RH.pv rfl (fun _ _ _ _ h => h) (Gh.le_refl _) PickC.pick rfl (PV.load1 rfl Sc2 rfl (Rd.blk rfl)) ?_
  refine RH.pv rfl (fun _ _ _ _ h => h) (Gh.le_refl _) PickC.pick rfl (PV.field rfl Fo183_0 rfl) ?_
  refine RH.pv rfl (fun _ _ _ _ h => h) (Gh.le_refl _) PickC.pick rfl (PV.load1 rfl Sc2 rfl (Rd.blk rfl)) ?_
  refine RH.pv rfl (fun _ _ _ _ h => h) (Gh.le_refl _) PickC.pick rfl (PV.field rfl Fo183_1 rfl) ?_
  refine RH.pv rfl (fun _ _ _ _ h => h) (Gh.le_refl _) PickC.pick rfl (PV.load1 rfl Sc2 rfl (Rd.blk rfl)) ?_
  refine RH.ot rfl rfl (OT.callF (vs := [_, _]) rfl En219 rfl (composed_i ho hu.1 ⟨Gh.le_refl _, PickC.pick, ?_⟩))
  refine RH.pv rfl (fun _ _ _ _ h => h) (Gh.le_refl _) PickC.pick rfl (PV.build (vs := [(0, [vi _]), (1, [vi _]), (2, [vi _])]) (out := [_, _, _]) rfl Zr136 Pl136 ⟨rfl, (Cl.c rfl), ⟨rfl, (Cl.c rfl), ⟨rfl, (Cl.c rfl), trivial⟩⟩⟩ rfl) ?_
  refine RH.ot rfl rfl (OT.storeW (vs := [vi _, vi _, vi _]) rfl Sz136 rfl rfl (Cl.c rfl) rfl rfl (OneC.c rfl) ⟨Gh.le_refl _, PickC.pick, ?_⟩)
  refine RH.nil ?_
  refine WP.ret ?_
  exact ⟨_, _, ResV.one rfl (RV1.cell rfl Ag136 rfl), Cv.p, k⟩
theorem elPlace_i {n : Inst} {kk : Int} {c r : Nat} (hk : okIn kk n = true) (hc : c < n.cols.toNat) (hr : r < n.rows.toNat) (k : R (vtrans (elPlace n c r)) G L) : CallT Tryz.prog 218 #[vT instT n, vi c, vi r] G L R := by
  obtain ⟨_, h2, h3, h4, h5, h6⟩ := okIn_bd hk
  obtain ⟨q1, q2, q3⟩ := validT_iff.1 h2
  have e1 := mul_bd (a := (c : Int)) (b := n.sx) (A := 3) (B := 80) (by omega) h5 (by omega)
  have e2 := mul_bd (a := (r : Int)) (b := n.sy) (A := 3) (B := 80) (by omega) h6 (by omega)
  refine CallT.enter (args := _) Tryz.func218 rfl rfl (by kernel_rfl) rfl ?_
  refine WP.seq ?_
  refine WP.region ?_
  refine RG.ot rfl (OT.box (cs := instT.enc n) rfl rfl rfl fun b3 => ?_)
  refine RG.ot rfl (OT.alloc rfl Zr136 fun b6 => ?_)
  refine RG.nil ?_
  refine WP.seq ?_
  refine WP.region ?_
  refine RG.pv rfl (PV.field rfl Fo195_1 rfl) ?_
  refine RG.pv rfl (PV.field rfl Fo136_0 rfl) ?_
  refine RG.pv rfl (PV.load1 rfl Sc2 rfl (Rd.blk rfl)) ?_
  refine RG.pv rfl (PV.field rfl Fo195_1 rfl) ?_
  refine RG.pv rfl (PV.field rfl Fo136_1 rfl) ?_
  refine RG.pv rfl (PV.load1 rfl Sc2 rfl (Rd.blk rfl)) ?_
  refine RG.pv rfl (PV.mvI (.inl rfl) rfl) ?_
  refine RG.pv rfl (PV.field rfl Fo195_4 rfl) ?_
  refine RG.pv rfl (PV.load1 rfl Sc2 rfl (Rd.blk rfl)) ?_
  refine RG.pv rfl (PV.mul rfl rfl rfl (by omega)) ?_
  refine RG.pv rfl (PV.add rfl rfl rfl (by omega)) ?_
  refine RG.pv rfl (PV.field rfl Fo195_1 rfl) ?_
  refine RG.pv rfl (PV.field rfl Fo136_2 rfl) ?_
  refine RG.pv rfl (PV.load1 rfl Sc2 rfl (Rd.blk rfl)) ?_
  refine RG.pv rfl (PV.mvI (.inl rfl) rfl) ?_
  refine RG.pv rfl (PV.field rfl Fo195_5 rfl) ?_
  refine RG.pv rfl (PV.load1 rfl Sc2 rfl (Rd.blk rfl)) ?_
  refine RG.pv rfl (PV.mul rfl rfl rfl (by omega)) ?_
  refine RG.pv rfl (PV.add rfl rfl rfl (by omega)) ?_
  refine RG.pv rfl (PV.build (vs := [(0, [vi _]), (1, [vi _]), (2, [vi _])]) (out := [_, _, _]) rfl Zr136 Pl136 ⟨rfl, (Cl.c rfl), ⟨rfl, (Cl.c rfl), ⟨rfl, (Cl.c rfl), trivial⟩⟩⟩ rfl) ?_
  refine RG.ot rfl (OT.storeW (vs := [vi _, vi _, vi _]) rfl Sz136 rfl rfl (Cl.c rfl) rfl rfl (OneC.c rfl) ?_)
  refine RG.nil ?_
  refine WP.ret ?_
  exact ⟨_, _, ResV.one rfl (RV1.cell rfl Ag136 rfl), Cv.p, k⟩
theorem elPlace_r {n : Inst} {kk : Int} {c r : Nat} (hk : okIn kk n = true) (hc : c < n.cols.toNat) (hr : r < n.rows.toNat) (k : R (vtrans (elPlace n c r)) G L) : CallT Tryz.prog 153 #[vT instT n, vi c, vi r] G L R := by
  obtain ⟨_, h2, h3, h4, h5, h6⟩ := okIn_bd hk
  obtain ⟨q1, q2, q3⟩ := validT_iff.1 h2
  have e1 := mul_bd (a := (c : Int)) (b := n.sx) (A := 3) (B := 80) (by omega) h5 (by omega)
  have e2 := mul_bd (a := (r : Int)) (b := n.sy) (A := 3) (B := 80) (by omega) h6 (by omega)
  refine CallT.enter (args := _) Tryz.func153 rfl rfl (by kernel_rfl) rfl ?_
  refine WP.seq ?_
  refine WP.region ?_
  refine RG.ot rfl (OT.box (cs := instT.enc n) rfl rfl rfl fun b3 => ?_)
  refine RG.ot rfl (OT.alloc rfl Zr136 fun b6 => ?_)
  refine RG.nil ?_
  refine WP.seq ?_
  refine WP.region ?_
  refine RG.pv rfl (PV.field rfl Fo195_1 rfl) ?_
  refine RG.pv rfl (PV.field rfl Fo136_0 rfl) ?_
  refine RG.pv rfl (PV.load1 rfl Sc2 rfl (Rd.blk rfl)) ?_
  refine RG.pv rfl (PV.field rfl Fo195_1 rfl) ?_
  refine RG.pv rfl (PV.field rfl Fo136_1 rfl) ?_
  refine RG.pv rfl (PV.load1 rfl Sc2 rfl (Rd.blk rfl)) ?_
  refine RG.pv rfl (PV.mvI (.inl rfl) rfl) ?_
  refine RG.pv rfl (PV.field rfl Fo195_4 rfl) ?_
  refine RG.pv rfl (PV.load1 rfl Sc2 rfl (Rd.blk rfl)) ?_
  refine RG.pv rfl (PV.mul rfl rfl rfl (by omega)) ?_
  refine RG.pv rfl (PV.add rfl rfl rfl (by omega)) ?_
  refine RG.pv rfl (PV.field rfl Fo195_1 rfl) ?_
  refine RG.pv rfl (PV.field rfl Fo136_2 rfl) ?_
  refine RG.pv rfl (PV.load1 rfl Sc2 rfl (Rd.blk rfl)) ?_
  refine RG.pv rfl (PV.mvI (.inl rfl) rfl) ?_
  refine RG.pv rfl (PV.field rfl Fo195_5 rfl) ?_
  refine RG.pv rfl (PV.load1 rfl Sc2 rfl (Rd.blk rfl)) ?_
  refine RG.pv rfl (PV.mul rfl rfl rfl (by omega)) ?_
  refine RG.pv rfl (PV.add rfl rfl rfl (by omega)) ?_
  refine RG.pv rfl (PV.build (vs := [(0, [vi _]), (1, [vi _]), (2, [vi _])]) (out := [_, _, _]) rfl Zr136 Pl136 ⟨rfl, (Cl.c rfl), ⟨rfl, (Cl.c rfl), ⟨rfl, (Cl.c rfl), trivial⟩⟩⟩ rfl) ?_
  refine RG.ot rfl (OT.storeW (vs := [vi _, vi _, vi _]) rfl Sz136 rfl rfl (Cl.c rfl) rfl rfl (OneC.c rfl) ?_)
  refine RG.nil ?_
  refine WP.ret ?_
  exact ⟨_, _, ResV.one rfl (RV1.cell rfl Ag136 rfl), Cv.p, k⟩
/-- the instances of a cell, each valid -/
def okNs (ns : List Inst) : Prop := ns.length ≤ 8 ∧ ∃ kk, ∀ j, j < ns.length → okIn kk (gd ns j) = true
theorem okLib_ns {cs : List ECell} (h : okLib cs = true) {i : Nat} (hi : i < cs.length) : okNs (gd cs i).insts := ⟨(okLib_cnt h hi).1, i, fun j hj => okLib_inst h hi hj⟩
theorem elems_bd2 {ns : List Inst} (h : okNs ns) : ∀ i, i ≤ ns.length → (elems (ns.take i)).length ≤ 16 * i
  | 0, _ => by simp [elems]
  | i + 1, hi => by
    obtain ⟨h1, kk, h2⟩ := id h
    have ih := elems_bd2 h i (by omega)
    obtain ⟨_, _, h3, h4, _, _⟩ := okIn_bd (h2 i (by omega))
    have := Nat.mul_le_mul (show (gd ns i).rows.toNat ≤ 4 by omega) (show (gd ns i).cols.toNat ≤ 4 by omega)
    rw [elems_take (by omega), List.length_append, elsOf_len]; omega
/-- the elements before the q-th of the i-th instance -/
def elTo (ns : List Inst) (i q : Nat) : List HElem := elems (ns.take i) ++ (elsOf (gd ns i)).take q
theorem elTo_zero (ns : List Inst) (i : Nat) : elems (ns.take i) = elTo ns i 0 := by simp [elTo]
theorem elTo_step {ns : List Inst} {i r q : Nat} (hq : q < (gd ns i).cols.toNat) (hr : r < (gd ns i).rows.toNat) : elTo ns i (r * (gd ns i).cols.toNat + q) ++ [⟨(gd ns i).cell, elPlace (gd ns i) q r⟩] = elTo ns i (r * (gd ns i).cols.toNat + (q + 1)) := by
  rw [elTo, elTo, elsOf_step hq hr, List.append_assoc]
theorem elTo_all {ns : List Inst} {i q : Nat} (hi : i < ns.length) (h : (gd ns i).rows.toNat * (gd ns i).cols.toNat ≤ q) : elTo ns i q = elems (ns.take (i + 1)) := by
  rw [elTo, elems_take hi, List.take_of_length_le (i := q) (by rw [elsOf_len]; exact h)]
theorem elTo_len {ns : List Inst} (h : okNs ns) {i q : Nat} (hi : i < ns.length) : (elTo ns i q).length ≤ 1000 := by
  have h1 := elems_bd2 h i (by omega)
  obtain ⟨h2, kk, h3⟩ := h
  obtain ⟨_, _, q3, q4, _, _⟩ := okIn_bd (h3 i hi)
  have hm := Nat.mul_le_mul (show (gd ns i).rows.toNat ≤ 4 by omega) (show (gd ns i).cols.toNat ≤ 4 by omega)
  rw [elTo, List.length_append, List.length_take, elsOf_len]; omega
theorem elems_i {c : Cell} (h3 : Rs G L instT c.insts.v c.insts.xs) (hok : okNs c.insts.xs) (k : ∀ v', R v' G (osl 260 helemT v' (elems c.insts.xs) :: L)) : CallT Tryz.prog 186 #[vT cellT c] G L R := by
  obtain ⟨h1, kk, h2⟩ := id hok
  refine CallT.enter (args := _) Tryz.func186 rfl rfl (by kernel_rfl) rfl ?_
  refine WP.seq ?_
  refine WP.region ?_
  refine RG.ot rfl (OT.box (cs := cellT.enc c) rfl rfl rfl fun b1 => ?_)
  refine RG.pv rfl (PV.asg rfl rfl) ?_
  refine RG.nil ?_
  refine WP.seq ?_
  refine WP.region ?_
  refine RG.ot rfl (OT.bslice (F := helemT) (els := []) rfl El257 rfl (by decide) rfl (by decide) trivial fun v8 => ?_)
  refine RG.pv rfl (PV.asg (v := v8) rfl rfl) ?_
  refine RG.nil ?_
  refine WP.seq ?_
  refine WP.seq ?_
  refine WP.region ?_
  refine RG.pv rfl (PV.field rfl Fo116_3 rfl) ?_
  refine RG.pv rfl (PV.load1 rfl Sc114 rfl (Rd.blk rfl)) ?_
  refine RG.pv rfl (PV.len rfl Tryz.underlying114 rfl (SlF.r h3)) ?_
  refine RG.pv rfl (PV.mvI (.inl rfl) rfl) ?_
  refine RG.nil ?_
  refine WP.block ?_
  refine WP.cv (Cv.eqS (ys := elems (c.insts.xs.take 0)) rfl) ?_
  refine WP.loop2 [10, 11] (fun (i : Nat) (v : Value) => i ≤ c.insts.xs.length) (fun (i : Nat) (v : Value) => [(12, vi i), (3, v)]) (fun (i : Nat) (v : Value) => osl 260 helemT v (elems (c.insts.xs.take i)) :: L) (fun (i : Nat) (v : Value) => c.insts.xs.length - i) 0 v8 (by omega) ⟨rfl, rfl, trivial⟩ Cv.p ?_
  rintro i v τ hi
  refine WP.seq ?_
  refine WP.region ?_
  refine RG.pv rfl (PV.lss rfl rfl rfl) ?_
  refine RG.nil ?_
  refine WP.seq ?_
  have hel := elems_bd2 hok i hi
  refine WP.cond rfl (fun h4 => ?_) (fun h4 => ?_)
  · have h4 := of_decide_eq_true h4
    have h5 : i < c.insts.xs.length := by omega
    obtain ⟨_, _, q3, q4, _, _⟩ := okIn_bd (h2 i h5)
    refine WP.skip ?_
    refine WP.seq ?_
    refine WP.block ?_
    refine WP.seq ?_
    refine WP.region ?_
    refine RG.pv rfl (PV.idxS rfl Is114 rfl (SlF.r h3) rfl rfl (by omega)) ?_
    refine RG.pv rfl (PV.loadE rfl Ag195 rfl rfl (El.r h3 (getG (by omega)))) ?_
    refine RG.ot rfl (OT.alloc rfl Zr195 fun b5 => ?_)
    refine RG.ot rfl (OT.storeW (vs := [vi _, vi _, vi _, vi _, vi _, vi _, vi _, vi _]) rfl Sz195 rfl rfl (Cl.c rfl) rfl rfl (OneC.c rfl) ?_)
    refine RG.nil ?_
    refine WP.seq ?_
    refine WP.region ?_
    refine RG.pv rfl (PV.field rfl Fo195_3 rfl) ?_
    refine RG.pv rfl (PV.load1 rfl Sc2 rfl (Rd.blk rfl)) ?_
    refine RG.pv rfl (PV.mvI (.inl rfl) rfl) ?_
    refine RG.nil ?_
    refine WP.block ?_
    refine WP.cv ((Cv.p (C := osl 260 helemT v (elems (c.insts.xs.take i)) :: blk b5 195 (instT.enc (gd c.insts.xs i)) :: L)).trans (Cv.eqS (ys := elTo c.insts.xs i (0 * (gd c.insts.xs i).cols.toNat)) (by rw [Nat.zero_mul]; exact elTo_zero _ _))) ?_
    refine WP.loop2 [5, 10, 11, 12, 17] (fun (r : Nat) (v : Value) => r ≤ (gd c.insts.xs i).rows.toNat) (fun (r : Nat) (v : Value) => [(18, vi r), (3, v)]) (fun (r : Nat) (v : Value) => osl 260 helemT v (elTo c.insts.xs i (r * (gd c.insts.xs i).cols.toNat)) :: blk b5 195 (instT.enc (gd c.insts.xs i)) :: L) (fun (r : Nat) (v : Value) => (gd c.insts.xs i).rows.toNat - r) 0 v (by omega) ⟨rfl, rfl, trivial⟩ Cv.p ?_
    rintro r v τ hr
    refine WP.seq ?_
    refine WP.region ?_
    refine RG.pv rfl (PV.lss rfl rfl rfl) ?_
    refine RG.nil ?_
    refine WP.seq ?_
    refine WP.cond rfl (fun h6 => ?_) (fun h6 => ?_)
    · have h6 := of_decide_eq_true h6
      refine WP.skip ?_
      refine WP.seq ?_
      refine WP.block ?_
      refine WP.seq ?_
      refine WP.region ?_
      refine RG.pv rfl (PV.mvI (.inl rfl) rfl) ?_
      refine RG.pv rfl (PV.mvI (.inr rfl) rfl) ?_
      refine RG.nil ?_
      refine WP.seq ?_
      refine WP.region ?_
      refine RG.pv rfl (PV.field rfl Fo195_2 rfl) ?_
      refine RG.pv rfl (PV.load1 rfl Sc2 rfl (Rd.blk rfl)) ?_
      refine RG.pv rfl (PV.mvI (.inl rfl) rfl) ?_
      refine RG.nil ?_
      refine WP.block ?_
      refine WP.cv (Cv.eqS (ys := elTo c.insts.xs i (r * (gd c.insts.xs i).cols.toNat + 0)) rfl) ?_
      refine WP.loop2 [5, 6, 10, 11, 12, 17, 18, 22] (fun (q : Nat) (v : Value) => q ≤ (gd c.insts.xs i).cols.toNat) (fun (q : Nat) (v : Value) => [(23, vi q), (3, v)]) (fun (q : Nat) (v : Value) => osl 260 helemT v (elTo c.insts.xs i (r * (gd c.insts.xs i).cols.toNat + q)) :: blk b5 195 (instT.enc (gd c.insts.xs i)) :: L) (fun (q : Nat) (v : Value) => (gd c.insts.xs i).cols.toNat - q) 0 v (by omega) ⟨rfl, rfl, trivial⟩ Cv.p ?_
      rintro q v τ hq
      refine WP.seq ?_
      refine WP.region ?_
      refine RG.pv rfl (PV.lss rfl rfl rfl) ?_
      refine RG.nil ?_
      refine WP.seq ?_
      refine WP.cond rfl (fun h7 => ?_) (fun h7 => ?_)
      · have h7 := of_decide_eq_true h7
        have hll := elTo_len hok (i := i) (q := r * (gd c.insts.xs i).cols.toNat + q) h5
        refine WP.skip ?_
        refine WP.seq ?_
        refine WP.block ?_
        refine WP.seq ?_
        refine WP.region ?_
        refine RG.pv rfl (PV.mvI (.inl rfl) rfl) ?_
        refine RG.pv rfl (PV.mvI (.inr rfl) rfl) ?_
        refine RG.nil ?_
        refine WP.regionHD [.s v] (.q 0 (.q 1 (.q 2 (.q 3 (.q 4 (.q 5 (.l 6 (.q 7 (.l 8 (.l 9 (.q 10 Sch.nil))))))))))) (by kernel_rfl) (by kernel_rfl) (by kernel_rfl) rfl ?_
        refine RH.pv rfl (fun _ _ _ _ h => h) (Gh.le_refl _) PickC.pick rfl (PV.move (v := v) rfl rfl) ?_
        refine RH.pv rfl (fun _ _ _ _ h => h) (Gh.le_refl _) PickC.pick rfl (PV.field rfl Fo195_0 rfl) ?_
        refine RH.pv rfl (fun _ _ _ _ h => h) (Gh.le_refl _) PickC.pick rfl (PV.load1 rfl Sc2 rfl (Rd.blk rfl)) ?_
        refine RH.pv rfl (fun _ _ _ _ h => h) (Gh.le_refl _) PickC.pick rfl (PV.loadW rfl Ag195 rfl rfl) ?_
        refine RH.pv rfl (fun _ _ _ _ h => h) (Gh.le_refl _) PickC.pick rfl (PV.mvI (.inl rfl) rfl) ?_
        refine RH.pv rfl (fun _ _ _ _ h => h) (Gh.le_refl _) PickC.pick rfl (PV.mvI (.inl rfl) rfl) ?_
        refine RH.ot rfl rfl (OT.callF (vs := [_, _, _]) rfl En218 rfl (elPlace_i (h2 i (by omega)) (by omega) (by omega) ⟨Gh.le_refl _, PickC.pick, ?_⟩))
        refine RH.pv rfl (fun _ _ _ _ h => h) (Gh.le_refl _) PickC.pick rfl (PV.build (vs := [(0, [vi _]), (1, [vi _, vi _, vi _])]) (out := [_, _, _, _]) rfl Zr260 Pl260 ⟨rfl, (Cl.c rfl), ⟨rfl, (Cl.c rfl), trivial⟩⟩ rfl) ?_
        refine RH.ot rfl rfl (OT.bslice (F := helemT) (els := [⟨_, _⟩]) rfl El257 rfl (by decide) rfl (by decide) ⟨rfl, (Cl.c rfl), trivial⟩ fun v34 => ⟨Gh.le_refl _, PickC.pick, ?_⟩)
        refine RH.ot rfl rfl (OT.append (v := v) (u := v34) (F := helemT) rfl El257 rfl (by decide) rfl rfl Rs.o (OneL.c (fun _ => rfl)) rfl (by first | omega | (simp <;> omega)) fun v35 => ⟨Gh.le_refl _, PickC.pick, ?_⟩)
        refine RH.pv rfl (fun _ _ _ _ h => h) (Gh.le_refl _) PickC.pick rfl (PV.asg (v := v35) rfl rfl) ?_
        refine RH.nil ?_
        refine WP.region ?_
        refine RG.pv rfl (PV.add rfl rfl rfl (by omega)) ?_
        refine RG.pv rfl (PV.mvI (.inl rfl) rfl) ?_
        refine RG.nil ?_
        exact ⟨rfl, q + 1, v35, (by omega), ⟨rfl, rfl, trivial⟩, ⟨rfl, rfl, rfl, rfl, rfl, rfl, rfl, rfl, trivial⟩, ((Cv.p (C := osl 260 helemT v35 (elTo c.insts.xs i (r * (gd c.insts.xs i).cols.toNat + q) ++ [⟨(gd c.insts.xs i).cell, ⟨(gd c.insts.xs i).place.o, (gd c.insts.xs i).place.x + (q : Int) * (gd c.insts.xs i).sx, (gd c.insts.xs i).place.y + (r : Int) * (gd c.insts.xs i).sy⟩⟩]) :: blk b5 195 (instT.enc (gd c.insts.xs i)) :: L)).trans (Cv.eqS (elTo_step (ns := c.insts.xs) (i := i) (r := r) (q := q) (by omega) (by omega)))), by omega⟩
      · have h7 := of_decide_eq_false h7
        have e : r * (gd c.insts.xs i).cols.toNat + q = (r + 1) * (gd c.insts.xs i).cols.toNat := by rw [Nat.add_mul]; omega
        refine WP.exit ?_
        refine WP.region ?_
        refine RG.pv rfl (PV.add rfl rfl rfl (by omega)) ?_
        refine RG.pv rfl (PV.mvI (.inl rfl) rfl) ?_
        refine RG.nil ?_
        exact ⟨rfl, r + 1, v, (by omega), ⟨rfl, rfl, trivial⟩, ⟨rfl, rfl, rfl, rfl, rfl, trivial⟩, (Cv.eqS (by rw [e])), by omega⟩
    · have h6 := of_decide_eq_false h6
      refine WP.exit ?_
      refine WP.region ?_
      refine RG.pv rfl (PV.add rfl rfl rfl (by omega)) ?_
      refine RG.pv rfl (PV.mvI (.inl rfl) rfl) ?_
      refine RG.nil ?_
      exact ⟨rfl, i + 1, v, (by omega), ⟨rfl, rfl, trivial⟩, ⟨rfl, rfl, trivial⟩, ((Cv.eqS (ys := elems (c.insts.xs.take (i + 1))) (elTo_all h5 (Nat.mul_le_mul_right _ (by omega)))).trans Cv.p), by omega⟩
  · have h4 := of_decide_eq_false h4
    have e : c.insts.xs.take i = c.insts.xs := List.take_of_length_le (by omega)
    rw [e]
    refine WP.exit ?_
    refine WP.seq ?_
    refine WP.region ?_
    refine RG.pv rfl (PV.move (v := v) rfl rfl) ?_
    refine RG.pv rfl (PV.asg (v := v) rfl rfl) ?_
    refine RG.nil ?_
    refine WP.ret ?_
    exact ⟨_, _, ResV.one rfl rfl, Cv.p, k v⟩
theorem l10Point_r {t : Trans} {p : Pt} (ht : TBig t) (hp : InB 1000 p) (k : R (vpt (moveP t p)) G L) : CallT Tryz.prog 192 #[vtrans t, vpt p] G L R := by
  have hf : InB 1000 (flip t.o p) := flip_in hp
  obtain ⟨hq1, hq2, hq3, hq4⟩ : InB 1000 (turnP t.o p) := turnP_in hp
  obtain ⟨hp1, hp2, hp3, hp4⟩ := hp
  obtain ⟨ho, ht1, ht2, ht3, ht4⟩ := ht
  refine CallT.enter (args := _) Tryz.func192 rfl rfl (by kernel_rfl) rfl ?_
  refine WP.seq ?_
  refine WP.region ?_
  refine RG.ot rfl (OT.box (cs := transT.enc t) rfl rfl rfl fun b2 => ?_)
  refine RG.ot rfl (OT.box (cs := ptT.enc p) rfl rfl rfl fun b3 => ?_)
  refine RG.ot rfl (OT.alloc rfl Zr183 fun b4 => ?_)
  refine RG.nil ?_
  refine WP.seq ?_
  refine WP.region ?_
  refine RG.pv rfl (PV.field rfl Fo183_0 rfl) ?_
  refine RG.pv rfl (PV.load1 rfl Sc2 rfl (Rd.blk rfl)) ?_
  refine RG.pv rfl (PV.mvI (.inr rfl) rfl) ?_
  refine RG.nil ?_
  refine WP.seq ?_
  refine WP.region ?_
  refine RG.pv rfl (PV.field rfl Fo183_1 rfl) ?_
  refine RG.pv rfl (PV.load1 rfl Sc2 rfl (Rd.blk rfl)) ?_
  refine RG.pv rfl (PV.mvI (.inr rfl) rfl) ?_
  refine RG.nil ?_
  refine WP.cut1 [2, 4] (fun (q : Pt) => q = flip t.o p) (fun (q : Pt) => [(5, vi q.x), (6, vi q.y)]) (fun (q : Pt) => blk b2 136 (transT.enc t) :: blk b4 183 [vi 0, vi 0] :: L) ?_ ?_
  refine WP.seq ?_
  refine WP.region ?_
  refine RG.pv rfl (PV.field rfl Fo136_0 rfl) ?_
  refine RG.pv rfl (PV.load1 rfl Sc2 rfl (Rd.blk rfl)) ?_
  refine RG.pv rfl (PV.geq rfl rfl rfl) ?_
  refine RG.nil ?_
  refine WP.cond rfl (fun h1 => ?_) (fun h1 => ?_)
  · have h1 := of_decide_eq_true h1
    refine WP.region ?_
    refine RG.pv rfl (PV.mvI (.inl rfl) rfl) ?_
    refine RG.pv rfl (PV.neg rfl rfl (by omega)) ?_
    refine RG.pv rfl (PV.mvI (.inr rfl) rfl) ?_
    refine RG.nil ?_
    exact ⟨rfl, (⟨p.x, -p.y⟩ : Pt), (by rw [flip, if_pos (by omega)]), ⟨rfl, rfl, trivial⟩, ⟨rfl, rfl, trivial⟩, Cv.p⟩
  · have h1 := of_decide_eq_false h1
    refine WP.skip ?_
    exact ⟨rfl, p, (by rw [flip, if_neg (by omega)]), ⟨rfl, rfl, trivial⟩, ⟨rfl, rfl, trivial⟩, Cv.p⟩
  rintro q τ1 hq
  refine WP.seq ?_
  refine WP.seq ?_
  refine WP.region ?_
  refine RG.pv rfl (PV.field rfl Fo136_0 rfl) ?_
  refine RG.pv rfl (PV.load1 rfl Sc2 rfl (Rd.blk rfl)) ?_
  refine RG.pv rfl (PV.rem rfl rfl rfl (by omega) (by omega) (by omega)) ?_
  refine RG.pv rfl (PV.mvI (.inr rfl) rfl) ?_
  refine RG.nil ?_
  refine WP.block ?_
  subst hq
  refine WP.loop2 [2, 4] (fun (n : Int) (q : Pt) => (0 ≤ n ∧ n < 4) ∧ rot n.toNat q = turnP t.o p ∧ InB 1000 q) (fun (n : Int) (q : Pt) => [(7, vi n), (5, vi q.x), (6, vi q.y)]) (fun (n : Int) (q : Pt) => blk b2 136 (transT.enc t) :: blk b4 183 [vi 0, vi 0] :: L) (fun (n : Int) (q : Pt) => n.toNat) (t.o % 4) (flip t.o p) ⟨by omega, rfl, hf⟩ ⟨rfl, rfl, rfl, trivial⟩ Cv.p ?_
  rintro n q τ ⟨hn, hr, hi1, hi2, hi3, hi4⟩
  refine WP.seq ?_
  refine WP.seq ?_
  refine WP.region ?_
  refine RG.pv rfl (PV.mvI (.inl rfl) rfl) ?_
  refine RG.pv rfl (PV.gtr rfl rfl rfl) ?_
  refine RG.nil ?_
  refine WP.cond rfl (fun h2 => ?_) (fun h2 => ?_)
  · have h2 := of_decide_eq_true h2
    refine WP.skip ?_
    refine WP.seq ?_
    refine WP.block ?_
    refine WP.region ?_
    refine RG.pv rfl (PV.mvI (.inl rfl) rfl) ?_
    refine RG.pv rfl (PV.neg rfl rfl (by omega)) ?_
    refine RG.pv rfl (PV.mvI (.inl rfl) rfl) ?_
    refine RG.pv rfl (PV.mvI (.inr rfl) rfl) ?_
    refine RG.pv rfl (PV.mvI (.inr rfl) rfl) ?_
    refine RG.nil ?_
    refine WP.region ?_
    refine RG.pv rfl (PV.mvI (.inl rfl) rfl) ?_
    refine RG.pv rfl (PV.sub rfl rfl rfl (by omega)) ?_
    refine RG.pv rfl (PV.mvI (.inr rfl) rfl) ?_
    refine RG.nil ?_
    refine ⟨rfl, n - 1, ⟨-q.y, q.x⟩, ⟨by omega, ?_, by simp only; omega, by simp only; omega, hi1, hi2⟩, ⟨rfl, rfl, rfl, trivial⟩, ⟨rfl, rfl, trivial⟩, Cv.p, by omega⟩
    rw [← hr, show n.toNat = (n - 1).toNat + 1 by omega]; rfl
  · have h2 := of_decide_eq_false h2
    have e : turnP t.o p = q := by rw [← hr, show n.toNat = 0 by omega]; rfl
    rw [moveP, e] at k
    refine WP.exit ?_
    refine WP.seq ?_
    refine WP.region ?_
    refine RG.pv rfl (PV.mvI (.inl rfl) rfl) ?_
    refine RG.pv rfl (PV.field rfl Fo136_1 rfl) ?_
    refine RG.pv rfl (PV.load1 rfl Sc2 rfl (Rd.blk rfl)) ?_
    refine RG.pv rfl (PV.add rfl rfl rfl (by omega)) ?_
    refine RG.pv rfl (PV.mvI (.inl rfl) rfl) ?_
    refine RG.pv rfl (PV.field rfl Fo136_2 rfl) ?_
    refine RG.pv rfl (PV.load1 rfl Sc2 rfl (Rd.blk rfl)) ?_
    refine RG.pv rfl (PV.add rfl rfl rfl (by omega)) ?_
    refine RG.pv rfl (PV.build (vs := [(0, [vi _]), (1, [vi _])]) (out := [_, _]) rfl Zr183 Pl183 ⟨rfl, (Cl.c rfl), ⟨rfl, (Cl.c rfl), trivial⟩⟩ rfl) ?_
    refine RG.ot rfl (OT.storeW (vs := [vi _, vi _]) rfl Sz183 rfl rfl (Cl.c rfl) rfl rfl (OneC.c rfl) ?_)
    refine RG.nil ?_
    refine WP.ret ?_
    exact ⟨_, _, ResV.one rfl (RV1.cell rfl Ag183 rfl), Cv.p, k⟩
theorem l10Rect_r {t : Trans} {r : Rect} (ht : TBig t) (hr : RIn 40 r) (k : R (vrect (moveR t r)) G L) : CallT Tryz.prog 142 #[vtrans t, vrect r] G L R := by
  refine CallT.enter (args := _) Tryz.func142 rfl rfl (by kernel_rfl) rfl ?_
  refine WP.seq ?_
  refine WP.region ?_
  refine RG.ot rfl (OT.box (cs := transT.enc t) rfl rfl rfl fun b2 => ?_)
  refine RG.ot rfl (OT.box (cs := rectT.enc r) rfl rfl rfl fun b3 => ?_)
  refine RG.ot rfl (OT.alloc rfl Zr140 fun b4 => ?_)
  refine RG.nil ?_
  refine WP.seq ?_
  refine WP.region ?_
  refine RG.pv rfl (PV.loadW rfl Ag136 rfl rfl) ?_
  refine RG.pv rfl (PV.field rfl Fo140_0 rfl) ?_
  refine RG.pv rfl (PV.load1 rfl Sc2 rfl (Rd.blk rfl)) ?_
  refine RG.pv rfl (PV.field rfl Fo140_1 rfl) ?_
  refine RG.pv rfl (PV.load1 rfl Sc2 rfl (Rd.blk rfl)) ?_
  refine RG.pv rfl (PV.build (vs := [(0, [vi _]), (1, [vi _])]) (out := [_, _]) rfl Zr183 Pl183 ⟨rfl, (Cl.c rfl), ⟨rfl, (Cl.c rfl), trivial⟩⟩ rfl) ?_
  refine RG.callF (vs := [_, _]) rfl rfl En192 rfl (l10Point_r (p := ⟨_, _⟩) ht (by first | exact (RIn_pts hr).1 | exact (RIn_pts hr).2) ?_)
  refine RG.ot rfl (OT.alloc rfl Zr183 fun b5 => ?_)
  refine RG.ot rfl (OT.storeW (vs := [vi _, vi _]) rfl Sz183 rfl rfl (Cl.c rfl) rfl rfl (OneC.c rfl) ?_)
  refine RG.nil ?_
  refine WP.seq ?_
  refine WP.region ?_
  refine RG.pv rfl (PV.loadW rfl Ag136 rfl rfl) ?_
  refine RG.pv rfl (PV.field rfl Fo140_2 rfl) ?_
  refine RG.pv rfl (PV.load1 rfl Sc2 rfl (Rd.blk rfl)) ?_
  refine RG.pv rfl (PV.field rfl Fo140_3 rfl) ?_
  refine RG.pv rfl (PV.load1 rfl Sc2 rfl (Rd.blk rfl)) ?_
  refine RG.pv rfl (PV.build (vs := [(0, [vi _]), (1, [vi _])]) (out := [_, _]) rfl Zr183 Pl183 ⟨rfl, (Cl.c rfl), ⟨rfl, (Cl.c rfl), trivial⟩⟩ rfl) ?_
  refine RG.callF (vs := [_, _]) rfl rfl En192 rfl (l10Point_r (p := ⟨_, _⟩) ht (by first | exact (RIn_pts hr).1 | exact (RIn_pts hr).2) ?_)
  refine RG.ot rfl (OT.alloc rfl Zr183 fun b6 => ?_)
  refine RG.ot rfl (OT.storeW (vs := [vi _, vi _]) rfl Sz183 rfl rfl (Cl.c rfl) rfl rfl (OneC.c rfl) ?_)
  refine RG.nil ?_
  refine WP.seq ?_
  refine WP.region ?_
  refine RG.pv rfl (PV.field rfl Fo183_0 rfl) ?_
  refine RG.pv rfl (PV.load1 rfl Sc2 rfl (Rd.blk rfl)) ?_
  refine RG.pv rfl (PV.field rfl Fo183_0 rfl) ?_
  refine RG.pv rfl (PV.load1 rfl Sc2 rfl (Rd.blk rfl)) ?_
  refine RG.pv rfl (PV.min2 rfl rfl rfl) ?_
  refine RG.pv rfl (PV.field rfl Fo183_1 rfl) ?_
  refine RG.pv rfl (PV.load1 rfl Sc2 rfl (Rd.blk rfl)) ?_
  refine RG.pv rfl (PV.field rfl Fo183_1 rfl) ?_
  refine RG.pv rfl (PV.load1 rfl Sc2 rfl (Rd.blk rfl)) ?_
  refine RG.pv rfl (PV.min2 rfl rfl rfl) ?_
  refine RG.pv rfl (PV.field rfl Fo183_0 rfl) ?_
  refine RG.pv rfl (PV.load1 rfl Sc2 rfl (Rd.blk rfl)) ?_
  refine RG.pv rfl (PV.field rfl Fo183_0 rfl) ?_
  refine RG.pv rfl (PV.load1 rfl Sc2 rfl (Rd.blk rfl)) ?_
  refine RG.pv rfl (PV.max2 rfl rfl rfl) ?_
  refine RG.pv rfl (PV.field rfl Fo183_1 rfl) ?_
  refine RG.pv rfl (PV.load1 rfl Sc2 rfl (Rd.blk rfl)) ?_
  refine RG.pv rfl (PV.field rfl Fo183_1 rfl) ?_
  refine RG.pv rfl (PV.load1 rfl Sc2 rfl (Rd.blk rfl)) ?_
  refine RG.pv rfl (PV.max2 rfl rfl rfl) ?_
  refine RG.pv rfl (PV.build (vs := [(0, [vi _]), (1, [vi _]), (2, [vi _]), (3, [vi _])]) (out := [_, _, _, _]) rfl Zr140 Pl140 ⟨rfl, (Cl.c rfl), ⟨rfl, (Cl.c rfl), ⟨rfl, (Cl.c rfl), ⟨rfl, (Cl.c rfl), trivial⟩⟩⟩⟩ rfl) ?_
  refine RG.ot rfl (OT.storeW (vs := [vi _, vi _, vi _, vi _]) rfl Sz140 rfl rfl (Cl.c rfl) rfl rfl (OneC.c rfl) ?_)
  refine RG.nil ?_
  refine WP.ret ?_
  exact ⟨_, _, ResV.one rfl (RV1.cell rfl Ag140 rfl), Cv.p, k⟩
theorem l10After_r {t u : Trans} (ho : 0 ≤ t.o ∧ t.o ≤ 7) (ht : (-1000 ≤ t.x ∧ t.x ≤ 1000) ∧ -1000 ≤ t.y ∧ t.y ≤ 1000) (hu : TBig u) (k : R (vtrans (cmpT t u)) G L) : CallT Tryz.prog 152 #[vtrans u, vtrans t] G L R := by
  obtain ⟨hu1, _⟩ := id hu
  refine CallT.enter (args := _) Tryz.func152 rfl rfl (by kernel_rfl) rfl ?_
  refine WP.seq ?_
  refine WP.region ?_
  refine RG.ot rfl (OT.box (cs := transT.enc u) rfl rfl rfl fun b2 => ?_)
  refine RG.ot rfl (OT.box (cs := transT.enc t) rfl rfl rfl fun b3 => ?_)
  refine RG.ot rfl (OT.alloc rfl Zr136 fun b4 => ?_)
  refine RG.nil ?_
  refine WP.seq ?_
  refine WP.region ?_
  refine RG.pv rfl (PV.field rfl Fo136_0 rfl) ?_
  refine RG.pv rfl (PV.load1 rfl Sc2 rfl (Rd.blk rfl)) ?_
  refine RG.pv rfl (PV.rem rfl rfl rfl (by omega) (by omega) (by omega)) ?_
  refine RG.pv rfl (PV.mvI (.inr rfl) rfl) ?_
  refine RG.nil ?_
  refine WP.seq ?_
  refine WP.region ?_
  refine RG.pv rfl (PV.field rfl Fo136_0 rfl) ?_
  refine RG.pv rfl (PV.load1 rfl Sc2 rfl (Rd.blk rfl)) ?_
  refine RG.pv rfl (PV.quo rfl rfl rfl (by omega) (by omega) (by omega)) ?_
  refine RG.pv rfl (PV.mvI (.inr rfl) rfl) ?_
  refine RG.nil ?_
  refine WP.cut2 [2, 3, 4] (fun (a b : Int) => a = (if 4 ≤ u.o then -(t.o % 4) else t.o % 4) ∧ b = (if 4 ≤ u.o then 1 - t.o / 4 else t.o / 4)) (fun (a b : Int) => [(5, vi a), (6, vi b)]) (fun (a b : Int) => blk b2 136 (transT.enc u) :: blk b3 136 (transT.enc t) :: blk b4 136 [vi 0, vi 0, vi 0] :: L) ?_ ?_
  refine WP.seq ?_
  refine WP.region ?_
  refine RG.pv rfl (PV.field rfl Fo136_0 rfl) ?_
  refine RG.pv rfl (PV.load1 rfl Sc2 rfl (Rd.blk rfl)) ?_
  refine RG.pv rfl (PV.geq rfl rfl rfl) ?_
  refine RG.nil ?_
  refine WP.cond rfl (fun h1 => ?_) (fun h1 => ?_)
  · have h1 := of_decide_eq_true h1
    refine WP.seq ?_
    refine WP.region ?_
    refine RG.pv rfl (PV.mvI (.inl rfl) rfl) ?_
    refine RG.pv rfl (PV.neg rfl rfl (by omega)) ?_
    refine RG.pv rfl (PV.mvI (.inr rfl) rfl) ?_
    refine RG.nil ?_
    refine WP.region ?_
    refine RG.pv rfl (PV.mvI (.inl rfl) rfl) ?_
    refine RG.pv rfl (PV.sub rfl rfl rfl (by omega)) ?_
    refine RG.pv rfl (PV.mvI (.inr rfl) rfl) ?_
    refine RG.nil ?_
    exact ⟨rfl, (-(t.o % 4)), (1 - t.o / 4), ⟨by rw [if_pos (by omega)], by rw [if_pos (by omega)]⟩, ⟨rfl, rfl, trivial⟩, ⟨rfl, rfl, rfl, trivial⟩, Cv.p⟩
  · have h1 := of_decide_eq_false h1
    refine WP.skip ?_
    exact ⟨rfl, (t.o % 4), (t.o / 4), ⟨by rw [if_neg (by omega)], by rw [if_neg (by omega)]⟩, ⟨rfl, rfl, trivial⟩, ⟨rfl, rfl, rfl, trivial⟩, Cv.p⟩
  rintro a b τ1 ⟨ha, hb⟩
  have hab : (-3 ≤ a ∧ a ≤ 3) ∧ 0 ≤ b ∧ b ≤ 1 := by rw [ha, hb]; split <;> omega
  have e : cmpo t.o u.o = (u.o % 4 + a + 4) % 4 + 4 * b := by rw [cmpo_r ho hu1, ← ha, ← hb]
  rw [cmpT, e] at k
  refine WP.seq ?_
  refine WP.region ?_
  refine RG.pv rfl (PV.loadW rfl Ag136 rfl rfl) ?_
  refine RG.pv rfl (PV.field rfl Fo136_1 rfl) ?_
  refine RG.pv rfl (PV.load1 rfl Sc2 rfl (Rd.blk rfl)) ?_
  refine RG.pv rfl (PV.field rfl Fo136_2 rfl) ?_
  refine RG.pv rfl (PV.load1 rfl Sc2 rfl (Rd.blk rfl)) ?_
  refine RG.pv rfl (PV.build (vs := [(0, [vi _]), (1, [vi _])]) (out := [_, _]) rfl Zr183 Pl183 ⟨rfl, (Cl.c rfl), ⟨rfl, (Cl.c rfl), trivial⟩⟩ rfl) ?_
  refine RG.callF (vs := [_, _]) rfl rfl En192 rfl (l10Point_r (p := ⟨_, _⟩) hu (pt_in ht) ?_)
  refine RG.ot rfl (OT.alloc rfl Zr183 fun b7 => ?_)
  refine RG.ot rfl (OT.storeW (vs := [vi _, vi _]) rfl Sz183 rfl rfl (Cl.c rfl) rfl rfl (OneC.c rfl) ?_)
  refine RG.nil ?_
  refine WP.seq ?_
  refine WP.region ?_
  refine RG.pv rfl (PV.field rfl Fo136_0 rfl) ?_
  refine RG.pv rfl (PV.load1 rfl Sc2 rfl (Rd.blk rfl)) ?_
  refine RG.pv rfl (PV.rem rfl rfl rfl (by omega) (by omega) (by omega)) ?_
  refine RG.pv rfl (PV.mvI (.inl rfl) rfl) ?_
  refine RG.pv rfl (PV.add rfl rfl rfl (by omega)) ?_
  refine RG.pv rfl (PV.add rfl rfl rfl (by omega)) ?_
  refine RG.pv rfl (PV.rem rfl rfl rfl (by omega) (by omega) (by omega)) ?_
  refine RG.pv rfl (PV.mvI (.inl rfl) rfl) ?_
  refine RG.pv rfl (PV.mul rfl rfl rfl (by omega)) ?_
  refine RG.pv rfl (PV.add rfl rfl rfl (by omega)) ?_
  refine RG.pv rfl (PV.field rfl Fo183_0 rfl) ?_
  refine RG.pv rfl (PV.load1 rfl Sc2 rfl (Rd.blk rfl)) ?_
  refine RG.pv rfl (PV.field rfl Fo183_1 rfl) ?_
  refine RG.pv rfl (PV.load1 rfl Sc2 rfl (Rd.blk rfl)) ?_
  refine RG.pv rfl (PV.build (vs := [(0, [vi _]), (1, [vi _]), (2, [vi _])]) (out := [_, _, _]) rfl Zr136 Pl136 ⟨rfl, (Cl.c rfl), ⟨rfl, (Cl.c rfl), ⟨rfl, (Cl.c rfl), trivial⟩⟩⟩ rfl) ?_
  refine RG.ot rfl (OT.storeW (vs := [vi _, vi _, vi _]) rfl Sz136 rfl rfl (Cl.c rfl) rfl rfl (OneC.c rfl) ?_)
  refine RG.nil ?_
  refine WP.ret ?_
  exact ⟨_, _, ResV.one rfl (RV1.cell rfl Ag136 rfl), Cv.p, k⟩
end Go.Proofs.YthhjapiggekjbaaGreat
namespace Go.Proofs.YthhjapiggekjbaaGreat
set_option linter.unusedVariables false
set_option linter.unusedSimpArgs false
open Go
set_option maxRecDepth 20000
set_option linter.unusedSimpArgs false
variable {G : Gh} {L : List Ch} {R : Value → Gh → List Ch → Prop}
def pths (xs : List Occ) : List (Sl Int) := xs.map Occ.path
theorem pths_gd {xs : List Occ} {i : Nat} (h : i < xs.length) : gd (pths xs) i = (gd xs i).path := gd_map _ h
theorem RsE.path {xs : List Occ} (h : RsE G L intT (pths xs)) {i : Nat} (hi : i < xs.length) : Rs G L intT (gd xs i).path.v (gd xs i).path.xs := by
  have := h i (by simpa [pths] using hi); rwa [pths_gd hi] at this
theorem clone_path {v : Value} {xs : List (Int)} (h1 : Rs G L intT v xs) (hb : xs.length ≤ 1048576) (k : ∀ v', R v' G (osl 2 intT v' xs :: L)) : CallT Tryz.prog 187 #[v] G L R := by
  refine CallT.st (fun w hs => isNilS_nil h1 hs) fun hn => ?_
  refine CallT.enter (args := _) Tryz.func187 rfl rfl (by kernel_rfl) rfl ?_
  refine WP.seq ?_
  refine WP.region ?_
  refine RG.pv rfl (PV.asg rfl rfl) ?_
  refine RG.nil ?_
  refine WP.seq ?_
  refine WP.seq ?_
  refine WP.region ?_
  refine RG.pv rfl (PV.move (v := v) rfl rfl) ?_
  refine RG.pv rfl (PV.eqlNil rfl Tryz.underlying26 rfl (SlF.r h1)) ?_
  refine RG.nil ?_
  refine WP.cond rfl (fun h2 => ?_) (fun h2 => ?_)
  · have e := hn h2
    rw [e] at k
    refine WP.seq ?_
    refine WP.region ?_
    refine RG.pv rfl (PV.asg rfl rfl) ?_
    refine RG.nil ?_
    refine WP.ret ?_
    exact ⟨_, _, ResV.one rfl rfl, Cv.nilS, k _⟩
  · refine WP.skip ?_
    refine WP.seq ?_
    refine WP.region ?_
    refine RG.ot rfl (OT.bslice (F := intT) (els := []) rfl El26 rfl (by decide) rfl (by decide) trivial fun v5 => ?_)
    refine RG.pv rfl (PV.move (v := v) rfl rfl) ?_
    refine RG.ot rfl (OT.append (v := v5) (u := v) (F := intT) rfl El26 rfl (by decide) rfl rfl (Rs.up h1) (OneL.c (fun _ => rfl)) rfl (by first | omega | (simp <;> omega)) fun v7 => ?_)
    refine RG.pv rfl (PV.asg (v := v7) rfl rfl) ?_
    refine RG.nil ?_
    refine WP.ret ?_
    exact ⟨_, _, ResV.one rfl rfl, (Cv.eqS (List.nil_append _)), k v7⟩
theorem oIn_big {f : Nat} {o : EOcc} (h : oIn f o) : TBig o.place := by
  obtain ⟨h1, h2, h3, h4⟩ := h
  exact ⟨h2, by omega, by omega, by omega, by omega⟩
/-- a path is written at the end of the list of occurrences -/
theorem Cv.addOcc {e : TypeId} {u : Value} {us : List Int} {zs zs' : List Occ} (h : pths zs' = pths zs ++ [⟨u, us⟩]) : Cv (osl e intT u us :: bagS e intT (pths zs) :: L) (bagS e intT (pths zs') :: L) := Cv.grow h
/-- the state of a list of occurrences: those before, then one and those below its first elements -/
structure OccBelow (cs : List ECell) (f : Nat) (o : Occ) (ys : List Occ) (m : Nat) (zs : List Occ) : Prop where
  len : zs.length = ys.length + (occTo cs f (erO o) m).length
  er : erOs zs = erOs ys ++ occTo cs f (erO o) m
  at_ : ys.length < zs.length ∧ gd zs ys.length = o
  pre : ∃ r, zs = ys ++ r
theorem OccBelow.init {cs : List ECell} {f : Nat} {o : Occ} {ys : List Occ} : OccBelow cs f o ys 0 (ys ++ [o]) :=
  ⟨by simp [occTo_zero], by simp [erOs, occTo_zero], ⟨by simp, gd_app_r⟩, ⟨[o], rfl⟩⟩
theorem OccBelow.next {cs : List ECell} {f : Nat} {o : Occ} {ys zs zs' : List Occ} {m : Nat} (h : OccBelow cs f o ys m zs) (hp : ∃ r, zs' = zs ++ r) (he : erOs zs' = erOs zs ++ occF cs f (kid (erO o) (gd (elems (gd cs o.cell.toNat).insts) m) m)) : OccBelow cs f o ys (m + 1) zs' := by
  obtain ⟨r, rfl⟩ := hp
  obtain ⟨r0, hr0⟩ := h.pre
  have e : erOs (zs ++ r) = erOs ys ++ occTo cs f (erO o) (m + 1) := by rw [he, h.er, occTo_succ, List.append_assoc]; rfl
  refine ⟨?_, e, ⟨by have := h.at_.1; simp only [List.length_append]; omega, by rw [gd_app_l h.at_.1]; exact h.at_.2⟩, ⟨r0 ++ r, by rw [hr0, List.append_assoc]⟩⟩
  have := congrArg List.length e
  rw [List.length_append, erOs_len, erOs_len] at this
  exact this
theorem OccBelow.rd {cs : List ECell} {f : Nat} {o : Occ} {ys zs : List Occ} {m : Nat} (h : OccBelow cs f o ys m zs) (hd : RsE G L intT (pths zs)) : Rs G L intT o.path.v o.path.xs := by
  have := hd.path h.at_.1; rwa [h.at_.2] at this
theorem below_i : ∀ (f : Nat) {G : Gh} {L : List Ch} {R : Value → Gh → List Ch → Prop} {l : Lib} {o : Occ} {v : Value} {ys : List Occ} (_ : RLib G L l.cells.v l.cells.xs) (_ : okLib (erCls l.cells.xs) = true) (_ : oIn f (erO o)) (_ : o.cell.toNat < l.cells.xs.length) (_ : o.path.xs.length + f ≤ 100) (_ : ys.length + (occF (erCls l.cells.xs) f (erO o)).length ≤ 1000)
    (_ : ∀ v' zs, (∃ r, zs = ys ++ r) → erOs zs = erOs ys ++ occF (erCls l.cells.xs) f (erO o) → R v' G (osl 138 occT v' zs :: bagS 2 intT (pths zs) :: L)), CallT Tryz.prog 133 #[vT libT l, v, vT occT o] G (osl 138 occT v ys :: bagS 2 intT (pths ys) :: osl 2 intT o.path.v o.path.xs :: L) R := by
  intro f
  induction f with
  | zero => intro G L R l o v ys _ _ hin; exact absurd hin.1 (by simp only [erO]; omega)
  | succ f ih =>
    intro G L R l o v ys hL hok hin hcl hpl htl k
    have hE := erCls_len l.cells.xs
    have hbig := oIn_big hin
    have hi1 := hin.1
    have hinc : (0 : Int) ≤ o.cell ∧ o.cell < (f : Int) + 1 := by have := hin.1; simp only [erO] at this; omega
    have hce : (gd (erCls l.cells.xs) o.cell.toNat).insts = (gd l.cells.xs o.cell.toNat).insts.xs := erCl_insts hcl
    have hns : okNs (gd l.cells.xs o.cell.toNat).insts.xs := by rw [← hce]; exact okLib_ns hok (by omega)
    have hEl : (elems (gd l.cells.xs o.cell.toNat).insts.xs).length ≤ 128 := by rw [← hce]; exact elems_len_bd hok (by omega)
    have hol : 1 ≤ (occF (erCls l.cells.xs) (f + 1) (erO o)).length := by rw [occF, List.length_cons]; omega
    refine CallT.enter (args := _) Tryz.func133 rfl rfl (by kernel_rfl) rfl ?_
    refine WP.seq ?_
    refine WP.region ?_
    refine RG.ot rfl (OT.box (cs := libT.enc l) rfl rfl rfl fun b3 => ?_)
    refine RG.ot rfl (OT.box (cs := occT.enc o) rfl rfl rfl fun b5 => ?_)
    refine RG.pv rfl (PV.asg rfl rfl) ?_
    refine RG.nil ?_
    refine WP.seq ?_
    refine WP.region ?_
    refine RG.pv rfl (PV.move (v := v) rfl rfl) ?_
    refine RG.pv rfl (PV.loadW rfl Ag138 rfl rfl) ?_
    refine RG.ot rfl (OT.bslice (F := occT) (els := [_]) rfl El94 rfl (by decide) rfl (by decide) ⟨rfl, (Cl.c rfl), trivial⟩ fun v12 => ?_)
    refine RG.ot rfl (OT.append (v := v) (u := v12) (F := occT) rfl El94 rfl (by decide) rfl rfl Rs.o (OneL.one (a := o) (OneC.val rfl (OneC.val rfl (OneC.val rfl (OneC.val rfl (OneC.sl SlF.o OneC.nil)))))) rfl (by first | omega | (simp <;> omega)) fun v13 => ?_)
    refine RG.pv rfl (PV.asg (v := v13) rfl rfl) ?_
    refine RG.nil ?_
    refine WP.seq ?_
    refine WP.seq ?_
    refine WP.region ?_
    refine RG.pv rfl (PV.field rfl Fo31_0 rfl) ?_
    refine RG.pv rfl (PV.load1 rfl Sc29 rfl (Rd.blk rfl)) ?_
    refine RG.pv rfl (PV.field rfl Fo138_0 rfl) ?_
    refine RG.pv rfl (PV.load1 rfl Sc2 rfl (Rd.blk rfl)) ?_
    refine RG.pv rfl (PV.idxS (j := o.cell.toNat) rfl Is29 rfl (SlF.r hL.c) rfl (by omega) (by omega)) ?_
    refine RG.pv rfl (PV.loadE rfl Ag116 rfl rfl (El.r hL.c (getG (by omega)))) ?_
    refine RG.callF (vs := [_]) rfl rfl En186 rfl (elems_i (hL.na (by omega)).up hns (fun v20 => ?_))
    refine RG.pv rfl (PV.len (v := v20) rfl Tryz.underlying257 rfl SlF.o) ?_
    refine RG.pv rfl (PV.mvI (.inl rfl) rfl) ?_
    refine RG.nil ?_
    refine WP.block ?_
    refine WP.cv ((Cv.p (C := osl 2 intT o.path.v o.path.xs :: bagS 2 intT (pths ys) :: osl 138 occT v13 (ys ++ [o]) :: osl 260 helemT v20 (elems (gd l.cells.xs o.cell.toNat).insts.xs) :: blk b3 31 (libT.enc l) :: blk b5 138 (occT.enc o) :: L)).trans (Cv.addOcc (zs' := ys ++ [o]) (by simp [pths]))) ?_
    refine WP.loop3 [3, 5, 20, 21] (fun (m : Nat) (vo : Value) (zs : List Occ) => m ≤ (elems (gd l.cells.xs o.cell.toNat).insts.xs).length ∧ OccBelow (erCls l.cells.xs) f o ys m zs) (fun (m : Nat) (vo : Value) (zs : List Occ) => [(22, vi m), (1, vo)]) (fun (m : Nat) (vo : Value) (zs : List Occ) => osl 138 occT vo zs :: bagS 2 intT (pths zs) :: osl 260 helemT v20 (elems (gd l.cells.xs o.cell.toNat).insts.xs) :: blk b3 31 (libT.enc l) :: blk b5 138 (occT.enc o) :: L) (fun (m : Nat) (vo : Value) (zs : List Occ) => (elems (gd l.cells.xs o.cell.toNat).insts.xs).length - m) 0 v13 (ys ++ [o]) ⟨by omega, OccBelow.init⟩ ⟨rfl, rfl, trivial⟩ Cv.p ?_
    rintro m vo zs τ ⟨hm, hB⟩
    refine WP.seq ?_
    refine WP.region ?_
    refine RG.pv rfl (PV.lss rfl rfl rfl) ?_
    refine RG.nil ?_
    refine WP.seq ?_
    refine WP.cond rfl (fun h1 => ?_) (fun h1 => ?_)
    · have h1 := of_decide_eq_true h1
      have h2 : m < (elems (gd l.cells.xs o.cell.toNat).insts.xs).length := by omega
      have h2' : m < (elems (gd (erCls l.cells.xs) o.cell.toNat).insts).length := by rw [hce]; exact h2
      have hb := elem_bd hok (k := o.cell.toNat) (by omega) h2'
      have hke := kid_in hok hin (by simp only [erO]; omega) h2'
      have hle := occTo_le (cs := erCls l.cells.xs) (f := f) (o := erO o) (i := m + 1) h2'
      rw [occTo_succ, List.length_append] at hle
      have hlen := hB.len
      simp only [erO] at hke hle hlen htl
      rw [hce] at hb hke hle
      have hb1 := hb.2.1
      have hb2 : (-1000 ≤ (gd (elems (gd l.cells.xs o.cell.toNat).insts.xs) m).place.x ∧ (gd (elems (gd l.cells.xs o.cell.toNat).insts.xs) m).place.x ≤ 1000) ∧ -1000 ≤ (gd (elems (gd l.cells.xs o.cell.toNat).insts.xs) m).place.y ∧ (gd (elems (gd l.cells.xs o.cell.toNat).insts.xs) m).place.y ≤ 1000 := by omega
      refine WP.skip ?_
      refine WP.seq ?_
      refine WP.block ?_
      refine WP.seq ?_
      refine WP.region ?_
      refine RG.pv rfl (PV.mvI (.inl rfl) rfl) ?_
      refine RG.pv rfl (PV.idxS (v := v20) rfl Is257 rfl SlF.o rfl rfl (by omega)) ?_
      refine RG.pv rfl (PV.loadE rfl Ag260 rfl rfl (El.o (getG (by omega)))) ?_
      refine RG.ot rfl (OT.alloc rfl Zr260 fun b8 => ?_)
      refine RG.pv rfl (PV.mvI (.inr rfl) rfl) ?_
      refine RG.ot rfl (OT.storeW (vs := [vi _, vi _, vi _, vi _]) rfl Sz260 rfl rfl (Cl.c rfl) rfl rfl (OneC.c rfl) ?_)
      refine RG.nil ?_
      refine WP.seq ?_
      refine WP.region ?_
      refine RG.pv rfl (PV.field rfl Fo138_2 rfl) ?_
      refine RG.pv rfl (PV.load1 rfl Sc26 rfl (Rd.blk rfl)) ?_
      refine RG.callF (vs := [_]) rfl rfl En187 rfl (clone_path (OccBelow.rd hB RsE.o) (by omega) (fun v29 => ?_))
      refine RG.pv rfl (PV.mvI (.inl rfl) rfl) ?_
      refine RG.ot rfl (OT.bslice (F := intT) (els := [_]) rfl El26 rfl (by decide) rfl (by decide) ⟨rfl, (Cl.c rfl), trivial⟩ fun v31 => ?_)
      refine RG.ot rfl (OT.append (v := v29) (u := v31) (F := intT) rfl El26 rfl (by decide) rfl rfl Rs.o (OneL.c (fun _ => rfl)) rfl (by first | omega | (simp <;> omega)) fun v32 => ?_)
      refine RG.pv rfl (PV.asg (v := v32) rfl rfl) ?_
      refine RG.nil ?_
      refine WP.regionH (blk b3 31 (libT.enc l) :: blk b5 138 (occT.enc o) :: blk b8 260 (helemT.enc (gd (elems (gd l.cells.xs o.cell.toNat).insts.xs) m)) :: L) (.q 0 (.q 1 (.q 2 (.q 3 (.q 4 (.q 5 (.q 6 (.q 7 (.q 9 (.l 8 (.l 10 (.l 11 (.q 12 Sch.nil))))))))))))) (by kernel_rfl) (by kernel_rfl) (by kernel_rfl) rfl ?_
      refine RH.pv rfl (fun _ _ _ _ h => h) (Gh.le_refl _) PickC.pick rfl (PV.loadW rfl Ag31 rfl rfl) ?_
      refine RH.pv rfl (fun _ _ _ _ h => h) (Gh.le_refl _) PickC.pick rfl (PV.move (v := vo) rfl rfl) ?_
      refine RH.pv rfl (fun _ _ _ _ h => h) (Gh.le_refl _) PickC.pick rfl (PV.field rfl Fo260_0 rfl) ?_
      refine RH.pv rfl (fun _ _ _ _ h => h) (Gh.le_refl _) PickC.pick rfl (PV.load1 rfl Sc2 rfl (Rd.blk rfl)) ?_
      refine RH.pv rfl (fun _ _ _ _ h => h) (Gh.le_refl _) PickC.pick rfl (PV.field rfl Fo260_1 rfl) ?_
      refine RH.pv rfl (fun _ _ _ _ h => h) (Gh.le_refl _) PickC.pick rfl (PV.loadB (vs := [_, _, _]) rfl Ag136 rfl rfl rfl) ?_
      refine RH.pv rfl (fun _ _ _ _ h => h) (Gh.le_refl _) PickC.pick rfl (PV.field rfl Fo138_1 rfl) ?_
      refine RH.pv rfl (fun _ _ _ _ h => h) (Gh.le_refl _) PickC.pick rfl (PV.loadB (vs := [_, _, _]) rfl Ag136 rfl rfl rfl) ?_
      refine RH.pv rfl (fun _ _ _ _ h => h) (Gh.le_refl _) PickC.pick rfl (PV.move (v := v32) rfl rfl) ?_
      refine RH.ot rfl rfl (OT.callF (vs := [_, _]) rfl En188 rfl (compose_i hb1 hb2 hbig ⟨Gh.le_refl _, PickC.pick, ?_⟩))
      refine RH.ot rfl rfl (OT.pv (PV.build (vs := [(0, [vi _]), (1, [vi _, vi _, vi _]), (2, [v32])]) (out := [_, _, _, _, _]) rfl Zr138 Pl138 ⟨rfl, (Cl.c rfl), ⟨rfl, (Cl.c rfl), ⟨rfl, (Cl.s (v := v32) SlF.o), trivial⟩⟩⟩ rfl) ⟨Gh.le_refl _, PickC.pick, ?_⟩)
      refine RH.ot rfl rfl (OT.callF (vs := [_, vo, _]) rfl En133 rfl (CallT.cv (Cv.p (C := osl 138 occT vo zs :: bagS 2 intT (pths zs) :: osl 2 intT v32 (o.path.xs ++ [(m : Int)]) :: osl 260 helemT v20 (elems (gd l.cells.xs o.cell.toNat).insts.xs) :: blk b3 31 (libT.enc l) :: blk b5 138 (occT.enc o) :: blk b8 260 (helemT.enc (gd (elems (gd l.cells.xs o.cell.toNat).insts.xs) m)) :: L)) (ih (l := l) (o := ⟨(gd (elems (gd l.cells.xs o.cell.toNat).insts.xs) m).cell, cmpT (gd (elems (gd l.cells.xs o.cell.toNat).insts.xs) m).place o.place, ⟨v32, o.path.xs ++ [(m : Int)]⟩⟩) (v := vo) (ys := zs) hL.up hok hke (by simp only; omega) (by simp only [List.length_append, List.length_cons, List.length_nil]; omega) (by simp only [erO, kid] at hle ⊢; omega) (fun vn zn hr he => ⟨Gh.le_refl _, PickC.pick, ?_⟩))))
      refine RH.pv rfl (fun _ _ _ _ h => h) (Gh.le_refl _) PickC.pick rfl (PV.asg rfl rfl) ?_
      refine RH.nil ?_
      refine WP.region ?_
      refine RG.pv rfl (PV.add rfl rfl rfl (by omega)) ?_
      refine RG.pv rfl (PV.mvI (.inl rfl) rfl) ?_
      refine RG.nil ?_
      exact ⟨rfl, m + 1, vn, zn, ⟨by omega, hB.next hr (by rw [hce]; exact he)⟩, ⟨rfl, rfl, trivial⟩, ⟨rfl, rfl, rfl, rfl, trivial⟩, Cv.p, by omega⟩
    · have h1 := of_decide_eq_false h1
      have e : erOs zs = erOs ys ++ occF (erCls l.cells.xs) (f + 1) (erO o) := by
        rw [hB.er, ← occTo_all]
        have : m = (elems (gd (erCls l.cells.xs) (erO o).cell.toNat).insts).length := by simp only [erO]; rw [hce]; omega
        rw [← this]
      refine WP.exit ?_
      refine WP.seq ?_
      refine WP.region ?_
      refine RG.pv rfl (PV.move (v := vo) rfl rfl) ?_
      refine RG.pv rfl (PV.asg (v := vo) rfl rfl) ?_
      refine RG.nil ?_
      refine WP.ret ?_
      exact ⟨_, _, ResV.one rfl rfl, Cv.p, k vo zs hB.pre e⟩
theorem below_r : ∀ (f : Nat) {G : Gh} {L : List Ch} {R : Value → Gh → List Ch → Prop} {l : Lib} {o : Occ} {v : Value} {ys : List Occ} (_ : RLib G L l.cells.v l.cells.xs) (_ : okLib (erCls l.cells.xs) = true) (_ : oIn f (erO o)) (_ : o.cell.toNat < l.cells.xs.length) (_ : o.path.xs.length + f ≤ 100) (_ : ys.length + (occF (erCls l.cells.xs) f (erO o)).length ≤ 1000)
    (_ : ∀ v' zs, (∃ r, zs = ys ++ r) → erOs zs = erOs ys ++ occF (erCls l.cells.xs) f (erO o) → R v' G (osl 138 occT v' zs :: bagS 2 intT (pths zs) :: L)), CallT Tryz.prog 102 #[vT libT l, v, vT occT o] G (osl 138 occT v ys :: bagS 2 intT (pths ys) :: osl 2 intT o.path.v o.path.xs :: L) R := by
  intro f
  induction f with
  | zero => intro G L R l o v ys _ _ hin; exact absurd hin.1 (by simp only [erO]; omega)
  | succ f ih =>
    intro G L R l o v ys hL hok hin hcl hpl htl k
    have hE := erCls_len l.cells.xs
    have hbig := oIn_big hin
    have hi1 := hin.1
    have hinc : (0 : Int) ≤ o.cell ∧ o.cell < (f : Int) + 1 := by have := hin.1; simp only [erO] at this; omega
    have hce : (gd (erCls l.cells.xs) o.cell.toNat).insts = (gd l.cells.xs o.cell.toNat).insts.xs := erCl_insts hcl
    have hns : okNs (gd l.cells.xs o.cell.toNat).insts.xs := by rw [← hce]; exact okLib_ns hok (by omega)
    obtain ⟨hn8, kk, hok2⟩ := id hns
    have hEl : (elems (gd l.cells.xs o.cell.toNat).insts.xs).length ≤ 128 := by rw [← hce]; exact elems_len_bd hok (by omega)
    have hol : 1 ≤ (occF (erCls l.cells.xs) (f + 1) (erO o)).length := by rw [occF, List.length_cons]; omega
    refine CallT.enter (args := _) Tryz.func102 rfl rfl (by kernel_rfl) rfl ?_
    refine WP.seq ?_
    refine WP.region ?_
    refine RG.ot rfl (OT.box (cs := libT.enc l) rfl rfl rfl fun b3 => ?_)
    refine RG.ot rfl (OT.box (cs := occT.enc o) rfl rfl rfl fun b5 => ?_)
    refine RG.pv rfl (PV.asg rfl rfl) ?_
    refine RG.nil ?_
    refine WP.seq ?_
    refine WP.region ?_
    refine RG.pv rfl (PV.move (v := v) rfl rfl) ?_
    refine RG.pv rfl (PV.loadW rfl Ag138 rfl rfl) ?_
    refine RG.ot rfl (OT.bslice (F := occT) (els := [_]) rfl El94 rfl (by decide) rfl (by decide) ⟨rfl, (Cl.c rfl), trivial⟩ fun v15 => ?_)
    refine RG.ot rfl (OT.append (v := v) (u := v15) (F := occT) rfl El94 rfl (by decide) rfl rfl Rs.o (OneL.one (a := o) (OneC.val rfl (OneC.val rfl (OneC.val rfl (OneC.val rfl (OneC.sl SlF.o OneC.nil)))))) rfl (by first | omega | (simp <;> omega)) fun v16 => ?_)
    refine RG.pv rfl (PV.asg (v := v16) rfl rfl) ?_
    refine RG.nil ?_
    refine WP.seq ?_
    refine WP.region ?_
    refine RG.pv rfl (PV.mvI (.inr rfl) rfl) ?_
    refine RG.nil ?_
    refine WP.seq ?_
    refine WP.region ?_
    refine RG.pv rfl (PV.field rfl Fo31_0 rfl) ?_
    refine RG.pv rfl (PV.load1 rfl Sc29 rfl (Rd.blk rfl)) ?_
    refine RG.pv rfl (PV.field rfl Fo138_0 rfl) ?_
    refine RG.pv rfl (PV.load1 rfl Sc2 rfl (Rd.blk rfl)) ?_
    refine RG.pv rfl (PV.idxS (j := o.cell.toNat) rfl Is29 rfl (SlF.r hL.c) rfl (by omega) (by omega)) ?_
    refine RG.pv rfl (PV.field rfl Fo116_3 rfl) ?_
    refine RG.pv rfl (PV.loadF rfl Sc114 rfl rfl (El.r hL.c (getG (by omega))) rfl) ?_
    refine RG.pv rfl (PV.asg rfl rfl) ?_
    refine RG.nil ?_
    refine WP.seq ?_
    refine WP.seq ?_
    refine WP.region ?_
    refine RG.pv rfl (PV.mvI (.inr rfl) rfl) ?_
    refine RG.nil ?_
    refine WP.block ?_
    refine WP.cv ((Cv.p (C := osl 2 intT o.path.v o.path.xs :: bagS 2 intT (pths ys) :: osl 138 occT v16 (ys ++ [o]) :: blk b3 31 (libT.enc l) :: blk b5 138 (occT.enc o) :: L)).trans (Cv.addOcc (zs' := ys ++ [o]) (by simp [pths]))) ?_
    refine WP.loop4 [3, 5, 8] (fun (i : Nat) (e : Int) (vo : Value) (zs : List Occ) => i ≤ (gd l.cells.xs o.cell.toNat).insts.xs.length ∧ e = ((elems ((gd l.cells.xs o.cell.toNat).insts.xs.take i)).length : Int) ∧ OccBelow (erCls l.cells.xs) f o ys (elems ((gd l.cells.xs o.cell.toNat).insts.xs.take i)).length zs) (fun (i : Nat) (e : Int) (vo : Value) (zs : List Occ) => [(9, vi i), (7, vi e), (1, vo)]) (fun (i : Nat) (e : Int) (vo : Value) (zs : List Occ) => osl 138 occT vo zs :: bagS 2 intT (pths zs) :: blk b3 31 (libT.enc l) :: blk b5 138 (occT.enc o) :: L) (fun (i : Nat) (e : Int) (vo : Value) (zs : List Occ) => (gd l.cells.xs o.cell.toNat).insts.xs.length - i) 0 0 v16 (ys ++ [o]) ⟨by omega, by simp [elems], OccBelow.init⟩ ⟨rfl, rfl, rfl, trivial⟩ Cv.p ?_
    rintro i e vo zs τ ⟨hi, he, hB⟩
    refine WP.seq ?_
    refine WP.seq ?_
    refine WP.region ?_
    refine RG.pv rfl (PV.mvI (.inl rfl) rfl) ?_
    refine RG.pv rfl (PV.move rfl rfl) ?_
    refine RG.pv rfl (PV.len rfl Tryz.underlying114 rfl (SlF.r (hL.na hcl))) ?_
    refine RG.pv rfl (PV.lss rfl rfl rfl) ?_
    refine RG.nil ?_
    refine WP.cond rfl (fun h1 => ?_) (fun h1 => ?_)
    · have h1 := of_decide_eq_true h1
      have h2 : i < (gd l.cells.xs o.cell.toNat).insts.xs.length := by omega
      obtain ⟨_, _, q3, q4, _, _⟩ := okIn_bd (hok2 i h2)
      refine WP.skip ?_
      refine WP.seq ?_
      refine WP.block ?_
      refine WP.seq ?_
      refine WP.region ?_
      refine RG.pv rfl (PV.mvI (.inr rfl) rfl) ?_
      refine RG.nil ?_
      refine WP.block ?_
      refine WP.loop4 [3, 5, 8, 9] (fun (r : Nat) (e : Int) (vo : Value) (zs : List Occ) => r ≤ (gd (gd l.cells.xs o.cell.toNat).insts.xs i).rows.toNat ∧ e = (((elems ((gd l.cells.xs o.cell.toNat).insts.xs.take i)).length + r * (gd (gd l.cells.xs o.cell.toNat).insts.xs i).cols.toNat : Nat) : Int) ∧ OccBelow (erCls l.cells.xs) f o ys ((elems ((gd l.cells.xs o.cell.toNat).insts.xs.take i)).length + r * (gd (gd l.cells.xs o.cell.toNat).insts.xs i).cols.toNat) zs) (fun (r : Nat) (e : Int) (vo : Value) (zs : List Occ) => [(10, vi r), (7, vi e), (1, vo)]) (fun (r : Nat) (e : Int) (vo : Value) (zs : List Occ) => osl 138 occT vo zs :: bagS 2 intT (pths zs) :: blk b3 31 (libT.enc l) :: blk b5 138 (occT.enc o) :: L) (fun (r : Nat) (e : Int) (vo : Value) (zs : List Occ) => (gd (gd l.cells.xs o.cell.toNat).insts.xs i).rows.toNat - r) 0 e vo zs ⟨by omega, by rw [Nat.zero_mul]; exact he, by rw [Nat.zero_mul]; exact hB⟩ ⟨rfl, rfl, rfl, trivial⟩ Cv.p ?_
      rintro r e vo zs τ ⟨hr, he, hB⟩
      refine WP.seq ?_
      refine WP.seq ?_
      refine WP.region ?_
      refine RG.pv rfl (PV.mvI (.inl rfl) rfl) ?_
      refine RG.pv rfl (PV.move rfl rfl) ?_
      refine RG.pv rfl (PV.mvI (.inl rfl) rfl) ?_
      refine RG.pv rfl (PV.idxS rfl Is114 rfl (SlF.r (hL.na hcl)) rfl rfl (by omega)) ?_
      refine RG.pv rfl (PV.field rfl Fo195_3 rfl) ?_
      refine RG.pv rfl (PV.loadF rfl Sc2 rfl rfl (El.r (hL.na hcl) (getG (by omega))) rfl) ?_
      refine RG.pv rfl (PV.lss rfl rfl rfl) ?_
      refine RG.nil ?_
      refine WP.cond rfl (fun h3 => ?_) (fun h3 => ?_)
      · have h3 := of_decide_eq_true h3
        refine WP.skip ?_
        refine WP.seq ?_
        refine WP.block ?_
        refine WP.seq ?_
        refine WP.region ?_
        refine RG.pv rfl (PV.mvI (.inr rfl) rfl) ?_
        refine RG.nil ?_
        refine WP.block ?_
        refine WP.loop4 [3, 5, 8, 9, 10] (fun (q : Nat) (e : Int) (vo : Value) (zs : List Occ) => q ≤ (gd (gd l.cells.xs o.cell.toNat).insts.xs i).cols.toNat ∧ e = (((elems ((gd l.cells.xs o.cell.toNat).insts.xs.take i)).length + (r * (gd (gd l.cells.xs o.cell.toNat).insts.xs i).cols.toNat + q) : Nat) : Int) ∧ OccBelow (erCls l.cells.xs) f o ys ((elems ((gd l.cells.xs o.cell.toNat).insts.xs.take i)).length + (r * (gd (gd l.cells.xs o.cell.toNat).insts.xs i).cols.toNat + q)) zs) (fun (q : Nat) (e : Int) (vo : Value) (zs : List Occ) => [(11, vi q), (7, vi e), (1, vo)]) (fun (q : Nat) (e : Int) (vo : Value) (zs : List Occ) => osl 138 occT vo zs :: bagS 2 intT (pths zs) :: blk b3 31 (libT.enc l) :: blk b5 138 (occT.enc o) :: L) (fun (q : Nat) (e : Int) (vo : Value) (zs : List Occ) => (gd (gd l.cells.xs o.cell.toNat).insts.xs i).cols.toNat - q) 0 e vo zs ⟨by omega, he, hB⟩ ⟨rfl, rfl, rfl, trivial⟩ Cv.p ?_
        rintro q e vo zs τ ⟨hq, he, hB⟩
        refine WP.seq ?_
        refine WP.seq ?_
        refine WP.region ?_
        refine RG.pv rfl (PV.mvI (.inl rfl) rfl) ?_
        refine RG.pv rfl (PV.move rfl rfl) ?_
        refine RG.pv rfl (PV.mvI (.inl rfl) rfl) ?_
        refine RG.pv rfl (PV.idxS rfl Is114 rfl (SlF.r (hL.na hcl)) rfl rfl (by omega)) ?_
        refine RG.pv rfl (PV.field rfl Fo195_2 rfl) ?_
        refine RG.pv rfl (PV.loadF rfl Sc2 rfl rfl (El.r (hL.na hcl) (getG (by omega))) rfl) ?_
        refine RG.pv rfl (PV.lss rfl rfl rfl) ?_
        refine RG.nil ?_
        subst he
        refine WP.cond rfl (fun h4 => ?_) (fun h4 => ?_)
        · have h4 := of_decide_eq_true h4
          obtain ⟨hat, hag⟩ := elems_at (ns := (gd l.cells.xs o.cell.toNat).insts.xs) (i := i) (c := q) (r := r) h2 (by omega) (by omega)
          have h2' : (elems ((gd l.cells.xs o.cell.toNat).insts.xs.take i)).length + (r * (gd (gd l.cells.xs o.cell.toNat).insts.xs i).cols.toNat + q) < (elems (gd (erCls l.cells.xs) o.cell.toNat).insts).length := by rw [hce]; exact hat
          have hb := elem_bd hok (k := o.cell.toNat) (by omega) h2'
          have hke := kid_in hok hin (by simp only [erO]; omega) h2'
          have hle := occTo_le (cs := erCls l.cells.xs) (f := f) (o := erO o) (i := (elems ((gd l.cells.xs o.cell.toNat).insts.xs.take i)).length + (r * (gd (gd l.cells.xs o.cell.toNat).insts.xs i).cols.toNat + q) + 1) h2'
          rw [occTo_succ, List.length_append] at hle
          have hlen := hB.len
          simp only [erO] at hke hle hlen htl
          rw [hce, hag] at hb hke hle
          have hb1 := hb.2.1
          have hb2 : (-1000 ≤ (elPlace (gd (gd l.cells.xs o.cell.toNat).insts.xs i) q r).x ∧ (elPlace (gd (gd l.cells.xs o.cell.toNat).insts.xs i) q r).x ≤ 1000) ∧ -1000 ≤ (elPlace (gd (gd l.cells.xs o.cell.toNat).insts.xs i) q r).y ∧ (elPlace (gd (gd l.cells.xs o.cell.toNat).insts.xs i) q r).y ≤ 1000 := by have := hb.2.2; simp only at this; omega
          have hb0 := hb.1
          simp only at hb0 hke hle
          have hrd : Rs G (bagS 2 intT (pths zs) :: []) intT o.path.v o.path.xs := OccBelow.rd hB RsE.o
          refine WP.skip ?_
          refine WP.seq ?_
          refine WP.block ?_
          refine WP.seq ?_
          refine WP.region ?_
          refine RG.ot rfl (OT.bslice (F := intT) (els := []) rfl El26 rfl (by decide) rfl (by decide) trivial fun v48 => ?_)
          refine RG.pv rfl (PV.field rfl Fo138_2 rfl) ?_
          refine RG.pv rfl (PV.load1 rfl Sc26 rfl (Rd.blk rfl)) ?_
          refine RG.ot rfl (OT.append (v := v48) (F := intT) rfl El26 rfl (by decide) rfl rfl (Rs.up hrd) (OneL.c (fun _ => rfl)) rfl (by first | omega | (simp <;> omega)) fun v51 => ?_)
          refine RG.pv rfl (PV.mvI (.inl rfl) rfl) ?_
          refine RG.ot rfl (OT.bslice (F := intT) (els := [_]) rfl El26 rfl (by decide) rfl (by decide) ⟨rfl, (Cl.c rfl), trivial⟩ fun v53 => ?_)
          refine RG.ot rfl (OT.append (v := v51) (u := v53) (F := intT) rfl El26 rfl (by decide) rfl rfl Rs.o (OneL.c (fun _ => rfl)) rfl (by first | omega | (simp <;> omega)) fun v54 => ?_)
          refine RG.pv rfl (PV.asg (v := v54) rfl rfl) ?_
          refine RG.nil ?_
          refine WP.seq ?_
          refine WP.regionH (blk b3 31 (libT.enc l) :: blk b5 138 (occT.enc o) :: L) (.q 0 (.q 1 (.q 2 (.q 3 (.q 4 (.q 5 (.q 6 (.q 7 (.q 8 (.q 9 (.q 10 (.q 11 (.q 12 (.q 13 (.q 14 (.q 17 (.l 15 (.l 16 (.l 18 (.l 19 (.q 20 Sch.nil))))))))))))))))))))) (by kernel_rfl) (by kernel_rfl) (by kernel_rfl) rfl ?_
          refine RH.pv rfl (fun _ _ _ _ h => h) (Gh.le_refl _) PickC.pick rfl (PV.loadW rfl Ag31 rfl rfl) ?_
          refine RH.pv rfl (fun _ _ _ _ h => h) (Gh.le_refl _) PickC.pick rfl (PV.move (v := vo) rfl rfl) ?_
          refine RH.pv rfl (fun _ _ _ _ h => h) (Gh.le_refl _) PickC.pick rfl (PV.move rfl rfl) ?_
          refine RH.pv rfl (fun _ _ _ _ h => h) (Gh.le_refl _) PickC.pick rfl (PV.mvI (.inl rfl) rfl) ?_
          refine RH.pv rfl (fun _ _ _ _ h => h) (Gh.le_refl _) PickC.pick rfl (PV.idxS rfl Is114 rfl (SlF.r (hL.na hcl)) rfl rfl (by omega)) ?_
          refine RH.pv rfl (fun _ _ _ _ h => h) (Gh.le_refl _) PickC.pick rfl (PV.field rfl Fo195_0 rfl) ?_
          refine RH.pv rfl (fun _ _ _ _ h => h) (Gh.le_refl _) PickC.pick rfl (PV.loadF rfl Sc2 rfl rfl (El.r (hL.na hcl) (getG (by omega))) rfl) ?_
          refine RH.pv rfl (fun _ _ _ _ h => h) (Gh.le_refl _) PickC.pick rfl (PV.field rfl Fo138_1 rfl) ?_
          refine RH.pv rfl (fun _ _ _ _ h => h) (Gh.le_refl _) PickC.pick rfl (PV.loadB (vs := [_, _, _]) rfl Ag136 rfl rfl rfl) ?_
          refine RH.pv rfl (fun _ _ _ _ h => h) (Gh.le_refl _) PickC.pick rfl (PV.move rfl rfl) ?_
          refine RH.pv rfl (fun _ _ _ _ h => h) (Gh.le_refl _) PickC.pick rfl (PV.mvI (.inl rfl) rfl) ?_
          refine RH.pv rfl (fun _ _ _ _ h => h) (Gh.le_refl _) PickC.pick rfl (PV.idxS rfl Is114 rfl (SlF.r (hL.na hcl)) rfl rfl (by omega)) ?_
          refine RH.pv rfl (fun _ _ _ _ h => h) (Gh.le_refl _) PickC.pick rfl (PV.loadE rfl Ag195 rfl rfl (El.r (hL.na hcl) (getG (by omega)))) ?_
          refine RH.pv rfl (fun _ _ _ _ h => h) (Gh.le_refl _) PickC.pick rfl (PV.mvI (.inl rfl) rfl) ?_
          refine RH.pv rfl (fun _ _ _ _ h => h) (Gh.le_refl _) PickC.pick rfl (PV.mvI (.inl rfl) rfl) ?_
          refine RH.pv rfl (fun _ _ _ _ h => h) (Gh.le_refl _) PickC.pick rfl (PV.move (v := v54) rfl rfl) ?_
          refine RH.ot rfl rfl (OT.callF (vs := [_, _, _]) rfl En153 rfl (elPlace_r (hok2 i (by omega)) (c := q) (r := r) (by omega) (by omega) ⟨Gh.le_refl _, PickC.pick, ?_⟩))
          refine RH.ot rfl rfl (OT.callF (vs := [_, _]) rfl En152 rfl (l10After_r hb1 hb2 hbig ⟨Gh.le_refl _, PickC.pick, ?_⟩))
          refine RH.ot rfl rfl (OT.pv (PV.build (vs := [(0, [vi _]), (1, [vi _, vi _, vi _]), (2, [v54])]) (out := [_, _, _, _, _]) rfl Zr138 Pl138 ⟨rfl, (Cl.c rfl), ⟨rfl, (Cl.c rfl), ⟨rfl, (Cl.s (v := v54) SlF.o), trivial⟩⟩⟩ rfl) ⟨Gh.le_refl _, PickC.pick, ?_⟩)
          refine RH.ot rfl rfl (OT.callF (vs := [_, vo, _]) rfl En102 rfl (CallT.cv (Cv.p (C := osl 138 occT vo zs :: bagS 2 intT (pths zs) :: osl 2 intT v54 (([] ++ o.path.xs) ++ [(((elems ((gd l.cells.xs o.cell.toNat).insts.xs.take i)).length + (r * (gd (gd l.cells.xs o.cell.toNat).insts.xs i).cols.toNat + q) : Nat) : Int)]) :: blk b3 31 (libT.enc l) :: blk b5 138 (occT.enc o) :: L)) (ih (l := l) (o := ⟨(gd (gd l.cells.xs o.cell.toNat).insts.xs i).cell, cmpT (elPlace (gd (gd l.cells.xs o.cell.toNat).insts.xs i) q r) o.place, ⟨v54, ([] ++ o.path.xs) ++ [(((elems ((gd l.cells.xs o.cell.toNat).insts.xs.take i)).length + (r * (gd (gd l.cells.xs o.cell.toNat).insts.xs i).cols.toNat + q) : Nat) : Int)]⟩⟩) (v := vo) (ys := zs) hL.up hok hke (by simp only; omega) (by simp only [List.nil_append, List.length_append, List.length_cons, List.length_nil]; omega) (by simp only [erO, kid, List.nil_append] at hle ⊢; omega) (fun vn zn hr he => ⟨Gh.le_refl _, PickC.pick, ?_⟩))))
          refine RH.pv rfl (fun _ _ _ _ h => h) (Gh.le_refl _) PickC.pick rfl (PV.asg rfl rfl) ?_
          refine RH.nil ?_
          refine WP.region ?_
          refine RG.pv rfl (PV.mvI (.inl rfl) rfl) ?_
          refine RG.pv rfl (PV.add rfl rfl rfl (by omega)) ?_
          refine RG.pv rfl (PV.mvI (.inr rfl) rfl) ?_
          refine RG.nil ?_
          refine WP.region ?_
          refine RG.pv rfl (PV.mvI (.inl rfl) rfl) ?_
          refine RG.pv rfl (PV.add rfl rfl rfl (by omega)) ?_
          refine RG.pv rfl (PV.mvI (.inr rfl) rfl) ?_
          refine RG.nil ?_
          exact ⟨rfl, q + 1, _, vn, zn, ⟨by omega, rfl, hB.next hr (by rw [hce, hag]; exact he)⟩, ⟨rfl, rfl, rfl, trivial⟩, ⟨rfl, rfl, rfl, rfl, rfl, trivial⟩, Cv.p, by omega⟩
        · have h4 := of_decide_eq_false h4
          have e1 : (elems ((gd l.cells.xs o.cell.toNat).insts.xs.take i)).length + (r * (gd (gd l.cells.xs o.cell.toNat).insts.xs i).cols.toNat + q) = (elems ((gd l.cells.xs o.cell.toNat).insts.xs.take i)).length + (r + 1) * (gd (gd l.cells.xs o.cell.toNat).insts.xs i).cols.toNat := by rw [Nat.add_mul]; omega
          refine WP.exit ?_
          refine WP.region ?_
          refine RG.pv rfl (PV.mvI (.inl rfl) rfl) ?_
          refine RG.pv rfl (PV.add rfl rfl rfl (by omega)) ?_
          refine RG.pv rfl (PV.mvI (.inr rfl) rfl) ?_
          refine RG.nil ?_
          exact ⟨rfl, r + 1, _, vo, zs, ⟨by omega, by rw [e1], by rw [← e1]; exact hB⟩, ⟨rfl, rfl, rfl, trivial⟩, ⟨rfl, rfl, rfl, rfl, trivial⟩, Cv.p, by omega⟩
      · have h3 := of_decide_eq_false h3
        have e1 : (elems ((gd l.cells.xs o.cell.toNat).insts.xs.take i)).length + r * (gd (gd l.cells.xs o.cell.toNat).insts.xs i).cols.toNat = (elems ((gd l.cells.xs o.cell.toNat).insts.xs.take (i + 1))).length := by rw [elems_take h2, List.length_append, elsOf_len, show r = (gd (gd l.cells.xs o.cell.toNat).insts.xs i).rows.toNat by omega]
        refine WP.exit ?_
        refine WP.region ?_
        refine RG.pv rfl (PV.mvI (.inl rfl) rfl) ?_
        refine RG.pv rfl (PV.add rfl rfl rfl (by omega)) ?_
        refine RG.pv rfl (PV.mvI (.inr rfl) rfl) ?_
        refine RG.nil ?_
        exact ⟨rfl, i + 1, _, vo, zs, ⟨by omega, by rw [he, e1], by rw [← e1]; exact hB⟩, ⟨rfl, rfl, rfl, trivial⟩, ⟨rfl, rfl, rfl, trivial⟩, Cv.p, by omega⟩
    · have h1 := of_decide_eq_false h1
      have e1 : (gd l.cells.xs o.cell.toNat).insts.xs.take i = (gd l.cells.xs o.cell.toNat).insts.xs := List.take_of_length_le (by omega)
      have e2 : erOs zs = erOs ys ++ occF (erCls l.cells.xs) (f + 1) (erO o) := by
        rw [hB.er, ← occTo_all, e1]
        have : (elems (gd l.cells.xs o.cell.toNat).insts.xs).length = (elems (gd (erCls l.cells.xs) (erO o).cell.toNat).insts).length := by simp only [erO]; rw [hce]
        rw [← this]
      refine WP.exit ?_
      refine WP.seq ?_
      refine WP.region ?_
      refine RG.pv rfl (PV.move (v := vo) rfl rfl) ?_
      refine RG.pv rfl (PV.asg (v := vo) rfl rfl) ?_
      refine RG.nil ?_
      refine WP.ret ?_
      exact ⟨_, _, ResV.one rfl rfl, Cv.p, k vo zs hB.pre e2⟩
theorem occE_cases {cs : List ECell} {cell : Int} (h : celE cs cell = 0) : okLib cs = true ∧ 0 ≤ cell ∧ cell < cs.length := by
  unfold celE at h
  cases h1 : okLib cs with
  | false => rw [h1] at h; cases h
  | true =>
    cases h2 : within cell 0 ((cs.length : Int) - 1) with
    | false => rw [h1, h2] at h; cases h
    | true => simp only [within, Bool.and_eq_true, decide_eq_true_eq] at h2; exact ⟨rfl, by omega⟩
theorem occE_code {cs : List ECell} {cell : Int} (h : celE cs cell ≠ 0) : occE cs cell = celE cs cell := by
  unfold celE at h ⊢
  unfold occE
  cases h1 : okLib cs with
  | false => rfl
  | true =>
    cases h2 : within cell 0 ((cs.length : Int) - 1) with
    | false => rfl
    | true => rw [h1, h2] at h; exact absurd rfl h
theorem occE_in {cs : List ECell} {cell : Int} (h : okLib cs = true) (hc : 0 ≤ cell ∧ cell < cs.length) : occE cs cell = bif decide (200 < cntOf cs cell.toNat) then 3 else bif (occAll cs cell).any fun o => !validT o.place then 2 else 0 := by
  have : within cell 0 ((cs.length : Int) - 1) = true := by simp [within]; omega
  rw [occE, h, this]; rfl
theorem top_in {cell : Int} {n : Nat} (hc : 0 ≤ cell ∧ cell < n) (h8 : n ≤ 8) : oIn (cell.toNat + 1) (top cell) := by
  refine ⟨by simp only [top]; omega, by simp [top], ?_, ?_⟩ <;> simp only [top] <;> omega
theorem occAny_true {cs : List ECell} {cell : Int} {zs : List Occ} (he : erOs zs = occAll cs cell) {i : Nat} (hi : i < zs.length) (h : validT (gd zs i).place = false) : ((occAll cs cell).any fun o => !validT o.place) = true := by
  rw [← he]
  exact List.any_eq_true.2 ⟨gd (erOs zs) i, gd_mem (by rw [erOs_len]; exact hi), by rw [erOs_gd hi]; simp [erO, h]⟩
theorem occAny_false {cs : List ECell} {cell : Int} {zs : List Occ} (he : erOs zs = occAll cs cell) (h : ∀ i, i < zs.length → validT (gd zs i).place = true) : ((occAll cs cell).any fun o => !validT o.place) = false := by
  rw [← he, List.any_eq_false]
  intro o ho
  obtain ⟨i, hi, rfl⟩ := List.getElem_of_mem ho
  rw [erOs_len] at hi
  rw [← gd_eq (by rw [erOs_len]; exact hi), erOs_gd hi]
  simp [erO, h i hi]
theorem Cv.nilOcc {M : List Ch} {e e' : TypeId} [p : PickC L M] : Cv M (osl e occT (.slice none 0 0) [] :: bagS e' intT (pths []) :: L) := (Cv.pick p.pick).trans ((Cv.bag0 (xs := pths []) rfl).trans Cv.nilS)
theorem occ_i {l : Lib} {cell : Int} (hL : RLib G L l.cells.v l.cells.xs) (hlen : lenC (erCls l.cells.xs)) (k : ∀ v' zs, erOs zs = occR (erCls l.cells.xs) cell → R (.tuple #[v', vi (occE (erCls l.cells.xs) cell)]) G (osl 138 occT v' zs :: bagS 2 intT (pths zs) :: L)) : CallT Tryz.prog 81 #[vT libT l, vi cell] G L R := by
  have hE := erCls_len l.cells.xs
  refine CallT.enter (args := _) Tryz.func81 rfl rfl (by kernel_rfl) rfl ?_
  refine WP.seq ?_
  refine WP.region ?_
  refine RG.ot rfl (OT.box (cs := libT.enc l) rfl rfl rfl fun b2 => ?_)
  refine RG.pv rfl (PV.asg rfl rfl) ?_
  refine RG.pv rfl (PV.mvI (.inr rfl) rfl) ?_
  refine RG.nil ?_
  refine WP.seq ?_
  refine WP.seq ?_
  refine WP.region ?_
  refine RG.pv rfl (PV.loadW rfl Ag31 rfl rfl) ?_
  refine RG.pv rfl (PV.mvI (.inl rfl) rfl) ?_
  refine RG.callF (vs := [_, _]) rfl rfl En131 rfl (celE_i hL.up hlen ?_)
  refine RG.pv rfl (PV.mvI (.inr rfl) rfl) ?_
  refine RG.nil ?_
  refine WP.seq ?_
  refine WP.region ?_
  refine RG.pv rfl (PV.mvI (.inl rfl) rfl) ?_
  refine RG.pv rfl (PV.neq rfl rfl rfl) ?_
  refine RG.nil ?_
  refine WP.cond rfl (fun h1 => ?_) (fun h1 => ?_)
  · have h1 : celE (erCls l.cells.xs) cell ≠ 0 := by simpa using h1
    have e := occE_code h1
    have k := k (.slice none 0 0) [] (by rw [occR_no (by rw [e]; exact h1)]; rfl)
    rw [e] at k
    refine WP.seq ?_
    refine WP.region ?_
    refine RG.pv rfl (PV.mvI (.inl rfl) rfl) ?_
    refine RG.pv rfl (PV.asg rfl rfl) ?_
    refine RG.pv rfl (PV.mvI (.inr rfl) rfl) ?_
    refine RG.nil ?_
    refine WP.ret ?_
    exact ⟨_, _, ResV.two rfl rfl rfl, Cv.nilOcc, k⟩
  · have h1 : celE (erCls l.cells.xs) cell = 0 := by simpa using h1
    obtain ⟨hok, hc⟩ := occE_cases h1
    have h8 := okLib_len hok
    have hin := occE_in hok hc
    have hal := occAll_len hok hc
    refine WP.skip ?_
    refine WP.seq ?_
    refine WP.seq ?_
    refine WP.region ?_
    refine RG.pv rfl (PV.loadW rfl Ag31 rfl rfl) ?_
    refine RG.pv rfl (PV.mvI (.inl rfl) rfl) ?_
    refine RG.callF (vs := [_, _]) rfl rfl En132 rfl (elCnt_i hL.up hok hc ?_)
    refine RG.pv rfl (PV.gtr rfl rfl rfl) ?_
    refine RG.nil ?_
    refine WP.cond rfl (fun h2 => ?_) (fun h2 => ?_)
    · have e : occE (erCls l.cells.xs) cell = 3 := by rw [hin, h2]; rfl
      have k := k (.slice none 0 0) [] (by rw [occR_no (by rw [e]; decide)]; rfl)
      rw [e] at k
      refine WP.seq ?_
      refine WP.region ?_
      refine RG.pv rfl (PV.asg rfl rfl) ?_
      refine RG.pv rfl (PV.mvI (.inr rfl) rfl) ?_
      refine RG.nil ?_
      refine WP.ret ?_
      exact ⟨_, _, ResV.two rfl rfl rfl, Cv.nilOcc, k⟩
    · rw [h2, cond_false] at hin
      have h2 := of_decide_eq_false h2
      have hol : 0 + (occF (erCls l.cells.xs) (cell.toNat + 1) (top cell)).length ≤ 1000 := by rw [occAll] at hal; omega
      refine WP.skip ?_
      refine WP.seq ?_
      refine WP.region ?_
      refine RG.pv rfl (PV.loadW rfl Ag31 rfl rfl) ?_
      refine RG.pv rfl (PV.mvI (.inl rfl) rfl) ?_
      refine RG.pv rfl (PV.build (vs := [(0, [vi _])]) (out := [_, _, _, _, _]) rfl Zr138 Pl138 ⟨rfl, (Cl.c rfl), trivial⟩ rfl) ?_
      refine RG.callF (vs := [_, _, _]) rfl rfl En133 rfl (CallT.cv ((Cv.nilS (e := 2) (F := intT)).trans ((Cv.bag0 (e := 2) (F := intT) (xs := pths []) rfl).trans (Cv.nilS (e := 138) (F := occT)))) (below_i (cell.toNat + 1) (l := l) (o := ⟨cell, ⟨0, 0, 0⟩, ⟨.slice none 0 0, []⟩⟩) (ys := []) hL.up hok (top_in hc (by omega)) (by simp only; omega) (by simp only [List.length_nil]; omega) (by simp only [List.length_nil]; exact hol) (fun vn zn hr he => ?_)))
      refine RG.pv rfl (PV.asg (v := vn) rfl rfl) ?_
      refine RG.nil ?_
      refine WP.seq ?_
      refine WP.seq ?_
      refine WP.region ?_
      refine RG.pv rfl (PV.move (v := vn) rfl rfl) ?_
      refine RG.pv rfl (PV.len (v := vn) rfl Tryz.underlying94 rfl SlF.o) ?_
      refine RG.pv rfl (PV.mvI (.inl rfl) rfl) ?_
      refine RG.nil ?_
      refine WP.block ?_
      have he : erOs zn = occAll (erCls l.cells.xs) cell := he
      have hzl : zn.length ≤ 200 := by
        have := congrArg List.length he
        rw [erOs_len] at this; omega
      refine WP.loop1 [7, 24, 25] (fun i => i ≤ zn.length ∧ ∀ j, j < i → validT (gd zn j).place = true) (fun i => [(26, vi i)]) (fun i => osl 138 occT vn zn :: bagS 2 intT (pths zn) :: L) (fun i => zn.length - i) 0 ⟨by omega, fun j h => by omega⟩ ⟨rfl, trivial⟩ Cv.p ?_
      rintro i τ ⟨hi, hj⟩
      refine WP.seq ?_
      refine WP.region ?_
      refine RG.pv rfl (PV.lss rfl rfl rfl) ?_
      refine RG.nil ?_
      refine WP.seq ?_
      refine WP.cond rfl (fun h3 => ?_) (fun h3 => ?_)
      · have h3 := of_decide_eq_true h3
        have h4 : i < zn.length := by omega
        have hrd : Rs G (bagS 2 intT (pths zn) :: []) intT (gd zn i).path.v (gd zn i).path.xs := RsE.path RsE.o h4
        refine WP.skip ?_
        refine WP.seq ?_
        refine WP.block ?_
        refine WP.seq ?_
        refine WP.region ?_
        refine RG.pv rfl (PV.idxS (v := vn) rfl Is94 rfl SlF.o rfl rfl (by omega)) ?_
        refine RG.pv rfl (PV.loadE rfl Ag138 rfl rfl (El.o (getG (by omega)))) ?_
        refine RG.ot rfl (OT.alloc rfl Zr138 fun b9 => ?_)
        refine RG.ot rfl (OT.storeW (vs := [vi _, vi _, vi _, vi _, _]) rfl Sz138 rfl rfl (Cl.c rfl) rfl rfl (OneC.val rfl (OneC.val rfl (OneC.val rfl (OneC.val rfl (OneC.sl (SlF.r hrd) OneC.nil))))) ?_)
        refine RG.nil ?_
        refine WP.seq ?_
        refine WP.region ?_
        refine RG.pv rfl (PV.field rfl Fo138_1 rfl) ?_
        refine RG.pv rfl (PV.loadB (vs := [_, _, _]) rfl Ag136 rfl rfl rfl) ?_
        refine RG.callF (vs := [_]) rfl rfl En134 rfl (validT_i ?_)
        refine RG.pv rfl (PV.not rfl rfl) ?_
        refine RG.nil ?_
        refine WP.cond rfl (fun h5 => ?_) (fun h5 => ?_)
        · have e : occE (erCls l.cells.xs) cell = 2 := by rw [hin, occAny_true he h4 (by simpa using h5)]; rfl
          have k := k (.slice none 0 0) [] (by rw [occR_no (by rw [e]; decide)]; rfl)
          rw [e] at k
          refine WP.seq ?_
          refine WP.region ?_
          refine RG.pv rfl (PV.asg rfl rfl) ?_
          refine RG.pv rfl (PV.mvI (.inr rfl) rfl) ?_
          refine RG.nil ?_
          refine WP.ret ?_
          exact ⟨_, _, ResV.two rfl rfl rfl, Cv.nilOcc, k⟩
        · have hj' : ∀ j, j < i + 1 → validT (gd zn j).place = true := fun j h => by
            by_cases c : j = i
            · rw [c]; simpa using h5
            · exact hj j (by omega)
          refine WP.skip ?_
          refine WP.region ?_
          refine RG.pv rfl (PV.add rfl rfl rfl (by omega)) ?_
          refine RG.pv rfl (PV.mvI (.inl rfl) rfl) ?_
          refine RG.nil ?_
          exact ⟨rfl, i + 1, ⟨by omega, hj'⟩, ⟨rfl, trivial⟩, ⟨rfl, rfl, rfl, trivial⟩, Cv.p, by omega⟩
      · have h3 := of_decide_eq_false h3
        have e : occE (erCls l.cells.xs) cell = 0 := by rw [hin, occAny_false he (fun j h => hj j (by omega))]; rfl
        have k := k vn zn (by rw [occR_ok e, he])
        rw [e] at k
        refine WP.exit ?_
        refine WP.seq ?_
        refine WP.region ?_
        refine RG.pv rfl (PV.move (v := vn) rfl rfl) ?_
        refine RG.pv rfl (PV.asg (v := vn) rfl rfl) ?_
        refine RG.pv rfl (PV.mvI (.inr rfl) rfl) ?_
        refine RG.nil ?_
        refine WP.ret ?_
        exact ⟨_, _, ResV.two rfl rfl rfl, Cv.p, k⟩
theorem occ_r {l : Lib} {cell : Int} (hL : RLib G L l.cells.v l.cells.xs) (hlen : lenC (erCls l.cells.xs)) (k : ∀ v' zs, erOs zs = occR (erCls l.cells.xs) cell → R (.tuple #[v', vi (occE (erCls l.cells.xs) cell)]) G (osl 138 occT v' zs :: bagS 2 intT (pths zs) :: L)) : CallT Tryz.prog 55 #[vT libT l, vi cell] G L R := by
  have hE := erCls_len l.cells.xs
  refine CallT.enter (args := _) Tryz.func55 rfl rfl (by kernel_rfl) rfl ?_
  refine WP.seq ?_
  refine WP.region ?_
  refine RG.ot rfl (OT.box (cs := libT.enc l) rfl rfl rfl fun b2 => ?_)
  refine RG.pv rfl (PV.asg rfl rfl) ?_
  refine RG.pv rfl (PV.mvI (.inr rfl) rfl) ?_
  refine RG.nil ?_
  refine WP.seq ?_
  refine WP.block ?_
  refine WP.seq ?_
  refine WP.region ?_
  refine RG.pv rfl (PV.loadW rfl Ag31 rfl rfl) ?_
  refine RG.callF (vs := [_]) rfl rfl En99 rfl (okLib_r hL.up hlen ?_)
  refine RG.pv rfl (PV.not rfl rfl) ?_
  refine RG.pv rfl (PV.mvB (.inr rfl) rfl) ?_
  refine RG.nil ?_
  refine WP.cond rfl (fun h0 => ?_) (fun h0 => ?_)
  · have e : occE (erCls l.cells.xs) cell = 1 := by rw [occE, h0]; rfl
    have k := k (.slice none 0 0) [] (by rw [occR_no (by rw [e]; decide)]; rfl)
    rw [e] at k
    refine WP.seq ?_
    refine WP.region ?_
    refine RG.pv rfl (PV.asg rfl rfl) ?_
    refine RG.pv rfl (PV.mvI (.inr rfl) rfl) ?_
    refine RG.nil ?_
    refine WP.ret ?_
    exact ⟨_, _, ResV.two rfl rfl rfl, Cv.nilOcc, k⟩
  · have hok : okLib (erCls l.cells.xs) = true := by simpa using h0
    refine WP.seq ?_
    refine WP.region ?_
    refine RG.pv rfl (PV.loadW rfl Ag31 rfl rfl) ?_
    refine RG.pv rfl (PV.mvI (.inl rfl) rfl) ?_
    refine RG.callF (vs := [_, _]) rfl rfl En100 rfl (hasCl_r hL.up hlen ?_)
    refine RG.pv rfl (PV.not rfl rfl) ?_
    refine RG.pv rfl (PV.mvB (.inr rfl) rfl) ?_
    refine RG.nil ?_
    refine WP.cond rfl (fun h1 => ?_) (fun h1 => ?_)
    · have hw : within cell 0 (((erCls l.cells.xs).length : Int) - 1) = false := by simpa [hasCl, hok] using h1
      have e : occE (erCls l.cells.xs) cell = 5 := by rw [occE, hok, hw]; rfl
      have k := k (.slice none 0 0) [] (by rw [occR_no (by rw [e]; decide)]; rfl)
      rw [e] at k
      refine WP.seq ?_
      refine WP.region ?_
      refine RG.pv rfl (PV.asg rfl rfl) ?_
      refine RG.pv rfl (PV.mvI (.inr rfl) rfl) ?_
      refine RG.nil ?_
      refine WP.ret ?_
      exact ⟨_, _, ResV.two rfl rfl rfl, Cv.nilOcc, k⟩
    · have hw : within cell 0 (((erCls l.cells.xs).length : Int) - 1) = true := by simpa [hasCl, hok] using h1
      have hc : 0 ≤ cell ∧ cell < (erCls l.cells.xs).length := by simp only [within, Bool.and_eq_true, decide_eq_true_eq] at hw; omega
      have h8 := okLib_len hok
      have hin := occE_in hok hc
      have hal := occAll_len hok hc
      refine WP.seq ?_
      refine WP.region ?_
      refine RG.pv rfl (PV.loadW rfl Ag31 rfl rfl) ?_
      refine RG.pv rfl (PV.mvI (.inl rfl) rfl) ?_
      refine RG.callF (vs := [_, _]) rfl rfl En101 rfl (elCnt_r hL.up hlen hok hc ?_)
      refine RG.pv rfl (PV.gtr rfl rfl rfl) ?_
      refine RG.pv rfl (PV.mvB (.inr rfl) rfl) ?_
      refine RG.nil ?_
      refine WP.cond rfl (fun h2 => ?_) (fun h2 => ?_)
      · have e : occE (erCls l.cells.xs) cell = 3 := by rw [hin, h2]; rfl
        have k := k (.slice none 0 0) [] (by rw [occR_no (by rw [e]; decide)]; rfl)
        rw [e] at k
        refine WP.seq ?_
        refine WP.region ?_
        refine RG.pv rfl (PV.asg rfl rfl) ?_
        refine RG.pv rfl (PV.mvI (.inr rfl) rfl) ?_
        refine RG.nil ?_
        refine WP.ret ?_
        exact ⟨_, _, ResV.two rfl rfl rfl, Cv.nilOcc, k⟩
      · rw [h2, cond_false] at hin
        have h2 := of_decide_eq_false h2
        have hol : 0 + (occF (erCls l.cells.xs) (cell.toNat + 1) (top cell)).length ≤ 1000 := by rw [occAll] at hal; omega
        refine WP.skip ?_
        refine WP.seq ?_
        refine WP.region ?_
        refine RG.pv rfl (PV.loadW rfl Ag31 rfl rfl) ?_
        refine RG.ot rfl (OT.bslice (F := occT) (els := []) rfl El94 rfl (by decide) rfl (by decide) trivial fun v23 => ?_)
        refine RG.pv rfl (PV.mvI (.inl rfl) rfl) ?_
        refine RG.pv rfl (PV.build (vs := [(0, [vi _])]) (out := [_, _, _, _, _]) rfl Zr138 Pl138 ⟨rfl, (Cl.c rfl), trivial⟩ rfl) ?_
        refine RG.callF (vs := [_, v23, _]) rfl rfl En102 rfl (CallT.cv ((Cv.nilS (e := 2) (F := intT)).trans ((Cv.bag0 (e := 2) (F := intT) (xs := pths []) rfl).trans (Cv.p (C := osl 138 occT v23 [] :: bagS 2 intT (pths []) :: osl 2 intT (.slice none 0 0) [] :: L)))) (below_r (cell.toNat + 1) (l := l) (o := ⟨cell, ⟨0, 0, 0⟩, ⟨.slice none 0 0, []⟩⟩) (ys := []) hL hok (top_in hc (by omega)) (by simp only; omega) (by simp only [List.length_nil]; omega) (by simp only [List.length_nil]; exact hol) (fun vn zn hr he => ?_)))
        refine RG.pv rfl (PV.asg (v := vn) rfl rfl) ?_
        refine RG.nil ?_
        refine WP.seq ?_
        refine WP.seq ?_
        refine WP.region ?_
        refine RG.pv rfl (PV.mvI (.inr rfl) rfl) ?_
        refine RG.nil ?_
        refine WP.block ?_
        have he : erOs zn = occAll (erCls l.cells.xs) cell := he
        have hzl : zn.length ≤ 200 := by
          have := congrArg List.length he
          rw [erOs_len] at this; omega
        refine WP.loop1 [6] (fun i => i ≤ zn.length ∧ ∀ j, j < i → validT (gd zn j).place = true) (fun i => [(7, vi i)]) (fun i => osl 138 occT vn zn :: bagS 2 intT (pths zn) :: L) (fun i => zn.length - i) 0 ⟨by omega, fun j h => by omega⟩ ⟨rfl, trivial⟩ Cv.p ?_
        rintro i τ ⟨hi, hj⟩
        refine WP.seq ?_
        refine WP.seq ?_
        refine WP.region ?_
        refine RG.pv rfl (PV.mvI (.inl rfl) rfl) ?_
        refine RG.pv rfl (PV.move (v := vn) rfl rfl) ?_
        refine RG.pv rfl (PV.len (v := vn) rfl Tryz.underlying94 rfl SlF.o) ?_
        refine RG.pv rfl (PV.lss rfl rfl rfl) ?_
        refine RG.nil ?_
        refine WP.cond rfl (fun h3 => ?_) (fun h3 => ?_)
        · have h3 := of_decide_eq_true h3
          have h4 : i < zn.length := by omega
          refine WP.skip ?_
          refine WP.seq ?_
          refine WP.block ?_
          refine WP.seq ?_
          refine WP.region ?_
          refine RG.pv rfl (PV.move (v := vn) rfl rfl) ?_
          refine RG.pv rfl (PV.mvI (.inl rfl) rfl) ?_
          refine RG.pv rfl (PV.idxS (v := vn) rfl Is94 rfl SlF.o rfl rfl (by omega)) ?_
          refine RG.pv rfl (PV.field rfl Fo138_1 rfl) ?_
          refine RG.pv rfl (PV.loadEP rfl Ag136 rfl rfl (El.o (getG (by omega))) rfl) ?_
          refine RG.callF (vs := [_]) rfl rfl En103 rfl (l09Trans_r ?_)
          refine RG.pv rfl (PV.not rfl rfl) ?_
          refine RG.nil ?_
          refine WP.cond rfl (fun h5 => ?_) (fun h5 => ?_)
          · have e : occE (erCls l.cells.xs) cell = 2 := by rw [hin, occAny_true he h4 (by simpa using h5)]; rfl
            have k := k (.slice none 0 0) [] (by rw [occR_no (by rw [e]; decide)]; rfl)
            rw [e] at k
            refine WP.seq ?_
            refine WP.region ?_
            refine RG.pv rfl (PV.asg rfl rfl) ?_
            refine RG.pv rfl (PV.mvI (.inr rfl) rfl) ?_
            refine RG.nil ?_
            refine WP.ret ?_
            exact ⟨_, _, ResV.two rfl rfl rfl, Cv.nilOcc, k⟩
          · have hj' : ∀ j, j < i + 1 → validT (gd zn j).place = true := fun j h => by
              by_cases c : j = i
              · rw [c]; simpa using h5
              · exact hj j (by omega)
            refine WP.skip ?_
            refine WP.region ?_
            refine RG.pv rfl (PV.mvI (.inl rfl) rfl) ?_
            refine RG.pv rfl (PV.add rfl rfl rfl (by omega)) ?_
            refine RG.pv rfl (PV.mvI (.inr rfl) rfl) ?_
            refine RG.nil ?_
            exact ⟨rfl, i + 1, ⟨by omega, hj'⟩, ⟨rfl, trivial⟩, ⟨rfl, trivial⟩, Cv.p, by omega⟩
        · have h3 := of_decide_eq_false h3
          have e : occE (erCls l.cells.xs) cell = 0 := by rw [hin, occAny_false he (fun j h => hj j (by omega))]; rfl
          have k := k vn zn (by rw [occR_ok e, he])
          rw [e] at k
          refine WP.exit ?_
          refine WP.seq ?_
          refine WP.region ?_
          refine RG.pv rfl (PV.move (v := vn) rfl rfl) ?_
          refine RG.pv rfl (PV.asg (v := vn) rfl rfl) ?_
          refine RG.pv rfl (PV.mvI (.inr rfl) rfl) ?_
          refine RG.nil ?_
          refine WP.ret ?_
          exact ⟨_, _, ResV.two rfl rfl rfl, Cv.p, k⟩
end Go.Proofs.YthhjapiggekjbaaGreat
