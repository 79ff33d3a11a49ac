/-
  Plain: what holds while a component is flooded: the queue lists just the cells that are set, each connected with the seed.
-/
import Derived.Test.YthjaopefoiploaaGreatComp
namespace Go.Proofs.YthjaopefoiploaaGreat
def qc (q : Int × Int) : Cel := (q.2.toNat, q.1.toNat)
structure FI (S : List Bool) (a : Cel) (O : List Bool) (Q : List (Int × Int)) : Prop where
  len : O.length = 6400
  bd : ∀ i, i < Q.length → 0 ≤ (gd Q i).1 ∧ (gd Q i).1 < 80 ∧ 0 ≤ (gd Q i).2 ∧ (gd Q i).2 < 80
  on : ∀ i, i < Q.length → On O (qc (gd Q i))
  all : ∀ c, On O c → ∃ i, i < Q.length ∧ qc (gd Q i) = c
  conn : ∀ i, i < Q.length → Conn S a (qc (gd Q i))
  cnt : cnt O = Q.length
theorem gd_app_l {α : Type} [Inhabited α] {xs ys : List α} {i : Nat} (h : i < xs.length) : gd (xs ++ ys) i = gd xs i := by
  simp only [gd, List.getElem?_append_left h]
theorem gd_app_r {α : Type} [Inhabited α] {xs : List α} {a : α} : gd (xs ++ [a]) xs.length = a := by
  simp [gd]
theorem gb_set' {bs : List Bool} {y x y' x' : Nat} {q : Bool} (h : bs.length = 6400) (hy : y < 80) (hx : x < 80) (hx' : x' < 80) : gb (bs.set (y * 80 + x) q) y' x' = if y' = y ∧ x' = x then q else gb bs y' x' := by
  unfold gb gd
  rw [List.getElem?_set]
  by_cases e : y * 80 + x = y' * 80 + x'
  · have e1 : y' = y ∧ x' = x := by omega
    rw [if_pos e, if_pos e1, if_pos (by omega)]; rfl
  · have e1 : ¬ (y' = y ∧ x' = x) := by omega
    rw [if_neg e, if_neg e1]
theorem cnt_set {bs : List Bool} {k : Nat} (h : k < bs.length) (hk : gd bs k = false) : cnt (bs.set k true) = cnt bs + 1 := by
  have e1 : bs.set k true = bs.take k ++ true :: bs.drop (k + 1) := by rw [List.set_eq_take_append_cons_drop, if_pos h]
  have e2 : bs = bs.take k ++ false :: bs.drop (k + 1) := by
    rw [gd_eq h] at hk
    conv => lhs; rw [← List.take_append_drop k bs, List.drop_eq_getElem_cons h, hk]
  have h1 : cnt (bs.set k true) = (((bs.take k).count true + (bs.drop (k + 1)).count true + 1 : Nat) : Int) := by
    rw [cnt, e1, List.count_append, List.count_cons]; simp; omega
  have h2 : cnt bs = (((bs.take k).count true + (bs.drop (k + 1)).count true : Nat) : Int) := by
    rw [cnt]; conv => lhs; rw [e2, List.count_append, List.count_cons]
    simp
  rw [h1, h2]; omega
theorem FI.len_le {S O : List Bool} {a : Cel} {Q : List (Int × Int)} (h : FI S a O Q) : Q.length ≤ 6400 := by
  have h1 := h.cnt; have h2 := cnt_le O; rw [h.len] at h2; omega
theorem FI.add {S O : List Bool} {a : Cel} {Q : List (Int × Int)} (h : FI S a O Q) {x y : Int} (hx : 0 ≤ x ∧ x < 80) (hy : 0 ≤ y ∧ y < 80) (hO : gb O y.toNat x.toNat = false) (hS : gb S y.toNat x.toNat = true) {i : Nat} (hi : i < Q.length) (ha : Adj (qc (gd Q i)) (y.toNat, x.toNat)) :
    FI S a (O.set (y.toNat * 80 + x.toNat) true) (Q ++ [(x, y)]) := by
  have hk : y.toNat * 80 + x.toNat < O.length := by rw [h.len]; omega
  have hg : ∀ c : Cel, c.2 < 80 → gb (O.set (y.toNat * 80 + x.toNat) true) c.1 c.2 = if c.1 = y.toNat ∧ c.2 = x.toNat then true else gb O c.1 c.2 := fun c hc => gb_set' h.len (by omega) (by omega) hc
  refine ⟨by simpa using h.len, fun j hj => ?_, fun j hj => ?_, fun c hc => ?_, fun j hj => ?_, ?_⟩
  · by_cases e : j < Q.length
    · rw [gd_app_l e]; exact h.bd j e
    · have : j = Q.length := by simp at hj; omega
      rw [this, gd_app_r]; exact ⟨hx.1, hx.2, hy.1, hy.2⟩
  · by_cases e : j < Q.length
    · rw [gd_app_l e]
      have := h.on j e
      refine ⟨this.1, this.2.1, ?_⟩
      rw [hg _ this.2.1]; split
      · rfl
      · exact this.2.2
    · have : j = Q.length := by simp at hj; omega
      rw [this, gd_app_r]
      refine ⟨by simp only [qc]; omega, by simp only [qc]; omega, ?_⟩
      rw [hg _ (by simp only [qc]; omega), if_pos ⟨rfl, rfl⟩]
  · have := hc.2.2
    rw [hg c hc.2.1] at this
    by_cases e : c.1 = y.toNat ∧ c.2 = x.toNat
    · refine ⟨Q.length, by simp, ?_⟩
      rw [gd_app_r]
      obtain ⟨c1, c2⟩ := c
      simp only at e
      simp [qc, e.1, e.2]
    · rw [if_neg e] at this
      obtain ⟨j, hj, he⟩ := h.all c ⟨hc.1, hc.2.1, this⟩
      exact ⟨j, by simp; omega, by rw [gd_app_l hj]; exact he⟩
  · by_cases e : j < Q.length
    · rw [gd_app_l e]; exact h.conn j e
    · have : j = Q.length := by simp at hj; omega
      rw [this, gd_app_r]
      exact (h.conn i hi).step ha ⟨by simp only [qc]; omega, by simp only [qc]; omega, hS⟩
  · rw [cnt_set hk (by rw [gb] at hO; exact hO), h.cnt]; simp
theorem gb_rep' (y x : Nat) : gb (List.replicate 6400 false) y x = false := by
  unfold gb gd
  rw [List.getElem?_replicate]; split <;> rfl
theorem FI.start {S : List Bool} {x y : Int} (hx : 0 ≤ x ∧ x < 80) (hy : 0 ≤ y ∧ y < 80) : FI S (y.toNat, x.toNat) ((List.replicate 6400 false).set (y.toNat * 80 + x.toNat) true) [(x, y)] := by
  have hl : (List.replicate 6400 false).length = 6400 := List.length_replicate
  have hg : ∀ c : Cel, c.2 < 80 → gb ((List.replicate 6400 false).set (y.toNat * 80 + x.toNat) true) c.1 c.2 = if c.1 = y.toNat ∧ c.2 = x.toNat then true else false := fun c hc => by
    rw [gb_set' hl (by omega) (by omega) hc, gb_rep']
  have hg0 : gd [(x, y)] 0 = (x, y) := by simp [gd]
  have one : ∀ i, i < [(x, y)].length → i = 0 := fun i hi => by simpa using hi
  refine ⟨by rw [List.length_set, hl], fun i hi => ?_, fun i hi => ?_, fun c hc => ?_, fun i hi => ?_, ?_⟩
  · rw [one i hi, hg0]; exact ⟨hx.1, hx.2, hy.1, hy.2⟩
  · rw [one i hi, hg0]
    refine ⟨by simp [qc]; omega, by simp [qc]; omega, ?_⟩
    rw [hg _ (by simp [qc]; omega)]; simp [qc]
  · have := hc.2.2
    rw [hg c hc.2.1] at this
    have e : c.1 = y.toNat ∧ c.2 = x.toNat := by
      by_cases e : c.1 = y.toNat ∧ c.2 = x.toNat
      · exact e
      · rw [if_neg e] at this; cases this
    refine ⟨0, by simp, ?_⟩
    rw [hg0]
    obtain ⟨c1, c2⟩ := c
    simp only at e
    simp [qc, e.1, e.2]
  · rw [one i hi, hg0]; exact .refl
  · rw [cnt_set (by rw [hl]; omega) (by have := gb_rep' y.toNat x.toNat; rwa [gb] at this)]
    have : Go.Proofs.YthjaopefoiploaaGreat.cnt (List.replicate 6400 false) = 0 := by
      rw [Go.Proofs.YthjaopefoiploaaGreat.cnt, List.count_replicate]; rfl
    rw [this]; simp
/-- the cells of the queue before i have no neighbour that is missing -/
def Done (S O : List Bool) (Q : List (Int × Int)) (i : Nat) : Prop := ∀ m, m < i → ∀ c, Adj (qc (gd Q m)) c → On S c → On O c
/-- of the neighbours of p, those that come before (dy, dx) are there -/
def Near (S O : List Bool) (p : Cel) (dy dx : Int) : Prop := ∀ c : Cel, Adj p c → On S c → ((c.1 : Int) - p.1 < dy ∨ ((c.1 : Int) - p.1 = dy ∧ (c.2 : Int) - p.2 < dx)) → On O c
theorem Near.zero (S O : List Bool) (p : Cel) : Near S O p (-1) (-1) := fun c ha _ h => by
  rcases ha with ⟨h1, h2⟩ | ⟨h1, h2⟩ <;> omega
theorem Near.next {S O : List Bool} {p : Cel} {dy : Int} (h : Near S O p dy 2) : Near S O p (dy + 1) (-1) := fun c ha hs hc => by
  refine h c ha hs ?_
  rcases ha with ⟨h1, h2⟩ | ⟨h1, h2⟩ <;> omega
theorem Near.done {S O : List Bool} {p : Cel} (h : Near S O p 2 (-1)) : ∀ c, Adj p c → On S c → On O c := fun c ha hs => by
  refine h c ha hs ?_
  rcases ha with ⟨h1, h2⟩ | ⟨h1, h2⟩ <;> omega
theorem Near.step {S O O' : List Bool} {p : Cel} {dy dx : Int} (h : Near S O p dy dx) (hO : ∀ c, On O c → On O' c) (hn : ∀ c : Cel, Adj p c → On S c → (c.1 : Int) - p.1 = dy → (c.2 : Int) - p.2 = dx → On O' c) : Near S O' p dy (dx + 1) := fun c ha hs hc => by
  by_cases e : (c.1 : Int) - p.1 = dy ∧ (c.2 : Int) - p.2 = dx
  · exact hn c ha hs e.1 e.2
  · exact hO c (h c ha hs (by omega))
theorem FI.final {S O : List Bool} {a : Cel} {Q : List (Int × Int)} (h : FI S a O Q) (ha : On S a) (h0 : On O a) (hd : Done S O Q Q.length) : O = compB S a :=
  comp_of h.len ha h0 (fun b hb => by obtain ⟨i, hi, rfl⟩ := h.all b hb; exact h.conn i hi) fun b c hb hbc hc => by
    obtain ⟨i, hi, rfl⟩ := h.all b hb
    exact hd i hi c hbc hc
theorem on_set {O : List Bool} {x y : Int} (hl : O.length = 6400) (hx : 0 ≤ x ∧ x < 80) (hy : 0 ≤ y ∧ y < 80) {c : Cel} (h : On O c) : On (O.set (y.toNat * 80 + x.toNat) true) c := by
  refine ⟨h.1, h.2.1, ?_⟩
  rw [gb_set' hl (by omega) (by omega) h.2.1]; split
  · rfl
  · exact h.2.2
end Go.Proofs.YthjaopefoiploaaGreat
