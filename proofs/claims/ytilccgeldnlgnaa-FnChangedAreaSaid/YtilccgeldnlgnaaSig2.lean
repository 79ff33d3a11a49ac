/-
  Plain: the signature of a region is that of the region turned and moved.
-/
import Derived.Test.YtilccgeldnlgnaaW12
import Derived.Test.YtilccgeldnlgnaaGrow
namespace Go.Proofs.Ytilccgeldnlgnaa
open Go
set_option maxRecDepth 20000
set_option linter.unusedSimpArgs false

/-! ## middles of cells, doubled -/
def inC (r : Rect) (c : Pt) : Prop := 2 * r.x0 < c.x ∧ c.x < 2 * r.x1 ∧ 2 * r.y0 < c.y ∧ c.y < 2 * r.y1
def cov (xs : List Rect) (c : Pt) : Prop := ∃ r ∈ xs, inC r c
def isC (c : Pt) : Prop := c.x % 2 = 1 ∧ c.y % 2 = 1
def mv2 (t : Trans) (c : Pt) : Pt := ⟨(turnP t.o c).x + 2 * t.x, (turnP t.o c).y + 2 * t.y⟩
theorem gdm {xs : List Rect} (h : 0 < xs.length) : gd xs 0 ∈ xs := by rw [gd_eq h]; exact List.getElem_mem _
def OIn (o : Int) : Prop := 0 ≤ o ∧ o ≤ 7
theorem OIn.cases {o : Int} (h : OIn o) : o = 0 ∨ o = 1 ∨ o = 2 ∨ o = 3 ∨ o = 4 ∨ o = 5 ∨ o = 6 ∨ o = 7 := by unfold OIn at h; omega
theorem inC_move {t : Trans} (ho : OIn t.o) {r : Rect} (hr : RIn 40 r) (c : Pt) : inC (moveR t r) (mv2 t c) ↔ inC r c := by
  obtain ⟨o, dx, dy⟩ := t
  obtain ⟨h1, h2, h3, h4, h5, h6⟩ := hr
  rcases ho.cases with h | h | h | h | h | h | h | h <;> (simp only at h; subst h; simp [inC, moveR, moveP, mv2, turnP, flip, rot]; omega)
theorem cov_move {t : Trans} (ho : OIn t.o) {xs : List Rect} (hr : ∀ r ∈ xs, RIn 40 r) (c : Pt) : cov (xs.map (moveR t)) (mv2 t c) ↔ cov xs c := by
  constructor
  · rintro ⟨q, hq, hc⟩
    obtain ⟨r, hr', rfl⟩ := List.mem_map.1 hq
    exact ⟨r, hr', (inC_move ho (hr r hr') c).1 hc⟩
  · rintro ⟨r, hr', hc⟩
    exact ⟨_, List.mem_map.2 ⟨r, hr', rfl⟩, (inC_move ho (hr r hr') c).2 hc⟩
theorem isC_turn {o : Int} (ho : OIn o) {c : Pt} (h : isC c) : isC (turnP o c) := by
  obtain ⟨h1, h2⟩ := h
  rcases ho.cases with h | h | h | h | h | h | h | h <;> (subst h; simp [isC, turnP, flip, rot]; omega)
theorem isC_mv2 {t : Trans} (ho : OIn t.o) {c : Pt} (h : isC c) : isC (mv2 t c) := by
  have := isC_turn ho h
  simp only [isC, mv2] at *; omega
def inv (o : Int) : Int := if o = 1 then 3 else if o = 3 then 1 else o
theorem inv_in {o : Int} (ho : OIn o) : OIn (inv o) := by unfold inv OIn at *; split <;> (try split) <;> omega
theorem turn_inv {o : Int} (ho : OIn o) (c : Pt) : turnP o (turnP (inv o) c) = c := by
  rcases ho.cases with h | h | h | h | h | h | h | h <;> (subst h; simp [inv, turnP, flip, rot])
def cmp (o a : Int) : Int := if 4 ≤ o then (o - a) % 4 + (if 4 ≤ a then 0 else 4) else (o + a) % 4 + (if 4 ≤ a then 4 else 0)
theorem cmp_in {o a : Int} : OIn (cmp o a) := by
  unfold cmp OIn; split <;> split <;> omega
theorem turn_cmp {o a : Int} (ho : OIn o) (ha : OIn a) (p : Pt) : turnP o (turnP a p) = turnP (cmp o a) p := by
  rcases ho.cases with h | h | h | h | h | h | h | h <;> subst h <;> (rcases ha.cases with h | h | h | h | h | h | h | h <;> (subst h; simp [cmp, turnP, flip, rot]))
theorem cmp_sur {a b : Int} (ha : OIn a) (hb : OIn b) : ∃ o, OIn o ∧ cmp o a = b := by
  refine ⟨cmp b (inv a), cmp_in, ?_⟩
  rcases ha.cases with h | h | h | h | h | h | h | h <;> subst h <;> (rcases hb.cases with h | h | h | h | h | h | h | h <;> (subst h; simp [cmp, inv]))
theorem turn_lin {o : Int} (ho : OIn o) (c : Pt) (a b : Int) : turnP o ⟨c.x + 2 * a, c.y + 2 * b⟩ = ⟨(turnP o c).x + 2 * (turnP o ⟨a, b⟩).x, (turnP o c).y + 2 * (turnP o ⟨a, b⟩).y⟩ := by
  rcases ho.cases with h | h | h | h | h | h | h | h <;> (subst h; simp [turnP, flip, rot]; try omega)

/-! ## boxes tell of the covered cells alone -/
theorem boxFrom_att (xs : List Rect) : ∀ a : Rect, ((boxFrom a xs).x0 = a.x0 ∨ ∃ r ∈ xs, r.x0 = (boxFrom a xs).x0) ∧ ((boxFrom a xs).y0 = a.y0 ∨ ∃ r ∈ xs, r.y0 = (boxFrom a xs).y0) := by
  induction xs with
  | nil => intro a; exact ⟨.inl rfl, .inl rfl⟩
  | cons x xs ih =>
    intro a
    have e : boxFrom a (x :: xs) = boxFrom (joinR a x) xs := rfl
    rw [e]
    obtain ⟨h1, h2⟩ := ih (joinR a x)
    constructor
    · rcases h1 with h | ⟨r, hr, h⟩
      · simp only [joinR] at h
        by_cases c : a.x0 ≤ x.x0
        · exact .inl (by simp only [joinR]; omega)
        · exact .inr ⟨x, .head _, by simp only [joinR]; omega⟩
      · exact .inr ⟨r, .tail _ hr, h⟩
    · rcases h2 with h | ⟨r, hr, h⟩
      · simp only [joinR] at h
        by_cases c : a.y0 ≤ x.y0
        · exact .inl (by simp only [joinR]; omega)
        · exact .inr ⟨x, .head _, by simp only [joinR]; omega⟩
      · exact .inr ⟨r, .tail _ hr, h⟩
theorem boxL_att {im : List Rect} (h0 : 0 < im.length) : (∃ r ∈ im, r.x0 = (boxL im).x0) ∧ ∃ r ∈ im, r.y0 = (boxL im).y0 := by
  obtain ⟨h1, h2⟩ := boxFrom_att im (gd im 0)
  have hm : gd im 0 ∈ im := by rw [gd_eq h0]; exact List.getElem_mem _
  exact ⟨h1.elim (fun h => ⟨_, hm, h.symm⟩) id, h2.elim (fun h => ⟨_, hm, h.symm⟩) id⟩
theorem boxL_le {im : List Rect} {r : Rect} (h : r ∈ im) : (boxL im).x0 ≤ r.x0 ∧ (boxL im).y0 ≤ r.y0 := by
  have := (boxFrom_le im (gd im 0)).2.2.2.2 r h
  exact ⟨this.1, this.2.1⟩
theorem box_le {a b : List Rect} (ha : 0 < a.length) (hra : ∀ r ∈ a, RIn 40 r) {dx dy : Int} (h : ∀ c, isC c → cov a c → cov b ⟨c.x + 2 * dx, c.y + 2 * dy⟩) : (boxL b).x0 ≤ (boxL a).x0 + dx ∧ (boxL b).y0 ≤ (boxL a).y0 + dy := by
  have key : ∀ r ∈ a, (boxL b).x0 ≤ r.x0 + dx ∧ (boxL b).y0 ≤ r.y0 + dy := fun r hr => by
    obtain ⟨h1, h2, h3, h4, h5, h6⟩ := hra r hr
    obtain ⟨q, hq, q1, q2, q3, q4⟩ := h ⟨2 * r.x0 + 1, 2 * r.y0 + 1⟩ ⟨by simp only; omega, by simp only; omega⟩ ⟨r, hr, by simp only [inC]; omega⟩
    have := boxL_le hq
    simp only at q1 q2 q3 q4
    omega
  obtain ⟨⟨r, hr, e1⟩, q, hq, e2⟩ := boxL_att ha
  have k1 := key r hr
  have k2 := key q hq
  omega
theorem cov_shift {xs : List Rect} (dx dy : Int) (c : Pt) : cov (xs.map (shiftR dx dy)) c ↔ cov xs ⟨c.x - 2 * dx, c.y - 2 * dy⟩ := by
  constructor
  · rintro ⟨q, hq, hc⟩
    obtain ⟨r, hr', rfl⟩ := List.mem_map.1 hq
    exact ⟨r, hr', by simp only [inC, shiftR] at *; omega⟩
  · rintro ⟨r, hr', hc⟩
    exact ⟨_, List.mem_map.2 ⟨r, hr', rfl⟩, by simp only [inC, shiftR] at *; omega⟩
theorem gb_cov {rs : List Rect} {y x : Nat} (hy : y < 80) (hx : x < 80) : gb (bits rs) y x = true ↔ cov rs ⟨2 * ((x : Int) - 40) + 1, 2 * ((y : Int) - 40) + 1⟩ := by
  rw [gb_bits' rs hy hx, List.any_eq_true]
  have e : ∀ r : Rect, inR r y x = true ↔ inC r ⟨2 * ((x : Int) - 40) + 1, 2 * ((y : Int) - 40) + 1⟩ := fun r => by
    simp only [inR, Bool.and_eq_true, decide_eq_true_eq, inC]; omega
  exact ⟨fun ⟨r, hr, h⟩ => ⟨r, hr, (e r).1 h⟩, fun ⟨r, hr, h⟩ => ⟨r, hr, (e r).2 h⟩⟩
theorem bits_cov {ar bs : List Rect} (h : ∀ c, isC c → (cov ar c ↔ cov bs c)) : bits ar = bits bs := by
  refine gb_ext (bits_length _) (bits_length _) fun y x hy hx => ?_
  rw [Bool.eq_iff_iff, gb_cov hy hx, gb_cov hy hx]
  exact h _ ⟨by simp only; omega, by simp only; omega⟩
theorem cov_bd {rs : List Rect} (hr : ∀ r ∈ rs, RIn 40 r) {c : Pt} (hc : isC c) (h : cov rs c) : ∃ y x : Nat, y < 80 ∧ x < 80 ∧ c = ⟨2 * ((x : Int) - 40) + 1, 2 * ((y : Int) - 40) + 1⟩ := by
  obtain ⟨r, hr', h1, h2, h3, h4⟩ := h
  obtain ⟨g1, g2, g3, g4, g5, g6⟩ := hr r hr'
  obtain ⟨x, y⟩ := c
  obtain ⟨c1, c2⟩ := hc
  simp only at *
  refine ⟨((y - 1) / 2 + 40).toNat, ((x - 1) / 2 + 40).toNat, by omega, by omega, ?_⟩
  rw [Pt.mk.injEq]; omega
theorem canon_RIn {bs : List Bool} (h : bs.length = 6400) : ∀ r ∈ canon bs, RIn 40 r := RIn_all (isReg_canon h)
theorem cov_canon {zs : List Rect} (hr : ∀ r ∈ zs, RIn 40 r) {c : Pt} (hc : isC c) : cov (canon (bits zs)) c ↔ cov zs c := by
  have hcr := canon_RIn (bits_length zs)
  constructor
  · intro h
    obtain ⟨y, x, hy, hx, rfl⟩ := cov_bd hcr hc h
    rw [← gb_cov hy hx, bits_canon (bits_length _)] at h
    exact (gb_cov hy hx).1 h
  · intro h
    obtain ⟨y, x, hy, hx, rfl⟩ := cov_bd hr hc h
    rw [← gb_cov hy hx, bits_canon (bits_length _)]
    exact (gb_cov hy hx).2 h

/-! ## the law -/
theorem sigO_eq {ar bs : List Rect} (ha : 0 < ar.length) (hb : 0 < bs.length) (hra : ∀ r ∈ ar, RIn 40 r) (hrb : ∀ r ∈ bs, RIn 40 r) {dx dy : Int} (h : ∀ c, isC c → (cov bs ⟨c.x + 2 * dx, c.y + 2 * dy⟩ ↔ cov ar c)) : bits (shifted bs) = bits (shifted ar) := by
  have h1 := box_le ha hra (b := bs) (dx := dx) (dy := dy) fun c hc h' => (h c hc).2 h'
  have h2 := box_le hb hrb (b := ar) (dx := -dx) (dy := -dy) fun c hc h' => by
    refine (h ⟨c.x + 2 * -dx, c.y + 2 * -dy⟩ ⟨by have := hc.1; simp only; omega, by have := hc.2; simp only; omega⟩).1 ?_
    simp only
    rwa [show (⟨c.x + 2 * -dx + 2 * dx, c.y + 2 * -dy + 2 * dy⟩ : Pt) = c by obtain ⟨x, y⟩ := c; rw [Pt.mk.injEq]; simp only; omega]
  have e1 : (boxL bs).x0 = (boxL ar).x0 + dx := by omega
  have e2 : (boxL bs).y0 = (boxL ar).y0 + dy := by omega
  refine bits_cov fun c hc => ?_
  rw [shifted, shifted, cov_shift, cov_shift, ← h _ (by obtain ⟨c1, c2⟩ := hc; exact ⟨by simp only; omega, by simp only; omega⟩), e1, e2]
  simp only
  rw [show (⟨c.x - 2 * (-40 - (boxL ar).x0) + 2 * dx, c.y - 2 * (-40 - (boxL ar).y0) + 2 * dy⟩ : Pt) = ⟨c.x - 2 * (-40 - ((boxL ar).x0 + dx)), c.y - 2 * (-40 - ((boxL ar).y0 + dy))⟩ by rw [Pt.mk.injEq]; omega]
theorem sigTo_le (xs : List Rect) : ∀ n k : Nat, k ≤ n → sigTo xs n ≤ sigO xs k
  | 0, k, h => by obtain rfl : k = 0 := by omega
                  exact Int.le_refl _
  | n + 1, k, h => by
    by_cases c : k = n + 1
    · subst c; simp only [sigTo]; exact Int.min_le_right _ _
    · have := sigTo_le xs n k (by omega)
      simp only [sigTo]; omega
theorem sigTo_att (xs : List Rect) : ∀ n : Nat, ∃ k : Nat, k ≤ n ∧ sigTo xs n = sigO xs k
  | 0 => ⟨0, Nat.le_refl _, rfl⟩
  | n + 1 => by
    obtain ⟨k, hk, e⟩ := sigTo_att xs n
    by_cases c : sigTo xs n ≤ sigO xs (n + 1)
    · exact ⟨k, by omega, by rw [← e]; simp only [sigTo]; omega⟩
    · exact ⟨n + 1, Nat.le_refl _, by simp only [sigTo]; push_cast; omega⟩
theorem sig_le {xs ys : List Rect} (h : ∀ o, OIn o → ∃ o2, OIn o2 ∧ sigO ys o = sigO xs o2) : sigTo xs 7 ≤ sigTo ys 7 := by
  obtain ⟨k, hk, e⟩ := sigTo_att ys 7
  obtain ⟨o2, ho, e2⟩ := h k ⟨by omega, by omega⟩
  rw [e, e2]
  have := sigTo_le xs 7 o2.toNat (by unfold OIn at ho; omega)
  rwa [show ((o2.toNat : Nat) : Int) = o2 by unfold OIn at ho; omega] at this
theorem sigO_moved {t : Trans} (ht : OIn t.o) {xs : List Rect} (h0 : 0 < xs.length) (hr : ∀ r ∈ xs, RIn 40 r) (hm : ∀ r ∈ xs, RIn 40 (moveR t r)) {o : Int} (ho : OIn o) : sigO (canon (bits (xs.map (moveR t)))) o = sigO xs (cmp o t.o) := by
  have hmr : ∀ r ∈ xs.map (moveR t), RIn 40 r := fun r h => by obtain ⟨q, hq, rfl⟩ := List.mem_map.1 h; exact hm q hq
  have hyr := canon_RIn (bits_length (xs.map (moveR t)))
  have hyn : 0 < (canon (bits (xs.map (moveR t)))).length := by
    rw [List.length_pos_iff]
    intro e
    obtain ⟨h1, h2, h3, h4, h5, h6⟩ := hmr (moveR t (gd xs 0)) (List.mem_map.2 ⟨_, gdm h0, rfl⟩)
    have : cov (canon (bits (xs.map (moveR t)))) ⟨2 * (moveR t (gd xs 0)).x0 + 1, 2 * (moveR t (gd xs 0)).y0 + 1⟩ := (cov_canon hmr ⟨by simp only; omega, by simp only; omega⟩).2 ⟨_, List.mem_map.2 ⟨_, gdm h0, rfl⟩, by simp only [inC]; omega⟩
    rw [e] at this
    obtain ⟨r, hr', _⟩ := this
    cases hr'
  rw [sigO, sigO]
  rw [sigO_eq (ar := imgs xs (cmp o t.o)) (bs := imgs (canon (bits (xs.map (moveR t)))) o) (dx := (turnP o ⟨t.x, t.y⟩).x) (dy := (turnP o ⟨t.x, t.y⟩).y) (by simpa [imgs] using h0) (by simpa [imgs] using hyn) (imgs_in cmp_in hr) (imgs_in ho hyr)]
  intro c hc
  have i2 : OIn (inv (cmp o t.o)) := inv_in cmp_in
  have ec : turnP (cmp o t.o) (turnP (inv (cmp o t.o)) c) = c := turn_inv cmp_in c
  have hd := isC_turn i2 hc
  generalize turnP (inv (cmp o t.o)) c = d at ec hd
  have e1 : cov (imgs xs (cmp o t.o)) c ↔ cov xs d := by
    have := cov_move (t := ⟨cmp o t.o, 0, 0⟩) cmp_in hr d
    rwa [mv2, show ((⟨(turnP (cmp o t.o) d).x + 2 * 0, (turnP (cmp o t.o) d).y + 2 * 0⟩ : Pt)) = c by rw [ec]; obtain ⟨x, y⟩ := c; simp] at this
  have e2 : cov (imgs (canon (bits (xs.map (moveR t)))) o) ⟨c.x + 2 * (turnP o ⟨t.x, t.y⟩).x, c.y + 2 * (turnP o ⟨t.x, t.y⟩).y⟩ ↔ cov (canon (bits (xs.map (moveR t)))) (mv2 t d) := by
    have := cov_move (t := ⟨o, 0, 0⟩) ho hyr (mv2 t d)
    rwa [mv2, mv2, turn_lin ho, turn_cmp ho ht, ec, show ((⟨c.x + 2 * (turnP o ⟨t.x, t.y⟩).x + 2 * 0, c.y + 2 * (turnP o ⟨t.x, t.y⟩).y + 2 * 0⟩ : Pt)) = ⟨c.x + 2 * (turnP o ⟨t.x, t.y⟩).x, c.y + 2 * (turnP o ⟨t.x, t.y⟩).y⟩ by simp] at this
  rw [e1, e2, cov_canon hmr (isC_mv2 ht hd), cov_move ht hr]
theorem sig_moved {t : Trans} (ht : OIn t.o) {xs : List Rect} (hreg : isReg xs = true) (hok : movedOk t xs = true) : regSig (movedR t xs) = regSig xs := by
  have hr := RIn_all hreg
  have hm : ∀ r ∈ xs, RIn 40 (moveR t r) := fun r h => by
    rw [movedOk, List.all_eq_true] at hok
    exact RIn_valid.1 (hok r h)
  have e : movedR t xs = canon (bits (xs.map (moveR t))) := by rw [movedR, hok]; rfl
  rw [e]
  rcases Nat.eq_zero_or_pos xs.length with h0 | h0
  · rw [List.length_eq_zero_iff] at h0; subst h0
    have : canon (bits ([].map (moveR t))) = canon (bits []) := rfl
    rw [this, isReg_eq hreg]
  have h2 := isReg_canon (bits_length (xs.map (moveR t)))
  have hyn : 0 < (canon (bits (xs.map (moveR t)))).length := by
    rw [List.length_pos_iff]
    intro e
    obtain ⟨h1, h2, h3, h4, h5, h6⟩ := hm _ (gdm h0)
    have : cov (canon (bits (xs.map (moveR t)))) ⟨2 * (moveR t (gd xs 0)).x0 + 1, 2 * (moveR t (gd xs 0)).y0 + 1⟩ := (cov_canon (fun r h => by obtain ⟨q, hq, rfl⟩ := List.mem_map.1 h; exact hm q hq) ⟨by simp only; omega, by simp only; omega⟩).2 ⟨_, List.mem_map.2 ⟨_, gdm h0, rfl⟩, by simp only [inC]; omega⟩
    rw [e] at this
    obtain ⟨r, hr', _⟩ := this
    cases hr'
  rw [regSig, regSig, hreg, h2, decide_eq_true h0, decide_eq_true hyn]
  simp only [Bool.and_self, cond_true]
  refine Int.le_antisymm ?_ ?_
  · refine sig_le fun o ho => ?_
    obtain ⟨o1, h1, e1⟩ := cmp_sur ht ho
    exact ⟨o1, h1, by rw [sigO_moved ht h0 hr hm h1, e1]⟩
  · exact sig_le fun o ho => ⟨cmp o t.o, cmp_in, sigO_moved ht h0 hr hm ho⟩
end Go.Proofs.Ytilccgeldnlgnaa
