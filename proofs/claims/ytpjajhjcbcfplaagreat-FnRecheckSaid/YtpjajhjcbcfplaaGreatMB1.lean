/-
  The law FnRecheck: whatever the code, the law returns true and the code reads as before.
-/
import Derived.Test.YtpjajhjcbcfplaaGreatCB5
import Derived.Test.YtpjajhjcbcfplaaGreatRows
namespace Go.Proofs.YtpjajhjcbcfplaaGreat
set_option linter.unusedVariables false
set_option linter.unusedSimpArgs false
open Go
set_option maxRecDepth 20000
set_option linter.unusedSimpArgs false
def inC (r : Rect) (c : Pt) : Prop := 2 * r.x0 < c.x ∧ c.x < 2 * r.x1 ∧ 2 * r.y0 < c.y ∧ c.y < 2 * r.y1
def cov (xs : List Rect) (c : Pt) : Prop := ∃ r ∈ xs, inC r c
def isC (c : Pt) : Prop := c.x % 2 = 1 ∧ c.y % 2 = 1
def mv2 (t : Trans) (c : Pt) : Pt := ⟨(turnP t.o c).x + 2 * t.x, (turnP t.o c).y + 2 * t.y⟩
theorem gdm {xs : List Rect} (h : 0 < xs.length) : gd xs 0 ∈ xs := by rw [gd_eq h]; exact List.getElem_mem _
def OIn (o : Int) : Prop := 0 ≤ o ∧ o ≤ 7
theorem OIn.cases {o : Int} (h : OIn o) : o = 0 ∨ o = 1 ∨ o = 2 ∨ o = 3 ∨ o = 4 ∨ o = 5 ∨ o = 6 ∨ o = 7 := by unfold OIn at h; omega
theorem inC_move {t : Trans} (ho : OIn t.o) {r : Rect} (hr : RIn 40 r) (c : Pt) : inC (moveR t r) (mv2 t c) ↔ inC r c := by
  obtain ⟨o, dx, dy⟩ := t
  obtain ⟨h1, h2, h3, h4, h5, h6⟩ := hr
  rcases ho.cases with h | h | h | h | h | h | h | h <;> (simp only at h; subst h; simp [inC, moveR, moveP, mv2, turnP, flip, rot]; omega)
theorem cov_move {t : Trans} (ho : OIn t.o) {xs : List Rect} (hr : ∀ r ∈ xs, RIn 40 r) (c : Pt) : cov (xs.map (moveR t)) (mv2 t c) ↔ cov xs c := by
  constructor
  · rintro ⟨q, hq, hc⟩
    obtain ⟨r, hr', rfl⟩ := List.mem_map.1 hq
    exact ⟨r, hr', (inC_move ho (hr r hr') c).1 hc⟩
  · rintro ⟨r, hr', hc⟩
    exact ⟨_, List.mem_map.2 ⟨r, hr', rfl⟩, (inC_move ho (hr r hr') c).2 hc⟩
theorem isC_turn {o : Int} (ho : OIn o) {c : Pt} (h : isC c) : isC (turnP o c) := by
  obtain ⟨h1, h2⟩ := h
  rcases ho.cases with h | h | h | h | h | h | h | h <;> (subst h; simp [isC, turnP, flip, rot]; omega)
theorem isC_mv2 {t : Trans} (ho : OIn t.o) {c : Pt} (h : isC c) : isC (mv2 t c) := by
  have := isC_turn ho h
  simp only [isC, mv2] at *; omega
def inv (o : Int) : Int := if o = 1 then 3 else if o = 3 then 1 else o
theorem inv_in {o : Int} (ho : OIn o) : OIn (inv o) := by unfold inv OIn at *; split <;> (try split) <;> omega
theorem turn_inv {o : Int} (ho : OIn o) (c : Pt) : turnP o (turnP (inv o) c) = c := by
  rcases ho.cases with h | h | h | h | h | h | h | h <;> (subst h; simp [inv, turnP, flip, rot])
def cmp (o a : Int) : Int := if 4 ≤ o then (o - a) % 4 + (if 4 ≤ a then 0 else 4) else (o + a) % 4 + (if 4 ≤ a then 4 else 0)
theorem cmp_in {o a : Int} : OIn (cmp o a) := by
  unfold cmp OIn; split <;> split <;> omega
theorem turn_cmp {o a : Int} (ho : OIn o) (ha : OIn a) (p : Pt) : turnP o (turnP a p) = turnP (cmp o a) p := by
  rcases ho.cases with h | h | h | h | h | h | h | h <;> subst h <;> (rcases ha.cases with h | h | h | h | h | h | h | h <;> (subst h; simp [cmp, turnP, flip, rot]))
theorem cmp_sur {a b : Int} (ha : OIn a) (hb : OIn b) : ∃ o, OIn o ∧ cmp o a = b := by
  refine ⟨cmp b (inv a), cmp_in, ?_⟩
  rcases ha.cases with h | h | h | h | h | h | h | h <;> subst h <;> (rcases hb.cases with h | h | h | h | h | h | h | h <;> (subst h; simp [cmp, inv]))
theorem turn_lin {o : Int} (ho : OIn o) (c : Pt) (a b : Int) : turnP o ⟨c.x + 2 * a, c.y + 2 * b⟩ = ⟨(turnP o c).x + 2 * (turnP o ⟨a, b⟩).x, (turnP o c).y + 2 * (turnP o ⟨a, b⟩).y⟩ := by
  rcases ho.cases with h | h | h | h | h | h | h | h <;> (subst h; simp [turnP, flip, rot]; try omega)
theorem boxFrom_att (xs : List Rect) : ∀ a : Rect, ((boxFrom a xs).x0 = a.x0 ∨ ∃ r ∈ xs, r.x0 = (boxFrom a xs).x0) ∧ ((boxFrom a xs).y0 = a.y0 ∨ ∃ r ∈ xs, r.y0 = (boxFrom a xs).y0) := by
  induction xs with
  | nil => intro a; exact ⟨.inl rfl, .inl rfl⟩
  | cons x xs ih =>
    intro a
    have e : boxFrom a (x :: xs) = boxFrom (joinR a x) xs := rfl
    rw [e]
    obtain ⟨h1, h2⟩ := ih (joinR a x)
    constructor
    · rcases h1 with h | ⟨r, hr, h⟩
      · simp only [joinR] at h
        by_cases c : a.x0 ≤ x.x0
        · exact .inl (by simp only [joinR]; omega)
        · exact .inr ⟨x, .head _, by simp only [joinR]; omega⟩
      · exact .inr ⟨r, .tail _ hr, h⟩
    · rcases h2 with h | ⟨r, hr, h⟩
      · simp only [joinR] at h
        by_cases c : a.y0 ≤ x.y0
        · exact .inl (by simp only [joinR]; omega)
        · exact .inr ⟨x, .head _, by simp only [joinR]; omega⟩
      · exact .inr ⟨r, .tail _ hr, h⟩
theorem boxL_att {im : List Rect} (h0 : 0 < im.length) : (∃ r ∈ im, r.x0 = (boxL im).x0) ∧ ∃ r ∈ im, r.y0 = (boxL im).y0 := by
  obtain ⟨h1, h2⟩ := boxFrom_att im (gd im 0)
  have hm : gd im 0 ∈ im := by rw [gd_eq h0]; exact List.getElem_mem _
  exact ⟨h1.elim (fun h => ⟨_, hm, h.symm⟩) id, h2.elim (fun h => ⟨_, hm, h.symm⟩) id⟩
theorem boxL_le {im : List Rect} {r : Rect} (h : r ∈ im) : (boxL im).x0 ≤ r.x0 ∧ (boxL im).y0 ≤ r.y0 := by
  have := (boxFrom_le im (gd im 0)).2.2.2.2 r h
  exact ⟨this.1, this.2.1⟩
theorem box_le {a b : List Rect} (ha : 0 < a.length) (hra : ∀ r ∈ a, RIn 40 r) {dx dy : Int} (h : ∀ c, isC c → cov a c → cov b ⟨c.x + 2 * dx, c.y + 2 * dy⟩) : (boxL b).x0 ≤ (boxL a).x0 + dx ∧ (boxL b).y0 ≤ (boxL a).y0 + dy := by
  have key : ∀ r ∈ a, (boxL b).x0 ≤ r.x0 + dx ∧ (boxL b).y0 ≤ r.y0 + dy := fun r hr => by
    obtain ⟨h1, h2, h3, h4, h5, h6⟩ := hra r hr
    obtain ⟨q, hq, q1, q2, q3, q4⟩ := h ⟨2 * r.x0 + 1, 2 * r.y0 + 1⟩ ⟨by simp only; omega, by simp only; omega⟩ ⟨r, hr, by simp only [inC]; omega⟩
    have := boxL_le hq
    simp only at q1 q2 q3 q4
    omega
  obtain ⟨⟨r, hr, e1⟩, q, hq, e2⟩ := boxL_att ha
  have k1 := key r hr
  have k2 := key q hq
  omega
theorem cov_shift {xs : List Rect} (dx dy : Int) (c : Pt) : cov (xs.map (shiftR dx dy)) c ↔ cov xs ⟨c.x - 2 * dx, c.y - 2 * dy⟩ := by
  constructor
  · rintro ⟨q, hq, hc⟩
    obtain ⟨r, hr', rfl⟩ := List.mem_map.1 hq
    exact ⟨r, hr', by simp only [inC, shiftR] at *; omega⟩
  · rintro ⟨r, hr', hc⟩
    exact ⟨_, List.mem_map.2 ⟨r, hr', rfl⟩, by simp only [inC, shiftR] at *; omega⟩
theorem gb_cov {rs : List Rect} {y x : Nat} (hy : y < 80) (hx : x < 80) : gb (bits rs) y x = true ↔ cov rs ⟨2 * ((x : Int) - 40) + 1, 2 * ((y : Int) - 40) + 1⟩ := by
  rw [gb_bits' rs hy hx, List.any_eq_true]
  have e : ∀ r : Rect, inR r y x = true ↔ inC r ⟨2 * ((x : Int) - 40) + 1, 2 * ((y : Int) - 40) + 1⟩ := fun r => by
    simp only [inR, Bool.and_eq_true, decide_eq_true_eq, inC]; omega
  exact ⟨fun ⟨r, hr, h⟩ => ⟨r, hr, (e r).1 h⟩, fun ⟨r, hr, h⟩ => ⟨r, hr, (e r).2 h⟩⟩
theorem bits_cov {ar bs : List Rect} (h : ∀ c, isC c → (cov ar c ↔ cov bs c)) : bits ar = bits bs := by
  refine gb_ext (bits_length _) (bits_length _) fun y x hy hx => ?_
  rw [Bool.eq_iff_iff, gb_cov hy hx, gb_cov hy hx]
  exact h _ ⟨by simp only; omega, by simp only; omega⟩
theorem cov_bd {rs : List Rect} (hr : ∀ r ∈ rs, RIn 40 r) {c : Pt} (hc : isC c) (h : cov rs c) : ∃ y x : Nat, y < 80 ∧ x < 80 ∧ c = ⟨2 * ((x : Int) - 40) + 1, 2 * ((y : Int) - 40) + 1⟩ := by
  obtain ⟨r, hr', h1, h2, h3, h4⟩ := h
  obtain ⟨g1, g2, g3, g4, g5, g6⟩ := hr r hr'
  obtain ⟨x, y⟩ := c
  obtain ⟨c1, c2⟩ := hc
  simp only at *
  refine ⟨((y - 1) / 2 + 40).toNat, ((x - 1) / 2 + 40).toNat, by omega, by omega, ?_⟩
  rw [Pt.mk.injEq]; omega
theorem canon_RIn {bs : List Bool} (h : bs.length = 6400) : ∀ r ∈ canon bs, RIn 40 r := RIn_all (isReg_canon h)
theorem cov_canon {zs : List Rect} (hr : ∀ r ∈ zs, RIn 40 r) {c : Pt} (hc : isC c) : cov (canon (bits zs)) c ↔ cov zs c := by
  have hcr := canon_RIn (bits_length zs)
  constructor
  · intro h
    obtain ⟨y, x, hy, hx, rfl⟩ := cov_bd hcr hc h
    rw [← gb_cov hy hx, bits_canon (bits_length _)] at h
    exact (gb_cov hy hx).1 h
  · intro h
    obtain ⟨y, x, hy, hx, rfl⟩ := cov_bd hr hc h
    rw [← gb_cov hy hx, bits_canon (bits_length _)]
    exact (gb_cov hy hx).2 h
theorem sigO_eq {ar bs : List Rect} (ha : 0 < ar.length) (hb : 0 < bs.length) (hra : ∀ r ∈ ar, RIn 40 r) (hrb : ∀ r ∈ bs, RIn 40 r) {dx dy : Int} (h : ∀ c, isC c → (cov bs ⟨c.x + 2 * dx, c.y + 2 * dy⟩ ↔ cov ar c)) : bits (shifted bs) = bits (shifted ar) := by
  have h1 := box_le ha hra (b := bs) (dx := dx) (dy := dy) fun c hc h' => (h c hc).2 h'
  have h2 := box_le hb hrb (b := ar) (dx := -dx) (dy := -dy) fun c hc h' => by
    refine (h ⟨c.x + 2 * -dx, c.y + 2 * -dy⟩ ⟨by have := hc.1; simp only; omega, by have := hc.2; simp only; omega⟩).1 ?_
    simp only
    rwa [show (⟨c.x + 2 * -dx + 2 * dx, c.y + 2 * -dy + 2 * dy⟩ : Pt) = c by obtain ⟨x, y⟩ := c; rw [Pt.mk.injEq]; simp only; omega]
  have e1 : (boxL bs).x0 = (boxL ar).x0 + dx := by omega
  have e2 : (boxL bs).y0 = (boxL ar).y0 + dy := by omega
  refine bits_cov fun c hc => ?_
  rw [shifted, shifted, cov_shift, cov_shift, ← h _ (by obtain ⟨c1, c2⟩ := hc; exact ⟨by simp only; omega, by simp only; omega⟩), e1, e2]
  simp only
  rw [show (⟨c.x - 2 * (-40 - (boxL ar).x0) + 2 * dx, c.y - 2 * (-40 - (boxL ar).y0) + 2 * dy⟩ : Pt) = ⟨c.x - 2 * (-40 - ((boxL ar).x0 + dx)), c.y - 2 * (-40 - ((boxL ar).y0 + dy))⟩ by rw [Pt.mk.injEq]; omega]
theorem sigTo_le (xs : List Rect) : ∀ n k : Nat, k ≤ n → sigTo xs n ≤ sigO xs k
  | 0, k, h => by obtain rfl : k = 0 := by omega
                  exact Int.le_refl _
  | n + 1, k, h => by
    by_cases c : k = n + 1
    · subst c; simp only [sigTo]; exact Int.min_le_right _ _
    · have := sigTo_le xs n k (by omega)
      simp only [sigTo]; omega
theorem sigTo_att (xs : List Rect) : ∀ n : Nat, ∃ k : Nat, k ≤ n ∧ sigTo xs n = sigO xs k
  | 0 => ⟨0, Nat.le_refl _, rfl⟩
  | n + 1 => by
    obtain ⟨k, hk, e⟩ := sigTo_att xs n
    by_cases c : sigTo xs n ≤ sigO xs (n + 1)
    · exact ⟨k, by omega, by rw [← e]; simp only [sigTo]; omega⟩
    · exact ⟨n + 1, Nat.le_refl _, by simp only [sigTo]; push_cast; omega⟩
theorem sig_le {xs ys : List Rect} (h : ∀ o, OIn o → ∃ o2, OIn o2 ∧ sigO ys o = sigO xs o2) : sigTo xs 7 ≤ sigTo ys 7 := by
  obtain ⟨k, hk, e⟩ := sigTo_att ys 7
  obtain ⟨o2, ho, e2⟩ := h k ⟨by omega, by omega⟩
  rw [e, e2]
  have := sigTo_le xs 7 o2.toNat (by unfold OIn at ho; omega)
  rwa [show ((o2.toNat : Nat) : Int) = o2 by unfold OIn at ho; omega] at this
theorem sigO_moved {t : Trans} (ht : OIn t.o) {xs : List Rect} (h0 : 0 < xs.length) (hr : ∀ r ∈ xs, RIn 40 r) (hm : ∀ r ∈ xs, RIn 40 (moveR t r)) {o : Int} (ho : OIn o) : sigO (canon (bits (xs.map (moveR t)))) o = sigO xs (cmp o t.o) := by
  have hmr : ∀ r ∈ xs.map (moveR t), RIn 40 r := fun r h => by obtain ⟨q, hq, rfl⟩ := List.mem_map.1 h; exact hm q hq
  have hyr := canon_RIn (bits_length (xs.map (moveR t)))
  have hyn : 0 < (canon (bits (xs.map (moveR t)))).length := by
    rw [List.length_pos_iff]
    intro e
    obtain ⟨h1, h2, h3, h4, h5, h6⟩ := hmr (moveR t (gd xs 0)) (List.mem_map.2 ⟨_, gdm h0, rfl⟩)
    have : cov (canon (bits (xs.map (moveR t)))) ⟨2 * (moveR t (gd xs 0)).x0 + 1, 2 * (moveR t (gd xs 0)).y0 + 1⟩ := (cov_canon hmr ⟨by simp only; omega, by simp only; omega⟩).2 ⟨_, List.mem_map.2 ⟨_, gdm h0, rfl⟩, by simp only [inC]; omega⟩
    rw [e] at this
    obtain ⟨r, hr', _⟩ := this
    cases hr'
  rw [sigO, sigO]
  rw [sigO_eq (ar := imgs xs (cmp o t.o)) (bs := imgs (canon (bits (xs.map (moveR t)))) o) (dx := (turnP o ⟨t.x, t.y⟩).x) (dy := (turnP o ⟨t.x, t.y⟩).y) (by simpa [imgs] using h0) (by simpa [imgs] using hyn) (imgs_in cmp_in hr) (imgs_in ho hyr)]
  intro c hc
  have i2 : OIn (inv (cmp o t.o)) := inv_in cmp_in
  have ec : turnP (cmp o t.o) (turnP (inv (cmp o t.o)) c) = c := turn_inv cmp_in c
  have hd := isC_turn i2 hc
  generalize turnP (inv (cmp o t.o)) c = d at ec hd
  have e1 : cov (imgs xs (cmp o t.o)) c ↔ cov xs d := by
    have := cov_move (t := ⟨cmp o t.o, 0, 0⟩) cmp_in hr d
    rwa [mv2, show ((⟨(turnP (cmp o t.o) d).x + 2 * 0, (turnP (cmp o t.o) d).y + 2 * 0⟩ : Pt)) = c by rw [ec]; obtain ⟨x, y⟩ := c; simp] at this
  have e2 : cov (imgs (canon (bits (xs.map (moveR t)))) o) ⟨c.x + 2 * (turnP o ⟨t.x, t.y⟩).x, c.y + 2 * (turnP o ⟨t.x, t.y⟩).y⟩ ↔ cov (canon (bits (xs.map (moveR t)))) (mv2 t d) := by
    have := cov_move (t := ⟨o, 0, 0⟩) ho hyr (mv2 t d)
    rwa [mv2, mv2, turn_lin ho, turn_cmp ho ht, ec, show ((⟨c.x + 2 * (turnP o ⟨t.x, t.y⟩).x + 2 * 0, c.y + 2 * (turnP o ⟨t.x, t.y⟩).y + 2 * 0⟩ : Pt)) = ⟨c.x + 2 * (turnP o ⟨t.x, t.y⟩).x, c.y + 2 * (turnP o ⟨t.x, t.y⟩).y⟩ by simp] at this
  rw [e1, e2, cov_canon hmr (isC_mv2 ht hd), cov_move ht hr]
theorem sig_moved {t : Trans} (ht : OIn t.o) {xs : List Rect} (hreg : isReg xs = true) (hok : movedOk t xs = true) : regSig (movedR t xs) = regSig xs := by
  have hr := RIn_all hreg
  have hm : ∀ r ∈ xs, RIn 40 (moveR t r) := fun r h => by
    rw [movedOk, List.all_eq_true] at hok
    exact RIn_valid.1 (hok r h)
  have e : movedR t xs = canon (bits (xs.map (moveR t))) := by rw [movedR, hok]; rfl
  rw [e]
  rcases Nat.eq_zero_or_pos xs.length with h0 | h0
  · rw [List.length_eq_zero_iff] at h0; subst h0
    have : canon (bits ([].map (moveR t))) = canon (bits []) := rfl
    rw [this, isReg_eq hreg]
  have h2 := isReg_canon (bits_length (xs.map (moveR t)))
  have hyn : 0 < (canon (bits (xs.map (moveR t)))).length := by
    rw [List.length_pos_iff]
    intro e
    obtain ⟨h1, h2, h3, h4, h5, h6⟩ := hm _ (gdm h0)
    have : cov (canon (bits (xs.map (moveR t)))) ⟨2 * (moveR t (gd xs 0)).x0 + 1, 2 * (moveR t (gd xs 0)).y0 + 1⟩ := (cov_canon (fun r h => by obtain ⟨q, hq, rfl⟩ := List.mem_map.1 h; exact hm q hq) ⟨by simp only; omega, by simp only; omega⟩).2 ⟨_, List.mem_map.2 ⟨_, gdm h0, rfl⟩, by simp only [inC]; omega⟩
    rw [e] at this
    obtain ⟨r, hr', _⟩ := this
    cases hr'
  rw [regSig, regSig, hreg, h2, decide_eq_true h0, decide_eq_true hyn]
  simp only [Bool.and_self, cond_true]
  refine Int.le_antisymm ?_ ?_
  · refine sig_le fun o ho => ?_
    obtain ⟨o1, h1, e1⟩ := cmp_sur ht ho
    exact ⟨o1, h1, by rw [sigO_moved ht h0 hr hm h1, e1]⟩
  · exact sig_le fun o ho => ⟨cmp o t.o, cmp_in, sigO_moved ht h0 hr hm ho⟩
end Go.Proofs.YtpjajhjcbcfplaaGreat
namespace Go.Proofs.YtpjajhjcbcfplaaGreat
set_option linter.unusedVariables false
set_option linter.unusedSimpArgs false
open Go
set_option maxRecDepth 20000
set_option linter.unusedSimpArgs false
variable {G : Gh} {L : List Ch} {R : Value → Gh → List Ch → Prop}
theorem copyRects_s {v : Value} {xs : List Rect} (h1 : Rs G L rectT v xs) (hb : xs.length ≤ 1048576) (k : ∀ v', R v' G (osl 71 rectT v' xs :: L)) : CallT Tryz.prog 25 #[v] G L R := by
  refine CallT.enter (args := _) Tryz.func25 rfl rfl (by kernel_rfl) rfl ?_
  refine WP.seq ?_
  refine WP.region ?_
  refine RG.pv rfl (PV.asg rfl rfl) ?_
  refine RG.nil ?_
  refine WP.seq ?_
  refine WP.region ?_
  refine RG.ot rfl (OT.bslice (F := rectT) (els := []) rfl El28 rfl (by decide) rfl (by decide) trivial fun v3 => ?_)
  refine RG.pv rfl (PV.move (v := v) rfl rfl) ?_
  refine RG.ot rfl (OT.append (v := v3) (u := v) (F := rectT) rfl El28 rfl (by decide) rfl rfl (Rs.up h1) (OneL.c (fun _ => rfl)) rfl (by first | omega | (simp <;> omega)) fun v5 => ?_)
  refine RG.pv rfl (PV.asg (v := v5) rfl rfl) ?_
  refine RG.nil ?_
  refine WP.ret ?_
  exact ⟨_, _, ResV.one rfl rfl, (Cv.eqS (List.nil_append _)), k v5⟩
def validT (t : Trans) : Bool := within t.o 0 7 && (within t.x (-80) 80 && within t.y (-80) 80)
theorem validT_iff {t : Trans} : validT t = true ↔ (0 ≤ t.o ∧ t.o ≤ 7) ∧ (-80 ≤ t.x ∧ t.x ≤ 80) ∧ -80 ≤ t.y ∧ t.y ≤ 80 := by
  simp only [validT, within, Bool.and_eq_true, decide_eq_true_eq]
def mvOk (t : Trans) (xs : List Rect) : Bool := validT t && isReg xs && movedOk t xs
def mvR (t : Trans) (xs : List Rect) : List Rect := bif validT t && isReg xs then movedR t xs else []
end Go.Proofs.YtpjajhjcbcfplaaGreat
namespace Go.Proofs.YtpjajhjcbcfplaaGreat
set_option linter.unusedVariables false
set_option linter.unusedSimpArgs false
open Go
set_option maxRecDepth 20000
set_option linter.unusedSimpArgs false
variable {G : Gh} {L : List Ch} {R : Value → Gh → List Ch → Prop}
theorem canon_empty {bs : List Bool} (hl : bs.length = 6400) : canon bs = [] ↔ ∀ y x, y < 80 → x < 80 → gb bs y x = false := by
  constructor
  · intro h y x hy hx
    have := canon_any (bs := bs) hy hx
    rw [h] at this
    simpa using this.symm
  · intro h
    cases e : canon bs with
    | nil => rfl
    | cons r rs =>
      exfalso
      have hr := RIn_all (isReg_canon hl) r (by rw [e]; exact .head _)
      obtain ⟨h1, h2, h3, h4, h5, h6⟩ := hr
      have hy : (r.y0 + 40).toNat < 80 := by omega
      have hx : (r.x0 + 40).toNat < 80 := by omega
      have := canon_any (bs := bs) hy hx
      rw [h _ _ hy hx, e, List.any_cons, inR_iff.2 (by omega)] at this
      simp at this
theorem chg_nil {l m : List (List Rect)} (hl : isLay l = true) (hm : isLay m = true) : decide (((chgR l m).length : Int) = 0) = decide (l = m) := by
  have e : chgR l m = canon (orL l m [0, 1, 2, 3, 4, 5, 6, 7]) := by rw [chgR, hl, hm]; rfl
  rw [e, decide_eq_decide]
  have e0 : ((canon (orL l m [0, 1, 2, 3, 4, 5, 6, 7])).length : Int) = 0 ↔ canon (orL l m [0, 1, 2, 3, 4, 5, 6, 7]) = [] := by
    rw [← List.length_eq_zero_iff]; omega
  rw [e0, canon_empty (orL_len _ _ _)]
  constructor
  · intro h
    refine List.ext_getElem? fun i => ?_
    by_cases hi : i < 8
    · rw [getG (by rw [isLay_len hl]; exact hi), getG (by rw [isLay_len hm]; exact hi)]
      rw [← isReg_eq (isLay_reg hl hi), ← isReg_eq (isLay_reg hm hi)]
      have : bits (gd l i) = bits (gd m i) := gb_ext (bits_length _) (bits_length _) fun y x hy hx => by
        have h1 := h y x hy hx
        rw [gb_orL _ _ _ hy hx, List.any_eq_false] at h1
        have h2 := h1 i (by simp only [List.mem_cons, List.not_mem_nil]; omega)
        rw [chgB, gb_zip (bits_length _) (bits_length _) hy hx] at h2
        simpa using h2
      rw [this]
    · rw [List.getElem?_eq_none (by rw [isLay_len hl]; omega), List.getElem?_eq_none (by rw [isLay_len hm]; omega)]
  · rintro rfl y x hy hx
    rw [gb_orL _ _ _ hy hx, List.any_eq_false]
    intro k _
    rw [chgB, gb_zip (bits_length _) (bits_length _) hy hx]
    simp
theorem chg_covers {l m : List (List Rect)} (hl : isLay l = true) (hm : isLay m = true) {k : Nat} (hk : k < 8) {y x : Nat} (hy : y < 80) (hx : x < 80) (h : gb (bits (opR (fun p q => p != q) (gd l k) (gd m k))) y x = true) : gb (bits (chgR l m)) y x = true := by
  have e : chgR l m = canon (orL l m [0, 1, 2, 3, 4, 5, 6, 7]) := by rw [chgR, hl, hm]; rfl
  rw [e, bits_canon (orL_len _ _ _), gb_orL _ _ _ hy hx, List.any_eq_true]
  rw [opR, isLay_reg hl hk, isLay_reg hm hk] at h
  simp only [Bool.and_self, cond_true] at h
  rw [bits_canon (zipB_len (bits_length _) (bits_length _))] at h
  exact ⟨k, by simp only [List.mem_cons, List.not_mem_nil]; omega, h⟩
theorem unitCell2_s {p : Pt} (k : R (.bool (within p.x (-40) 39 && within p.y (-40) 39)) G L) : CallT Tryz.prog 218 #[vpt p] G L R := by
  refine CallT.enter (args := _) Tryz.func218 rfl rfl (by kernel_rfl) rfl ?_
  refine WP.seq ?_
  refine WP.region ?_
  refine RG.ot rfl (OT.box (cs := ptT.enc p) rfl rfl rfl fun b1 => ?_)
  refine RG.pv rfl (PV.mvB (.inr rfl) rfl) ?_
  refine RG.nil ?_
  refine WP.seq ?_
  refine WP.region ?_
  refine RG.pv rfl (PV.field rfl Fo168_0 rfl) ?_
  refine RG.pv rfl (PV.load1 rfl Sc2 rfl (Rd.blk rfl)) ?_
  refine RG.callF (vs := [_, _, _]) rfl rfl En92 rfl (within_s ?_)
  refine RG.pv rfl (PV.mvB (.inl rfl) rfl) ?_
  refine RG.gs rfl rfl rfl (fun hp => (PV.field rfl Fo168_1 rfl)) ?_
  refine RG.gs rfl rfl rfl (fun hp => (PV.load1 rfl Sc2 (gs_t hp) (Rd.blk rfl))) ?_
  refine RG.gsC rfl rfl rfl rfl En92 (fun hp => ⟨_, (acons (gs_t hp) (acons rfl (acons rfl anil))), within_s ⟨rfl, rfl, rfl⟩⟩) ?_
  refine RG.pv rfl (PV.pickA rfl rfl (fun hq => gs_t (geqT hq)) rfl) ?_
  refine RG.pv rfl (PV.mvB (.inr rfl) rfl) ?_
  refine RG.nil ?_
  refine WP.ret ?_
  exact ⟨_, _, ResV.one rfl rfl, Cv.p, k⟩
theorem has2_s {b : Nat} {D : List Bool} {x y : Int} (hD : D.length = 6400) (hx : -40 ≤ x ∧ x < 40 ∧ -40 ≤ y ∧ y < 40) (k : R (.bool (gb D (y + 40).toNat (x + 40).toNat)) G (grd b D :: L)) : CallT Tryz.prog 189 #[.pointer (some ⟨b, 0, none⟩), vi x, vi y] G (grd b D :: L) R := by
  have e : gb D (y + 40).toNat (x + 40).toNat = (within x (-40) 39 && within y (-40) 39 && gd D (0 + (y + 40).toNat * 80 + (x + 40).toNat * 1)) := by
    rw [show within x (-40) 39 = true by simp [within]; omega, show within y (-40) 39 = true by simp [within]; omega, Nat.zero_add, Nat.mul_one]; rfl
  rw [e] at k
  refine CallT.enter (args := _) Tryz.func189 rfl rfl (by kernel_rfl) rfl ?_
  refine WP.seq ?_
  refine WP.region ?_
  refine RG.pv rfl (PV.mvB (.inr rfl) rfl) ?_
  refine RG.nil ?_
  refine WP.seq ?_
  refine WP.region ?_
  refine RG.pv rfl (PV.mvI (.inl rfl) rfl) ?_
  refine RG.pv rfl (PV.mvI (.inl rfl) rfl) ?_
  refine RG.pv rfl (PV.build (vs := [(0, [vi _]), (1, [vi _])]) (out := [_, _]) rfl Zr168 Pl168 ⟨rfl, (Cl.c rfl), ⟨rfl, (Cl.c rfl), trivial⟩⟩ rfl) ?_
  refine RG.callF (vs := [_]) rfl rfl En218 rfl (unitCell2_s (p := ⟨x, y⟩) ?_)
  refine RG.pv rfl (PV.mvB (.inl rfl) rfl) ?_
  refine RG.gs rfl rfl rfl (fun hp => (PV.mvP (.inl rfl) rfl)) ?_
  refine RG.gs rfl rfl rfl (fun hp => (PV.mvI (.inl rfl) rfl)) ?_
  refine RG.gs rfl rfl rfl (fun hp => (PV.add rfl (gs_t hp) rfl (by first | omega | (simp [within] at hp; omega)))) ?_
  refine RG.gs rfl rfl rfl (fun hp => (PV.mvI (.inl rfl) rfl)) ?_
  refine RG.gs rfl rfl rfl (fun hp => (PV.add rfl (gs_t hp) rfl (by first | omega | (simp [within] at hp; omega)))) ?_
  refine RG.gs rfl rfl rfl (fun hp => (PV.nilc rfl (gs_t hp))) ?_
  refine RG.gs rfl rfl rfl (fun hp => (PV.idxA (j := (y + 40).toNat) rfl Ia127 (gs_t hp) (gs_t hp) (by first | omega | (simp [within] at hp; omega)) (by first | omega | (simp [within] at hp; omega)))) ?_
  refine RG.gs rfl rfl rfl (fun hp => (PV.idxA (j := (x + 40).toNat) rfl Ia125 (gs_t hp) (gs_t hp) (by first | omega | (simp [within] at hp; omega)) (by first | omega | (simp [within] at hp; omega)))) ?_
  refine RG.gs rfl rfl rfl (fun hp => (PV.loadGr rfl Sc4 (gs_t hp) rfl (by first | omega | (simp [within] at hp; omega)))) ?_
  refine RG.pv rfl (PV.pickA rfl rfl (fun hq => gs_t (geqT hq)) rfl) ?_
  refine RG.pv rfl (PV.mvB (.inr rfl) rfl) ?_
  refine RG.nil ?_
  refine WP.ret ?_
  exact ⟨_, _, ResV.one rfl rfl, Cv.p, k⟩
theorem copyLayers_s {v : Value} {xs : List (Sl Rect)} (h1 : Rs G L slT v xs) (hd : RsE G L rectT xs) (hl : xs.length ≤ 100) (hb : ∀ i, i < xs.length → (gd xs i).xs.length ≤ 1048576) (k : ∀ v' ys, er ys = er xs → R v' G (osl 28 slT v' ys :: bagS 71 rectT ys :: L)) : CallT Tryz.prog 23 #[v] G L R := by
  refine CallT.enter (args := _) Tryz.func23 rfl rfl (by kernel_rfl) rfl ?_
  refine WP.seq ?_
  refine WP.region ?_
  refine RG.pv rfl (PV.asg rfl rfl) ?_
  refine RG.nil ?_
  refine WP.seq ?_
  refine WP.region ?_
  refine RG.ot rfl (OT.bslice (F := (slT (α := Rect))) (els := []) rfl El32 rfl (by decide) rfl (by decide) trivial fun v5 => ?_)
  refine RG.pv rfl (PV.asg (v := v5) rfl rfl) ?_
  refine RG.nil ?_
  refine WP.seq ?_
  refine WP.seq ?_
  refine WP.region ?_
  refine RG.pv rfl (PV.mvI (.inr rfl) rfl) ?_
  refine RG.nil ?_
  refine WP.block ?_
  refine WP.cv ((Cv.p (C := osl 28 slT v5 ([] : List (Sl Rect)) :: L)).trans (Cv.cons (Cv.bag0 (e := 71) (F := rectT) (xs := []) rfl))) ?_
  refine WP.loop3 [0] (fun (i : Nat) (ys : List (Sl Rect)) (q : Value) => i ≤ xs.length ∧ er ys = (er xs).take i) (fun (i : Nat) (ys : List (Sl Rect)) (q : Value) => [(4, vi i), (3, q)]) (fun (i : Nat) (ys : List (Sl Rect)) (q : Value) => osl 28 slT q ys :: bagS 71 rectT ys :: L) (fun (i : Nat) (ys : List (Sl Rect)) (q : Value) => xs.length - i) 0 [] v5 ⟨by omega, rfl⟩ ⟨rfl, rfl, trivial⟩ Cv.p ?_
  rintro i ys q τ ⟨hi, hys⟩
  refine WP.seq ?_
  refine WP.seq ?_
  refine WP.region ?_
  refine RG.pv rfl (PV.mvI (.inl rfl) rfl) ?_
  refine RG.pv rfl (PV.move (v := v) rfl rfl) ?_
  refine RG.pv rfl (PV.len (v := v) rfl Tryz.underlying32 rfl (SlF.r h1)) ?_
  refine RG.pv rfl (PV.lss rfl rfl rfl) ?_
  refine RG.nil ?_
  have hyl : ys.length = i := by
    have := congrArg List.length hys
    rw [er_len, List.length_take, er_len] at this; omega
  refine WP.cond rfl (fun h4 => ?_) (fun h4 => ?_)
  · have h4 := of_decide_eq_true h4
    have h5 : i < xs.length := by omega
    refine WP.skip ?_
    refine WP.seq ?_
    refine WP.block ?_
    refine WP.region ?_
    refine RG.pv rfl (PV.move (v := q) rfl rfl) ?_
    refine RG.pv rfl (PV.move (v := v) rfl rfl) ?_
    refine RG.pv rfl (PV.mvI (.inl rfl) rfl) ?_
    refine RG.pv rfl (PV.idxS (v := v) rfl Is32 rfl (SlF.r h1) rfl rfl (by omega)) ?_
    refine RG.pv rfl (PV.loadE1 rfl Sc28 rfl rfl (El.r h1 (getG (by omega))) rfl) ?_
    refine RG.callF (vs := [_]) rfl rfl En25 rfl (copyRects_s (Rs.up (hd i (by omega))) (hb _ (by omega)) (fun v17 => ?_))
    refine RG.ot rfl (OT.bslice (F := (slT (α := Rect))) (els := [⟨v17, (gd xs i).xs⟩]) rfl El32 rfl (by decide) rfl (by decide) ⟨rfl, (Cl.s (v := v17) SlF.o), trivial⟩ fun v18 => ?_)
    refine RG.ot rfl (OT.append (v := q) (u := v18) (F := (slT (α := Rect))) rfl El32 rfl (by decide) rfl rfl Rs.o (OneL.one (OneC.sl SlF.o OneC.nil)) rfl (by first | omega | (simp <;> omega)) fun v19 => ?_)
    refine RG.pv rfl (PV.asg (v := v19) rfl rfl) ?_
    refine RG.nil ?_
    refine WP.region ?_
    refine RG.pv rfl (PV.mvI (.inl rfl) rfl) ?_
    refine RG.pv rfl (PV.add rfl rfl rfl (by omega)) ?_
    refine RG.pv rfl (PV.mvI (.inr rfl) rfl) ?_
    refine RG.nil ?_
    refine ⟨rfl, i + 1, (ys ++ [⟨v17, (gd xs i).xs⟩]), v19, ⟨by omega, ?_⟩, ⟨rfl, rfl, trivial⟩, ⟨rfl, trivial⟩, ((Cv.p (C := osl 28 slT v19 (ys ++ [⟨v17, (gd xs i).xs⟩]) :: osl 71 rectT v17 (gd xs i).xs :: bagS 71 rectT ys :: L)).trans (Cv.cons Cv.bagS_add)), by omega⟩
    rw [List.take_add_one, getG (by rw [er_len]; omega), er_gd, ← hys]; simp [er]
  · have h4 := of_decide_eq_false h4
    have e2 : er ys = er xs := by rw [hys, List.take_of_length_le (by rw [er_len]; omega)]
    refine WP.exit ?_
    refine WP.seq ?_
    refine WP.region ?_
    refine RG.pv rfl (PV.move (v := q) rfl rfl) ?_
    refine RG.pv rfl (PV.asg (v := q) rfl rfl) ?_
    refine RG.nil ?_
    refine WP.ret ?_
    exact ⟨_, _, ResV.one rfl rfl, Cv.p, k q ys e2⟩
theorem sameRs_s {v u : Value} {xs ys : List Rect} (h1 : Rs G L rectT v xs) (h2 : Rs G L rectT u ys) (k : R (.bool (decide (xs = ys))) G L) : CallT Tryz.prog 26 #[v, u] G L R := by
  refine CallT.bd h1 fun hb => ?_
  refine CallT.bd h2 fun hb' => ?_
  refine CallT.enter (args := _) Tryz.func26 rfl rfl (by kernel_rfl) rfl ?_
  refine WP.seq ?_
  refine WP.region ?_
  refine RG.pv rfl (PV.mvB (.inr rfl) rfl) ?_
  refine RG.nil ?_
  refine WP.seq ?_
  refine WP.seq ?_
  refine WP.region ?_
  refine RG.pv rfl (PV.move (v := v) rfl rfl) ?_
  refine RG.pv rfl (PV.len (v := v) rfl Tryz.underlying28 rfl (SlF.r h1)) ?_
  refine RG.pv rfl (PV.move (v := u) rfl rfl) ?_
  refine RG.pv rfl (PV.len (v := u) rfl Tryz.underlying28 rfl (SlF.r h2)) ?_
  refine RG.pv rfl (PV.neq rfl rfl rfl) ?_
  refine RG.nil ?_
  refine WP.cond rfl (fun h3 => ?_) (fun h3 => ?_)
  · have e : decide (xs = ys) = false := by
      rw [decide_eq_false_iff_not]; rintro rfl; simp at h3
    rw [e] at k
    refine WP.seq ?_
    refine WP.region ?_
    refine RG.pv rfl (PV.mvB (.inr rfl) rfl) ?_
    refine RG.nil ?_
    refine WP.ret ?_
    exact ⟨_, _, ResV.one rfl rfl, Cv.p, k⟩
  · have hl : xs.length = ys.length := by simp at h3; omega
    refine WP.skip ?_
    refine WP.seq ?_
    refine WP.seq ?_
    refine WP.region ?_
    refine RG.pv rfl (PV.mvI (.inr rfl) rfl) ?_
    refine RG.nil ?_
    refine WP.block ?_
    refine WP.loop1 [0, 1] (fun i => i ≤ xs.length ∧ ∀ j, j < i → xs[j]? = ys[j]?) (fun i => [(5, vi i)]) (fun i => L) (fun i => xs.length - i) 0 ⟨by omega, fun j h => by omega⟩ ⟨rfl, trivial⟩ Cv.p ?_
    rintro i τ ⟨hi, he⟩
    refine WP.seq ?_
    refine WP.seq ?_
    refine WP.region ?_
    refine RG.pv rfl (PV.mvI (.inl rfl) rfl) ?_
    refine RG.pv rfl (PV.move (v := v) rfl rfl) ?_
    refine RG.pv rfl (PV.len (v := v) rfl Tryz.underlying28 rfl (SlF.r h1)) ?_
    refine RG.pv rfl (PV.lss rfl rfl rfl) ?_
    refine RG.nil ?_
    refine WP.cond rfl (fun h4 => ?_) (fun h4 => ?_)
    · have h4 := of_decide_eq_true h4
      have h5 : i < xs.length := by omega
      refine WP.skip ?_
      refine WP.seq ?_
      refine WP.block ?_
      refine WP.seq ?_
      refine WP.regionQ (by kernel_rfl) (by kernel_rfl) ?_
      refine RQ.pv rfl (PV.move (v := v) rfl rfl) ?_
      refine RQ.pv rfl (PV.mvI (.inl rfl) rfl) ?_
      refine RQ.pv rfl (PV.idxS (v := v) rfl Is28 rfl (SlF.r h1) rfl rfl (by omega)) ?_
      refine RQ.pv rfl (PV.loadE rfl Ag71 rfl rfl (El.r h1 (getG (by omega)))) ?_
      refine RQ.pv rfl (PV.move (v := u) rfl rfl) ?_
      refine RQ.pv rfl (PV.mvI (.inl rfl) rfl) ?_
      refine RQ.pv rfl (PV.idxS (v := u) rfl Is28 rfl (SlF.r h2) rfl rfl (by omega)) ?_
      refine RQ.pv rfl (PV.loadE rfl Ag71 rfl rfl (El.r h2 (getG (by omega)))) ?_
      refine RQ.pv rfl (PV.neqT rfl Eq71 rfl rfl) ?_
      refine RQ.nil ?_
      refine WP.cond rfl (fun h6 => ?_) (fun h6 => ?_)
      · have e : decide (xs = ys) = false := by
          rw [decide_eq_false_iff_not]; rintro rfl; simp at h6
        rw [e] at k
        refine WP.seq ?_
        refine WP.region ?_
        refine RG.pv rfl (PV.mvB (.inr rfl) rfl) ?_
        refine RG.nil ?_
        refine WP.ret ?_
        exact ⟨_, _, ResV.one rfl rfl, Cv.p, k⟩
      · have e : gd xs i = gd ys i := by simpa using h6
        have he' : ∀ j, j < i + 1 → xs[j]? = ys[j]? := fun j h => by
          by_cases c : j = i
          · rw [c, getG h5, getG (show i < ys.length by omega), e]
          · exact he j (by omega)
        refine WP.skip ?_
        refine WP.region ?_
        refine RG.pv rfl (PV.mvI (.inl rfl) rfl) ?_
        refine RG.pv rfl (PV.add rfl rfl rfl (by omega)) ?_
        refine RG.pv rfl (PV.mvI (.inr rfl) rfl) ?_
        refine RG.nil ?_
        exact ⟨rfl, i + 1, ⟨by omega, he'⟩, ⟨rfl, trivial⟩, ⟨rfl, rfl, trivial⟩, Cv.p, by omega⟩
    · have h4 := of_decide_eq_false h4
      have e : decide (xs = ys) = true := by
        rw [decide_eq_true_iff]; exact pre_eq he hl (by omega)
      rw [e] at k
      refine WP.exit ?_
      refine WP.seq ?_
      refine WP.region ?_
      refine RG.pv rfl (PV.mvB (.inr rfl) rfl) ?_
      refine RG.nil ?_
      refine WP.ret ?_
      exact ⟨_, _, ResV.one rfl rfl, Cv.p, k⟩
end Go.Proofs.YtpjajhjcbcfplaaGreat
namespace Go.Proofs.YtpjajhjcbcfplaaGreat
set_option linter.unusedVariables false
set_option linter.unusedSimpArgs false
open Go
set_option maxRecDepth 20000
set_option linter.unusedSimpArgs false
variable {G : Gh} {L : List Ch} {R : Value → Gh → List Ch → Prop}
theorem drawn_hd2 {e e' : TypeId} {v0 : Value} {xs ys : List (Sl Rect)} (h : ∀ s ∈ xs, s ∈ ys) : RsE G [osl e' slT v0 ys, bagS e rectT ys] rectT xs := fun _ hi => Rs.memB (h _ (by rw [gd_eq hi]; exact List.getElem_mem _))
theorem one_valid {r : Rect} (h : validRect r = true) : ∀ i, i < [r].length → validRect (gd [r] i) = true := fun i hi => by
  obtain rfl : i = 0 := by simpa using hi
  simpa [gd] using h
def Regs (ys : List (Sl Rect)) : Prop := ∀ s ∈ ys, isReg s.xs = true
theorem Regs.set {ys : List (Sl Rect)} (h : Regs ys) {i : Nat} {v : Value} {xs : List Rect} (hx : isReg xs = true) : Regs (ys.set i ⟨v, xs⟩) := fun s hs => by
  rcases List.mem_or_eq_of_mem_set hs with h1 | rfl
  · exact h s h1
  · exact hx
theorem Regs.gd {ys : List (Sl Rect)} (h : Regs ys) {i : Nat} (hi : i < ys.length) : isReg (gd ys i).xs = true := h _ (by rw [gd_eq hi]; exact List.getElem_mem _)
theorem isReg_nil : isReg [] = true := by
  have h : canon (bits []) = [] := (canon_empty (bits_length _)).2 fun y x hy hx => by rw [gb_bits' _ hy hx]; rfl
  have := isReg_canon (bits_length [])
  rwa [h] at this
theorem Cv.nils {e : TypeId} {F : FT Rect} {L : List Ch} : ∀ n : Nat, Cv L (bagS e F (List.replicate n (default : Sl Rect)) :: L)
  | 0 => Cv.bag0 rfl
  | n + 1 => by
    rw [List.replicate_succ']
    exact (Cv.nils n).trans (Cv.nilS.trans Cv.bagS_add)
theorem drawLayers_s {b : Nat} {cv : Value} {bs : List UInt8} (hcode : SL G byteT cv bs) (k : ∀ v ys, ys.length = 8 → Regs ys → R v G (osl 28 slT v ys :: bagS 71 rectT ys :: src b cv :: L)) : CallT Tryz.prog 102 #[.pointer (some ⟨b, 0, none⟩)] G (src b cv :: L) R := by
  refine CallT.enter (args := _) Tryz.func102 rfl rfl (by kernel_rfl) rfl ?_
  refine WP.seq ?_
  refine WP.region ?_
  refine RG.pv rfl (PV.asg rfl rfl) ?_
  refine RG.nil ?_
  refine WP.seq ?_
  refine WP.region ?_
  refine RG.ot rfl (OT.make (m := 8) (F := (slT (α := Rect))) (a0 := default) rfl El32 rfl (by decide) rfl rfl (by omega) (by omega) fun v5 => ?_)
  refine RG.pv rfl (PV.asg (v := v5) rfl rfl) ?_
  refine RG.nil ?_
  refine WP.seq ?_
  refine WP.seq ?_
  refine WP.region ?_
  refine RG.pv rfl (PV.move rfl rfl) ?_
  refine RG.callF (vs := [_, _]) rfl rfl En66 rfl (CallT.exC (src b cv) (next_s hcode (by omega) (fun w7 hw7 => ?_)))
  refine RG.pv rfl (PV.add rfl rfl rfl (by omega)) ?_
  refine RG.pv rfl (PV.mvI (.inr rfl) rfl) ?_
  refine RG.nil ?_
  refine WP.block ?_
  refine WP.cv ((Cv.p (C := osl 28 slT v5 (List.replicate 8 (default : Sl Rect)) :: src b cv :: L)).trans (Cv.cons (Cv.nils (e := 71) (F := rectT) 8))) ?_
  refine WP.loop2 [0, 3] (fun (j : Int) (ys : List (Sl Rect)) => j ≤ 10 ∧ ys.length = 8 ∧ Regs ys) (fun (j : Int) (ys : List (Sl Rect)) => [(4, vi j)]) (fun (j : Int) (ys : List (Sl Rect)) => osl 28 slT v5 ys :: bagS 71 rectT ys :: src b cv :: L) (fun (j : Int) (ys : List (Sl Rect)) => j.toNat) (w7 + 1) (List.replicate 8 (default : Sl Rect)) ⟨by omega, rfl, fun s hs => by rw [List.eq_of_mem_replicate hs]; exact isReg_nil⟩ ⟨rfl, trivial⟩ Cv.p ?_
  rintro j ys τ ⟨hj, hyl, hyr⟩
  refine WP.seq ?_
  refine WP.seq ?_
  refine WP.region ?_
  refine RG.pv rfl (PV.mvI (.inl rfl) rfl) ?_
  refine RG.pv rfl (PV.gtr rfl rfl rfl) ?_
  refine RG.nil ?_
  refine WP.cond rfl (fun h2 => ?_) (fun h2 => ?_)
  · have h2 := of_decide_eq_true h2
    refine WP.skip ?_
    refine WP.seq ?_
    refine WP.block ?_
    refine WP.region ?_
    refine RG.pv rfl (PV.move (v := v5) rfl rfl) ?_
    refine RG.pv rfl (PV.move rfl rfl) ?_
    refine RG.callF (vs := [_, _]) rfl rfl En66 rfl (CallT.exC (src b cv) (next_s hcode (by omega) (fun w15 hw15 => ?_)))
    refine RG.pv rfl (PV.move rfl rfl) ?_
    refine RG.callF (vs := [_]) rfl rfl En161 rfl (CallT.exC (src b cv) (drawRegion_s hcode (fun v17 xsv17 hregv17 => ?_)))
    refine RG.pv rfl (PV.idxS (j := w15.toNat) (v := v5) rfl Is32 rfl SlF.o rfl (by omega) (by omega)) ?_
    refine RG.ot rfl (OT.storeE (v := v17) (a := ⟨v17, xsv17⟩) (F := (slT (α := Rect))) rfl Sz28 rfl rfl rfl (Cl.s (v := v17) SlF.o) (OneC.sl SlF.o OneC.nil) (by omega) ?_)
    refine RG.nil ?_
    refine WP.region ?_
    refine RG.pv rfl (PV.mvI (.inl rfl) rfl) ?_
    refine RG.pv rfl (PV.sub rfl rfl rfl (by omega)) ?_
    refine RG.pv rfl (PV.mvI (.inr rfl) rfl) ?_
    refine RG.nil ?_
    exact ⟨rfl, j - 1, (ys.set w15.toNat ⟨v17, xsv17⟩), ⟨by omega, by simpa using hyl, hyr.set hregv17⟩, ⟨rfl, trivial⟩, ⟨rfl, rfl, trivial⟩, ((Cv.p (C := osl 71 rectT v17 xsv17 :: bagS 71 rectT ys :: osl 28 slT v5 (ys.set w15.toNat ⟨v17, xsv17⟩) :: src b cv :: L)).trans ((Cv.bagSet w15.toNat (by omega)).trans Cv.p)), by omega⟩
  · refine WP.exit ?_
    refine WP.seq ?_
    refine WP.region ?_
    refine RG.pv rfl (PV.move (v := v5) rfl rfl) ?_
    refine RG.pv rfl (PV.asg (v := v5) rfl rfl) ?_
    refine RG.nil ?_
    refine WP.ret ?_
    exact ⟨_, _, ResV.one rfl rfl, Cv.p, k v5 ys hyl hyr⟩
theorem l04Op_w {v u : Value} {xs ys : List Rect} {op : Int} (h1 : Rs G L rectT v xs) (h2 : Rs G L rectT u ys) (hx : ∀ i, i < xs.length → validRect (gd xs i) = true) (hy : ∀ i, i < ys.length → validRect (gd ys i) = true) (hop : 0 ≤ op ∧ op ≤ 15) (k : ∀ v' zs, isReg zs = true → R v' G (osl 71 rectT v' zs :: L)) : CallT Tryz.prog 103 #[v, u, vi op] G L R := by
  refine CallT.enter (args := _) Tryz.func103 rfl rfl (by kernel_rfl) rfl ?_
  refine WP.seq ?_
  refine WP.region ?_
  refine RG.pv rfl (PV.asg rfl rfl) ?_
  refine RG.nil ?_
  refine WP.seq ?_
  refine WP.region ?_
  refine RG.pv rfl (PV.move (v := v) rfl rfl) ?_
  refine RG.callF (vs := [v]) rfl rfl En89 rfl (l03Bits_s (Rs.up h1) hx (fun v8 => ?_))
  refine RG.pv rfl (PV.move (v := u) rfl rfl) ?_
  refine RG.callF (vs := [u]) rfl rfl En89 rfl (l03Bits_s (Rs.up h2) hy (fun v10 => ?_))
  refine RG.pv rfl (PV.mvI (.inl rfl) rfl) ?_
  refine RG.callF (vs := [v8, v10, _]) rfl rfl En162 rfl (l04Combine_s Rs.o Rs.o (bits_length _) (bits_length _) hop (fun v12 => ?_))
  refine RG.callF (vs := [v12]) rfl rfl En88 rfl (l03Canon_s Rs.o (zipB_len (bits_length _) (bits_length _)) (fun v13 => ?_))
  refine RG.pv rfl (PV.asg (v := v13) rfl rfl) ?_
  refine RG.nil ?_
  refine WP.ret ?_
  exact ⟨_, _, ResV.one rfl rfl, Cv.p, k v13 (canon (zipB (opF op) (bits xs) (bits ys))) (isReg_canon (zipB_len (bits_length _) (bits_length _)))⟩
theorem drawEdit_s {b : Nat} {cv : Value} {bs : List UInt8} (hcode : SL G byteT cv bs) (k : ∀ v w ys zs, ys.length = 8 → zs.length = 8 → Regs ys → Regs zs → R (.tuple #[v, w]) G (osl 28 slT w zs :: bagS 71 rectT zs :: osl 28 slT v ys :: bagS 71 rectT ys :: src b cv :: L)) : CallT Tryz.prog 45 #[.pointer (some ⟨b, 0, none⟩)] G (src b cv :: L) R := by
  refine CallT.enter (args := _) Tryz.func45 rfl rfl (by kernel_rfl) rfl ?_
  refine WP.seq ?_
  refine WP.region ?_
  refine RG.pv rfl (PV.asg rfl rfl) ?_
  refine RG.pv rfl (PV.asg rfl rfl) ?_
  refine RG.nil ?_
  refine WP.seq ?_
  refine WP.region ?_
  refine RG.pv rfl (PV.move rfl rfl) ?_
  refine RG.callF (vs := [_]) rfl rfl En102 rfl (CallT.exC (src b cv) (drawLayers_s hcode (fun v11 ys hyl hyr => ?_)))
  refine RG.pv rfl (PV.asg (v := v11) rfl rfl) ?_
  refine RG.nil ?_
  refine WP.seq ?_
  refine WP.region ?_
  refine RG.ot rfl (OT.make (m := 8) (F := (slT (α := Rect))) (a0 := default) rfl El32 rfl (by decide) rfl rfl (by omega) (by omega) fun v12 => ?_)
  refine RG.pv rfl (PV.asg (v := v12) rfl rfl) ?_
  refine RG.nil ?_
  refine WP.seq ?_
  refine WP.seq ?_
  refine WP.region ?_
  refine RG.pv rfl (PV.mvI (.inr rfl) rfl) ?_
  refine RG.nil ?_
  refine WP.block ?_
  have hdy : RsE G [bagS 71 rectT ys] rectT ys := RsE.o
  refine WP.cv ((Cv.p (C := osl 28 slT v12 (List.replicate 8 (default : Sl Rect)) :: osl 28 slT v11 ys :: bagS 71 rectT ys :: src b cv :: L)).trans (Cv.cons (Cv.nils (e := 71) (F := rectT) 8))) ?_
  refine WP.loop2 [0, 4, 5] (fun (i : Nat) (zs : List (Sl Rect)) => i ≤ 8 ∧ zs.length = 8 ∧ Regs zs) (fun (i : Nat) (zs : List (Sl Rect)) => [(6, vi i)]) (fun (i : Nat) (zs : List (Sl Rect)) => osl 28 slT v12 zs :: bagS 71 rectT zs :: osl 28 slT v11 ys :: bagS 71 rectT ys :: src b cv :: L) (fun (i : Nat) (zs : List (Sl Rect)) => 8 - i) 0 (List.replicate 8 (default : Sl Rect)) ⟨by omega, rfl, fun s hs => by rw [List.eq_of_mem_replicate hs]; exact isReg_nil⟩ ⟨rfl, trivial⟩ Cv.p ?_
  rintro i zs τ ⟨hi, hzl, hzr⟩
  refine WP.seq ?_
  refine WP.seq ?_
  refine WP.region ?_
  refine RG.pv rfl (PV.mvI (.inl rfl) rfl) ?_
  refine RG.pv rfl (PV.lss rfl rfl rfl) ?_
  refine RG.nil ?_
  refine WP.cond rfl (fun h2 => ?_) (fun h2 => ?_)
  · have h2 := of_decide_eq_true h2
    have hri : isReg ([] ++ (gd ys i).xs) = true := hyr.gd (by omega)
    have hrl := isReg_len hri
    have hrl2 : (gd ys i).xs.length ≤ 3200 := hrl
    refine WP.skip ?_
    refine WP.seq ?_
    refine WP.block ?_
    refine WP.region ?_
    refine RG.pv rfl (PV.move (v := v12) rfl rfl) ?_
    refine RG.pv rfl (PV.mvI (.inl rfl) rfl) ?_
    refine RG.ot rfl (OT.bslice (F := rectT) (els := []) rfl El28 rfl (by decide) rfl (by decide) trivial fun v19 => ?_)
    refine RG.pv rfl (PV.move (v := v11) rfl rfl) ?_
    refine RG.pv rfl (PV.mvI (.inl rfl) rfl) ?_
    refine RG.pv rfl (PV.idxS (j := i) (v := v11) rfl Is32 rfl SlF.o rfl (by omega) (by omega)) ?_
    refine RG.pv rfl (PV.loadE1 rfl Sc28 rfl rfl (El.o (getG (by omega))) rfl) ?_
    refine RG.ot rfl (OT.append (v := v19) (F := rectT) rfl El28 rfl (by decide) rfl rfl (Rs.up (hdy i (by omega))) (OneL.c (fun _ => rfl)) rfl (by first | omega | (simp <;> omega)) fun v24 => ?_)
    refine RG.pv rfl (PV.idxS (j := i) (v := v12) rfl Is32 rfl SlF.o rfl (by omega) (by omega)) ?_
    refine RG.ot rfl (OT.storeE (v := v24) (a := ⟨v24, [] ++ (gd ys i).xs⟩) (F := (slT (α := Rect))) rfl Sz28 rfl rfl rfl (Cl.s (v := v24) SlF.o) (OneC.sl SlF.o OneC.nil) (by omega) ?_)
    refine RG.nil ?_
    refine WP.region ?_
    refine RG.pv rfl (PV.mvI (.inl rfl) rfl) ?_
    refine RG.pv rfl (PV.add rfl rfl rfl (by omega)) ?_
    refine RG.pv rfl (PV.mvI (.inr rfl) rfl) ?_
    refine RG.nil ?_
    exact ⟨rfl, i + 1, (zs.set i ⟨v24, [] ++ (gd ys i).xs⟩), ⟨by omega, by simpa using hzl, hzr.set hri⟩, ⟨rfl, trivial⟩, ⟨rfl, rfl, rfl, trivial⟩, ((Cv.p (C := osl 71 rectT v24 ([] ++ (gd ys i).xs) :: bagS 71 rectT zs :: osl 28 slT v12 (zs.set i ⟨v24, [] ++ (gd ys i).xs⟩) :: osl 28 slT v11 ys :: bagS 71 rectT ys :: src b cv :: L)).trans ((Cv.bagSet i (by omega)).trans Cv.p)), by omega⟩
  · refine WP.exit ?_
    refine WP.seq ?_
    refine WP.seq ?_
    refine WP.region ?_
    refine RG.pv rfl (PV.move rfl rfl) ?_
    refine RG.callF (vs := [_, _]) rfl rfl En66 rfl (CallT.exC (src b cv) (next_s hcode (by omega) (fun w27 hw27 => ?_)))
    refine RG.pv rfl (PV.mvI (.inr rfl) rfl) ?_
    refine RG.nil ?_
    refine WP.block ?_
    refine WP.loop2 [0, 4, 5] (fun (j : Int) (us : List (Sl Rect)) => j ≤ 10 ∧ us.length = 8 ∧ Regs us) (fun (j : Int) (us : List (Sl Rect)) => [(7, vi j)]) (fun (j : Int) (us : List (Sl Rect)) => osl 28 slT v12 us :: bagS 71 rectT us :: osl 28 slT v11 ys :: bagS 71 rectT ys :: src b cv :: L) (fun (j : Int) (us : List (Sl Rect)) => j.toNat) w27 zs ⟨by omega, hzl, hzr⟩ ⟨rfl, trivial⟩ Cv.p ?_
    rintro j us τ1 ⟨hj, hul, hur⟩
    refine WP.seq ?_
    refine WP.seq ?_
    refine WP.region ?_
    refine RG.pv rfl (PV.mvI (.inl rfl) rfl) ?_
    refine RG.pv rfl (PV.gtr rfl rfl rfl) ?_
    refine RG.nil ?_
    refine WP.cond rfl (fun h3 => ?_) (fun h3 => ?_)
    · have h3 := of_decide_eq_true h3
      have hnn : ∀ w : Nat, w < 3 → 0 ≤ gd ([14, 4, 6] : List Int) w ∧ gd ([14, 4, 6] : List Int) w ≤ 15 := fun w hw => by
        have : w = 0 ∨ w = 1 ∨ w = 2 := by omega
        rcases this with h | h | h <;> (rw [h]; simp [gd])
      have hval : ∀ w, w < 8 → ∀ i, i < (gd us w).xs.length → validRect (gd (gd us w).xs i) = true := fun w hw i hi => valid_get (isReg_valid (hur.gd (by omega))) hi
      have hl3 : ([14, 4, 6] : List Int).length = 3 := rfl
      refine WP.skip ?_
      refine WP.seq ?_
      refine WP.block ?_
      refine WP.seq ?_
      refine WP.region ?_
      refine RG.pv rfl (PV.move rfl rfl) ?_
      refine RG.callF (vs := [_, _]) rfl rfl En66 rfl (CallT.exC (src b cv) (next_s hcode (by omega) (fun w33 hw33 => ?_)))
      refine RG.pv rfl (PV.mvI (.inr rfl) rfl) ?_
      refine RG.nil ?_
      refine WP.seq ?_
      refine WP.region ?_
      refine RG.ot rfl (OT.bslice (F := intT) (els := [_, _, _]) rfl El83 rfl (by decide) rfl (by decide) ⟨rfl, (Cl.c rfl), ⟨rfl, (Cl.c rfl), ⟨rfl, (Cl.c rfl), trivial⟩⟩⟩ fun v34 => ?_)
      refine RG.pv rfl (PV.move rfl rfl) ?_
      refine RG.callF (vs := [_, _]) rfl rfl En66 rfl (CallT.exC (src b cv) (next_s hcode (by omega) (fun w36 hw36 => ?_)))
      refine RG.pv rfl (PV.idxS (j := w36.toNat) (v := v34) rfl Is83 rfl SlF.o rfl (by omega) (by omega)) ?_
      refine RG.pv rfl (PV.loadE1 rfl Sc2 rfl rfl (El.o (getG (by omega))) rfl) ?_
      refine RG.pv rfl (PV.mvI (.inr rfl) rfl) ?_
      refine RG.nil ?_
      refine WP.regionHD [.s v12] (.q 0 (.q 1 (.q 2 (.q 3 (.q 6 (.q 9 (.b 4 (.b 5 (.l 7 (.l 8 (.l 10 (.l 11 (.l 12 Sch.nil))))) 7 (.b 5 (.l 8 (.l 10 (.l 11 (.l 12 Sch.nil)))) 8 (.l 5 (.l 10 (.l 11 (.l 12 Sch.nil)))))) 7 (.b 4 (.b 5 (.l 8 (.l 10 (.l 11 (.l 12 Sch.nil)))) 8 (.l 5 (.l 10 (.l 11 (.l 12 Sch.nil))))) 8 (.l 4 (.l 5 (.l 10 (.l 11 (.l 12 Sch.nil))))))))))))) (by kernel_rfl) (by kernel_rfl) (by kernel_rfl) rfl ?_
      refine RH.pv rfl (fun _ _ _ _ h => h) (Gh.le_refl _) PickC.pick rfl (PV.move (v := v12) rfl rfl) ?_
      refine RH.pv rfl (fun _ _ _ _ h => h) (Gh.le_refl _) PickC.pick rfl (PV.mvI (.inl rfl) rfl) ?_
      refine RH.pv rfl (fun _ _ _ _ h => h) (Gh.le_refl _) PickC.pick rfl (PV.move (v := v12) rfl rfl) ?_
      refine RH.pv rfl (fun _ _ _ _ h => h) (Gh.le_refl _) PickC.pick rfl (PV.mvI (.inl rfl) rfl) ?_
      refine RH.pv rfl (fun _ _ _ _ h => h) (Gh.le_refl _) PickC.pick rfl (PV.move rfl rfl) ?_
      refine RH.pv rfl (fun _ _ _ _ h => h) (Gh.le_refl _) PickC.pick rfl (PV.mvI (.inl rfl) rfl) ?_
      · refine RH.ot2 rfl rfl rfl rfl  (OT.pv (PV.idxS (j := w33.toNat) (v := v12) rfl Is32 rfl SlF.o rfl (by omega) (by omega)) ⟨Gh.le_refl _, PickC.pick, ?_⟩) (OT.callF (vs := [_]) rfl En104 rfl (CallT.exC (src b cv) (drawRect_s hcode (fun w46 hw46 => ⟨Gh.le_refl _, PickC.pick, ?_⟩))))
        · refine RH.ot2 rfl rfl rfl rfl  (OT.pv (PV.loadE1 rfl Sc28 rfl rfl (El.o (getG (by omega))) rfl) ⟨Gh.le_refl _, PickC.pick, ?_⟩) (OT.callF (vs := [_]) rfl En104 rfl (CallT.exC (src b cv) (drawRect_s hcode (fun w46 hw46 => ⟨Gh.le_refl _, PickC.pick, ?_⟩))))
          · refine RH.ot rfl rfl (OT.callF (vs := [_]) rfl En104 rfl (CallT.exC (src b cv) (drawRect_s hcode (fun w46 hw46 => ⟨Gh.le_refl _, PickC.pick, ?_⟩))))
            refine RH.ot rfl rfl (OT.bslice (F := rectT) (els := [_]) rfl El28 rfl (by decide) rfl (by decide) ⟨rfl, (Cl.c rfl), trivial⟩ fun v47 => ⟨Gh.le_refl _, PickC.pick, ?_⟩)
            refine RH.ot rfl rfl (OT.callF (vs := [_, v47, _]) rfl En103 rfl (l04Op_w (RsE.o (xs := us) w33.toNat (by omega)) Rs.o (hval _ (by omega)) (one_valid hw46) (hnn _ (by omega)) (fun v49 xsv49 hregv49 => ⟨Gh.le_refl _, PickC.pick, ?_⟩)))
            refine RH.ot rfl rfl (OT.pv (PV.idxS (j := w33.toNat) (v := v12) rfl Is32 rfl SlF.o rfl (by omega) (by omega)) ⟨Gh.le_refl _, PickC.pick, ?_⟩)
            refine RH.ot rfl rfl (OT.storeE (v := v49) (a := ⟨v49, xsv49⟩) (F := (slT (α := Rect))) rfl Sz28 rfl rfl rfl (Cl.s (v := v49) SlF.o) (OneC.sl SlF.o OneC.nil) (by omega) ⟨Gh.le_refl _, PickC.pick, ?_⟩)
            refine RH.nil ?_
            refine WP.region ?_
            refine RG.pv rfl (PV.mvI (.inl rfl) rfl) ?_
            refine RG.pv rfl (PV.sub rfl rfl rfl (by omega)) ?_
            refine RG.pv rfl (PV.mvI (.inr rfl) rfl) ?_
            refine RG.nil ?_
            exact ⟨rfl, j - 1, (us.set w33.toNat ⟨v49, xsv49⟩), ⟨by omega, by simpa using hul, hur.set hregv49⟩, ⟨rfl, trivial⟩, ⟨rfl, rfl, rfl, trivial⟩, ((Cv.p (C := osl 71 rectT v49 xsv49 :: bagS 71 rectT us :: osl 28 slT v12 (us.set w33.toNat ⟨v49, xsv49⟩) :: osl 28 slT v11 ys :: bagS 71 rectT ys :: src b cv :: L)).trans ((Cv.bagSet w33.toNat (by omega)).trans Cv.p)), by omega⟩
          · refine RH.ot2 rfl rfl rfl rfl  (OT.pv (PV.loadE1 rfl Sc28 rfl rfl (El.o (getG (by omega))) rfl) ⟨Gh.le_refl _, PickC.pick, ?_⟩) (OT.bslice (F := rectT) (els := [_]) rfl El28 rfl (by decide) rfl (by decide) ⟨rfl, (Cl.c rfl), trivial⟩ fun v47 => ⟨Gh.le_refl _, PickC.pick, ?_⟩)
            · refine RH.ot rfl rfl (OT.bslice (F := rectT) (els := [_]) rfl El28 rfl (by decide) rfl (by decide) ⟨rfl, (Cl.c rfl), trivial⟩ fun v47 => ⟨Gh.le_refl _, PickC.pick, ?_⟩)
              refine RH.ot rfl rfl (OT.callF (vs := [_, v47, _]) rfl En103 rfl (l04Op_w (RsE.o (xs := us) w33.toNat (by omega)) Rs.o (hval _ (by omega)) (one_valid hw46) (hnn _ (by omega)) (fun v49 xsv49 hregv49 => ⟨Gh.le_refl _, PickC.pick, ?_⟩)))
              refine RH.ot rfl rfl (OT.pv (PV.idxS (j := w33.toNat) (v := v12) rfl Is32 rfl SlF.o rfl (by omega) (by omega)) ⟨Gh.le_refl _, PickC.pick, ?_⟩)
              refine RH.ot rfl rfl (OT.storeE (v := v49) (a := ⟨v49, xsv49⟩) (F := (slT (α := Rect))) rfl Sz28 rfl rfl rfl (Cl.s (v := v49) SlF.o) (OneC.sl SlF.o OneC.nil) (by omega) ⟨Gh.le_refl _, PickC.pick, ?_⟩)
              refine RH.nil ?_
              refine WP.region ?_
              refine RG.pv rfl (PV.mvI (.inl rfl) rfl) ?_
              refine RG.pv rfl (PV.sub rfl rfl rfl (by omega)) ?_
              refine RG.pv rfl (PV.mvI (.inr rfl) rfl) ?_
              refine RG.nil ?_
              exact ⟨rfl, j - 1, (us.set w33.toNat ⟨v49, xsv49⟩), ⟨by omega, by simpa using hul, hur.set hregv49⟩, ⟨rfl, trivial⟩, ⟨rfl, rfl, rfl, trivial⟩, ((Cv.p (C := osl 71 rectT v49 xsv49 :: bagS 71 rectT us :: osl 28 slT v12 (us.set w33.toNat ⟨v49, xsv49⟩) :: osl 28 slT v11 ys :: bagS 71 rectT ys :: src b cv :: L)).trans ((Cv.bagSet w33.toNat (by omega)).trans Cv.p)), by omega⟩
            · refine RH.ot rfl rfl (OT.pv (PV.loadE1 rfl Sc28 rfl rfl (El.o (getG (by omega))) rfl) ⟨Gh.le_refl _, PickC.pick, ?_⟩)
              refine RH.ot rfl rfl (OT.callF (vs := [_, v47, _]) rfl En103 rfl (l04Op_w (RsE.o (xs := us) w33.toNat (by omega)) Rs.o (hval _ (by omega)) (one_valid hw46) (hnn _ (by omega)) (fun v49 xsv49 hregv49 => ⟨Gh.le_refl _, PickC.pick, ?_⟩)))
              refine RH.ot rfl rfl (OT.pv (PV.idxS (j := w33.toNat) (v := v12) rfl Is32 rfl SlF.o rfl (by omega) (by omega)) ⟨Gh.le_refl _, PickC.pick, ?_⟩)
              refine RH.ot rfl rfl (OT.storeE (v := v49) (a := ⟨v49, xsv49⟩) (F := (slT (α := Rect))) rfl Sz28 rfl rfl rfl (Cl.s (v := v49) SlF.o) (OneC.sl SlF.o OneC.nil) (by omega) ⟨Gh.le_refl _, PickC.pick, ?_⟩)
              refine RH.nil ?_
              refine WP.region ?_
              refine RG.pv rfl (PV.mvI (.inl rfl) rfl) ?_
              refine RG.pv rfl (PV.sub rfl rfl rfl (by omega)) ?_
              refine RG.pv rfl (PV.mvI (.inr rfl) rfl) ?_
              refine RG.nil ?_
              exact ⟨rfl, j - 1, (us.set w33.toNat ⟨v49, xsv49⟩), ⟨by omega, by simpa using hul, hur.set hregv49⟩, ⟨rfl, trivial⟩, ⟨rfl, rfl, rfl, trivial⟩, ((Cv.p (C := osl 71 rectT v49 xsv49 :: bagS 71 rectT us :: osl 28 slT v12 (us.set w33.toNat ⟨v49, xsv49⟩) :: osl 28 slT v11 ys :: bagS 71 rectT ys :: src b cv :: L)).trans ((Cv.bagSet w33.toNat (by omega)).trans Cv.p)), by omega⟩
        · refine RH.ot2 rfl rfl rfl rfl  (OT.pv (PV.idxS (j := w33.toNat) (v := v12) rfl Is32 rfl SlF.o rfl (by omega) (by omega)) ⟨Gh.le_refl _, PickC.pick, ?_⟩) (OT.bslice (F := rectT) (els := [_]) rfl El28 rfl (by decide) rfl (by decide) ⟨rfl, (Cl.c rfl), trivial⟩ fun v47 => ⟨Gh.le_refl _, PickC.pick, ?_⟩)
          · refine RH.ot2 rfl rfl rfl rfl  (OT.pv (PV.loadE1 rfl Sc28 rfl rfl (El.o (getG (by omega))) rfl) ⟨Gh.le_refl _, PickC.pick, ?_⟩) (OT.bslice (F := rectT) (els := [_]) rfl El28 rfl (by decide) rfl (by decide) ⟨rfl, (Cl.c rfl), trivial⟩ fun v47 => ⟨Gh.le_refl _, PickC.pick, ?_⟩)
            · refine RH.ot rfl rfl (OT.bslice (F := rectT) (els := [_]) rfl El28 rfl (by decide) rfl (by decide) ⟨rfl, (Cl.c rfl), trivial⟩ fun v47 => ⟨Gh.le_refl _, PickC.pick, ?_⟩)
              refine RH.ot rfl rfl (OT.callF (vs := [_, v47, _]) rfl En103 rfl (l04Op_w (RsE.o (xs := us) w33.toNat (by omega)) Rs.o (hval _ (by omega)) (one_valid hw46) (hnn _ (by omega)) (fun v49 xsv49 hregv49 => ⟨Gh.le_refl _, PickC.pick, ?_⟩)))
              refine RH.ot rfl rfl (OT.pv (PV.idxS (j := w33.toNat) (v := v12) rfl Is32 rfl SlF.o rfl (by omega) (by omega)) ⟨Gh.le_refl _, PickC.pick, ?_⟩)
              refine RH.ot rfl rfl (OT.storeE (v := v49) (a := ⟨v49, xsv49⟩) (F := (slT (α := Rect))) rfl Sz28 rfl rfl rfl (Cl.s (v := v49) SlF.o) (OneC.sl SlF.o OneC.nil) (by omega) ⟨Gh.le_refl _, PickC.pick, ?_⟩)
              refine RH.nil ?_
              refine WP.region ?_
              refine RG.pv rfl (PV.mvI (.inl rfl) rfl) ?_
              refine RG.pv rfl (PV.sub rfl rfl rfl (by omega)) ?_
              refine RG.pv rfl (PV.mvI (.inr rfl) rfl) ?_
              refine RG.nil ?_
              exact ⟨rfl, j - 1, (us.set w33.toNat ⟨v49, xsv49⟩), ⟨by omega, by simpa using hul, hur.set hregv49⟩, ⟨rfl, trivial⟩, ⟨rfl, rfl, rfl, trivial⟩, ((Cv.p (C := osl 71 rectT v49 xsv49 :: bagS 71 rectT us :: osl 28 slT v12 (us.set w33.toNat ⟨v49, xsv49⟩) :: osl 28 slT v11 ys :: bagS 71 rectT ys :: src b cv :: L)).trans ((Cv.bagSet w33.toNat (by omega)).trans Cv.p)), by omega⟩
            · refine RH.ot rfl rfl (OT.pv (PV.loadE1 rfl Sc28 rfl rfl (El.o (getG (by omega))) rfl) ⟨Gh.le_refl _, PickC.pick, ?_⟩)
              refine RH.ot rfl rfl (OT.callF (vs := [_, v47, _]) rfl En103 rfl (l04Op_w (RsE.o (xs := us) w33.toNat (by omega)) Rs.o (hval _ (by omega)) (one_valid hw46) (hnn _ (by omega)) (fun v49 xsv49 hregv49 => ⟨Gh.le_refl _, PickC.pick, ?_⟩)))
              refine RH.ot rfl rfl (OT.pv (PV.idxS (j := w33.toNat) (v := v12) rfl Is32 rfl SlF.o rfl (by omega) (by omega)) ⟨Gh.le_refl _, PickC.pick, ?_⟩)
              refine RH.ot rfl rfl (OT.storeE (v := v49) (a := ⟨v49, xsv49⟩) (F := (slT (α := Rect))) rfl Sz28 rfl rfl rfl (Cl.s (v := v49) SlF.o) (OneC.sl SlF.o OneC.nil) (by omega) ⟨Gh.le_refl _, PickC.pick, ?_⟩)
              refine RH.nil ?_
              refine WP.region ?_
              refine RG.pv rfl (PV.mvI (.inl rfl) rfl) ?_
              refine RG.pv rfl (PV.sub rfl rfl rfl (by omega)) ?_
              refine RG.pv rfl (PV.mvI (.inr rfl) rfl) ?_
              refine RG.nil ?_
              exact ⟨rfl, j - 1, (us.set w33.toNat ⟨v49, xsv49⟩), ⟨by omega, by simpa using hul, hur.set hregv49⟩, ⟨rfl, trivial⟩, ⟨rfl, rfl, rfl, trivial⟩, ((Cv.p (C := osl 71 rectT v49 xsv49 :: bagS 71 rectT us :: osl 28 slT v12 (us.set w33.toNat ⟨v49, xsv49⟩) :: osl 28 slT v11 ys :: bagS 71 rectT ys :: src b cv :: L)).trans ((Cv.bagSet w33.toNat (by omega)).trans Cv.p)), by omega⟩
          · refine RH.ot rfl rfl (OT.pv (PV.idxS (j := w33.toNat) (v := v12) rfl Is32 rfl SlF.o rfl (by omega) (by omega)) ⟨Gh.le_refl _, PickC.pick, ?_⟩)
            refine RH.ot rfl rfl (OT.pv (PV.loadE1 rfl Sc28 rfl rfl (El.o (getG (by omega))) rfl) ⟨Gh.le_refl _, PickC.pick, ?_⟩)
            refine RH.ot rfl rfl (OT.callF (vs := [_, v47, _]) rfl En103 rfl (l04Op_w (RsE.o (xs := us) w33.toNat (by omega)) Rs.o (hval _ (by omega)) (one_valid hw46) (hnn _ (by omega)) (fun v49 xsv49 hregv49 => ⟨Gh.le_refl _, PickC.pick, ?_⟩)))
            refine RH.ot rfl rfl (OT.pv (PV.idxS (j := w33.toNat) (v := v12) rfl Is32 rfl SlF.o rfl (by omega) (by omega)) ⟨Gh.le_refl _, PickC.pick, ?_⟩)
            refine RH.ot rfl rfl (OT.storeE (v := v49) (a := ⟨v49, xsv49⟩) (F := (slT (α := Rect))) rfl Sz28 rfl rfl rfl (Cl.s (v := v49) SlF.o) (OneC.sl SlF.o OneC.nil) (by omega) ⟨Gh.le_refl _, PickC.pick, ?_⟩)
            refine RH.nil ?_
            refine WP.region ?_
            refine RG.pv rfl (PV.mvI (.inl rfl) rfl) ?_
            refine RG.pv rfl (PV.sub rfl rfl rfl (by omega)) ?_
            refine RG.pv rfl (PV.mvI (.inr rfl) rfl) ?_
            refine RG.nil ?_
            exact ⟨rfl, j - 1, (us.set w33.toNat ⟨v49, xsv49⟩), ⟨by omega, by simpa using hul, hur.set hregv49⟩, ⟨rfl, trivial⟩, ⟨rfl, rfl, rfl, trivial⟩, ((Cv.p (C := osl 71 rectT v49 xsv49 :: bagS 71 rectT us :: osl 28 slT v12 (us.set w33.toNat ⟨v49, xsv49⟩) :: osl 28 slT v11 ys :: bagS 71 rectT ys :: src b cv :: L)).trans ((Cv.bagSet w33.toNat (by omega)).trans Cv.p)), by omega⟩
    · refine WP.exit ?_
      refine WP.seq ?_
      refine WP.region ?_
      refine RG.pv rfl (PV.move (v := v11) rfl rfl) ?_
      refine RG.pv rfl (PV.move (v := v12) rfl rfl) ?_
      refine RG.pv rfl (PV.asg (v := v11) rfl rfl) ?_
      refine RG.pv rfl (PV.asg (v := v12) rfl rfl) ?_
      refine RG.nil ?_
      refine WP.ret ?_
      exact ⟨_, _, ResV.two rfl rfl rfl, Cv.p, k v11 v12 ys us hyl hul hyr hur⟩
theorem spoilLayers_s {b : Nat} {n : Int} {cv v : Value} {ys : List (Sl Rect)} {bs : List UInt8} (hcode : SL G byteT cv bs) (hn : n ≤ 1000) (hyl : ys.length = 8) (hyr : Regs ys) (k : ∀ v' xs ys', Rs G [osl 28 slT v ys', bagS 71 rectT ys'] slT v' xs → (∀ s ∈ xs, s ∈ ys') → xs.length ≤ 8 → R v' G (osl 28 slT v ys' :: bagS 71 rectT ys' :: src b cv :: L)) : CallT Tryz.prog 47 #[.pointer (some ⟨b, 0, none⟩), v, vi n] G (osl 28 slT v ys :: bagS 71 rectT ys :: src b cv :: L) R := by
  refine CallT.enter (args := _) Tryz.func47 rfl rfl (by kernel_rfl) rfl ?_
  refine WP.seq ?_
  refine WP.region ?_
  refine RG.pv rfl (PV.asg rfl rfl) ?_
  refine RG.nil ?_
  refine WP.seq ?_
  refine WP.seq ?_
  refine WP.region ?_
  refine RG.pv rfl (PV.move rfl rfl) ?_
  refine RG.pv rfl (PV.mvI (.inl rfl) rfl) ?_
  refine RG.callF (vs := [_, _]) rfl rfl En66 rfl (CallT.exC (src b cv) (next_s hcode (by omega) (fun w9 hw9 => ?_)))
  refine RG.pv rfl (PV.neq rfl rfl rfl) ?_
  refine RG.nil ?_
  refine WP.cond rfl (fun h2 => ?_) (fun h2 => ?_)
  · refine WP.seq ?_
    refine WP.region ?_
    refine RG.pv rfl (PV.move (v := v) rfl rfl) ?_
    refine RG.pv rfl (PV.asg (v := v) rfl rfl) ?_
    refine RG.nil ?_
    refine WP.ret ?_
    exact ⟨_, _, ResV.one rfl rfl, Cv.p, k v ys ys Rs.o (fun s h => h) (by omega)⟩
  · refine WP.skip ?_
    refine WP.seq ?_
    refine WP.seq ?_
    refine WP.region ?_
    refine RG.pv rfl (PV.move rfl rfl) ?_
    refine RG.callF (vs := [_, _]) rfl rfl En66 rfl (CallT.exC (src b cv) (next_s hcode (by omega) (fun w13 hw13 => ?_)))
    refine RG.pv rfl (PV.eql rfl rfl rfl) ?_
    refine RG.nil ?_
    refine WP.cond rfl (fun h3 => ?_) (fun h3 => ?_)
    · skip
      refine WP.seq ?_
      refine WP.region ?_
      refine RG.pv rfl (PV.move (v := v) rfl rfl) ?_
      refine RG.pv rfl (PV.slc (l := 1) (v := v) rfl Is32 rfl SlF.o (optAt.s rfl (by omega)) optAt.n (by omega) (by omega)) ?_
      refine RG.pv rfl (PV.asg rfl rfl) ?_
      refine RG.nil ?_
      refine WP.ret ?_
      exact ⟨_, _, ResV.one rfl rfl, Cv.p, k _ ((ys.take 8).drop 1) ys (by rw [← hyl]; exact Rs.slv (F := slT) Rs.o (by omega) (by omega)) (fun s h => List.mem_of_mem_take (List.mem_of_mem_drop h)) (by simp; omega)⟩
    · skip
      refine WP.skip ?_
      refine WP.seq ?_
      refine WP.region ?_
      refine RG.pv rfl (PV.move (v := v) rfl rfl) ?_
      refine RG.pv rfl (PV.move rfl rfl) ?_
      refine RG.pv rfl (PV.move (v := v) rfl rfl) ?_
      refine RG.pv rfl (PV.idxS (j := 0) (v := v) rfl Is32 rfl SlF.o rfl (by omega) (by omega)) ?_
      refine RG.pv rfl (PV.loadE1 rfl Sc28 rfl rfl (El.o (getG (by omega))) rfl) ?_
      refine RG.callF (vs := [_, _, _]) rfl rfl En106 rfl (CallT.exBg ys (CallT.cv (Cv.bagS_take 0 (by omega)) (CallT.exC (src b cv) (CallT.exS (gd ys 0).v (spoil_s hcode (hyr.gd (by omega)) (by omega) (fun v22 zsv22 hzv22 => ?_))))))
      refine RG.pv rfl (PV.idxS (j := 0) (v := v) rfl Is32 rfl SlF.o rfl (by omega) (by omega)) ?_
      refine RG.ot rfl (OT.storeE (v := v22) (a := ⟨v22, zsv22⟩) (F := (slT (α := Rect))) rfl Sz28 rfl rfl rfl (Cl.s (v := v22) SlF.o) (OneC.sl SlF.o OneC.nil) (by omega) ?_)
      refine RG.nil ?_
      refine WP.seq ?_
      refine WP.region ?_
      refine RG.pv rfl (PV.move (v := v) rfl rfl) ?_
      refine RG.pv rfl (PV.asg (v := v) rfl rfl) ?_
      refine RG.nil ?_
      refine WP.ret ?_
      exact ⟨_, _, ResV.one rfl rfl, ((Cv.p (C := osl 71 rectT v22 zsv22 :: bag ((ys.map (ownS 71 rectT)).set 0 emp) :: osl 28 slT v (ys.set 0 ⟨v22, zsv22⟩) :: src b cv :: L)).trans ((Cv.bagS_put 0 (by omega)).trans Cv.p)), k v (ys.set 0 ⟨v22, zsv22⟩) (ys.set 0 ⟨v22, zsv22⟩) Rs.o (fun s h => h) (by simp; omega)⟩
end Go.Proofs.YtpjajhjcbcfplaaGreat
namespace Go.Proofs.YtpjajhjcbcfplaaGreat
set_option linter.unusedVariables false
set_option linter.unusedSimpArgs false
open Go
set_option maxRecDepth 20000
set_option linter.unusedSimpArgs false
/-- two sets agree within a distance of a cell -/
def Agr (A B : List Bool) (w : Int) (y x : Nat) : Prop := ∀ y' x' : Nat, y' < 80 → x' < 80 → ((y : Int) - w ≤ y' ∧ (y' : Int) ≤ y + w) → ((x : Int) - w ≤ x' ∧ (x' : Int) ≤ x + w) → gb A y' x' = gb B y' x'
theorem Agr.symm {A B : List Bool} {w : Int} {y x : Nat} (h : Agr A B w y x) : Agr B A w y x := fun y' x' h1 h2 h3 h4 => (h y' x' h1 h2 h3 h4).symm
theorem cv_ag {A B : List Bool} {w : Int} {y x : Nat} (h : Agr A B w y x) (hy : y < 80) (hx : x < 80) (hw : 0 ≤ w) (ver : Bool) {u : Int} (hu : plI ver y x - w ≤ u ∧ u ≤ plI ver y x + w) : cv A ver (lnI ver y x) u = cv B ver (lnI ver y x) u := by
  by_cases c : -40 ≤ u ∧ u < 40
  · cases ver with
    | true =>
      simp only [plI, cond_true] at hu
      have e : ∀ S : List Bool, cv S true (lnI true y x) u = gb S (u + 40).toNat x := fun S => by
        rw [show cv S true (lnI true y x) u = cellB S ((x : Int) - 40) u from rfl, cellB_in (by omega), show ((x : Int) - 40 + 40).toNat = x by omega]
      rw [e, e]
      exact h _ _ (by omega) hx (by omega) (by omega)
    | false =>
      simp only [plI, cond_false] at hu
      have e : ∀ S : List Bool, cv S false (lnI false y x) u = gb S y (u + 40).toNat := fun S => by
        rw [show cv S false (lnI false y x) u = cellB S u ((y : Int) - 40) from rfl, cellB_in (by omega), show ((y : Int) - 40 + 40).toNat = y by omega]
      rw [e, e]
      exact h _ _ hy (by omega) (by omega) (by omega)
  · have e : ∀ S : List Bool, cv S ver (lnI ver y x) u = false := fun S => by
      cases h1 : cv S ver (lnI ver y x) u with
      | false => rfl
      | true => exact absurd (cv_rng h1).2 c
    rw [e, e]
theorem isRun.ag {A B : List Bool} {w : Int} {y x : Nat} {ver : Bool} {lo hi : Int} (h : isRun A ver (lnI ver y x) (plI ver y x) lo hi) (hl : hi - lo ≤ w) (ag : Agr A B w y x) (hy : y < 80) (hx : x < 80) : isRun B ver (lnI ver y x) (plI ver y x) lo hi := by
  have h1 := h.lk
  have e : ∀ u, lo - 1 ≤ u → u ≤ hi → cv A ver (lnI ver y x) u = cv B ver (lnI ver y x) u := fun u h2 h3 => cv_ag ag hy hx (by omega) ver (by omega)
  exact ⟨h.lk, h.rng, fun u h2 h3 => by rw [← e u (by omega) (by omega)]; exact h.all u h2 h3, by rw [← e _ (by omega) (by omega)]; exact h.low, by rw [← e _ (by omega) (by omega)]; exact h.high⟩
theorem Thin.ag {A B : List Bool} {w : Int} {y x : Nat} (h : Thin A w y x) (ag : Agr A B w y x) (hy : y < 80) (hx : x < 80) : Thin B w y x := by
  obtain ⟨ver, lo, hi, h1, h2⟩ := h
  exact ⟨ver, lo, hi, h1.ag (by omega) ag hy hx, h2⟩
theorem gb_not {S : List Bool} (hS : S.length = 6400) {y x : Nat} (hy : y < 80) (hx : x < 80) : gb (notB S) y x = !gb S y x := gd_not (by omega)
theorem Agr.not {A B A' B' : List Bool} {w : Int} {y x : Nat} (hA : A.length = 6400) (hA' : A'.length = 6400) (h1 : Agr A A' w y x) (h2 : Agr B B' w y x) : Agr (notB (orZ A B)) (notB (orZ A' B')) w y x := fun y' x' g1 g2 g3 g4 => by
  rw [gb_not (by rw [orZ_len]; exact hA) g1 g2, gb_not (by rw [orZ_len]; exact hA') g1 g2, orZ_gb hA g1 g2, orZ_gb hA' g1 g2, h1 y' x' g1 g2 g3 g4, h2 y' x' g1 g2 g3 g4]
theorem Nigh.ag {A B A' B' : List Bool} {w : Int} {y x : Nat} (hA : A.length = 6400) (hA' : A'.length = 6400) (h : Nigh A B w y x) (h1 : Agr A A' w y x) (h2 : Agr B B' w y x) (hy : y < 80) (hx : x < 80) : Nigh A' B' w y x := by
  obtain ⟨ver, lo, hi, g1, g2, g3⟩ := h
  have hk := g1.lk
  refine ⟨ver, lo, hi, g1.ag (by omega) (Agr.not hA hA' h1 h2) hy hx, ?_, g3⟩
  rw [gapE_line] at g2 ⊢
  rw [← cv_ag h1 hy hx (by omega) ver (by omega), ← cv_ag h2 hy hx (by omega) ver (by omega), ← cv_ag h1 hy hx (by omega) ver (by omega), ← cv_ag h2 hy hx (by omega) ver (by omega)]
  exact g2
theorem grow_ag {A B : List Bool} {w : Int} {y x : Nat} (ag : Agr A B w y x) (hy : y < 80) (hx : x < 80) (h : gb (growB A w) y x = true) : gb (growB B w) y x = true := by
  rw [growB_iff hy hx] at h ⊢
  obtain ⟨y', x', h1, h2, h3, h4, h5, h6, h7⟩ := h
  exact ⟨y', x', h1, h2, h3, h4, h5, h6, by rw [← ag y' x' h1 h2 ⟨h3, h4⟩ ⟨h5, h6⟩]; exact h7⟩
theorem valid_val {q : Rule} (h : validRule q = true) (hk : q.kind ≤ 3) : 1 ≤ q.value ∧ q.value ≤ 8 := by
  simp only [validRule, Bool.and_eq_true] at h
  have h1 := h.1.2
  rw [okVal, if_neg (by omega), if_neg (by omega)] at h1
  simpa [within] using h1
theorem valid_kind {q : Rule} (h : validRule q = true) : 0 ≤ q.kind ∧ q.kind ≤ 5 := by
  simp only [validRule, Bool.and_eq_true] at h
  have h1 := h.1.1.1.1
  simpa [within] using h1
theorem rm_local {l m : List (List Rect)} {q : Rule} (hl : isLay l = true) (hm : isLay m = true) (hq : validRule q = true) (hk : q.kind ≤ 3) {y x : Nat} (hy : y < 80) (hx : x < 80)
    (h1 : Agr (bits (gd l q.layer.toNat)) (bits (gd m q.layer.toNat)) q.value y x) (h2 : paired q.kind = true → Agr (bits (gd l q.other.toNat)) (bits (gd m q.other.toNat)) q.value y x) (h : gb (bits (rmL l q)) y x = true) : gb (bits (rmL m q)) y x = true := by
  obtain ⟨hv1, hv8⟩ := valid_val hq hk
  have hk0 := (valid_kind hq).1
  obtain ⟨hlr, hor⟩ := valid_lay hq
  have a1 := isLay_reg hl (i := q.layer.toNat) (by omega)
  have a2 := isLay_reg hm (i := q.layer.toNat) (by omega)
  have b1 := isLay_reg hl (i := q.other.toNat) (by omega)
  have b2 := isLay_reg hm (i := q.other.toNat) (by omega)
  have hd : okDist q.value = true := by simp [okDist, hv1, hv8]
  have hw : within q.value 0 8 = true := by simp [within, hv8]; omega
  by_cases c0 : q.kind = 0
  · rw [rmL, if_pos c0] at h ⊢
    rw [widthL, if_pos (by rw [a1, hd]; rfl), bits_canon (celL_len _), celL_gb hy hx] at h
    rw [widthL, if_pos (by rw [a2, hd]; rfl), bits_canon (celL_len _), celL_gb hy hx]
    exact h.ag h1 hy hx
  · by_cases c1 : q.kind = 1
    · rw [rmL, if_neg c0, if_pos c1] at h ⊢
      rw [spaceL, if_pos (by rw [a1, hd]; rfl), bits_canon (celL_len _), celL_gb hy hx] at h
      rw [spaceL, if_pos (by rw [a2, hd]; rfl), bits_canon (celL_len _), celL_gb hy hx]
      exact h.ag (bits_length _) (bits_length _) h1 h1 hy hx
    · by_cases c2 : q.kind = 2
      · have h3 := h2 (by rw [paired, c2]; rfl)
        rw [rmL, if_neg c0, if_neg c1, if_pos c2] at h ⊢
        rw [betwL, if_pos (by rw [a1, b1, hd]; rfl), bits_canon (celL_len _), celL_gb hy hx] at h
        rw [betwL, if_pos (by rw [a2, b2, hd]; rfl), bits_canon (celL_len _), celL_gb hy hx]
        rcases h with h | ⟨g1, g2⟩
        · exact .inl (h.ag (bits_length _) (bits_length _) h1 h3 hy hx)
        · exact .inr ⟨by rw [← h1 y x hy hx (by omega) (by omega)]; exact g1, by rw [← h3 y x hy hx (by omega) (by omega)]; exact g2⟩
      · have c3 : q.kind = 3 := by omega
        have h3 := h2 (by rw [paired, c3]; rfl)
        rw [rmL, if_neg c0, if_neg c1, if_neg c2, if_pos c3] at h ⊢
        rw [enclL, if_pos (by rw [a1, b1, hw]; rfl), bits_canon (zipB_len (growB_len _ _) (bits_length _)), gb_zip (growB_len _ _) (bits_length _) hy hx] at h
        rw [enclL, if_pos (by rw [a2, b2, hw]; rfl), bits_canon (zipB_len (growB_len _ _) (bits_length _)), gb_zip (growB_len _ _) (bits_length _) hy hx]
        simp only [minB, Bool.and_eq_true, Bool.not_eq_true'] at h ⊢
        exact ⟨grow_ag h1 hy hx h.1, by rw [← h3 y x hy hx (by omega) (by omega)]; exact h.2⟩
theorem widthL_reg (xs : List Rect) (w : Int) : isReg (widthL xs w) = true := by
  unfold widthL; split
  · exact isReg_canon (celL_len _)
  · exact isReg_nil
theorem spaceL_reg (xs : List Rect) (w : Int) : isReg (spaceL xs w) = true := by
  unfold spaceL; split
  · exact isReg_canon (celL_len _)
  · exact isReg_nil
theorem betwL_reg (xs ys : List Rect) (w : Int) : isReg (betwL xs ys w) = true := by
  unfold betwL; split
  · exact isReg_canon (celL_len _)
  · exact isReg_nil
theorem enclL_reg (xs ys : List Rect) (w : Int) : isReg (enclL xs ys w) = true := by
  unfold enclL; split
  · exact isReg_canon (zipB_len (growB_len _ _) (bits_length _))
  · exact isReg_nil
theorem areaL_reg (xs : List Rect) (w : Int) : isReg (areaL xs w) = true := by
  unfold areaL; split
  · exact isReg_canon (celL_len _)
  · exact isReg_nil
theorem densL_reg (xs : List Rect) (w p : Int) : isReg (densL xs w p) = true := by
  unfold densL; split
  · exact isReg_canon (zipB_len (celL_len _) (bits_length _))
  · exact isReg_nil
theorem rmL_reg (l : List (List Rect)) (q : Rule) : isReg (rmL l q) = true := by
  unfold rmL
  split
  · exact widthL_reg _ _
  · split
    · exact spaceL_reg _ _
    · split
      · exact betwL_reg _ _ _
      · split
        · exact enclL_reg _ _ _
        · split
          · exact areaL_reg _ _
          · exact densL_reg _ _ _
theorem rmE_reg (l : List (List Rect)) (q : Rule) : isReg (rmE l q) = true := by
  unfold rmE; split
  · exact rmL_reg _ _
  · exact isReg_nil
theorem chg_same {l m : List (List Rect)} {k y x : Nat} (hy : y < 80) (hx : x < 80) (h : gb (chgB l m k) y x = false) : gb (bits (gd l k)) y x = gb (bits (gd m k)) y x := by
  rw [chgB, gb_zip (bits_length _) (bits_length _) hy hx] at h
  cases h1 : gb (bits (gd l k)) y x <;> cases h2 : gb (bits (gd m k)) y x <;> simp_all
theorem layers_own (q : Rule) : q.layer.toNat ∈ layersOf q := by simp [layersOf]
theorem layers_other {q : Rule} (h : paired q.kind = true) : q.other.toNat ∈ layersOf q := by simp [layersOf, h]
theorem or_same {l m : List (List Rect)} {ks : List Nat} {k y x : Nat} (hk : k ∈ ks) (hy : y < 80) (hx : x < 80) (h : gb (orL l m ks) y x = false) : gb (bits (gd l k)) y x = gb (bits (gd m k)) y x := by
  rw [gb_orL l m ks hy hx, List.any_eq_false] at h
  exact chg_same hy hx (by simpa using h k hk)
theorem cnt_zero {D : List Bool} (hD : D.length = 6400) (h : cnt D = 0) {y x : Nat} (hy : y < 80) (hx : x < 80) : gb D y x = false := by
  cases hg : gb D y x with
  | false => rfl
  | true =>
    have h1 : y * 80 + x < D.length := by omega
    rw [gb, gd_eq h1] at hg
    have h2 : 0 < D.count true := List.count_pos_iff.2 (by rw [← hg]; exact List.getElem_mem h1)
    simp only [cnt] at h; omega
/-- outside the recheck area the markers of two layouts agree -/
theorem recheck_diff {l m : List (List Rect)} {q : Rule} (hl : isLay l = true) (hm : isLay m = true) (hq : validRule q = true) : opR (fun p q => p && !q) (rmL l q) (recR l m q) = opR (fun p q => p && !q) (rmL m q) (recR l m q) := by
  have hB : recB l m q = true := by rw [recB, hl, hm, hq]; rfl
  have hD := orL_len l m (layersOf q)
  by_cases hr : isReg (recR l m q) = true
  · rw [opR, opR, rmL_reg, rmL_reg, hr]
    simp only [Bool.and_self, cond_true]
    congr 1
    refine gb_ext (zipB_len (bits_length _) (bits_length _)) (zipB_len (bits_length _) (bits_length _)) fun y x hy hx => ?_
    rw [gb_zip (bits_length _) (bits_length _) hy hx, gb_zip (bits_length _) (bits_length _) hy hx]
    cases hg : gb (bits (recR l m q)) y x with
    | true => simp
    | false =>
      have key : gb (bits (rmL l q)) y x = gb (bits (rmL m q)) y x := by
        rw [recR, hB, cond_true, recOf] at hg
        by_cases hz : 0 ≤ reach q
        · rw [if_pos hz, bits_canon (growB_len _ _)] at hg
          have hk : q.kind ≤ 3 := by
            by_cases c : q.kind ≤ 3
            · exact c
            · rw [reach, hq, decide_eq_false c] at hz; simp at hz
          have hre : reach q = q.value := by rw [reach, hq, decide_eq_true hk]; simp only [Bool.and_self, cond_true]
          rw [hre] at hg
          have hno : ∀ y' x' : Nat, y' < 80 → x' < 80 → ((y : Int) - q.value ≤ y' ∧ (y' : Int) ≤ y + q.value) → ((x : Int) - q.value ≤ x' ∧ (x' : Int) ≤ x + q.value) → gb (orL l m (layersOf q)) y' x' = false := fun y' x' g1 g2 g3 g4 => by
            cases h5 : gb (orL l m (layersOf q)) y' x' with
            | false => rfl
            | true => rw [(growB_iff hy hx).2 ⟨y', x', g1, g2, g3.1, g3.2, g4.1, g4.2, h5⟩] at hg; cases hg
          have ag1 : Agr (bits (gd l q.layer.toNat)) (bits (gd m q.layer.toNat)) q.value y x := fun y' x' g1 g2 g3 g4 => or_same (layers_own q) g1 g2 (hno y' x' g1 g2 g3 g4)
          have ag2 : paired q.kind = true → Agr (bits (gd l q.other.toNat)) (bits (gd m q.other.toNat)) q.value y x := fun hp y' x' g1 g2 g3 g4 => or_same (layers_other hp) g1 g2 (hno y' x' g1 g2 g3 g4)
          rw [Bool.eq_iff_iff]
          exact ⟨rm_local hl hm hq hk hy hx ag1 ag2, rm_local hm hl hq hk hy hx ag1.symm fun hp => (ag2 hp).symm⟩
        · rw [if_neg hz] at hg
          by_cases hc : cnt (orL l m (layersOf q)) = 0
          · have hsame : gd l q.layer.toNat = gd m q.layer.toNat := by
              obtain ⟨hlr, hor⟩ := valid_lay hq
              have a1 := isLay_reg hl (i := q.layer.toNat) (by omega)
              have a2 := isLay_reg hm (i := q.layer.toNat) (by omega)
              rw [← isReg_eq a1, ← isReg_eq a2]
              exact congrArg canon (gb_ext (bits_length _) (bits_length _) fun y x hy hx => or_same (layers_own q) hy hx (cnt_zero hD hc hy hx))
            have hk : ¬ q.kind ≤ 3 := fun c => by
              have := valid_val hq c
              rw [reach, hq, decide_eq_true c] at hz; simp only [Bool.and_self, cond_true] at hz; omega
            have e : ∀ a : List (List Rect), rmL a q = if q.kind = 4 then areaL (gd a q.layer.toNat) q.value else densL (gd a q.layer.toNat) q.value q.percent := fun a => by
              rw [rmL, if_neg (by omega), if_neg (by omega), if_neg (by omega), if_neg (by omega)]
            rw [e, e, hsame]
          · rw [if_neg hc] at hg
            have : gb (bits [fullR]) y x = true := (gb_bits_iff hy hx).2 ⟨fullR, by simp, by rw [inR_iff]; simp only; omega⟩
            rw [this] at hg; cases hg
      rw [key]
  · rw [opR, opR, rmL_reg, rmL_reg]
    rw [show isReg (recR l m q) = false by simpa using hr]
    simp only [Bool.and_false, cond_false]
end Go.Proofs.YtpjajhjcbcfplaaGreat
namespace Go.Proofs.YtpjajhjcbcfplaaGreat
set_option linter.unusedVariables false
set_option linter.unusedSimpArgs false
open Go
set_option maxRecDepth 20000
set_option linter.unusedSimpArgs false
variable {G : Gh} {L : List Ch} {R : Value → Gh → List Ch → Prop}
theorem Eq34 : EqT Tryz.prog 34 ruleT := ⟨by kernel_rfl, fun a b w => by
  rw [eqT_run 9999 _ _ w Tryz.underlying34 (by kernel_rfl)]
  obtain ⟨a0, a1, a2, a3, a4⟩ := a; obtain ⟨b0, b1, b2, b3, b4⟩ := b
  simp only [ruleT]
  simp [Op.eqFields, part, isAgg, run_underlying Tryz.underlying2, run_equalIn_int _ _ _ _ _ _ _ Tryz.underlying2]
  by_cases e0 : a0 = b0 <;> by_cases e1 : a1 = b1 <;> by_cases e2 : a2 = b2 <;> by_cases e3 : a3 = b3 <;> by_cases e4 : a4 = b4 <;> simp_all⟩
def hasR (rs : List Rule) (q : Rule) : Bool := rs.any fun r => decide (q = r)
def deckAt (rs : List Rule) (i : Nat) : Bool := validRule (gd rs i) && !hasR (rs.take i) (gd rs i)
def deckOk (rs : List Rule) : Bool := decide (rs.length ≤ 12) && decide (∀ i, i < rs.length → deckAt rs i = true)
theorem deck_false {rs : List Rule} {i : Nat} (h : i < rs.length) (e : deckAt rs i = false) : deckOk rs = false := by
  simp only [deckOk, Bool.and_eq_false_iff, decide_eq_false_iff_not]
  exact .inr fun hh => by rw [hh i h] at e; cases e
theorem deck_all {rs : List Rule} (h : ∀ i, i < rs.length → deckAt rs i = true) : deckOk rs = decide ((rs.length : Int) ≤ 12) := by
  simp only [deckOk, decide_eq_true h, Bool.and_true]; rw [decide_eq_decide]; omega
theorem deck_rule {rs : List Rule} (h : deckOk rs = true) {i : Nat} (hi : i < rs.length) : validRule (gd rs i) = true := by
  simp only [deckOk, Bool.and_eq_true, decide_eq_true_eq] at h
  have := h.2 i hi; simp only [deckAt, Bool.and_eq_true] at this; exact this.1
theorem deck_len {rs : List Rule} (h : deckOk rs = true) : rs.length ≤ 12 := by
  simp only [deckOk, Bool.and_eq_true, decide_eq_true_eq] at h; exact h.1
theorem indexRule_s {v : Value} {rs : List Rule} {q : Rule} (h1 : Rs G L ruleT v rs) (k : R (vi (idxI (fun r => decide (q = r)) rs)) G L) : CallT Tryz.prog 177 #[v, vrule q] G L R := by
  refine CallT.bd h1 fun hb => ?_
  refine CallT.enter (args := _) Tryz.func177 rfl rfl (by kernel_rfl) rfl ?_
  refine WP.seq ?_
  refine WP.region ?_
  refine RG.ot rfl (OT.box (cs := ruleT.enc q) rfl rfl rfl fun b3 => ?_)
  refine RG.pv rfl (PV.mvI (.inr rfl) rfl) ?_
  refine RG.nil ?_
  refine WP.seq ?_
  refine WP.seq ?_
  refine WP.region ?_
  refine RG.pv rfl (PV.move (v := v) rfl rfl) ?_
  refine RG.pv rfl (PV.len (v := v) rfl Tryz.underlying52 rfl (SlF.r h1)) ?_
  refine RG.pv rfl (PV.mvI (.inl rfl) rfl) ?_
  refine RG.nil ?_
  refine WP.block ?_
  refine WP.loop1 [0, 3, 7] (fun i => i ≤ rs.length ∧ ∀ j, j < i → decide (q = gd rs j) = false) (fun i => [(8, vi i)]) (fun i => blk b3 34 (ruleT.enc q) :: L) (fun i => rs.length - i) 0 ⟨by omega, fun j h => by omega⟩ ⟨rfl, trivial⟩ Cv.p ?_
  rintro i τ ⟨hi, hj⟩
  refine WP.seq ?_
  refine WP.region ?_
  refine RG.pv rfl (PV.lss rfl rfl rfl) ?_
  refine RG.nil ?_
  refine WP.seq ?_
  refine WP.cond rfl (fun h2 => ?_) (fun h2 => ?_)
  · have h2 := of_decide_eq_true h2
    refine WP.skip ?_
    refine WP.seq ?_
    refine WP.block ?_
    refine WP.seq ?_
    refine WP.region ?_
    refine RG.pv rfl (PV.mvI (.inl rfl) rfl) ?_
    refine RG.pv rfl (PV.mvI (.inr rfl) rfl) ?_
    refine RG.nil ?_
    refine WP.seq ?_
    refine WP.regionQ (by kernel_rfl) (by kernel_rfl) ?_
    refine RQ.pv rfl (PV.loadW rfl Ag34 rfl rfl) ?_
    refine RQ.pv rfl (PV.move (v := v) rfl rfl) ?_
    refine RQ.pv rfl (PV.mvI (.inl rfl) rfl) ?_
    refine RQ.pv rfl (PV.idxS (v := v) rfl Is52 rfl (SlF.r h1) rfl rfl (by omega)) ?_
    refine RQ.pv rfl (PV.loadE rfl Ag34 rfl rfl (El.r h1 (getG (by omega)))) ?_
    refine RQ.pv rfl (PV.eqlT rfl Eq34 rfl rfl) ?_
    refine RQ.nil ?_
    refine WP.cond rfl (fun h3 => ?_) (fun h3 => ?_)
    · rw [idxI_at (by omega) h3 hj] at k
      refine WP.seq ?_
      refine WP.region ?_
      refine RG.pv rfl (PV.mvI (.inl rfl) rfl) ?_
      refine RG.pv rfl (PV.mvI (.inr rfl) rfl) ?_
      refine RG.nil ?_
      refine WP.ret ?_
      exact ⟨_, _, ResV.one rfl rfl, Cv.p, k⟩
    · have hj' : ∀ j, j < i + 1 → decide (q = gd rs j) = false := fun j h => by
        by_cases c : j = i
        · rw [c]; exact h3
        · exact hj j (by omega)
      refine WP.skip ?_
      refine WP.region ?_
      refine RG.pv rfl (PV.add rfl rfl rfl (by omega)) ?_
      refine RG.pv rfl (PV.mvI (.inl rfl) rfl) ?_
      refine RG.nil ?_
      exact ⟨rfl, i + 1, ⟨by omega, hj'⟩, ⟨rfl, trivial⟩, ⟨rfl, rfl, rfl, trivial⟩, Cv.p, by omega⟩
  · have h2 := of_decide_eq_false h2
    rw [idxI_none (fun j h => hj j (by omega))] at k
    refine WP.exit ?_
    refine WP.seq ?_
    refine WP.region ?_
    refine RG.pv rfl (PV.mvI (.inr rfl) rfl) ?_
    refine RG.nil ?_
    refine WP.ret ?_
    exact ⟨_, _, ResV.one rfl rfl, Cv.p, k⟩
theorem containsRule_s {v : Value} {rs : List Rule} {q : Rule} (h1 : Rs G L ruleT v rs) (k : R (.bool (hasR rs q)) G L) : CallT Tryz.prog 130 #[v, vrule q] G L R := by
  rw [hasR, ← idxI_any] at k
  refine CallT.enter (args := _) Tryz.func130 rfl rfl (by kernel_rfl) rfl ?_
  refine WP.seq ?_
  refine WP.region ?_
  refine RG.ot rfl (OT.box (cs := ruleT.enc q) rfl rfl rfl fun b3 => ?_)
  refine RG.pv rfl (PV.mvB (.inr rfl) rfl) ?_
  refine RG.nil ?_
  refine WP.seq ?_
  refine WP.region ?_
  refine RG.pv rfl (PV.move (v := v) rfl rfl) ?_
  refine RG.pv rfl (PV.loadW rfl Ag34 rfl rfl) ?_
  refine RG.callF (vs := [v, _]) rfl rfl En177 rfl (indexRule_s (Rs.up h1) ?_)
  refine RG.pv rfl (PV.geq rfl rfl rfl) ?_
  refine RG.pv rfl (PV.mvB (.inr rfl) rfl) ?_
  refine RG.nil ?_
  refine WP.ret ?_
  exact ⟨_, _, ResV.one rfl rfl, Cv.p, k⟩
theorem deck_i {d : Deck} (h1 : Rs G L ruleT d.rules.v d.rules.xs) (k : R (.bool (deckOk d.rules.xs)) G L) : CallT Tryz.prog 74 #[vT deckT d] G L R := by
  refine CallT.bd h1 fun hb => ?_
  refine CallT.enter (args := _) Tryz.func74 rfl rfl (by kernel_rfl) rfl ?_
  refine WP.seq ?_
  refine WP.region ?_
  refine RG.ot rfl (OT.box (cs := deckT.enc d) rfl rfl rfl fun b1 => ?_)
  refine RG.pv rfl (PV.mvB (.inr rfl) rfl) ?_
  refine RG.nil ?_
  refine WP.seq ?_
  refine WP.seq ?_
  refine WP.region ?_
  refine RG.pv rfl (PV.field rfl Fo54_0 rfl) ?_
  refine RG.pv rfl (PV.load1 rfl Sc52 rfl (Rd.blk rfl)) ?_
  refine RG.pv rfl (PV.len rfl Tryz.underlying52 rfl (SlF.r h1)) ?_
  refine RG.pv rfl (PV.mvI (.inl rfl) rfl) ?_
  refine RG.nil ?_
  refine WP.block ?_
  refine WP.loop1 [1, 6, 7] (fun i => i ≤ d.rules.xs.length ∧ ∀ j, j < i → deckAt d.rules.xs j = true) (fun i => [(8, vi i)]) (fun i => blk b1 54 (deckT.enc d) :: L) (fun i => d.rules.xs.length - i) 0 ⟨by omega, fun j h => by omega⟩ ⟨rfl, trivial⟩ Cv.p ?_
  rintro i τ ⟨hi, hj⟩
  refine WP.seq ?_
  refine WP.region ?_
  refine RG.pv rfl (PV.lss rfl rfl rfl) ?_
  refine RG.nil ?_
  refine WP.seq ?_
  refine WP.cond rfl (fun h2 => ?_) (fun h2 => ?_)
  · have h2 := of_decide_eq_true h2
    have h3 : i < d.rules.xs.length := by omega
    refine WP.skip ?_
    refine WP.seq ?_
    refine WP.block ?_
    refine WP.seq ?_
    refine WP.region ?_
    refine RG.pv rfl (PV.mvI (.inl rfl) rfl) ?_
    refine RG.pv rfl (PV.idxS rfl Is52 rfl (SlF.r h1) rfl rfl (by omega)) ?_
    refine RG.pv rfl (PV.loadE rfl Ag34 rfl rfl (El.r h1 (getG (by omega)))) ?_
    refine RG.ot rfl (OT.alloc rfl Zr34 fun b4 => ?_)
    refine RG.pv rfl (PV.mvI (.inr rfl) rfl) ?_
    refine RG.ot rfl (OT.storeW (vs := [vi _, vi _, vi _, vi _, vi _]) rfl Sz34 rfl rfl (Cl.c rfl) rfl rfl (OneC.c rfl) ?_)
    refine RG.nil ?_
    refine WP.seq ?_
    refine WP.regionQ (by kernel_rfl) (by kernel_rfl) ?_
    refine RQ.pv rfl (PV.loadW rfl Ag34 rfl rfl) ?_
    refine RQ.callF (vs := [_]) rfl rfl En39 rfl (validRule_i ⟨rfl, rfl, rfl⟩) ?_
    refine RQ.pv rfl (PV.not rfl rfl) ?_
    refine RQ.pv rfl (PV.mvB (.inl rfl) rfl) ?_
    refine RQ.gs rfl rfl rfl (fun hp => (PV.field rfl Fo54_0 rfl)) ?_
    refine RQ.gs rfl rfl rfl (fun hp => (PV.load1 rfl Sc52 (gs_t hp) (Rd.blk rfl))) ?_
    refine RQ.gs rfl rfl rfl (fun hp => (PV.mvI (.inl rfl) rfl)) ?_
    refine RQ.gs rfl rfl rfl (fun hp => (PV.slc rfl Is52 (gs_t hp) (SlF.r h1) optAt.n (optAt.s (gs_t hp) rfl) (by first | omega | (simp at hp; omega)) (by first | omega | (simp at hp; omega)))) ?_
    refine RQ.gs rfl rfl rfl (fun hp => (PV.loadW rfl Ag34 rfl rfl)) ?_
    refine RQ.gsC rfl rfl rfl rfl En130 (fun hp => ⟨_, (acons (gs_t hp) (acons (gs_t hp) anil)), containsRule_s (rs := d.rules.xs.take i) (by have := Rs.slv h1 (lo := 0) (hi := i) (by omega) (by omega); rw [List.drop_zero] at this; exact this.up) ⟨rfl, rfl, rfl⟩⟩) ?_
    refine RQ.pv rfl (PV.pickO rfl rfl rfl (fun hq => gs_t (geqF hq))) ?_
    refine RQ.nil ?_
    refine WP.cond rfl (fun h4 => ?_) (fun h4 => ?_)
    · have e : deckAt d.rules.xs i = false := by
        revert h4; unfold deckAt
        cases validRule (gd d.rules.xs i) <;> cases hasR (d.rules.xs.take i) (gd d.rules.xs i) <;> simp
      rw [deck_false h3 e] at k
      refine WP.seq ?_
      refine WP.region ?_
      refine RG.pv rfl (PV.mvB (.inr rfl) rfl) ?_
      refine RG.nil ?_
      refine WP.ret ?_
      exact ⟨_, _, ResV.one rfl rfl, Cv.p, k⟩
    · have e : deckAt d.rules.xs i = true := by
        revert h4; unfold deckAt
        cases validRule (gd d.rules.xs i) <;> cases hasR (d.rules.xs.take i) (gd d.rules.xs i) <;> simp
      have hj' : ∀ j, j < i + 1 → deckAt d.rules.xs j = true := fun j h => by
        by_cases c : j = i
        · rw [c]; exact e
        · exact hj j (by omega)
      refine WP.skip ?_
      refine WP.region ?_
      refine RG.pv rfl (PV.add rfl rfl rfl (by omega)) ?_
      refine RG.pv rfl (PV.mvI (.inl rfl) rfl) ?_
      refine RG.nil ?_
      exact ⟨rfl, i + 1, ⟨by omega, hj'⟩, ⟨rfl, trivial⟩, ⟨rfl, rfl, rfl, trivial⟩, Cv.p, by omega⟩
  · have h2 := of_decide_eq_false h2
    rw [deck_all (fun i h => hj i (by omega))] at k
    refine WP.exit ?_
    refine WP.seq ?_
    refine WP.region ?_
    refine RG.pv rfl (PV.field rfl Fo54_0 rfl) ?_
    refine RG.pv rfl (PV.load1 rfl Sc52 rfl (Rd.blk rfl)) ?_
    refine RG.pv rfl (PV.len rfl Tryz.underlying52 rfl (SlF.r h1)) ?_
    refine RG.pv rfl (PV.leq rfl rfl rfl) ?_
    refine RG.pv rfl (PV.mvB (.inr rfl) rfl) ?_
    refine RG.nil ?_
    refine WP.ret ?_
    exact ⟨_, _, ResV.one rfl rfl, Cv.p, k⟩
theorem l16Has_s {v : Value} {rs : List Rule} {q : Rule} (h1 : Rs G L ruleT v rs) (k : R (.bool (hasR rs q)) G L) : CallT Tryz.prog 164 #[v, vrule q] G L R := by
  refine CallT.bd h1 fun hb => ?_
  refine CallT.enter (args := _) Tryz.func164 rfl rfl (by kernel_rfl) rfl ?_
  refine WP.seq ?_
  refine WP.region ?_
  refine RG.ot rfl (OT.box (cs := ruleT.enc q) rfl rfl rfl fun b3 => ?_)
  refine RG.pv rfl (PV.mvB (.inr rfl) rfl) ?_
  refine RG.nil ?_
  refine WP.seq ?_
  refine WP.seq ?_
  refine WP.region ?_
  refine RG.pv rfl (PV.mvI (.inr rfl) rfl) ?_
  refine RG.nil ?_
  refine WP.block ?_
  refine WP.loop1 [0, 3] (fun i => i ≤ rs.length ∧ ∀ j, j < i → ¬ q = gd rs j) (fun i => [(5, vi i)]) (fun i => blk b3 34 (ruleT.enc q) :: L) (fun i => rs.length - i) 0 ⟨by omega, fun j h => by omega⟩ ⟨rfl, trivial⟩ Cv.p ?_
  rintro i τ ⟨hi, hj⟩
  refine WP.seq ?_
  refine WP.seq ?_
  refine WP.region ?_
  refine RG.pv rfl (PV.mvI (.inl rfl) rfl) ?_
  refine RG.pv rfl (PV.move (v := v) rfl rfl) ?_
  refine RG.pv rfl (PV.len (v := v) rfl Tryz.underlying52 rfl (SlF.r h1)) ?_
  refine RG.pv rfl (PV.lss rfl rfl rfl) ?_
  refine RG.nil ?_
  refine WP.cond rfl (fun h2 => ?_) (fun h2 => ?_)
  · have h2 := of_decide_eq_true h2
    refine WP.skip ?_
    refine WP.seq ?_
    refine WP.block ?_
    refine WP.seq ?_
    refine WP.regionQ (by kernel_rfl) (by kernel_rfl) ?_
    refine RQ.pv rfl (PV.move (v := v) rfl rfl) ?_
    refine RQ.pv rfl (PV.mvI (.inl rfl) rfl) ?_
    refine RQ.pv rfl (PV.idxS (v := v) rfl Is52 rfl (SlF.r h1) rfl rfl (by omega)) ?_
    refine RQ.pv rfl (PV.loadE rfl Ag34 rfl rfl (El.r h1 (getG (by omega)))) ?_
    refine RQ.pv rfl (PV.loadW rfl Ag34 rfl rfl) ?_
    refine RQ.pv rfl (PV.eqlT rfl Eq34 rfl rfl) ?_
    refine RQ.nil ?_
    refine WP.cond rfl (fun h3 => ?_) (fun h3 => ?_)
    · have e : hasR rs q = true := List.any_eq_true.2 ⟨gd rs i, by rw [gd_eq (by omega)]; exact List.getElem_mem _, by rw [decide_eq_true_iff]; exact (of_decide_eq_true h3).symm⟩
      rw [e] at k
      refine WP.seq ?_
      refine WP.region ?_
      refine RG.pv rfl (PV.mvB (.inr rfl) rfl) ?_
      refine RG.nil ?_
      refine WP.ret ?_
      exact ⟨_, _, ResV.one rfl rfl, Cv.p, k⟩
    · have hj' : ∀ j, j < i + 1 → ¬ q = gd rs j := fun j h => by
        by_cases c : j = i
        · rw [c]; exact fun e => (of_decide_eq_false h3) e.symm
        · exact hj j (by omega)
      refine WP.skip ?_
      refine WP.region ?_
      refine RG.pv rfl (PV.mvI (.inl rfl) rfl) ?_
      refine RG.pv rfl (PV.add rfl rfl rfl (by omega)) ?_
      refine RG.pv rfl (PV.mvI (.inr rfl) rfl) ?_
      refine RG.nil ?_
      exact ⟨rfl, i + 1, ⟨by omega, hj'⟩, ⟨rfl, trivial⟩, ⟨rfl, rfl, trivial⟩, Cv.p, by omega⟩
  · have h2 := of_decide_eq_false h2
    have e : hasR rs q = false := by
      rw [hasR, List.any_eq_false]
      intro r hr
      obtain ⟨j, hj2, rfl⟩ := List.getElem_of_mem hr
      have := hj j (by omega)
      rw [gd_eq hj2] at this
      simpa using this
    rw [e] at k
    refine WP.exit ?_
    refine WP.seq ?_
    refine WP.region ?_
    refine RG.pv rfl (PV.mvB (.inr rfl) rfl) ?_
    refine RG.nil ?_
    refine WP.ret ?_
    exact ⟨_, _, ResV.one rfl rfl, Cv.p, k⟩
theorem deck_r {d : Deck} (h1 : Rs G L ruleT d.rules.v d.rules.xs) (k : R (.bool (deckOk d.rules.xs)) G L) : CallT Tryz.prog 125 #[vT deckT d] G L R := by
  refine CallT.bd h1 fun hb => ?_
  refine CallT.enter (args := _) Tryz.func125 rfl rfl (by kernel_rfl) rfl ?_
  refine WP.seq ?_
  refine WP.region ?_
  refine RG.ot rfl (OT.box (cs := deckT.enc d) rfl rfl rfl fun b1 => ?_)
  refine RG.pv rfl (PV.mvB (.inr rfl) rfl) ?_
  refine RG.nil ?_
  refine WP.seq ?_
  refine WP.seq ?_
  refine WP.region ?_
  refine RG.pv rfl (PV.field rfl Fo54_0 rfl) ?_
  refine RG.pv rfl (PV.load1 rfl Sc52 rfl (Rd.blk rfl)) ?_
  refine RG.pv rfl (PV.len rfl Tryz.underlying52 rfl (SlF.r h1)) ?_
  refine RG.pv rfl (PV.gtr rfl rfl rfl) ?_
  refine RG.nil ?_
  refine WP.cond rfl (fun h0 => ?_) (fun h0 => ?_)
  · have h0 := of_decide_eq_true h0
    have e : deckOk d.rules.xs = false := by
      have : ¬ d.rules.xs.length ≤ 12 := by omega
      simp [deckOk, this]
    rw [e] at k
    refine WP.seq ?_
    refine WP.region ?_
    refine RG.pv rfl (PV.mvB (.inr rfl) rfl) ?_
    refine RG.nil ?_
    refine WP.ret ?_
    exact ⟨_, _, ResV.one rfl rfl, Cv.p, k⟩
  · have h0 := of_decide_eq_false h0
    refine WP.skip ?_
    refine WP.seq ?_
    refine WP.seq ?_
    refine WP.region ?_
    refine RG.pv rfl (PV.mvI (.inr rfl) rfl) ?_
    refine RG.nil ?_
    refine WP.block ?_
    refine WP.loop1 [1] (fun i => i ≤ d.rules.xs.length ∧ ∀ j, j < i → deckAt d.rules.xs j = true) (fun i => [(3, vi i)]) (fun i => blk b1 54 (deckT.enc d) :: L) (fun i => d.rules.xs.length - i) 0 ⟨by omega, fun j h => by omega⟩ ⟨rfl, trivial⟩ Cv.p ?_
    rintro i τ ⟨hi, hj⟩
    refine WP.seq ?_
    refine WP.seq ?_
    refine WP.region ?_
    refine RG.pv rfl (PV.mvI (.inl rfl) rfl) ?_
    refine RG.pv rfl (PV.field rfl Fo54_0 rfl) ?_
    refine RG.pv rfl (PV.load1 rfl Sc52 rfl (Rd.blk rfl)) ?_
    refine RG.pv rfl (PV.len rfl Tryz.underlying52 rfl (SlF.r h1)) ?_
    refine RG.pv rfl (PV.lss rfl rfl rfl) ?_
    refine RG.nil ?_
    refine WP.cond rfl (fun h2 => ?_) (fun h2 => ?_)
    · have h2 := of_decide_eq_true h2
      have h3 : i < d.rules.xs.length := by omega
      refine WP.skip ?_
      refine WP.seq ?_
      refine WP.block ?_
      refine WP.seq ?_
      refine WP.regionQ (by kernel_rfl) (by kernel_rfl) ?_
      refine RQ.pv rfl (PV.field rfl Fo54_0 rfl) ?_
      refine RQ.pv rfl (PV.load1 rfl Sc52 rfl (Rd.blk rfl)) ?_
      refine RQ.pv rfl (PV.mvI (.inl rfl) rfl) ?_
      refine RQ.pv rfl (PV.idxS rfl Is52 rfl (SlF.r h1) rfl rfl (by omega)) ?_
      refine RQ.pv rfl (PV.loadE rfl Ag34 rfl rfl (El.r h1 (getG (by omega)))) ?_
      refine RQ.callF (vs := [_]) rfl rfl En21 rfl (validRule_s ⟨rfl, rfl, rfl⟩) ?_
      refine RQ.pv rfl (PV.not rfl rfl) ?_
      refine RQ.pv rfl (PV.mvB (.inl rfl) rfl) ?_
      refine RQ.gs rfl rfl rfl (fun hp => (PV.field rfl Fo54_0 rfl)) ?_
      refine RQ.gs rfl rfl rfl (fun hp => (PV.load1 rfl Sc52 (gs_t hp) (Rd.blk rfl))) ?_
      refine RQ.gs rfl rfl rfl (fun hp => (PV.mvI (.inl rfl) rfl)) ?_
      refine RQ.gs rfl rfl rfl (fun hp => (PV.slc rfl Is52 (gs_t hp) (SlF.r h1) optAt.n (optAt.s (gs_t hp) rfl) (by first | omega | (simp at hp; omega)) (by first | omega | (simp at hp; omega)))) ?_
      refine RQ.gs rfl rfl rfl (fun hp => (PV.field rfl Fo54_0 rfl)) ?_
      refine RQ.gs rfl rfl rfl (fun hp => (PV.load1 rfl Sc52 (gs_t hp) (Rd.blk rfl))) ?_
      refine RQ.gs rfl rfl rfl (fun hp => (PV.mvI (.inl rfl) rfl)) ?_
      refine RQ.gs rfl rfl rfl (fun hp => (PV.idxS rfl Is52 (gs_t hp) (SlF.r h1) (gs_t hp) rfl (by first | omega | (simp at hp; omega)))) ?_
      refine RQ.gs rfl rfl rfl (fun hp => (PV.loadE rfl Ag34 (gs_t hp) rfl (El.r h1 (getG (by first | omega | (simp at hp; omega)))))) ?_
      refine RQ.gsC rfl rfl rfl rfl En164 (fun hp => ⟨_, (acons (gs_t hp) (acons (gs_t hp) anil)), l16Has_s (rs := d.rules.xs.take i) (by have := Rs.slv h1 (lo := 0) (hi := i) (by omega) (by omega); rw [List.drop_zero] at this; exact this.up) ⟨rfl, rfl, rfl⟩⟩) ?_
      refine RQ.pv rfl (PV.pickO rfl rfl rfl (fun hq => gs_t (geqF hq))) ?_
      refine RQ.nil ?_
      refine WP.cond rfl (fun h4 => ?_) (fun h4 => ?_)
      · have e : deckAt d.rules.xs i = false := by
          revert h4; unfold deckAt
          cases validRule (gd d.rules.xs i) <;> cases hasR (d.rules.xs.take i) (gd d.rules.xs i) <;> simp
        rw [deck_false h3 e] at k
        refine WP.seq ?_
        refine WP.region ?_
        refine RG.pv rfl (PV.mvB (.inr rfl) rfl) ?_
        refine RG.nil ?_
        refine WP.ret ?_
        exact ⟨_, _, ResV.one rfl rfl, Cv.p, k⟩
      · have e : deckAt d.rules.xs i = true := by
          revert h4; unfold deckAt
          cases validRule (gd d.rules.xs i) <;> cases hasR (d.rules.xs.take i) (gd d.rules.xs i) <;> simp
        have hj' : ∀ j, j < i + 1 → deckAt d.rules.xs j = true := fun j h => by
          by_cases c : j = i
          · rw [c]; exact e
          · exact hj j (by omega)
        refine WP.skip ?_
        refine WP.region ?_
        refine RG.pv rfl (PV.mvI (.inl rfl) rfl) ?_
        refine RG.pv rfl (PV.add rfl rfl rfl (by omega)) ?_
        refine RG.pv rfl (PV.mvI (.inr rfl) rfl) ?_
        refine RG.nil ?_
        exact ⟨rfl, i + 1, ⟨by omega, hj'⟩, ⟨rfl, trivial⟩, ⟨rfl, trivial⟩, Cv.p, by omega⟩
    · have h2 := of_decide_eq_false h2
      have e : deckOk d.rules.xs = true := by
        rw [deck_all (fun i h => hj i (by omega)), decide_eq_true_iff]; omega
      rw [e] at k
      refine WP.exit ?_
      refine WP.seq ?_
      refine WP.region ?_
      refine RG.pv rfl (PV.mvB (.inr rfl) rfl) ?_
      refine RG.nil ?_
      refine WP.ret ?_
      exact ⟨_, _, ResV.one rfl rfl, Cv.p, k⟩
def mkRu (_ : Rule) (k : Int) : Rule := ⟨k, k + 1, k + 1 + 1, k + 1 + 1 + 1, k + 1 + 1 + 1 + 1⟩
def nRu (_ : Rule) : Int := 5
theorem nRu_cost (xs : List Rule) : costL nRu xs = 5 * xs.length := costL_const 5 xs
theorem mkRu_at {xs : List Rule} {i : Nat} {k0 kk : Int} (h : i < xs.length) (e : kk = k0 + 5 * i) : mkRu (gd xs i) (k0 + costL nRu (xs.take i)) = ⟨kk, kk + 1, kk + 1 + 1, kk + 1 + 1 + 1, kk + 1 + 1 + 1 + 1⟩ := by
  rw [mkRu, nRu_cost, List.length_take, Nat.min_eq_left (by omega), e]
end Go.Proofs.YtpjajhjcbcfplaaGreat
namespace Go.Proofs.YtpjajhjcbcfplaaGreat
set_option linter.unusedVariables false
set_option linter.unusedSimpArgs false
open Go
set_option maxRecDepth 20000
set_option maxHeartbeats 2000000
set_option linter.unusedSimpArgs false
variable {G : Gh} {L : List Ch} {R : Value → Gh → List Ch → Prop}
theorem drawDeck_n {b : Nat} {cv v : Value} {bs : List UInt8} {ys : List (Sl Rect)} (hcode : SL G byteT cv bs) (h1 : Rs G L slT v ys) (hd : RsE G L rectT ys) (hyl : ys.length = 8) (k : ∀ v' rs, 0 < rs.length → rs.length ≤ 6 → R (vT deckT ⟨⟨v', rs⟩⟩) G (osl 34 ruleT v' rs :: src b cv :: L)) : CallT Tryz.prog 105 #[.pointer (some ⟨b, 0, none⟩), v] G (src b cv :: L) R := by
  refine CallT.enter (args := _) Tryz.func105 rfl rfl (by kernel_rfl) rfl ?_
  refine WP.seq ?_
  refine WP.region ?_
  refine RG.ot rfl (OT.alloc rfl Zr54 fun b4 => ?_)
  refine RG.nil ?_
  refine WP.seq ?_
  refine WP.region ?_
  refine RG.pv rfl (PV.build (vs := []) (out := [_]) rfl Zr54 Pl54 trivial rfl) ?_
  refine RG.ot rfl (OT.alloc rfl Zr54 fun b5 => ?_)
  refine RG.ot rfl (OT.storeW (vs := [_]) rfl Sz54 rfl rfl (Cl.c rfl) rfl rfl (OneC.c rfl) ?_)
  refine RG.nil ?_
  refine WP.seq ?_
  refine WP.seq ?_
  refine WP.region ?_
  refine RG.pv rfl (PV.move rfl rfl) ?_
  refine RG.callF (vs := [_, _]) rfl rfl En66 rfl (CallT.exC (src b cv) (next_s hcode (by omega) (fun w12 hw12 => ?_)))
  refine RG.pv rfl (PV.add rfl rfl rfl (by omega)) ?_
  refine RG.pv rfl (PV.mvI (.inr rfl) rfl) ?_
  refine RG.nil ?_
  refine WP.block ?_
  refine WP.cv ((Cv.p (C := blk b5 54 [.slice none 0 0] :: blk b4 54 [.slice none 0 0] :: src b cv :: L)).trans (Cv.nilS (e := 34) (F := ruleT))) ?_
  refine WP.loop3 [0, 1, 4, 5] (fun (j : Int) (rs : List Rule) (q : Value) => (0 ≤ j ∧ j ≤ 4) ∧ (rs.length : Int) + j ≤ 4 ∧ (rs.length = 0 → 1 ≤ j)) (fun (j : Int) (rs : List Rule) (q : Value) => [(6, vi j)]) (fun (j : Int) (rs : List Rule) (q : Value) => osl 34 ruleT q rs :: blk b5 54 [q] :: blk b4 54 [.slice none 0 0] :: src b cv :: L) (fun (j : Int) (rs : List Rule) (q : Value) => j.toNat) (w12 + 1) [] (.slice none 0 0) ⟨by omega, by simp; omega, fun _ => by omega⟩ ⟨rfl, trivial⟩ Cv.p ?_
  rintro j rs q τ ⟨hj, hrl, hrn⟩
  refine WP.seq ?_
  refine WP.seq ?_
  refine WP.region ?_
  refine RG.pv rfl (PV.mvI (.inl rfl) rfl) ?_
  refine RG.pv rfl (PV.gtr rfl rfl rfl) ?_
  refine RG.nil ?_
  refine WP.cond rfl (fun h2 => ?_) (fun h2 => ?_)
  · have h2 := of_decide_eq_true h2
    refine WP.skip ?_
    refine WP.seq ?_
    refine WP.block ?_
    refine WP.seq ?_
    refine WP.region ?_
    refine RG.pv rfl (PV.move rfl rfl) ?_
    refine RG.callF (vs := [_, _]) rfl rfl En66 rfl (CallT.exC (src b cv) (next_s hcode (by omega) (fun w19 hw19 => ?_)))
    refine RG.pv rfl (PV.mvI (.inr rfl) rfl) ?_
    refine RG.nil ?_
    refine WP.cut1 [0, 1, 4, 5, 6] (fun (n2 : Int) => 0 ≤ n2 ∧ n2 < 8) (fun (n2 : Int) => [(7, vi n2)]) (fun (n2 : Int) => osl 34 ruleT q rs :: blk b5 54 [q] :: blk b4 54 [.slice none 0 0] :: src b cv :: L) ?_ ?_
    refine WP.seq ?_
    refine WP.region ?_
    refine RG.pv rfl (PV.mvI (.inr rfl) rfl) ?_
    refine RG.nil ?_
    refine WP.block ?_
    refine WP.loop2 [0, 1, 4, 5, 6] (fun (m n : Int) => (0 ≤ m ∧ m ≤ 8) ∧ 0 ≤ n ∧ n < 8) (fun (m n : Int) => [(7, vi n), (8, vi m)]) (fun (m n : Int) => osl 34 ruleT q rs :: blk b5 54 [q] :: blk b4 54 [.slice none 0 0] :: src b cv :: L) (fun (m n : Int) => (8 - m).toNat) 0 w19 ⟨by omega, by omega⟩ ⟨rfl, rfl, trivial⟩ Cv.p ?_
    rintro m n τ2 ⟨hm, hn⟩
    refine WP.seq ?_
    refine WP.seq ?_
    refine WP.region ?_
    refine RG.pv rfl (PV.mvI (.inl rfl) rfl) ?_
    refine RG.pv rfl (PV.lss rfl rfl rfl) ?_
    refine RG.pv rfl (PV.mvB (.inl rfl) rfl) ?_
    refine RG.gs rfl rfl rfl (fun hp => (PV.move (v := v) rfl rfl)) ?_
    refine RG.gs rfl rfl rfl (fun hp => (PV.len (v := v) rfl Tryz.underlying32 (gs_t hp) (SlF.r h1))) ?_
    refine RG.gs rfl rfl rfl (fun hp => (PV.eql rfl (gs_t hp) rfl)) ?_
    refine RG.pv rfl (PV.pickA rfl rfl (fun hq => gs_t (geqT hq)) rfl) ?_
    refine RG.pv rfl (PV.mvB (.inl rfl) rfl) ?_
    refine RG.gs rfl rfl rfl (fun hp => (PV.move (v := v) rfl rfl)) ?_
    refine RG.gs rfl rfl rfl (fun hp => (PV.mvI (.inl rfl) rfl)) ?_
    refine RG.gs rfl rfl rfl (fun hp => (PV.idxS (j := n.toNat) (v := v) rfl Is32 (gs_t hp) (SlF.r h1) (gs_t hp) (by first | omega | (simp at hp; omega)) (by first | omega | (simp at hp; omega)))) ?_
    refine RG.gs rfl rfl rfl (fun hp => (PV.loadE1 rfl Sc28 (gs_t hp) rfl (El.r h1 (getG (by first | omega | (simp at hp; omega)))) rfl)) ?_
    refine RG.gs rfl rfl rfl (fun hp => (PV.len rfl Tryz.underlying28 (gs_t hp) (SlF.r (hd n.toNat (by omega))))) ?_
    refine RG.gs rfl rfl rfl (fun hp => (PV.eql rfl (gs_t hp) rfl)) ?_
    refine RG.pv rfl (PV.pickA rfl rfl (fun hq => gs_t (geqT hq)) rfl) ?_
    refine RG.pv rfl (PV.mvB (.inl rfl) rfl) ?_
    refine RG.spl (t := 35) rfl (fun g1 => ?_) (fun g1 => ?_)
    · refine RG.take rfl rfl rfl g1 ?_
      refine RG.pv rfl (PV.move rfl rfl) ?_
      refine RG.take rfl rfl rfl g1 ?_
      refine RG.callF (vs := [_, _]) rfl rfl En66 rfl (CallT.exC (src b cv) (next_s hcode (by omega) (fun w37 hw37 => ?_)))
      refine RG.take rfl rfl rfl g1 ?_
      refine RG.pv rfl (PV.neq rfl rfl rfl) ?_
      refine RG.pv rfl (PV.pickT rfl rfl g1 rfl) ?_
      refine RG.nil ?_
      refine WP.cond rfl (fun h5 => ?_) (fun h5 => ?_)
      · have g2 : m < 8 := by
          by_cases c : m < 8
          · exact c
          · simp [c] at g1
        refine WP.skip ?_
        refine WP.seq ?_
        refine WP.block ?_
        refine WP.region ?_
        refine RG.pv rfl (PV.mvI (.inl rfl) rfl) ?_
        refine RG.pv rfl (PV.add rfl rfl rfl (by omega)) ?_
        refine RG.pv rfl (PV.rem rfl rfl rfl (by omega) (by omega) (by omega)) ?_
        refine RG.pv rfl (PV.mvI (.inr rfl) rfl) ?_
        refine RG.nil ?_
        refine WP.region ?_
        refine RG.pv rfl (PV.mvI (.inl rfl) rfl) ?_
        refine RG.pv rfl (PV.add rfl rfl rfl (by omega)) ?_
        refine RG.pv rfl (PV.mvI (.inr rfl) rfl) ?_
        refine RG.nil ?_
        exact ⟨rfl, m + 1, _, ⟨by omega, by omega⟩, ⟨rfl, rfl, trivial⟩, ⟨rfl, rfl, rfl, rfl, rfl, trivial⟩, Cv.p, by omega⟩
      · refine WP.exit ?_
        exact ⟨rfl, n, hn, ⟨rfl, trivial⟩, ⟨rfl, rfl, rfl, rfl, rfl, trivial⟩, Cv.p⟩
    · refine RG.skip rfl rfl rfl (gne g1) ?_
      refine RG.skip rfl rfl rfl (gne g1) ?_
      refine RG.skip rfl rfl rfl (gne g1) ?_
      refine RG.pv rfl (PV.pickE rfl rfl g1 rfl) ?_
      refine RG.nil ?_
      refine WP.cond rfl (fun h5 => ?_) (fun h5 => ?_)
      · cases h5
      · refine WP.exit ?_
        exact ⟨rfl, n, hn, ⟨rfl, trivial⟩, ⟨rfl, rfl, rfl, rfl, rfl, trivial⟩, Cv.p⟩
    rintro n2 τ1 hn2
    refine WP.seq ?_
    refine WP.region ?_
    refine RG.pv rfl (PV.move rfl rfl) ?_
    refine RG.callF (vs := [_, _]) rfl rfl En66 rfl (CallT.exC (src b cv) (next_s hcode (by omega) (fun w46 hw46 => ?_)))
    refine RG.pv rfl (PV.mvI (.inl rfl) rfl) ?_
    refine RG.pv rfl (PV.move rfl rfl) ?_
    refine RG.callF (vs := [_, _]) rfl rfl En66 rfl (CallT.exC (src b cv) (next_s hcode (by omega) (fun w49 hw49 => ?_)))
    refine RG.pv rfl (PV.add rfl rfl rfl (by omega)) ?_
    refine RG.pv rfl (PV.build (vs := [(0, [vi _]), (1, [vi _]), (3, [vi _])]) (out := [_, _, _, _, _]) rfl Zr34 Pl34 ⟨rfl, (Cl.c rfl), ⟨rfl, (Cl.c rfl), ⟨rfl, (Cl.c rfl), trivial⟩⟩⟩ rfl) ?_
    refine RG.ot rfl (OT.alloc rfl Zr34 fun b9 => ?_)
    refine RG.ot rfl (OT.storeW (vs := [vi _, vi _, vi _, vi _, vi _]) rfl Sz34 rfl rfl (Cl.c rfl) rfl rfl (OneC.c rfl) ?_)
    refine RG.nil ?_
    refine WP.cut1 [0, 1, 4, 5, 6, 9] (fun (r2 : Rule) => True) (fun (r2 : Rule) => []) (fun (r2 : Rule) => blk b9 34 (ruleT.enc r2) :: osl 34 ruleT q rs :: blk b5 54 [q] :: blk b4 54 [.slice none 0 0] :: src b cv :: L) ?_ ?_
    refine WP.seq ?_
    refine WP.region ?_
    refine RG.pv rfl (PV.loadW rfl Ag34 rfl rfl) ?_
    refine RG.callF (vs := [_]) rfl rfl En163 rfl (l20Paired_s (r := ⟨w46, n2, 0, w49 + 1, 0⟩) ?_)
    refine RG.nil ?_
    · refine WP.cond rfl (fun h6 => ?_) (fun h6 => ?_)
      · refine WP.region ?_
        refine RG.pv rfl (PV.mvI (.inl rfl) rfl) ?_
        refine RG.pv rfl (PV.add rfl rfl rfl (by omega)) ?_
        refine RG.pv rfl (PV.move rfl rfl) ?_
        refine RG.callF (vs := [_, _]) rfl rfl En66 rfl (CallT.exC (src b cv) (next_s hcode (by omega) (fun w57 hw57 => ?_)))
        refine RG.pv rfl (PV.add rfl rfl rfl (by omega)) ?_
        refine RG.pv rfl (PV.rem rfl rfl rfl (by omega) (by omega) (by omega)) ?_
        refine RG.pv rfl (PV.field rfl Fo34_2 rfl) ?_
        refine RG.ot rfl (OT.storeB (vs := [vi _]) (cs' := [_, _, _, _, _]) rfl Sz2 rfl rfl (Cl.c rfl) rfl (OneC.c rfl) rfl rfl ?_)
        refine RG.nil ?_
        exact ⟨rfl, ⟨w46, n2, (n2 + 1 + w57) % 8, w49 + 1, 0⟩, trivial, trivial, ⟨rfl, rfl, rfl, rfl, rfl, rfl, trivial⟩, Cv.p⟩
      · refine WP.skip ?_
        exact ⟨rfl, ⟨w46, n2, 0, w49 + 1, 0⟩, trivial, trivial, ⟨rfl, rfl, rfl, rfl, rfl, rfl, trivial⟩, Cv.p⟩
    rintro r2 τ3 _
    refine WP.cut1 [0, 1, 4, 5, 6, 9] (fun (r3 : Rule) => True) (fun (r3 : Rule) => []) (fun (r3 : Rule) => blk b9 34 (ruleT.enc r3) :: osl 34 ruleT q rs :: blk b5 54 [q] :: blk b4 54 [.slice none 0 0] :: src b cv :: L) ?_ ?_
    refine WP.seq ?_
    refine WP.region ?_
    refine RG.pv rfl (PV.field rfl Fo34_0 rfl) ?_
    refine RG.pv rfl (PV.load1 rfl Sc2 rfl (Rd.blk rfl)) ?_
    refine RG.pv rfl (PV.eql rfl rfl rfl) ?_
    refine RG.nil ?_
    · refine WP.cond rfl (fun h7 => ?_) (fun h7 => ?_)
      · refine WP.region ?_
        refine RG.pv rfl (PV.move rfl rfl) ?_
        refine RG.callF (vs := [_, _]) rfl rfl En66 rfl (CallT.exC (src b cv) (next_s hcode (by omega) (fun w65 hw65 => ?_)))
        refine RG.pv rfl (PV.add rfl rfl rfl (by omega)) ?_
        refine RG.pv rfl (PV.field rfl Fo34_3 rfl) ?_
        refine RG.ot rfl (OT.storeB (vs := [vi _]) (cs' := [_, _, _, _, _]) rfl Sz2 rfl rfl (Cl.c rfl) rfl (OneC.c rfl) rfl rfl ?_)
        refine RG.nil ?_
        exact ⟨rfl, ⟨r2.kind, r2.layer, r2.other, w65 + 1, r2.percent⟩, trivial, trivial, ⟨rfl, rfl, rfl, rfl, rfl, rfl, trivial⟩, Cv.p⟩
      · refine WP.skip ?_
        exact ⟨rfl, r2, trivial, trivial, ⟨rfl, rfl, rfl, rfl, rfl, rfl, trivial⟩, Cv.p⟩
    rintro r3 τ4 _
    refine WP.seq ?_
    refine WP.region ?_
    refine RG.pv rfl (PV.field rfl Fo54_0 rfl) ?_
    refine RG.pv rfl (PV.load1 rfl Sc52 rfl (Rd.blk rfl)) ?_
    refine RG.pv rfl (PV.loadW rfl Ag34 rfl rfl) ?_
    refine RG.callF (vs := [_, _]) rfl rfl En164 rfl (l16Has_s (v := q) (q := r3) Rs.o ?_)
    refine RG.pv rfl (PV.not rfl rfl) ?_
    refine RG.nil ?_
    refine WP.cond rfl (fun h8 => ?_) (fun h8 => ?_)
    · refine WP.region ?_
      refine RG.pv rfl (PV.field rfl Fo54_0 rfl) ?_
      refine RG.pv rfl (PV.load1 rfl Sc52 rfl (Rd.blk rfl)) ?_
      refine RG.pv rfl (PV.loadW rfl Ag34 rfl rfl) ?_
      refine RG.ot rfl (OT.bslice (F := ruleT) (els := [⟨_, _, _, _, _⟩]) rfl El52 rfl (by decide) rfl (by decide) ⟨rfl, (Cl.c rfl), trivial⟩ fun v76 => ?_)
      refine RG.ot rfl (OT.append (v := q) (u := v76) (F := ruleT) rfl El52 rfl (by decide) rfl rfl Rs.o (OneL.c (fun _ => rfl)) rfl (by first | omega | (simp <;> omega)) fun v77 => ?_)
      refine RG.pv rfl (PV.field rfl Fo54_0 rfl) ?_
      refine RG.ot rfl (OT.storeB (v := v77) (vs := [_]) (cs' := [_]) rfl Sz52 rfl rfl (Cl.s (v := v77) SlF.o) rfl (OneC.sl SlF.o OneC.nil) rfl rfl ?_)
      refine RG.nil ?_
      refine WP.region ?_
      refine RG.pv rfl (PV.mvI (.inl rfl) rfl) ?_
      refine RG.pv rfl (PV.sub rfl rfl rfl (by omega)) ?_
      refine RG.pv rfl (PV.mvI (.inr rfl) rfl) ?_
      refine RG.nil ?_
      exact ⟨rfl, j - 1, (rs ++ [r3]), v77, ⟨by omega, by simp; omega, fun h => by simp at h⟩, ⟨rfl, trivial⟩, ⟨rfl, rfl, rfl, rfl, trivial⟩, Cv.p, by omega⟩
    · refine WP.skip ?_
      refine WP.region ?_
      refine RG.pv rfl (PV.mvI (.inl rfl) rfl) ?_
      refine RG.pv rfl (PV.sub rfl rfl rfl (by omega)) ?_
      refine RG.pv rfl (PV.mvI (.inr rfl) rfl) ?_
      refine RG.nil ?_
      exact ⟨rfl, j - 1, rs, q, ⟨by omega, by omega, fun h => by rw [List.eq_nil_of_length_eq_zero h] at h8; simp [hasR] at h8⟩, ⟨rfl, trivial⟩, ⟨rfl, rfl, rfl, rfl, trivial⟩, Cv.p, by omega⟩
  · have h2 := of_decide_eq_false h2
    refine WP.exit ?_
    refine WP.seq ?_
    refine WP.seq ?_
    refine WP.region ?_
    refine RG.pv rfl (PV.move rfl rfl) ?_
    refine RG.callF (vs := [_, _]) rfl rfl En66 rfl (CallT.exC (src b cv) (next_s hcode (by omega) (fun w80 hw80 => ?_)))
    refine RG.pv rfl (PV.eql rfl rfl rfl) ?_
    refine RG.nil ?_
    refine WP.cond rfl (fun h3 => ?_) (fun h3 => ?_)
    · skip
      refine WP.region ?_
      refine RG.pv rfl (PV.field rfl Fo54_0 rfl) ?_
      refine RG.pv rfl (PV.load1 rfl Sc52 rfl (Rd.blk rfl)) ?_
      refine RG.pv rfl (PV.build (vs := [(0, [vi _]), (1, [vi _]), (3, [vi _]), (4, [vi _])]) (out := [_, _, _, _, _]) rfl Zr34 Pl34 ⟨rfl, (Cl.c rfl), ⟨rfl, (Cl.c rfl), ⟨rfl, (Cl.c rfl), ⟨rfl, (Cl.c rfl), trivial⟩⟩⟩⟩ rfl) ?_
      refine RG.ot rfl (OT.bslice (F := ruleT) (els := [⟨_, _, _, _, _⟩]) rfl El52 rfl (by decide) rfl (by decide) ⟨rfl, (Cl.c rfl), trivial⟩ fun v85 => ?_)
      refine RG.ot rfl (OT.append (v := q) (u := v85) (F := ruleT) rfl El52 rfl (by decide) rfl rfl Rs.o (OneL.c (fun _ => rfl)) rfl (by first | omega | (simp <;> omega)) fun v86 => ?_)
      refine RG.pv rfl (PV.field rfl Fo54_0 rfl) ?_
      refine RG.ot rfl (OT.storeB (v := v86) (vs := [_]) (cs' := [_]) rfl Sz52 rfl rfl (Cl.s (v := v86) SlF.o) rfl (OneC.sl SlF.o OneC.nil) rfl rfl ?_)
      refine RG.nil ?_
      refine WP.seq ?_
      refine WP.region ?_
      refine RG.pv rfl (PV.loadW rfl Ag54 rfl rfl) ?_
      refine RG.ot rfl (OT.storeW (vs := [_]) rfl Sz54 rfl rfl (Cl.c rfl) rfl rfl (OneC.sl (SlF.o (v := v86)) OneC.nil) ?_)
      refine RG.nil ?_
      refine WP.ret ?_
      exact ⟨_, _, ResV.one rfl (RV1.cell rfl Ag54 rfl), Cv.p, k v86 (rs ++ [⟨5, 3, 0, 40, 10⟩]) (by simp) (by simp; omega)⟩
    · skip
      refine WP.skip ?_
      refine WP.seq ?_
      refine WP.region ?_
      refine RG.pv rfl (PV.loadW rfl Ag54 rfl rfl) ?_
      refine RG.ot rfl (OT.storeW (vs := [_]) rfl Sz54 rfl rfl (Cl.c rfl) rfl rfl (OneC.sl (SlF.o (v := q)) OneC.nil) ?_)
      refine RG.nil ?_
      refine WP.ret ?_
      exact ⟨_, _, ResV.one rfl (RV1.cell rfl Ag54 rfl), Cv.p, k q rs (by by_cases c : rs.length = 0; (have := hrn c; omega); omega) (by omega)⟩
theorem drawRule_s {b : Nat} {cv v : Value} {bs : List UInt8} {ys : List (Sl Rect)} (hcode : SL G byteT cv bs) (h1 : Rs G L slT v ys) (hd : RsE G L rectT ys) (hyl : ys.length = 8) (k : ∀ q : Rule, R (vT ruleT q) G (src b cv :: L)) : CallT Tryz.prog 46 #[.pointer (some ⟨b, 0, none⟩), v] G (src b cv :: L) R := by
  refine CallT.enter (args := _) Tryz.func46 rfl rfl (by kernel_rfl) rfl ?_
  refine WP.seq ?_
  refine WP.region ?_
  refine RG.ot rfl (OT.alloc rfl Zr34 fun b4 => ?_)
  refine RG.nil ?_
  refine WP.seq ?_
  refine WP.region ?_
  refine RG.pv rfl (PV.move rfl rfl) ?_
  refine RG.pv rfl (PV.move (v := v) rfl rfl) ?_
  refine RG.callF (vs := [_, v]) rfl rfl En105 rfl (CallT.exC (src b cv) (drawDeck_n hcode (Rs.up h1) hd.up hyl (fun v9 rs hr0 hr6 => ?_)))
  refine RG.ot rfl (OT.alloc rfl Zr54 fun b5 => ?_)
  refine RG.ot rfl (OT.storeW (vs := [_]) rfl Sz54 rfl rfl (Cl.c rfl) rfl rfl (OneC.sl (SlF.o (v := v9)) OneC.nil) ?_)
  refine RG.nil ?_
  refine WP.cut2 [0, 4] (fun (n : Nat) (b6 : Nat) => n < rs.length) (fun (n : Nat) (b6 : Nat) => [(6, .pointer (some ⟨b6, 0, none⟩))]) (fun (n : Nat) (b6 : Nat) => blk b6 34 (ruleT.enc (gd rs n)) :: blk b5 54 [v9] :: osl 34 ruleT v9 rs :: blk b4 34 [vi 0, vi 0, vi 0, vi 0, vi 0] :: src b cv :: L) ?_ ?_
  refine WP.regionH0 (.q 0 (.q 1 (.q 2 (.q 3 (.q 4 (.q 5 (.b 6 (.q 7 (.q 8 (.l 9 (.l 10 Sch.nil)))) 9 (.l 6 (.q 7 (.q 8 (.l 10 Sch.nil))))))))))) (by kernel_rfl) (by kernel_rfl) (by kernel_rfl) rfl ?_
  refine RH.pv rfl (fun _ _ _ _ h => h) (Gh.le_refl _) PickC.pick rfl (PV.field rfl Fo54_0 rfl) ?_
  refine RH.pv rfl (fun _ _ _ _ h => h) (Gh.le_refl _) PickC.pick rfl (PV.load1 rfl Sc52 rfl (Rd.blk rfl)) ?_
  refine RH.pv rfl (fun _ _ _ _ h => h) (Gh.le_refl _) PickC.pick rfl (PV.move rfl rfl) ?_
  refine RH.pv rfl (fun _ _ _ _ h => h) (Gh.le_refl _) PickC.pick rfl (PV.field rfl Fo54_0 rfl) ?_
  refine RH.pv rfl (fun _ _ _ _ h => h) (Gh.le_refl _) PickC.pick rfl (PV.load1 rfl Sc52 rfl (Rd.blk rfl)) ?_
  refine RH.pv rfl (fun _ _ _ _ h => h) (Gh.le_refl _) PickC.pick rfl (PV.len (v := v9) rfl Tryz.underlying52 rfl SlF.o) ?_
  · refine RH.ot2 rfl rfl rfl rfl  (OT.callF (vs := [_, _]) rfl En66 rfl (CallT.exC (src b cv) (next_s hcode (by omega) (fun w16 hw16 => ⟨Gh.le_refl _, PickC.pick, ?_⟩)))) (OT.alloc rfl Zr34 fun b6 => ⟨Gh.le_refl _, PickC.pick, ?_⟩)
    · refine RH.pv rfl (fun _ _ _ _ h => h) (Gh.le_refl _) PickC.pick rfl (PV.idxS (j := w16.toNat) (v := v9) rfl Is52 rfl SlF.o rfl (by omega) (by omega)) ?_
      refine RH.pv rfl (fun _ _ _ _ h => h) (Gh.le_refl _) PickC.pick rfl (PV.loadE rfl Ag34 rfl rfl (El.o (getG (by omega)))) ?_
      refine RH.ot rfl rfl (OT.alloc rfl Zr34 fun b6 => ⟨Gh.le_refl _, PickC.pick, ?_⟩)
      refine RH.ot rfl rfl (OT.storeW (vs := [vi _, vi _, vi _, vi _, vi _]) rfl Sz34 rfl rfl (Cl.c rfl) rfl rfl (OneC.c rfl) ⟨Gh.le_refl _, PickC.pick, ?_⟩)
      refine RH.nil ?_
      exact ⟨rfl, w16.toNat, b6, (by omega), ⟨rfl, trivial⟩, ⟨rfl, rfl, trivial⟩, Cv.p⟩
    · refine RH.ot rfl rfl (OT.callF (vs := [_, _]) rfl En66 rfl (CallT.exC (src b cv) (next_s hcode (by omega) (fun w16 hw16 => ⟨Gh.le_refl _, PickC.pick, ?_⟩))))
      refine RH.pv rfl (fun _ _ _ _ h => h) (Gh.le_refl _) PickC.pick rfl (PV.idxS (j := w16.toNat) (v := v9) rfl Is52 rfl SlF.o rfl (by omega) (by omega)) ?_
      refine RH.pv rfl (fun _ _ _ _ h => h) (Gh.le_refl _) PickC.pick rfl (PV.loadE rfl Ag34 rfl rfl (El.o (getG (by omega)))) ?_
      refine RH.ot rfl rfl (OT.storeW (vs := [vi _, vi _, vi _, vi _, vi _]) rfl Sz34 rfl rfl (Cl.c rfl) rfl rfl (OneC.c rfl) ⟨Gh.le_refl _, PickC.pick, ?_⟩)
      refine RH.nil ?_
      exact ⟨rfl, w16.toNat, b6, (by omega), ⟨rfl, trivial⟩, ⟨rfl, rfl, trivial⟩, Cv.p⟩
  rintro n b6 τ0 hn
  refine WP.seq ?_
  refine WP.seq ?_
  refine WP.region ?_
  refine RG.pv rfl (PV.move rfl rfl) ?_
  refine RG.callF (vs := [_, _]) rfl rfl En66 rfl (CallT.exC (src b cv) (next_s hcode (by omega) (fun w20 hw20 => ?_)))
  refine RG.pv rfl (PV.eql rfl rfl rfl) ?_
  refine RG.nil ?_
  refine WP.cond rfl (fun h2 => ?_) (fun h2 => ?_)
  · refine WP.region ?_
    refine RG.pv rfl (PV.field rfl Fo34_1 rfl) ?_
    refine RG.ot rfl (OT.storeB (vs := [vi _]) (cs' := [_, _, _, _, _]) rfl Sz2 rfl rfl (Cl.c rfl) rfl (OneC.c rfl) rfl rfl ?_)
    refine RG.nil ?_
    refine WP.seq ?_
    refine WP.region ?_
    refine RG.pv rfl (PV.loadW rfl Ag34 rfl rfl) ?_
    refine RG.ot rfl (OT.storeW (vs := [vi _, vi _, vi _, vi _, vi _]) rfl Sz34 rfl rfl (Cl.c rfl) rfl rfl (OneC.c rfl) ?_)
    refine RG.nil ?_
    refine WP.ret ?_
    exact ⟨_, _, ResV.one rfl (RV1.cell rfl Ag34 rfl), Cv.p, k ⟨(gd rs n).kind, 8, (gd rs n).other, (gd rs n).value, (gd rs n).percent⟩⟩
  · refine WP.skip ?_
    refine WP.seq ?_
    refine WP.region ?_
    refine RG.pv rfl (PV.loadW rfl Ag34 rfl rfl) ?_
    refine RG.ot rfl (OT.storeW (vs := [vi _, vi _, vi _, vi _, vi _]) rfl Sz34 rfl rfl (Cl.c rfl) rfl rfl (OneC.c rfl) ?_)
    refine RG.nil ?_
    refine WP.ret ?_
    exact ⟨_, _, ResV.one rfl (RV1.cell rfl Ag34 rfl), Cv.p, k (gd rs n)⟩
theorem dRA_s {cv : Value} {bs : List UInt8} (hcode : SL G byteT cv bs) (k : ∀ v v0 w xs ys zs q, Rs G [osl 28 slT v0 ys, bagS 71 rectT ys] slT v xs → (∀ s ∈ xs, s ∈ ys) → xs.length ≤ 8 → zs.length = 8 → R (.tuple #[v, w, vT ruleT q]) G (osl 28 slT w zs :: bagS 71 rectT zs :: osl 28 slT v0 ys :: bagS 71 rectT ys :: L)) : CallT Tryz.prog 19 #[cv] G L R := by
  refine CallT.enter (args := _) Tryz.func19 rfl rfl (by kernel_rfl) rfl ?_
  refine WP.seq ?_
  refine WP.region ?_
  refine RG.pv rfl (PV.asg rfl rfl) ?_
  refine RG.pv rfl (PV.asg rfl rfl) ?_
  refine RG.ot rfl (OT.alloc rfl Zr34 fun b4 => ?_)
  refine RG.nil ?_
  refine WP.seq ?_
  refine WP.region ?_
  refine RG.pv rfl (PV.move (v := cv) rfl rfl) ?_
  refine RG.callF (vs := [cv]) rfl rfl En44 rfl (from_s hcode (fun b => ?_))
  refine RG.pv rfl (PV.asg rfl rfl) ?_
  refine RG.nil ?_
  refine WP.seq ?_
  refine WP.region ?_
  refine RG.pv rfl (PV.move rfl rfl) ?_
  refine RG.callF (vs := [_]) rfl rfl En45 rfl (CallT.exC (src b cv) (drawEdit_s hcode (fun v6 v7 ys zs hyl hzl hyr hzr => ?_)))
  refine RG.pv rfl (PV.move (v := .tuple _) rfl rfl) ?_
  refine RG.pv rfl (PV.ext rfl rfl rfl) ?_
  refine RG.pv rfl (PV.ext rfl rfl rfl) ?_
  refine RG.pv rfl (PV.asg rfl rfl) ?_
  refine RG.pv rfl (PV.asg rfl rfl) ?_
  refine RG.nil ?_
  refine WP.seq ?_
  refine WP.region ?_
  refine RG.pv rfl (PV.move rfl rfl) ?_
  refine RG.pv rfl (PV.move rfl rfl) ?_
  refine RG.callF (vs := [_, _]) rfl rfl En46 rfl (CallT.exC (src b cv) (drawRule_s (v := v6) (ys := ys) hcode Rs.o RsE.o hyl (fun q => ?_)))
  refine RG.ot rfl (OT.alloc rfl Zr34 fun b8 => ?_)
  refine RG.ot rfl (OT.storeW (vs := [vi _, vi _, vi _, vi _, vi _]) rfl Sz34 rfl rfl (Cl.c rfl) rfl rfl (OneC.c rfl) ?_)
  refine RG.nil ?_
  refine WP.seq ?_
  refine WP.regionH (blk b8 34 (ruleT.enc q) :: osl 28 slT v7 zs :: bagS 71 rectT zs :: L) (.q 0 (.q 1 (.q 3 (.q 4 (.l 2 (.q 5 (.q 6 (.l 7 Sch.nil)))))))) (by kernel_rfl) (by kernel_rfl) (by kernel_rfl) rfl ?_
  refine RH.pv rfl (fun _ _ _ _ h => h) (Gh.le_refl _) PickC.pick rfl (PV.move rfl rfl) ?_
  refine RH.pv rfl (fun _ _ _ _ h => h) (Gh.le_refl _) PickC.pick rfl (PV.move rfl rfl) ?_
  refine RH.pv rfl (fun _ _ _ _ h => h) (Gh.le_refl _) PickC.pick rfl (PV.move rfl rfl) ?_
  refine RH.pv rfl (fun _ _ _ _ h => h) (Gh.le_refl _) PickC.pick rfl (PV.loadW rfl Ag34 rfl rfl) ?_
  refine RH.ot rfl rfl (OT.callF (vs := [_, _, _]) rfl En47 rfl (CallT.exC (src b cv) (CallT.exBg ys (CallT.exS v6 (spoilLayers_s (v := v6) hcode (by omega) hyl hyr (fun v21 xs ys' hxs hxm hxl => ⟨Gh.le_refl _, PickC.pick, ?_⟩))))))
  refine RH.pv rfl (fun _ _ _ _ h => h) (Gh.le_refl _) PickC.pick rfl (PV.asg rfl rfl) ?_
  refine RH.pv rfl (fun _ _ _ _ h => h) (Gh.le_refl _) PickC.pick rfl (PV.asg rfl rfl) ?_
  refine RH.ot rfl rfl (OT.storeW (vs := [vi _, vi _, vi _, vi _, vi _]) rfl Sz34 rfl rfl (Cl.c rfl) rfl rfl (OneC.c rfl) ⟨Gh.le_refl _, PickC.pick, ?_⟩)
  refine RH.nil ?_
  refine WP.ret ?_
  exact ⟨_, _, ResV.three rfl rfl rfl (RV1.cell rfl Ag34 rfl), Cv.p, k v21 v6 v7 xs ys' zs q hxs hxm hxl hzl⟩
theorem ruleM_i {v : Value} {ys : List (Sl Rect)} {q : Rule} (h1 : Rs G L slT v ys) (hd : RsE G L rectT ys) (hl : isLay (er ys) = true) (hr : validRule q = true) (k : ∀ v', R v' G (osl 71 rectT v' (rmL (er ys) q) :: L)) : CallT Tryz.prog 24 #[v, vT ruleT q] G L R := by
  refine CallT.enter (args := _) Tryz.func24 rfl rfl (by kernel_rfl) rfl ?_
  refine WP.seq ?_
  refine WP.region ?_
  refine RG.ot rfl (OT.box (cs := ruleT.enc q) rfl rfl rfl fun b3 => ?_)
  refine RG.pv rfl (PV.asg rfl rfl) ?_
  refine RG.nil ?_
  refine WP.seq ?_
  refine WP.seq ?_
  refine WP.region ?_
  refine RG.pv rfl (PV.move (v := v) rfl rfl) ?_
  refine RG.callF (vs := [v]) rfl rfl En38 rfl (isLayout_s (Rs.up h1) hd.up ?_)
  refine RG.pv rfl (PV.not rfl rfl) ?_
  refine RG.pv rfl (PV.mvB (.inl rfl) rfl) ?_
  refine RG.gs rfl rfl rfl (fun hp => (PV.loadW rfl Ag34 rfl rfl)) ?_
  refine RG.gsC rfl rfl rfl rfl En39 (fun hp => ⟨_, (acons (gs_t hp) anil), validRule_i ⟨rfl, rfl, rfl⟩⟩) ?_
  refine RG.gs rfl rfl rfl (fun hp => (PV.not rfl (gs_t hp))) ?_
  refine RG.pv rfl (PV.pickO rfl rfl rfl (fun hq => gs_t (geqF hq))) ?_
  refine RG.nil ?_
  refine WP.cond rfl (fun h2 => ?_) (fun h2 => ?_)
  · exfalso
    rw [hl, hr] at h2; simp at h2
  · refine WP.skip ?_
    refine WP.seq ?_
    refine WP.region ?_
    refine RG.pv rfl (PV.move (v := v) rfl rfl) ?_
    refine RG.pv rfl (PV.loadW rfl Ag34 rfl rfl) ?_
    refine RG.callF (vs := [v, _]) rfl rfl En42 rfl (rule_i (q := q) (Rs.up h1) hd.up hl hr (fun v15 => ?_))
    refine RG.pv rfl (PV.asg (v := v15) rfl rfl) ?_
    refine RG.nil ?_
    refine WP.ret ?_
    exact ⟨_, _, ResV.one rfl rfl, Cv.p, k v15⟩
theorem ruleM_c {v : Value} {xs xs0 : List (Sl Rect)} {q : Rule} (he : er xs = er xs0) (h1 : Rs G L slT v xs) (hd : RsE G L rectT xs) (hl : isLay (er xs0) = true) (hr : validRule q = true) (k : ∀ v', R v' G (osl 71 rectT v' (rmL (er xs0) q) :: L)) : CallT Tryz.prog 24 #[v, vT ruleT q] G L R := by
  rw [← he] at k
  exact ruleM_i h1 hd (by rw [he]; exact hl) hr k
theorem recArea_c {v u : Value} {xs ys xs0 ys0 : List (Sl Rect)} {r : Rule} (he1 : er xs = er xs0) (he2 : er ys = er ys0) (h1 : Rs G L slT v xs) (hd : RsE G L rectT xs) (h2 : Rs G L slT u ys) (hd' : RsE G L rectT ys) (hB : recB (er xs0) (er ys0) r = true) (k : ∀ v', R (.tuple #[v', vi 0]) G (osl 71 rectT v' (recR (er xs0) (er ys0) r) :: L)) : CallT Tryz.prog 22 #[v, u, vrule r] G L R := by
  rw [← he1, ← he2] at k hB
  exact recArea_i h1 hd h2 hd' (by rw [recE, hB]; exact k)
theorem recheck_c {t u v : Value} {ms : List Rect} {xs ys xs0 ys0 : List (Sl Rect)} {q : Rule} (he1 : er xs = er xs0) (he2 : er ys = er ys0) (h1 : Rs G L rectT t ms) (h2 : Rs G L slT u xs) (hd : RsE G L rectT xs) (h3 : Rs G L slT v ys) (hd' : RsE G L rectT ys) (hB : rckB ms (er xs0) (er ys0) q = true) (hm : rmL (er xs0) q = ms)
    (k : ∀ v', R (.tuple #[v', vi 0]) G (osl 71 rectT v' (rmL (er ys0) q) :: L)) : CallT Tryz.prog 12 #[t, u, v, vT ruleT q] G L R := by
  rw [← he1, ← he2] at hB
  rw [← he1] at hm
  rw [← he2] at k
  exact recheck_i h1 h2 hd h3 hd' (by rw [rckE, rckR, if_pos hB, if_pos hB, if_pos hm, if_pos hm]; exact k)
theorem law_FnRecheck {cv : Value} {bs : List UInt8} (hcode : SL G byteT cv bs) (k : R (.bool true) G L) : CallT Tryz.prog 4 #[cv] G L R := by
  refine CallT.enter (args := _) Tryz.func4 rfl rfl (by kernel_rfl) rfl ?_
  refine WP.seq ?_
  refine WP.region ?_
  refine RG.pv rfl (PV.mvB (.inr rfl) rfl) ?_
  refine RG.nil ?_
  refine WP.seq ?_
  refine WP.seq ?_
  refine WP.region ?_
  refine RG.pv rfl (PV.move (v := cv) rfl rfl) ?_
  refine RG.callF (vs := [cv]) rfl rfl En18 rfl (big_s hcode ?_)
  refine RG.nil ?_
  refine WP.cond rfl (fun h1 => ?_) (fun h1 => ?_)
  · refine WP.seq ?_
    refine WP.region ?_
    refine RG.pv rfl (PV.mvB (.inr rfl) rfl) ?_
    refine RG.nil ?_
    refine WP.ret ?_
    exact ⟨_, _, ResV.one rfl rfl, Cv.p, k⟩
  · skip
    refine WP.skip ?_
    refine WP.seq ?_
    refine WP.region ?_
    refine RG.pv rfl (PV.move (v := cv) rfl rfl) ?_
    refine RG.callF (vs := [cv]) rfl rfl En19 rfl (dRA_s hcode (fun v17 v0 v18 xs ys zs q hxs hxm hxl hzl => ?_))
    refine RG.pv rfl (PV.move rfl rfl) ?_
    refine RG.pv rfl (PV.ext rfl rfl rfl) ?_
    refine RG.pv rfl (PV.ext rfl rfl rfl) ?_
    refine RG.pv rfl (PV.ext rfl rfl rfl) ?_
    refine RG.ot rfl (OT.alloc rfl Zr34 fun b5 => ?_)
    refine RG.pv rfl (PV.asg (v := v17) rfl rfl) ?_
    refine RG.pv rfl (PV.asg (v := v18) rfl rfl) ?_
    refine RG.ot rfl (OT.storeW (vs := [vi _, vi _, vi _, vi _, vi _]) rfl Sz34 rfl rfl (Cl.c rfl) rfl rfl (OneC.c rfl) ?_)
    refine RG.nil ?_
    refine WP.seq ?_
    refine WP.seq ?_
    refine WP.region ?_
    refine RG.pv rfl (PV.move (v := v17) rfl rfl) ?_
    refine RG.callF (vs := [v17]) rfl rfl En20 rfl (isLayoutS_s (Rs.up hxs) (drawn_hd2 (v0 := v0) (e := 71) (e' := 28) hxm).up ?_)
    refine RG.pv rfl (PV.not rfl rfl) ?_
    refine RG.pv rfl (PV.mvB (.inl rfl) rfl) ?_
    refine RG.gs rfl rfl rfl (fun hp => (PV.move (v := v18) rfl rfl)) ?_
    refine RG.gsC rfl rfl rfl rfl En20 (fun hp => ⟨_, (acons (gs_t hp) anil), isLayoutS_s Rs.o RsE.o ⟨rfl, rfl, rfl⟩⟩) ?_
    refine RG.gs rfl rfl rfl (fun hp => (PV.not rfl (gs_t hp))) ?_
    refine RG.pv rfl (PV.pickO rfl rfl rfl (fun hq => gs_t (geqF hq))) ?_
    refine RG.pv rfl (PV.mvB (.inl rfl) rfl) ?_
    refine RG.gs rfl rfl rfl (fun hp => (PV.loadW rfl Ag34 rfl rfl)) ?_
    refine RG.gsC rfl rfl rfl rfl En21 (fun hp => ⟨_, (acons (gs_t hp) anil), validRule_s ⟨rfl, rfl, rfl⟩⟩) ?_
    refine RG.gs rfl rfl rfl (fun hp => (PV.not rfl (gs_t hp))) ?_
    refine RG.pv rfl (PV.pickO rfl rfl rfl (fun hq => gs_t (geqF hq))) ?_
    refine RG.nil ?_
    refine WP.cond rfl (fun h2 => ?_) (fun h2 => ?_)
    · refine WP.seq ?_
      refine WP.region ?_
      refine RG.pv rfl (PV.mvB (.inr rfl) rfl) ?_
      refine RG.nil ?_
      refine WP.ret ?_
      exact ⟨_, _, ResV.one rfl rfl, Cv.p, k⟩
    · have hlx : isLay (er xs) = true ∧ isLay (er zs) = true ∧ validRule q = true := by
        cases c : isLay (er xs) <;> cases d : isLay (er zs) <;> cases e : validRule q <;> simp_all
      have hx8 : xs.length = 8 := by have := isLay_len hlx.1; rwa [er_len] at this
      have hdx : RsE G [osl 28 slT v0 ys, bagS 71 rectT ys] rectT xs := drawn_hd2 hxm
      have hbx : ∀ i, i < xs.length → (gd xs i).xs.length ≤ 1048576 := fun i hi => by
        have := isReg_len (isLay_reg hlx.1 (show i < 8 by omega)); rw [er_gd] at this; omega
      have hbz : ∀ i, i < zs.length → (gd zs i).xs.length ≤ 1048576 := fun i hi => by
        have := isReg_len (isLay_reg hlx.2.1 (show i < 8 by omega)); rw [er_gd] at this; omega
      have hB : recB (er xs) (er zs) q = true := by rw [recB, hlx.1, hlx.2.1, hlx.2.2]; rfl
      have hrB : rckB (rmL (er xs) q) (er xs) (er zs) q = true := by rw [rckB, hlx.1, hlx.2.1, hlx.2.2, rmL_reg]; rfl
      have hll : (rmL (er xs) q).length ≤ 1048576 := by have := rmL_len (er xs) q; omega
      have hdiff := recheck_diff hlx.1 hlx.2.1 hlx.2.2
      have hrm : rmE (er zs) q = rmL (er zs) q := by rw [rmE, hlx.2.1, hlx.2.2]; rfl
      refine WP.skip ?_
      refine WP.seq ?_
      refine WP.regionH0 (.q 0 (.q 2 (.q 4 (.l 1 (.l 3 (.l 5 (.q 6 (.q 7 (.q 8 (.q 9 (.q 10 Sch.nil))))))))))) (by kernel_rfl) (by kernel_rfl) (by kernel_rfl) rfl ?_
      refine RH.pv rfl (fun _ _ _ _ h => h) (Gh.le_refl _) PickC.pick rfl (PV.move (v := v17) rfl rfl) ?_
      refine RH.pv rfl (fun _ _ _ _ h => h) (Gh.le_refl _) PickC.pick rfl (PV.move (v := v18) rfl rfl) ?_
      refine RH.pv rfl (fun _ _ _ _ h => h) (Gh.le_refl _) PickC.pick rfl (PV.loadW rfl Ag34 rfl rfl) ?_
      refine RH.ot rfl rfl (OT.callF (vs := [v17]) rfl En23 rfl (copyLayers_s (Rs.up hxs) hdx.up (by omega) hbx (fun v35 azv35 he1 => ⟨Gh.le_refl _, PickC.pick, ?_⟩)))
      refine RH.ot rfl rfl (OT.callF (vs := [v18]) rfl En23 rfl (copyLayers_s Rs.o RsE.o (by omega) hbz (fun v37 bzv37 he2 => ⟨Gh.le_refl _, PickC.pick, ?_⟩)))
      refine RH.ot rfl rfl (OT.callF (vs := [v35, v37, _]) rfl En22 rfl (recArea_c he1 he2 Rs.o RsE.o Rs.o RsE.o hB (fun w39 => ⟨Gh.le_refl _, PickC.pick, ?_⟩)))
      refine RH.pv rfl (fun _ _ _ _ h => h) (Gh.le_refl _) PickC.pick rfl (PV.move (v := .tuple _) rfl rfl) ?_
      refine RH.pv rfl (fun _ _ _ _ h => h) (Gh.le_refl _) PickC.pick rfl (PV.ext (v := w39) rfl rfl rfl) ?_
      refine RH.pv rfl (fun _ _ _ _ h => h) (Gh.le_refl _) PickC.pick rfl (PV.ext rfl rfl rfl) ?_
      refine RH.pv rfl (fun _ _ _ _ h => h) (Gh.le_refl _) PickC.pick rfl (PV.asg (v := w39) rfl rfl) ?_
      refine RH.pv rfl (fun _ _ _ _ h => h) (Gh.le_refl _) PickC.pick rfl (PV.mvI (.inr rfl) rfl) ?_
      refine RH.nil ?_
      refine WP.seq ?_
      refine WP.regionH0 (.q 0 (.q 2 (.l 1 (.l 3 (.q 4 Sch.nil))))) (by kernel_rfl) (by kernel_rfl) (by kernel_rfl) rfl ?_
      refine RH.pv rfl (fun _ _ _ _ h => h) (Gh.le_refl _) PickC.pick rfl (PV.move (v := v17) rfl rfl) ?_
      refine RH.pv rfl (fun _ _ _ _ h => h) (Gh.le_refl _) PickC.pick rfl (PV.loadW rfl Ag34 rfl rfl) ?_
      refine RH.ot rfl rfl (OT.callF (vs := [v17]) rfl En23 rfl (copyLayers_s (Rs.up hxs) hdx.up (by omega) hbx (fun v43 czv43 he3 => ⟨Gh.le_refl _, PickC.pick, ?_⟩)))
      refine RH.ot rfl rfl (OT.callF (vs := [v43, _]) rfl En24 rfl (ruleM_c he3 Rs.o RsE.o hlx.1 hlx.2.2 (fun v45 => ⟨Gh.le_refl _, PickC.pick, ?_⟩)))
      refine RH.pv rfl (fun _ _ _ _ h => h) (Gh.le_refl _) PickC.pick rfl (PV.asg (v := v45) rfl rfl) ?_
      refine RH.nil ?_
      refine WP.seq ?_
      refine WP.regionH0 (.q 0 (.q 2 (.l 1 (.l 3 (.q 4 Sch.nil))))) (by kernel_rfl) (by kernel_rfl) (by kernel_rfl) rfl ?_
      refine RH.pv rfl (fun _ _ _ _ h => h) (Gh.le_refl _) PickC.pick rfl (PV.move (v := v18) rfl rfl) ?_
      refine RH.pv rfl (fun _ _ _ _ h => h) (Gh.le_refl _) PickC.pick rfl (PV.loadW rfl Ag34 rfl rfl) ?_
      refine RH.ot rfl rfl (OT.callF (vs := [v18]) rfl En23 rfl (copyLayers_s Rs.o RsE.o (by omega) hbz (fun v47 dzv47 he4 => ⟨Gh.le_refl _, PickC.pick, ?_⟩)))
      refine RH.ot rfl rfl (OT.callF (vs := [v47, _]) rfl En24 rfl (ruleM_c he4 Rs.o RsE.o hlx.2.1 hlx.2.2 (fun v49 => ⟨Gh.le_refl _, PickC.pick, ?_⟩)))
      refine RH.pv rfl (fun _ _ _ _ h => h) (Gh.le_refl _) PickC.pick rfl (PV.asg (v := v49) rfl rfl) ?_
      refine RH.nil ?_
      refine WP.seq ?_
      refine WP.regionH0 (.q 0 (.q 2 (.q 4 (.q 6 (.l 1 (.l 3 (.l 5 (.l 7 (.q 8 (.q 9 (.q 10 (.q 11 (.q 12 Sch.nil))))))))))))) (by kernel_rfl) (by kernel_rfl) (by kernel_rfl) rfl ?_
      refine RH.pv rfl (fun _ _ _ _ h => h) (Gh.le_refl _) PickC.pick rfl (PV.move (v := v45) rfl rfl) ?_
      refine RH.pv rfl (fun _ _ _ _ h => h) (Gh.le_refl _) PickC.pick rfl (PV.move (v := v17) rfl rfl) ?_
      refine RH.pv rfl (fun _ _ _ _ h => h) (Gh.le_refl _) PickC.pick rfl (PV.move (v := v18) rfl rfl) ?_
      refine RH.pv rfl (fun _ _ _ _ h => h) (Gh.le_refl _) PickC.pick rfl (PV.loadW rfl Ag34 rfl rfl) ?_
      refine RH.ot rfl rfl (OT.callF (vs := [v45]) rfl En25 rfl (copyRects_s Rs.o hll (fun v52 => ⟨Gh.le_refl _, PickC.pick, ?_⟩)))
      refine RH.ot rfl rfl (OT.callF (vs := [v17]) rfl En23 rfl (copyLayers_s (Rs.up hxs) hdx.up (by omega) hbx (fun v54 ezv54 he5 => ⟨Gh.le_refl _, PickC.pick, ?_⟩)))
      refine RH.ot rfl rfl (OT.callF (vs := [v18]) rfl En23 rfl (copyLayers_s Rs.o RsE.o (by omega) hbz (fun v56 fzv56 he6 => ⟨Gh.le_refl _, PickC.pick, ?_⟩)))
      refine RH.ot rfl rfl (OT.callF (vs := [v52, v54, v56, _]) rfl En12 rfl (recheck_c he5 he6 Rs.o Rs.o RsE.o Rs.o RsE.o hrB rfl (fun w58 => ⟨Gh.le_refl _, PickC.pick, ?_⟩)))
      refine RH.pv rfl (fun _ _ _ _ h => h) (Gh.le_refl _) PickC.pick rfl (PV.move (v := .tuple _) rfl rfl) ?_
      refine RH.pv rfl (fun _ _ _ _ h => h) (Gh.le_refl _) PickC.pick rfl (PV.ext (v := w58) rfl rfl rfl) ?_
      refine RH.pv rfl (fun _ _ _ _ h => h) (Gh.le_refl _) PickC.pick rfl (PV.ext rfl rfl rfl) ?_
      refine RH.pv rfl (fun _ _ _ _ h => h) (Gh.le_refl _) PickC.pick rfl (PV.asg (v := w58) rfl rfl) ?_
      refine RH.pv rfl (fun _ _ _ _ h => h) (Gh.le_refl _) PickC.pick rfl (PV.mvI (.inr rfl) rfl) ?_
      refine RH.nil ?_
      refine WP.seq ?_
      refine WP.region ?_
      refine RG.pv rfl (PV.mvI (.inl rfl) rfl) ?_
      refine RG.pv rfl (PV.eql rfl rfl rfl) ?_
      refine RG.pv rfl (PV.mvB (.inl rfl) rfl) ?_
      refine RG.gs rfl rfl rfl (fun hp => (PV.mvI (.inl rfl) rfl)) ?_
      refine RG.gs rfl rfl rfl (fun hp => (PV.eql rfl (gs_t hp) rfl)) ?_
      refine RG.pv rfl (PV.pickA rfl rfl (fun hq => gs_t (geqT hq)) rfl) ?_
      refine RG.pv rfl (PV.mvB (.inl rfl) rfl) ?_
      refine RG.spl (t := 67) rfl (fun g1 => ?_) (fun g1 => ?_)
      · refine RG.take rfl rfl rfl g1 ?_
        refine RG.pv rfl (PV.move (v := v45) rfl rfl) ?_
        refine RG.take rfl rfl rfl g1 ?_
        refine RG.pv rfl (PV.move (v := w39) rfl rfl) ?_
        refine RG.take rfl rfl rfl g1 ?_
        refine RG.callF (vs := [v45, w39]) rfl rfl En27 rfl (diff_s Rs.o Rs.o (fun v70 => ?_))
        refine RG.take rfl rfl rfl g1 ?_
        refine RG.pv rfl (PV.move (v := v49) rfl rfl) ?_
        refine RG.take rfl rfl rfl g1 ?_
        refine RG.pv rfl (PV.move (v := w39) rfl rfl) ?_
        refine RG.take rfl rfl rfl g1 ?_
        refine RG.callF (vs := [v49, w39]) rfl rfl En27 rfl (diff_s Rs.o Rs.o (fun v73 => ?_))
        refine RG.take rfl rfl rfl g1 ?_
        refine RG.callF (vs := [v70, v73]) rfl rfl En26 rfl (sameRs_s Rs.o Rs.o ?_)
        refine RG.pv rfl (PV.pickT rfl rfl g1 rfl) ?_
        refine RG.pv rfl (PV.mvB (.inl rfl) rfl) ?_
        refine RG.spl (t := 76) rfl (fun g2 => ?_) (fun g2 => ?_)
        · refine RG.take rfl rfl rfl g2 ?_
          refine RG.pv rfl (PV.move (v := w58) rfl rfl) ?_
          refine RG.take rfl rfl rfl g2 ?_
          refine RG.pv rfl (PV.move (v := v49) rfl rfl) ?_
          refine RG.take rfl rfl rfl g2 ?_
          refine RG.callF (vs := [w58, v49]) rfl rfl En26 rfl (sameRs_s Rs.o Rs.o ?_)
          refine RG.pv rfl (PV.pickT rfl rfl g2 rfl) ?_
          refine RG.pv rfl (PV.mvB (.inl rfl) rfl) ?_
          refine RG.spl (t := 81) rfl (fun g3 => ?_) (fun g3 => ?_)
          · have e4 : decide (rmL (er zs) q = rmL (er zs) q) = true := by simp
            rw [← e4] at k
            refine RG.take rfl rfl rfl g3 ?_
            refine RG.pv rfl (PV.move (v := v49) rfl rfl) ?_
            refine RG.take rfl rfl rfl g3 ?_
            refine RG.pv rfl (PV.move (v := v18) rfl rfl) ?_
            refine RG.take rfl rfl rfl g3 ?_
            refine RG.pv rfl (PV.loadW rfl Ag34 rfl rfl) ?_
            refine RG.take rfl rfl rfl g3 ?_
            refine RG.callF (vs := [v18, _]) rfl rfl En28 rfl (ruleM_s (q := q) Rs.o RsE.o hlx.2.1 hlx.2.2 (fun v85 => ?_))
            refine RG.take rfl rfl rfl g3 ?_
            refine RG.callF (vs := [v49, v85]) rfl rfl En26 rfl (sameRs_s Rs.o Rs.o ?_)
            refine RG.pv rfl (PV.pickT rfl rfl g3 rfl) ?_
            refine RG.pv rfl (PV.mvB (.inr rfl) rfl) ?_
            refine RG.nil ?_
            refine WP.ret ?_
            exact ⟨_, _, ResV.one rfl rfl, Cv.p, k⟩
          · exfalso
            simp at g3
        · exfalso
          simp [hdiff] at g2
      · exfalso
        simp at g1
end Go.Proofs.YtpjajhjcbcfplaaGreat
namespace Go.Proofs.YtpjajhjcbcfplaaGreat
set_option linter.unusedVariables false
set_option linter.unusedSimpArgs false
open Go Go.ChangeShapes Go.WideShapes Go.ChangeAt Go.RowKit
set_option linter.unusedSimpArgs false
def okU8 (_ : Gh) (_ : UInt8) : Prop := True
theorem opnU8 {P : Program} {t : TypeId} (ht : P.underlying t = some (.int .u8)) : Opn P t byteT okU8 := fun h => by
  obtain ⟨n, rfl, _, hw⟩ := DataW.trod_int ht h
  have : IntKind.u8.min ≤ n ∧ n ≤ IntKind.u8.max := by simpa [Lit.wf] using hw
  simp only [show IntKind.u8.min = 0 from rfl, show IntKind.u8.max = 255 from rfl] at this
  refine ⟨UInt8.ofNat n.toNat, ?_, trivial⟩
  simp only [byteT, UInt8.toNat_ofNat']
  congr 2
  omega
set_option maxRecDepth 100000
theorem Tryz.own : ownKnob Tryz.prog.godebug = none := by kernel_rfl
theorem Tryz.laidOut : laidOutB Tryz.prog = true := by kernel_rfl
theorem fnRecheck_lifted (os : Os) (started : os.Started) (H : Type) (enc : TypeId × Value → H) :
    ReturnsInHanded {} Tryz.checked os 4 .any (Rows.fnRecheckSpec.pre6 enc Tryz.prog Tryz.f4 [] false) (Rows.fnRecheckSpec.post enc Tryz.prog Tryz.f4 false true false false) := by
  refine law_lifted (C := Tryz.checked) Tryz.own started (by kernel_rfl) Tryz.func4 Tryz.laidOut rfl (by kernel_rfl) rfl Tryz.underlying4 (fun ds h => ?_)
    (ChangeSpec.witness6 (enc := enc) (C := Tryz.checked) false ⟨#[], #[.slice none 0 0], []⟩ 8 (by kernel_rfl) (by kernel_rfl) (by kernel_rfl) (by kernel_rfl)) ?_
  · match ds, h with
    | [d], _ => rfl
  · intro W base args ds ps hval hA
    have hA : DataW.TrodAll enc Tryz.prog W 0 (fun _ => true) true Tryz.f4.params.toList args.toList ds ps := hA
    have hval : ∀ (j : Nat) t v, Tryz.f4.params[j]? = some t → args[j]? = some v → Value.okWide Tryz.prog W .any base t v := hval
    rw [Tryz.params4] at hA hval
    obtain ⟨v0, d0, rfl, rfl, h0⟩ := trodAll_one hA
    obtain ⟨s, rfl, q1, _⟩ := argSl Tryz.underlying41 (opnSl (F := byteT) (ok := okU8) Tryz.underlying41 (opnU8 Tryz.underlying5) (by kernel_rfl) (by decide)) (hval 0 _ v0 rfl rfl) h0
    exact law_FnRecheck q1 ⟨rfl, Gh.le_refl _⟩
theorem fnRecheck_holds : Rows.FnRecheckSaid :=
  OpenClaim.holds_of_wide 4 Tryz.f4 rfl rfl rfl rfl rfl rfl rfl ⟨rfl, rfl, rfl, rfl, rfl⟩ rfl rfl rfl rfl rfl (by kernel_rfl) Tryz.func4 (by kernel_rfl)
    (of_decide_eq_true (by kernel_rfl)) (by unfold Func.isWrapper; first | (rw [if_pos (by decide +kernel)]; kernel_rfl) | (rw [if_neg (by decide +kernel)]; exact ⟨rfl, rfl⟩))
    (fun os started H enc _ => fnRecheck_lifted os started H enc)
end Go.Proofs.YtpjajhjcbcfplaaGreat
