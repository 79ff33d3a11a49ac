/-
  The law FnExactAddWaiver: whatever the list and the waiver, the law returns true and all read as before.
-/
import Derived.Test.YtgechnphgnfmeaaMA1
import Derived.Lib.Overlaps
import Derived.ProofKit
import Derived.Deep.Slices
import Derived.Carry
import Derived.Test.YtgechnphgnfmeaaRows
namespace Go.Proofs.Ytgechnphgnfmeaa
set_option linter.unusedVariables false
set_option linter.unusedSimpArgs false
open Go
structure PI {β : Type} (f : List Bool → β) (S : List Bool) (n : Nat) (T : List Bool) (zs : List β) : Prop where
  len : T.length = 6400
  left : ∀ a, On T a ↔ Left S n a
  er : zs = (firsts S n).map fun j => f (compB S (cel j))
theorem PI.start {β : Type} {f : List Bool → β} {S : List Bool} (h : S.length = 6400) : PI f S 0 S [] := ⟨h, fun _ => left_zero.symm, rfl⟩
theorem on_cel {T : List Bool} {n : Nat} (hn : n < 6400) : On T (cel n) ↔ gb T (n / 80) (n % 80) = true := ⟨fun h => h.2.2, fun h => ⟨by simp only [cel]; omega, by simp only [cel]; omega, h⟩⟩
theorem PI.skip {β : Type} {f : List Bool → β} {S T : List Bool} {n : Nat} {zs : List β} (h : PI f S n T zs) (hn : n < 6400) (hg : gb T (n / 80) (n % 80) = false) : PI f S (n + 1) T zs := by
  have hf : ¬ First S n := fun hf => by
    have := (on_cel hn).1 ((h.left _).2 (left_first.2 hf)); rw [hg] at this; cases this
  refine ⟨h.len, fun a => (h.left a).trans (left_succ_skip hf).symm, ?_⟩
  rw [firsts_succ, if_neg hf]; exact h.er
theorem PI.first {β : Type} {f : List Bool → β} {S T : List Bool} {n : Nat} {zs : List β} (h : PI f S n T zs) (hn : n < 6400) (hg : gb T (n / 80) (n % 80) = true) : First S n := left_first.1 ((h.left _).1 ((on_cel hn).2 hg))
theorem PI.comp {β : Type} {f : List Bool → β} {S T : List Bool} {n : Nat} {zs : List β} (h : PI f S n T zs) (hn : n < 6400) (hg : gb T (n / 80) (n % 80) = true) : compB T (cel n) = compB S (cel n) := comp_left h.left (left_first.2 (h.first hn hg))
theorem PI.take {β : Type} {f : List Bool → β} {S T T' : List Bool} {n : Nat} {zs : List β} (h : PI f S n T zs) (hn : n < 6400) (hg : gb T (n / 80) (n % 80) = true) (hl : T'.length = 6400) (hg' : ∀ y x, y < 80 → x < 80 → gb T' y x = (gb T y x && !gb (compB T (cel n)) y x)) : PI f S (n + 1) T' (zs ++ [f (compB T (cel n))]) := by
  have hf := h.first hn hg
  have hc := h.comp hn hg
  refine ⟨hl, fun a => ?_, ?_⟩
  · rw [left_succ_take hf, ← h.left a]
    constructor
    · rintro ⟨h1, h2, h3⟩
      rw [hg' _ _ h1 h2, Bool.and_eq_true, Bool.not_eq_true', hc] at h3
      refine ⟨⟨h1, h2, h3.1⟩, fun k => ?_⟩
      have := (comp_iff h1 h2).2 k; rw [h3.2] at this; cases this
    · rintro ⟨⟨h1, h2, h3⟩, h4⟩
      refine ⟨h1, h2, ?_⟩
      rw [hg' _ _ h1 h2, h3, hc, Bool.true_and, Bool.not_eq_true']
      cases hb : gb (compB S (cel n)) a.1 a.2 with
      | false => rfl
      | true => exact absurd ((comp_iff h1 h2).1 hb) h4
  · rw [firsts_succ, if_pos hf, List.map_append, ← h.er, hc]; rfl
theorem PI.all {S T : List Bool} {zs : List (List Bool)} (h : PI id S 6400 T zs) : zs = comps S := by
  rw [h.er, comps]; simp only [id]
open Classical in
open Classical in
open Classical in
/-- a part is taken away, cell by cell -/
def Sub (T C : List Bool) (n : Nat) (U : List Bool) : Prop := U.length = 6400 ∧ ∀ y x, y < 80 → x < 80 → gb U y x = if y * 80 + x < n then (gb T y x && !gb C y x) else gb T y x
theorem Sub.start {T C : List Bool} (h : T.length = 6400) : Sub T C 0 T := ⟨h, fun y x _ _ => by rw [if_neg (by omega)]⟩
theorem Sub.step {T C U : List Bool} {v u m : Nat} (h : Sub T C (v * 80 + u) U) (hv : v < 80) (hu : u < 80) (hm : m = v * 80 + u + 1) : Sub T C m (U.set (0 + v * 80 + u * 1) (gd U (0 + v * 80 + u * 1) && !gd C (0 + v * 80 + u * 1))) := by
  subst hm
  obtain ⟨h1, h2⟩ := h
  refine ⟨by simpa using h1, fun y x hy hx => ?_⟩
  rw [show 0 + v * 80 + u * 1 = v * 80 + u by omega, gb_set' h1 hv hu hx]
  by_cases e : y = v ∧ x = u
  · obtain ⟨rfl, rfl⟩ := e
    rw [if_pos ⟨rfl, rfl⟩, if_pos (by omega)]
    have := h2 y x hv hu
    rw [if_neg (by omega)] at this
    show (gb U y x && !gb C y x) = _
    rw [this]
  · rw [if_neg e, h2 y x hy hx]
    by_cases c : y * 80 + x < v * 80 + u
    · rw [if_pos c, if_pos (by omega)]
    · rw [if_neg c, if_neg (by omega)]
def dX (d : Nat) : Int := gd [1, -1, 0, 0] d
def dY (d : Nat) : Int := gd [0, 0, 1, -1] d
def Near4 (S O : List Bool) (p : Cel) (d : Nat) : Prop := ∀ e, e < d → ∀ c : Cel, (c.1 : Int) = p.1 + dY e → (c.2 : Int) = p.2 + dX e → On S c → On O c
theorem Near4.zero (S O : List Bool) (p : Cel) : Near4 S O p 0 := fun e h => by omega
theorem Near4.step {S O O' : List Bool} {p : Cel} {d : Nat} (h : Near4 S O p d) (hO : ∀ c, On O c → On O' c) (hn : ∀ c : Cel, (c.1 : Int) = p.1 + dY d → (c.2 : Int) = p.2 + dX d → On S c → On O' c) : Near4 S O' p (d + 1) := fun e he c h1 h2 hs => by
  by_cases k : e = d
  · subst k; exact hn c h1 h2 hs
  · exact hO c (h e (by omega) c h1 h2 hs)
theorem Near4.skip {S O : List Bool} {q : Int × Int} {d : Nat} (h : Near4 S O (qc q) d) (hb : 0 ≤ q.1 ∧ q.1 < 80 ∧ 0 ≤ q.2 ∧ q.2 < 80) (hc : ¬ (0 ≤ q.1 + dX d ∧ q.1 + dX d < 80 ∧ 0 ≤ q.2 + dY d ∧ q.2 + dY d < 80) ∨ gb S (q.2 + dY d).toNat (q.1 + dX d).toNat = false ∨ gb O (q.2 + dY d).toNat (q.1 + dX d).toNat = true) : Near4 S O (qc q) (d + 1) :=
  h.step (fun _ h => h) fun c e1 e2 hs => by
    obtain ⟨c1, c2⟩ := c
    obtain ⟨h1, h2, h3⟩ := hs
    simp only [qc] at *
    have e3 : c1 = (q.2 + dY d).toNat := by omega
    have e4 : c2 = (q.1 + dX d).toNat := by omega
    rcases hc with k | k | k
    · omega
    · rw [← e3, ← e4, h3] at k; cases k
    · exact ⟨h1, h2, by rw [e3, e4]; exact k⟩
theorem Near4.take {S O : List Bool} {q : Int × Int} {d : Nat} (h : Near4 S O (qc q) d) (hl : O.length = 6400) (hb : 0 ≤ q.1 ∧ q.1 < 80 ∧ 0 ≤ q.2 ∧ q.2 < 80) (hx : 0 ≤ q.1 + dX d ∧ q.1 + dX d < 80) (hy : 0 ≤ q.2 + dY d ∧ q.2 + dY d < 80) : Near4 S (O.set ((q.2 + dY d).toNat * 80 + (q.1 + dX d).toNat) true) (qc q) (d + 1) :=
  h.step (fun c hc => on_set hl hx hy hc) fun c e1 e2 hs => by
    obtain ⟨c1, c2⟩ := c
    obtain ⟨h1, h2, h3⟩ := hs
    simp only [qc] at *
    have e3 : c1 = (q.2 + dY d).toNat := by omega
    have e4 : c2 = (q.1 + dX d).toNat := by omega
    refine ⟨h1, h2, ?_⟩
    rw [gb_set' hl (by omega) (by omega) h2, if_pos ⟨e3, e4⟩]
end Go.Proofs.Ytgechnphgnfmeaa
namespace Go.Proofs.Ytgechnphgnfmeaa
set_option linter.unusedVariables false
set_option linter.unusedSimpArgs false
open Go
set_option maxRecDepth 20000
set_option linter.unusedSimpArgs false
set_option linter.unusedVariables false
variable {G : Gh} {L : List Ch} {R : Value → Gh → List Ch → Prop}
/-- the cells of the first n places of the queue -/
def PQ (Q : List (Int × Int)) (n : Nat) (P : List Bool) : Prop := P.length = 6400 ∧ ∀ y x, y < 80 → x < 80 → (gb P y x = true ↔ ∃ m, m < n ∧ qc (gd Q m) = (y, x))
theorem PQ.zero (Q : List (Int × Int)) : PQ Q 0 (List.replicate 6400 false) := ⟨List.length_replicate, fun y x _ _ => by rw [gb_rep']; simp⟩
theorem PQ.step {Q : List (Int × Int)} {n : Nat} {P : List Bool} (h : PQ Q n P) (hb : 0 ≤ (gd Q n).1 ∧ (gd Q n).1 < 80 ∧ 0 ≤ (gd Q n).2 ∧ (gd Q n).2 < 80) : PQ Q (n + 1) (P.set ((gd Q n).2.toNat * 80 + (gd Q n).1.toNat) true) := by
  refine ⟨by simpa using h.1, fun y x hy hx => ?_⟩
  rw [gb_set' h.1 (by omega) (by omega) hx]
  by_cases e : y = (gd Q n).2.toNat ∧ x = (gd Q n).1.toNat
  · rw [if_pos e]
    exact ⟨fun _ => ⟨n, by omega, by rw [qc, e.1, e.2]⟩, fun _ => rfl⟩
  · rw [if_neg e, h.2 y x hy hx]
    constructor
    · rintro ⟨m, hm, he⟩; exact ⟨m, by omega, he⟩
    · rintro ⟨m, hm, he⟩
      by_cases c : m = n
      · subst c; exfalso; apply e; simp only [qc, Prod.mk.injEq] at he; omega
      · exact ⟨m, by omega, he⟩
/-- what is left when the cells of P are taken away -/
def MQ (T P U : List Bool) : Prop := U.length = 6400 ∧ ∀ y x, y < 80 → x < 80 → gb U y x = (gb T y x && !gb P y x)
theorem MQ.zero {T : List Bool} (h : T.length = 6400) : MQ T (List.replicate 6400 false) T := ⟨h, fun y x _ _ => by rw [gb_rep']; simp⟩
theorem MQ.step {T P U : List Bool} (h : MQ T P U) (hP : P.length = 6400) {v u : Nat} (hv : v < 80) (hu : u < 80) : MQ T (P.set (v * 80 + u) true) (U.set (v * 80 + u) false) := by
  refine ⟨by simpa using h.1, fun y x hy hx => ?_⟩
  rw [gb_set' h.1 hv hu hx, gb_set' hP hv hu hx]
  by_cases e : y = v ∧ x = u
  · rw [if_pos e, if_pos e]; simp
  · rw [if_neg e, if_neg e]; exact h.2 y x hy hx
end Go.Proofs.Ytgechnphgnfmeaa
namespace Go.Proofs.Ytgechnphgnfmeaa
set_option linter.unusedVariables false
set_option linter.unusedSimpArgs false
open Go
set_option maxRecDepth 20000
set_option linter.unusedSimpArgs false
variable {G : Gh} {L : List Ch} {R : Value → Gh → List Ch → Prop}
def regs (xs : List Piece) : List (Sl Rect) := xs.map Piece.reg
theorem regs_len (xs : List Piece) : (regs xs).length = xs.length := by simp [regs]
theorem regs_gd {xs : List Piece} {i : Nat} (h : i < xs.length) : gd (regs xs) i = (gd xs i).reg := gd_map _ h
theorem RsE.reg {xs : List Piece} (h : RsE G L rectT (regs xs)) {i : Nat} (hi : i < xs.length) : Rs G L rectT (gd xs i).reg.v (gd xs i).reg.xs := by
  have := h i (by rw [regs_len]; exact hi); rwa [regs_gd hi] at this
end Go.Proofs.Ytgechnphgnfmeaa
namespace Go.Proofs.Ytgechnphgnfmeaa
set_option linter.unusedVariables false
set_option linter.unusedSimpArgs false
open Go
set_option maxRecDepth 20000
set_option linter.unusedSimpArgs false
variable {G : Gh} {L : List Ch} {R : Value → Gh → List Ch → Prop}
theorem gd_app_at {α : Type} [Inhabited α] {xs ys : List α} {i : Nat} : gd (xs ++ ys) (xs.length + i) = gd ys i := by simp [gd, List.getElem?_append_right]
/-- a list whose parts lie at the end of a bag -/
theorem RsE.right {α : Type} {G : Gh} {L L' : List Ch} {e : TypeId} {F : FT α} {ws xs : List (Sl α)} [hX : ExBg (ws ++ xs) L e F L'] : RsE G L F xs := fun i hi => by
  have := Rs.inBag (G := G) (L := L) (L' := L') (e := e) (F := F) (xs := ws ++ xs) (ws.length + i) (by simp; omega)
  rwa [gd_app_at] at this
theorem WP.sl {α : Type} {P : Program} {n : Nat} {c : Code} {Q : Post} {σ : Nat → Value} {G : Gh} {L : List Ch} {F : FT α} {v : Value} {xs : List α} (h : Rs G L F v xs) (k : IsSl v xs.length → WP P n c Q σ G L) : WP P n c Q σ G L := WP.of fun hk _ _ ha hs => (k (h _ hs).1).run hk ha hs
theorem SlF.i {G : Gh} {L : List Ch} {v : Value} {m : Nat} (h : IsSl v m) : SlF G L v m := fun _ _ => h
end Go.Proofs.Ytgechnphgnfmeaa
namespace Go.Proofs.Ytgechnphgnfmeaa
set_option linter.unusedVariables false
set_option linter.unusedSimpArgs false
open Go
set_option linter.unusedSimpArgs false
def rl (lo hi c : Int) : Int := if c = hi then lo else c
def stepJ (J : Nat → Nat → Bool) (i : Nat) (cls : List Int) (k : Nat) : List Int := if gd cls k = gd cls i ∨ J k i = false then cls else cls.map (rl (min (gd cls k) (gd cls i)) (max (gd cls k) (gd cls i)))
/-- each class is told by its first member -/
def Rt (cls : List Int) : Prop := ∀ j, j < cls.length → 0 ≤ gd cls j ∧ gd cls j ≤ j ∧ gd cls (gd cls j).toNat = gd cls j
theorem Rt.map {cls : List Int} (h : Rt cls) {lo hi : Int} (hl : lo < hi) {k : Nat} (hk : k < cls.length) (hlo : gd cls k = lo) : Rt (cls.map (rl lo hi)) := fun j hj => by
  have hj : j < cls.length := by simpa using hj
  obtain ⟨h1, h2, h3⟩ := h j hj
  obtain ⟨g1, g2, g3⟩ := h k hk
  rw [gd_map _ hj]
  unfold rl
  split
  · rename_i e
    refine ⟨by omega, by omega, ?_⟩
    rw [gd_map _ (by omega), hlo] at *
    rw [g3, if_neg (by omega)]
  · rename_i e
    refine ⟨h1, h2, ?_⟩
    rw [gd_map _ (by omega), h3, if_neg e]
theorem Rt.step {cls : List Int} (h : Rt cls) {J : Nat → Nat → Bool} {i k : Nat} (hi : i < cls.length) (hk : k < cls.length) : Rt (stepJ J i cls k) := by
  unfold stepJ
  split
  · exact h
  · rename_i e
    rw [not_or] at e
    by_cases c : gd cls k < gd cls i
    · exact h.map (by omega) hk (by omega)
    · exact h.map (k := i) (by omega) hi (by omega)
end Go.Proofs.Ytgechnphgnfmeaa
namespace Go.Proofs.Ytgechnphgnfmeaa
set_option linter.unusedVariables false
set_option linter.unusedSimpArgs false
open Go
set_option maxRecDepth 20000
set_option linter.unusedSimpArgs false
variable {G : Gh} {L : List Ch} {R : Value → Gh → List Ch → Prop}
/-- only what lies in memory matters -/
theorem Cv.flat {α : Type} {e : TypeId} {F : FT α} {v : Value} {xs ys : List α} {L : List Ch} (h : F.flat xs = F.flat ys) (hl : xs.length = ys.length) : Cv (osl e F v xs :: L) (osl e F v ys :: L) :=
  Cv.imp fun hp hc => by
    rcases hc with ⟨rfl, rfl⟩ | ⟨b, cap, c, h1, h2, h3, h4, h5, h6⟩
    · exact .inl ⟨rfl, List.eq_nil_of_length_eq_zero (by simpa using hl.symm)⟩
    · exact .inr ⟨b, cap, c, by rw [← hl]; exact h1, h2, by rw [← hl]; exact h3, h4, h5, by rw [← hl, ← h]; exact h6⟩
end Go.Proofs.Ytgechnphgnfmeaa
namespace Go.Proofs.Ytgechnphgnfmeaa
set_option linter.unusedVariables false
set_option linter.unusedSimpArgs false
open Go
set_option maxRecDepth 20000
set_option linter.unusedSimpArgs false
variable {G : Gh} {L : List Ch} {R : Value → Gh → List Ch → Prop}
def mks (xs : List Viol) : List (Sl Rect) := xs.map Viol.marker
theorem mks_len (xs : List Viol) : (mks xs).length = xs.length := by simp [mks]
theorem mks_gd {xs : List Viol} {i : Nat} (h : i < xs.length) : gd (mks xs) i = (gd xs i).marker := gd_map _ h
theorem RsE.marker {xs : List Viol} (h : RsE G L rectT (mks xs)) {i : Nat} (hi : i < xs.length) : Rs G L rectT (gd xs i).marker.v (gd xs i).marker.xs := by
  have := h i (by rw [mks_len]; exact hi); rwa [mks_gd hi] at this
end Go.Proofs.Ytgechnphgnfmeaa
namespace Go.Proofs.Ytgechnphgnfmeaa
set_option linter.unusedVariables false
set_option linter.unusedSimpArgs false
open Go
set_option maxRecDepth 20000
set_option linter.unusedSimpArgs false
section
variable {P : Program} {n : Nat} {ops : Array Oper} {Q : Post} {σ : Nat → Value} {G G0 : Gh} {L C0 : List Ch} {r : Sch} {oi : Oper}
theorem PV.any {P : Program} {o : Oper} {σ : Nat → Value} {G : Gh} {L : List Ch} {v : Value} (h : False) : PV P o σ G L v := h.elim
end
variable {G : Gh} {L : List Ch} {R : Value → Gh → List Ch → Prop}
end Go.Proofs.Ytgechnphgnfmeaa
namespace Go.Proofs.Ytgechnphgnfmeaa
set_option linter.unusedVariables false
set_option linter.unusedSimpArgs false
open Go
set_option maxRecDepth 20000
set_option linter.unusedSimpArgs false
variable {G : Gh} {L : List Ch} {R : Value → Gh → List Ch → Prop}
def hasW (ws : List Waiver) (n : Int) : Bool := ws.any fun w => decide (w.sig = n)
theorem waives1_s {w : Waiver} {b : Nat} {n : Int} (hc : Rd G L b 0 (vi n)) (k : R (.bool (decide (w.sig = n))) G L) : CallT Try.prog 51 #[vwaiver w, .pointer (some ⟨b, 0, none⟩)] G L R := by
  refine CallT.enter (args := _) Try.func51 rfl rfl (by kernel_rfl) rfl ?_
  refine WP.seq ?_
  refine WP.region ?_
  refine RG.ot rfl (OT.box (cs := waiverT.enc w) rfl rfl rfl fun b2 => ?_)
  refine RG.pv rfl (PV.mvB (.inr rfl) rfl) ?_
  refine RG.nil ?_
  refine WP.seq ?_
  refine WP.region ?_
  refine RG.pv rfl (PV.field rfl Fo31_0 rfl) ?_
  refine RG.pv rfl (PV.load1 rfl Sc2 rfl (Rd.blk rfl)) ?_
  refine RG.pv rfl (PV.load1 rfl Sc2 rfl (Rd.up hc)) ?_
  refine RG.pv rfl (PV.eql rfl rfl rfl) ?_
  refine RG.pv rfl (PV.mvB (.inr rfl) rfl) ?_
  refine RG.nil ?_
  refine WP.ret ?_
  exact ⟨_, _, ResV.one rfl rfl, Cv.p, k⟩
theorem indexF_waiver {v fv : Value} {xs : List (Waiver)} {p : (Waiver) → Bool} (h1 : Rs G L waiverT v xs) (hf : ∀ i, i < xs.length → CB Try.prog G L fv [vwaiver (gd xs i)] (.bool (p (gd xs i)))) (k : R (vi (idxI p xs)) G L) : CallT Try.prog 73 #[v, fv] G L R := by
  refine CallT.bd h1 fun hb => ?_
  refine CallT.enter (args := _) Try.func73 rfl rfl (by kernel_rfl) rfl ?_
  refine WP.seq ?_
  refine WP.region ?_
  refine RG.pv rfl (PV.mvI (.inr rfl) rfl) ?_
  refine RG.nil ?_
  refine WP.seq ?_
  refine WP.seq ?_
  refine WP.region ?_
  refine RG.pv rfl (PV.move (v := v) rfl rfl) ?_
  refine RG.pv rfl (PV.len (v := v) rfl Try.underlying27 rfl (SlF.r h1)) ?_
  refine RG.pv rfl (PV.mvI (.inl rfl) rfl) ?_
  refine RG.nil ?_
  refine WP.block ?_
  refine WP.loop1 [0, 1, 7] (fun i => i ≤ xs.length ∧ ∀ j, j < i → p (gd xs j) = false) (fun i => [(8, vi i)]) (fun i => L) (fun i => xs.length - i) 0 ⟨by omega, fun j h => by omega⟩ ⟨rfl, trivial⟩ Cv.p ?_
  rintro i τ ⟨hi, hj⟩
  refine WP.seq ?_
  refine WP.region ?_
  refine RG.pv rfl (PV.lss rfl rfl rfl) ?_
  refine RG.nil ?_
  refine WP.seq ?_
  refine WP.cond rfl (fun h2 => ?_) (fun h2 => ?_)
  · have h2 := of_decide_eq_true h2
    refine WP.skip ?_
    refine WP.seq ?_
    refine WP.block ?_
    refine WP.seq ?_
    refine WP.region ?_
    refine RG.pv rfl (PV.mvI (.inl rfl) rfl) ?_
    refine RG.pv rfl (PV.mvI (.inr rfl) rfl) ?_
    refine RG.nil ?_
    refine WP.seq ?_
    refine WP.region ?_
    refine RG.pv rfl (PV.move (v := fv) rfl rfl) ?_
    refine RG.pv rfl (PV.move (v := v) rfl rfl) ?_
    refine RG.pv rfl (PV.mvI (.inl rfl) rfl) ?_
    refine RG.pv rfl (PV.idxS (v := v) rfl Is27 rfl (SlF.r h1) rfl rfl (by omega)) ?_
    refine RG.pv rfl (PV.loadE rfl Ag31 rfl rfl (El.r h1 (getG (by omega)))) ?_
    refine RG.callB (vs := [_]) rfl rfl rfl rfl (CB.up (hf i (by omega))) ?_
    refine RG.nil ?_
    refine WP.cond rfl (fun h3 => ?_) (fun h3 => ?_)
    · rw [idxI_at (by omega) h3 hj] at k
      refine WP.seq ?_
      refine WP.region ?_
      refine RG.pv rfl (PV.mvI (.inl rfl) rfl) ?_
      refine RG.pv rfl (PV.mvI (.inr rfl) rfl) ?_
      refine RG.nil ?_
      refine WP.ret ?_
      exact ⟨_, _, ResV.one rfl rfl, Cv.p, k⟩
    · have hj' : ∀ j, j < i + 1 → p (gd xs j) = false := fun j h => by
        by_cases c : j = i
        · rw [c]; exact h3
        · exact hj j (by omega)
      refine WP.skip ?_
      refine WP.region ?_
      refine RG.pv rfl (PV.add rfl rfl rfl (by omega)) ?_
      refine RG.pv rfl (PV.mvI (.inl rfl) rfl) ?_
      refine RG.nil ?_
      exact ⟨rfl, i + 1, ⟨by omega, hj'⟩, ⟨rfl, trivial⟩, ⟨rfl, rfl, rfl, trivial⟩, Cv.p, by omega⟩
  · have h2 := of_decide_eq_false h2
    rw [idxI_none (fun j h => hj j (by omega))] at k
    refine WP.exit ?_
    refine WP.seq ?_
    refine WP.region ?_
    refine RG.pv rfl (PV.mvI (.inr rfl) rfl) ?_
    refine RG.nil ?_
    refine WP.ret ?_
    exact ⟨_, _, ResV.one rfl rfl, Cv.p, k⟩
theorem containsF_waiver {v fv : Value} {xs : List (Waiver)} {p : (Waiver) → Bool} (h1 : Rs G L waiverT v xs) (hf : ∀ i, i < xs.length → CB Try.prog G L fv [vwaiver (gd xs i)] (.bool (p (gd xs i)))) (k : R (.bool (xs.any p)) G L) : CallT Try.prog 50 #[v, fv] G L R := by
  rw [← idxI_any] at k
  refine CallT.enter (args := _) Try.func50 rfl rfl (by kernel_rfl) rfl ?_
  refine WP.seq ?_
  refine WP.region ?_
  refine RG.pv rfl (PV.mvB (.inr rfl) rfl) ?_
  refine RG.nil ?_
  refine WP.seq ?_
  refine WP.region ?_
  refine RG.pv rfl (PV.move (v := v) rfl rfl) ?_
  refine RG.pv rfl (PV.move (v := fv) rfl rfl) ?_
  refine RG.callF (vs := [v, fv]) rfl rfl En73 rfl (indexF_waiver (Rs.up h1) (fun i hi => (hf i hi).up) ?_)
  refine RG.pv rfl (PV.geq rfl rfl rfl) ?_
  refine RG.pv rfl (PV.mvB (.inr rfl) rfl) ?_
  refine RG.nil ?_
  refine WP.ret ?_
  exact ⟨_, _, ResV.one rfl rfl, Cv.p, k⟩
theorem waives_s {v : Value} {ws : List Waiver} {n : Int} (h1 : Rs G L waiverT v ws) (k : R (.bool (hasW ws n)) G L) : CallT Try.prog 29 #[v, vi n] G L R := by
  refine CallT.enter (args := _) Try.func29 rfl rfl (by kernel_rfl) rfl ?_
  refine WP.seq ?_
  refine WP.region ?_
  refine RG.ot rfl (OT.box (cs := [vi n]) rfl rfl rfl fun b3 => ?_)
  refine RG.pv rfl (PV.mvB (.inr rfl) rfl) ?_
  refine RG.nil ?_
  refine WP.seq ?_
  refine WP.region ?_
  refine RG.pv rfl (PV.move (v := v) rfl rfl) ?_
  refine RG.pv rfl (PV.mkf1 rfl rfl) ?_
  refine RG.callF (vs := [v, _]) rfl rfl En50 rfl (containsF_waiver (Rs.up h1) (p := fun w => decide (w.sig = n)) (fun i hi => CB.mk1 En51 fun L' R c k => waives1_s (Rd.cv (Rd.blk rfl) c) k) ?_)
  refine RG.pv rfl (PV.mvB (.inr rfl) rfl) ?_
  refine RG.nil ?_
  refine WP.ret ?_
  exact ⟨_, _, ResV.one rfl rfl, Cv.p, k⟩
theorem l22Has_s {v : Value} {ws : List Waiver} {n : Int} (h1 : Rs G L waiverT v ws) (k : R (.bool (hasW ws n)) G L) : CallT Try.prog 25 #[v, vi n] G L R := by
  refine CallT.bd h1 fun hb => ?_
  refine CallT.enter (args := _) Try.func25 rfl rfl (by kernel_rfl) rfl ?_
  refine WP.seq ?_
  refine WP.region ?_
  refine RG.pv rfl (PV.mvB (.inr rfl) rfl) ?_
  refine RG.nil ?_
  refine WP.seq ?_
  refine WP.seq ?_
  refine WP.region ?_
  refine RG.pv rfl (PV.mvI (.inr rfl) rfl) ?_
  refine RG.nil ?_
  refine WP.block ?_
  refine WP.loop1 [0, 1] (fun i => i ≤ ws.length ∧ ∀ j, j < i → decide ((gd ws j).sig = n) = false) (fun i => [(5, vi i)]) (fun i => L) (fun i => ws.length - i) 0 ⟨by omega, fun j h => by omega⟩ ⟨rfl, trivial⟩ Cv.p ?_
  rintro i τ ⟨hi, hj⟩
  refine WP.seq ?_
  refine WP.seq ?_
  refine WP.region ?_
  refine RG.pv rfl (PV.mvI (.inl rfl) rfl) ?_
  refine RG.pv rfl (PV.move (v := v) rfl rfl) ?_
  refine RG.pv rfl (PV.len (v := v) rfl Try.underlying27 rfl (SlF.r h1)) ?_
  refine RG.pv rfl (PV.lss rfl rfl rfl) ?_
  refine RG.nil ?_
  refine WP.cond rfl (fun h2 => ?_) (fun h2 => ?_)
  · have h2 := of_decide_eq_true h2
    refine WP.skip ?_
    refine WP.seq ?_
    refine WP.block ?_
    refine WP.seq ?_
    refine WP.region ?_
    refine RG.pv rfl (PV.move (v := v) rfl rfl) ?_
    refine RG.pv rfl (PV.mvI (.inl rfl) rfl) ?_
    refine RG.pv rfl (PV.idxS (v := v) rfl Is27 rfl (SlF.r h1) rfl rfl (by omega)) ?_
    refine RG.pv rfl (PV.field rfl Fo31_0 rfl) ?_
    refine RG.pv rfl (PV.loadF rfl Sc2 rfl rfl (El.r h1 (getG (by omega))) rfl) ?_
    refine RG.pv rfl (PV.mvI (.inl rfl) rfl) ?_
    refine RG.pv rfl (PV.eql rfl rfl rfl) ?_
    refine RG.nil ?_
    refine WP.cond rfl (fun h3 => ?_) (fun h3 => ?_)
    · have e : hasW ws n = true := List.any_eq_true.2 ⟨gd ws i, by rw [gd_eq (by omega)]; exact List.getElem_mem _, h3⟩
      rw [e] at k
      refine WP.seq ?_
      refine WP.region ?_
      refine RG.pv rfl (PV.mvB (.inr rfl) rfl) ?_
      refine RG.nil ?_
      refine WP.ret ?_
      exact ⟨_, _, ResV.one rfl rfl, Cv.p, k⟩
    · have hj' : ∀ j, j < i + 1 → decide ((gd ws j).sig = n) = false := fun j h => by
        by_cases c : j = i
        · rw [c]; exact h3
        · exact hj j (by omega)
      refine WP.skip ?_
      refine WP.region ?_
      refine RG.pv rfl (PV.mvI (.inl rfl) rfl) ?_
      refine RG.pv rfl (PV.add rfl rfl rfl (by omega)) ?_
      refine RG.pv rfl (PV.mvI (.inr rfl) rfl) ?_
      refine RG.nil ?_
      exact ⟨rfl, i + 1, ⟨by omega, hj'⟩, ⟨rfl, trivial⟩, ⟨rfl, rfl, trivial⟩, Cv.p, by omega⟩
  · have h2 := of_decide_eq_false h2
    have e : hasW ws n = false := by
      rw [hasW, List.any_eq_false]
      intro r hr
      obtain ⟨j, hj2, rfl⟩ := List.getElem_of_mem hr
      have := hj j (by omega)
      rw [gd_eq hj2] at this
      simpa using this
    rw [e] at k
    refine WP.exit ?_
    refine WP.seq ?_
    refine WP.region ?_
    refine RG.pv rfl (PV.mvB (.inr rfl) rfl) ?_
    refine RG.nil ?_
    refine WP.ret ?_
    exact ⟨_, _, ResV.one rfl rfl, Cv.p, k⟩
end Go.Proofs.Ytgechnphgnfmeaa
namespace Go.Proofs.Ytgechnphgnfmeaa
set_option linter.unusedVariables false
set_option linter.unusedSimpArgs false
open Go
set_option linter.unusedVariables false
set_option linter.unusedSimpArgs false
variable {P : Program} {n : Nat} {σ : Nat → Value} {G : Gh} {L : List Ch} {o : Oper} {T t tn : TypeId} {x y : Operand} {v u : Value} {K : (Nat → Value) → Gh → List Ch → Prop}
/-- an owned slice that has elements, opened: its block, with what stands behind the elements -/
theorem CallT.openS {α : Type} {f : FuncId} {args : Value → Array Value} {R : Value → Gh → List Ch → Prop} {F : FT α} {e : TypeId} {v : Value} {xs : List α} (h0 : 0 < xs.length)
    (k : ∀ b cap cs, xs.length ≤ cap → cap ≤ maxLen → cs.length = cap * F.sz → cs.take (xs.length * F.sz) = F.flat xs → CallT P f (args (.slice (some ⟨b, 0, none⟩) xs.length cap)) G (blk b e cs :: L) R) : CallT P f (args v) G (osl e F v xs :: L) R := by
  refine CallT.of fun w hs => ?_
  obtain ⟨hp, ⟨h1, h2, d, l1, l2, hc, s⟩, r⟩ := hs
  rcases hc with ⟨_, rfl⟩ | ⟨b, cap, c, rfl, hb, q1, q2, q3, q4⟩
  · simp at h0
  · refine (k b cap c.toList q1 q2 (by simpa using q3) q4).run ⟨hp, ⟨h1, h2, d, l1, l2, ?_, s⟩, r⟩
    simpa [blk] using hb
/-- .. and closed again -/
theorem Cv.closeS {α : Type} {F : FT α} {e : TypeId} {b cap m : Nat} {cs : List Value} {xs : List α} (hm : m = xs.length) (h1 : xs.length ≤ cap) (h2 : cap ≤ maxLen) (h3 : cs.length = cap * F.sz) (h4 : cs.take (xs.length * F.sz) = F.flat xs) : Cv (blk b e cs :: L) (osl e F (.slice (some ⟨b, 0, none⟩) m cap) xs :: L) := by
  subst hm
  exact Cv.imp fun hp hc => .inr ⟨b, cap, cs.toArray, rfl, hc, h1, h2, by simpa using h3, by simpa using h4⟩
theorem Rs.blk {α : Type} {F : FT α} {e : TypeId} {b cap m : Nat} {cs : List Value} {xs : List α} (hm : m = xs.length) (h1 : xs.length ≤ cap) (h2 : cap ≤ maxLen) (h3 : cs.length = cap * F.sz) (h4 : cs.take (xs.length * F.sz) = F.flat xs) : Rs G (blk b e cs :: L) F (.slice (some ⟨b, 0, none⟩) m cap) xs := fun w hs =>
  Rs.o (e := e) w (hs.cv (Cv.closeS (F := F) hm h1 h2 h3 h4))
def capV : Value → Nat
  | .slice _ _ c => c
  | _ => 0
theorem PV.cap {m : Nat} (ho : o.op = .call { callee := .builtin .cap, args := #[x], argTypes := #[t] }) {e : TypeId} (hu : P.underlying t = some (.slice e)) (hx : ev σ x = v) (h : SlF G L v m) : PV P o σ G L (.int .i64 (capV v)) := by
  intro w hw
  obtain ⟨c, h1, h2, ⟨b, k, rfl⟩ | ⟨⟨a, rfl⟩, h0⟩⟩ := h w hw <;> simp [execOp, ho, resolve, invoke, builtin, hx, Builtin.cap_, run_underlying hu, capV, goInt]
/-- a part of an opened slice up to its capacity -/
theorem PV.slcC {b m c h s : Nat} {e : TypeId} {hi : Operand} {k : IntKind} (ho : o.op = .slice t x none (some hi) none) (hI : IdxS P t e s) (hx : ev σ x = .slice (some ⟨b, 0, none⟩) m c) {a : Int} (hh : ev σ hi = .int k a) (ea : a = (h : Int)) (h2 : h ≤ c) : PV P o σ G L (.slice (some ⟨b, 0, none⟩) h c) := by
  subst ea
  obtain ⟨hu, hi'⟩ := hI
  obtain ⟨inf, h3, rfl⟩ := info_size hi'
  intro w hw
  have hb : (Instr.sliceBounds true m c none (some (.int k (h : Int))) none).run P w = .ok (0, h, c) w := by
    simp [Instr.sliceBounds, Instr.sliceBound, asIntOf, h2]
  simp [execOp, ho, hx, hh, Instr.sliceAt, run_underlying hu, Instr.slice, hb, sizeOf, typeInfo, h3, add_none]
/-- copy into a block -/
theorem OT.copy {b ko dl dc b2 ks sl sc s q : Nat} {e e' t' : TypeId} {cs vs : List Value} {L' : List Ch} (ho : o.op = .call { callee := .builtin .copy, args := #[x, y], argTypes := #[t, t'] }) (hI : IdxS P t e s)
    (hx : ev σ x = .slice (some ⟨b, ko, none⟩) dl dc) (hy : ev σ y = .slice (some ⟨b2, ks, none⟩) sl sc) (hq : q = min sl dl) (hl : vs.length = q * s) (hsrc : ∀ w, St G L w → ∀ j c, vs[j]? = some c → w.cell? ⟨b2, ks + j, none⟩ = some c) (h1 : allOne vs = true)
    [hX : ExB b L e' cs L'] (hk : ko + vs.length ≤ cs.length) (k : K (updo σ o.dst (.int .i64 (q : Nat))) G (blk b e' (splice cs ko vs) :: L')) : OT P n o σ G L K := by
  subst hq
  obtain ⟨hu, hi'⟩ := hI
  obtain ⟨inf, hh3, rfl⟩ := info_size hi'
  have hS : ∀ w, (sizeOf e).run P w = .ok inf.size w := fun w => by simp [sizeOf, typeInfo, hh3]
  have hl : vs.length = Nat.min sl dl * inf.size := hl
  have k : K (updo σ o.dst (.int .i64 (Nat.min sl dl : Nat))) G (blk b e' (splice cs ko vs) :: L') := k
  refine OT.ofRun fun w hs => ?_
  have hb : wh w b = some (.cells cs.toArray e' (0, 0)) := by
    obtain ⟨hp, s, l1, l2, d⟩ := hs
    obtain ⟨g1, g2, _, m1, _, cc, _⟩ := hX.ex.sep s
    exact l2 _ _ (m1 _ _ cc)
  have hf := run_firstCells_some (P := P) w inf.size (Nat.min sl dl) ⟨b2, ks, none⟩ sl sc vs hl (fun j c hj => by rw [add_none]; exact hsrc w hs j c hj)
  obtain ⟨w', hr, hq, hw'⟩ := storeCells_run (P := P) vs b ko 0 cs.toArray e' w (allOne_all h1) hb (by simpa using hk)
  refine ⟨_, G, _, w', ?_, hs.set hq hX.ex (b := b) (fun h hh => ?_) hw' (c' := blk b e' (splice cs ko vs)) (fun h hh _ => ?_), k⟩
  · simp [execOp, ho, resolve, invoke, builtin, hx, hy, Builtin.copy_, run_underlying hu, Builtin.lenOf, hS w, hf, hr, goInt]
  · have hh : h b = some (.cells cs.toArray e' (0, 0)) := hh
    simp [hh]
  · simp [blk]
/-- append of a make of m zeros to a part that has not the room -/
theorem OT.appendMake {α : Type} {F : FT α} {e : TypeId} {bytes m : Nat} {z : List Value} {a0 : α} {kn ki : IntKind} {ys : List α} (ho : o.op = .call { callee := .builtin .append, args := #[x, y], argTypes := #[t, tn] }) (hT : ElemT P t e F.sz bytes z) (htn : P.underlying tn = some (.int kn)) (hz : F.enc a0 = z) (hs0 : 0 < F.sz)
    (hx : ev σ x = v) (hv : Rs G L F v ys) {a : Int} (hy : ev σ y = .int ki a) (ea : a = (m : Int)) (hc : capV v < ys.length + m) (hb' : Nat.ble bytes 512 = true) (hb2' : ys.length + m ≤ 274877906944)
    (k : ∀ b' c' cs', ys.length + m ≤ c' → c' ≤ maxLen → cs'.length = c' * F.sz → cs'.take ((ys.length + m) * F.sz) = F.flat ys ++ F.flat (List.replicate m a0) → K (updo σ o.dst (.slice (some ⟨b', 0, none⟩) (ys.length + m) c')) G (blk b' e cs' :: L)) : OT P n o σ G L K := by
  subst ea
  obtain ⟨hu1, i, zv, hi, hi1, hi2, hi3, hi4⟩ := hT
  have hb : (ys.length + m) * bytes ≤ 140737488355328 := Nat.le_trans (Nat.mul_le_mul hb2' (Nat.le_of_ble_eq_true hb')) (by decide)
  refine OT.ofRun fun w hs => ?_
  have hzs : zv.cells.size = F.sz := by rw [← F.len a0, hz, ← hi4]; simp
  obtain ⟨⟨c, hc1, hc2, hsl⟩, hget⟩ := hv w hs
  have hm0 : 0 < m := by
    rcases hsl with ⟨b, k0, rfl⟩ | ⟨⟨ua, rfl⟩, h0⟩ <;> simp only [capV] at hc <;> omega
  have hold : ∃ a, v = .slice a ys.length c ∧ (Builtin.firstCells F.sz ys.length v).run P w.drew = .ok (F.flat ys).toArray w.drew := by
    rcases hsl with ⟨b, k0, rfl⟩ | ⟨⟨ua, rfl⟩, h0⟩
    · refine ⟨_, rfl, run_firstCells_some (P := P) w.drew F.sz ys.length ⟨b, k0, none⟩ _ c (F.flat ys) (F.flat_len ys) fun j q hj => ?_⟩
      rw [add_none]; exact hget j q hj
    · have e : ys = [] := List.eq_nil_of_length_eq_zero h0
      subst e
      refine ⟨_, rfl, ?_⟩
      cases ua with
      | none => simp [Builtin.firstCells, FT.flat]
      | some a => simp [Builtin.firstCells, FT.flat, loadCells, loadCellsFrom]
  obtain ⟨a, hve, hold⟩ := hold
  have hcap : c < ys.length + m := by rw [hve] at hc; simpa [capV] using hc
  have h63 : ys.length + m ≤ maxLen := by simp only [maxLen]; omega
  have hw : IntKind.i64.wrap (m : Int) = m := by rw [IntKind.wrap_i64]; omega
  have hn : ¬ (ys.length + m ≤ c) := by omega
  have h48' : ¬ (281474976710656 < Builtin.nextslicecap (ys.length + m) c * i.bytes) := by
    have := growslice_fits (need := ys.length + m) (old := c) (bytes := bytes) (by omega) hb
    rw [hi2]; omega
  have hmb : m * bytes ≤ (ys.length + m) * bytes := Nat.mul_le_mul_right _ (by omega)
  have h48i : ¬ (281474976710656 < (m : Int) * (i.bytes : Int)) := by rw [← Int.natCast_mul, hi2]; omega
  have hneg : ¬ ((m : Int) < 0) := by omega
  have hns : ¬ (m * i.size = 0) := Nat.mul_ne_zero (by omega) (by omega)
  have h63' : ¬ (9223372036854775807 < ((ys.length : Int) + (m : Int))) := by omega
  have hge := grownCap_ge w (ys.length + m) c e
  have hcm := grownCap_le_maxLen w (ys.length + m) c e h63
  have hr : (Builtin.append_ #[t, tn] o.type #[v, .int ki (m : Int)]).run P w = .ok (.slice (some ⟨w.heap.size, 0, none⟩) (ys.length + m) (grownCap w (ys.length + m) c e))
      (w.drew.alloc (.cells ((F.flat ys).toArray ++ Builtin.zeroCells zv.cells m ++ Builtin.zeroCells zv.cells (grownCap w (ys.length + m) c e - (ys.length + m))) e)) := by
    subst hve
    rw [← hi1] at hold
    simp [Builtin.append_, run_underlying hu1, run_underlying htn, sizeOf, typeInfo, zeroValue, hi, hi3, asInt, asIntOf, hw, hn, hneg, hns, h63', h48', h48i, Question.forced, hold, newRow, grownCap]
    try (constructor <;> omega)
  have hzt : (Builtin.zeroCells zv.cells m).toList = F.flat (List.replicate m a0) := by
    apply List.ext_getElem?
    intro j
    have hl : (Builtin.zeroCells zv.cells m).toList.length = m * F.sz := by simp [size_zeroCells, hzs]
    by_cases hj : j < m * F.sz
    · have hr : j % F.sz < F.sz := Nat.mod_lt _ hs0
      have hq : j / F.sz < m := (Nat.div_lt_iff_lt_mul hs0).2 hj
      have hcc : (F.enc a0)[j % F.sz]? = some ((F.enc a0)[j % F.sz]'(by rw [F.len]; exact hr)) := List.getElem?_eq_getElem _
      have hg := F.flat_get (xs := List.replicate m a0) (i := j / F.sz) (x := a0) (by simp [hq]) hcc
      rw [show j / F.sz * F.sz + j % F.sz = j by rw [Nat.mul_comm]; exact Nat.div_add_mod j F.sz] at hg
      rw [hg, List.getElem?_eq_getElem (by omega)]
      congr 1
      simp only [Builtin.zeroCells, Array.getElem_toList, Array.getElem_map, Array.getElem_range, hzs]
      have : (F.enc a0) = zv.cells.toList := by rw [hz, hi4]
      simp only [this, Array.getElem_toList]
      exact getElem!_pos _ _ (by rw [hzs]; exact hr)
    · rw [List.getElem?_eq_none (by omega), List.getElem?_eq_none (by rw [F.flat_len]; simp; omega)]
  have hsz : ((F.flat ys).toArray ++ Builtin.zeroCells zv.cells m ++ Builtin.zeroCells zv.cells (grownCap w (ys.length + m) c e - (ys.length + m))).toList.length = grownCap w (ys.length + m) c e * F.sz := by
    simp only [Array.length_toList, Array.size_append, List.size_toArray, size_zeroCells, hzs, F.flat_len, ← Nat.add_mul]
    congr 1; omega
  have htk : ((F.flat ys).toArray ++ Builtin.zeroCells zv.cells m ++ Builtin.zeroCells zv.cells (grownCap w (ys.length + m) c e - (ys.length + m))).toList.take ((ys.length + m) * F.sz) = F.flat ys ++ F.flat (List.replicate m a0) := by
    simp only [Array.toList_append, hzt]
    refine List.take_left' ?_
    simp [F.flat_len, Nat.add_mul]
  refine ⟨.slice (some ⟨w.heap.size, 0, none⟩) (ys.length + m) (grownCap w (ys.length + m) c e), G, blk w.heap.size e ((F.flat ys).toArray ++ Builtin.zeroCells zv.cells m ++ Builtin.zeroCells zv.cells (grownCap w (ys.length + m) c e - (ys.length + m))).toList :: L, w.drew.alloc (.cells ((F.flat ys).toArray ++ Builtin.zeroCells zv.cells m ++ Builtin.zeroCells zv.cells (grownCap w (ys.length + m) c e - (ys.length + m))) e), by simp [execOp, ho, resolve, invoke, builtin, hx, hy, hr], ?_, k _ _ _ (by simpa using hge) hcm hsz htk⟩
  exact (hs.draw (w' := w.drew) rfl ⟨rfl, rfl, rfl⟩).new (by exact ⟨rfl, rfl, rfl⟩) (wh_push w.drew _) (fun h hh => by unfold blk; rw [Array.toArray_toList]; exact hh)
theorem PV.capC {m c : Nat} {a : Option Addr} (ho : o.op = .call { callee := .builtin .cap, args := #[x], argTypes := #[t] }) {e : TypeId} (hu : P.underlying t = some (.slice e)) (hx : ev σ x = .slice a m c) : PV P o σ G L (.int .i64 c) := by
  intro w hw
  simp [execOp, ho, resolve, invoke, builtin, hx, Builtin.cap_, run_underlying hu, goInt]
theorem PV.lenC {m c : Nat} {a : Option Addr} (ho : o.op = .call { callee := .builtin .len, args := #[x], argTypes := #[t] }) {e : TypeId} (hu : P.underlying t = some (.slice e)) (hx : ev σ x = .slice a m c) : PV P o σ G L (.int .i64 m) := by
  intro w hw
  simp [execOp, ho, resolve, invoke, builtin, hx, Builtin.len_, run_underlying hu, goInt]
/-- a part of an opened slice, up to its capacity -/
theorem PV.slcB {b m c l h s : Nat} {lo hi : Option Operand} {e : TypeId} (ho : o.op = .slice t x lo hi none) (hI : IdxS P t e s) (hx : ev σ x = .slice (some ⟨b, 0, none⟩) m c) (hlo : optAt σ lo 0 l) (hhi : optAt σ hi m h) (h1 : l ≤ h) (h2 : h ≤ c) (h3 : l < c) : PV P o σ G L (.slice (some ⟨b, l * s, none⟩) (h - l) (c - l)) := by
  obtain ⟨hu, hi'⟩ := hI
  obtain ⟨inf, hh3, rfl⟩ := info_size hi'
  clear hi'
  intro w hw
  have hbd : (Instr.sliceBounds true m c (lo.map (ev σ)) (hi.map (ev σ)) none).run P w = .ok (l, h, c) w := by
    cases lo with
    | none =>
      have hlo : l = 0 := hlo
      subst hlo
      cases hi with
      | none => have hhi : h = m := hhi; subst hhi; simp [Instr.sliceBounds, h2]
      | some y => obtain ⟨k, hy⟩ := hhi; simp [Instr.sliceBounds, Instr.sliceBound, hy, asIntOf, h2]
    | some x' =>
      obtain ⟨k', hx'⟩ := hlo
      cases hi with
      | none => have hhi : h = m := hhi; subst hhi; simp [Instr.sliceBounds, Instr.sliceBound, hx', asIntOf, h1, h2]
      | some y => obtain ⟨k, hy⟩ := hhi; simp [Instr.sliceBounds, Instr.sliceBound, hy, hx', asIntOf, h2, h1]
  have hne : ¬ c = l := by omega
  simp [execOp, ho, hx, Instr.sliceAt, run_underlying hu, Instr.slice, hbd, sizeOf, typeInfo, hh3, hne, Addr.add]
  exact fun h => h.symm
/-- what stands in a block, as a copy reads it -/
theorem src_blk {b k : Nat} {e : TypeId} {cs vs : List Value} {L' : List Ch} [hX : ExB b L e cs L'] (h : ∀ j c, vs[j]? = some c → cs[k + j]? = some c) : ∀ w, St G L w → ∀ j c, vs[j]? = some c → w.cell? ⟨b, k + j, none⟩ = some c := fun w hs j c hj =>
  Rd.blk (hx := hX) (h j c hj) w hs
theorem take_get {cs A : List Value} {n j : Nat} {c : Value} (h : cs.take n = A) (hj : A[j]? = some c) : cs[j]? = some c := by
  rw [← h, List.getElem?_take] at hj
  split at hj
  · exact hj
  · simp at hj
theorem all_flat {α : Type} {F : FT α} {xs : List α} (h : ∀ a, allOne (F.enc a) = true) : allOne (F.flat xs) = true := by
  induction xs with
  | nil => rfl
  | cons x xs ih =>
    have e : F.flat (x :: xs) = F.enc x ++ F.flat xs := by simp [FT.flat]
    rw [e]
    simp only [allOne, List.all_append, Bool.and_eq_true] at h ih ⊢
    exact ⟨h x, ih⟩
theorem blk_ne {b b2 : Nat} {e e2 : TypeId} {cs cs2 : List Value} {w : World} (h : St G (blk b e cs :: blk b2 e2 cs2 :: L) w) : b2 ≠ b := fun hh => by
  subst hh
  obtain ⟨hp, s, -⟩ := h
  obtain ⟨g1, g2, d1, -, -, c1, s1⟩ := (Ex.head (blk b2 e cs) (blk b2 e2 cs2 :: L)).sep s
  obtain ⟨g3, g4, -, m3, -, c3, -⟩ := (Ex.head (blk b2 e2 cs2) L).sep s1
  have h1 : g1 b2 = some _ := c1
  have h2 : g3 b2 = some _ := c3
  have h3 := m3 _ _ h2
  rcases d1 b2 with h | h
  · rw [h1] at h; cases h
  · rw [h3] at h; cases h
theorem spl_eq {cs vs : List Value} {k : Nat} (h : k + vs.length ≤ cs.length) : splice cs k vs = cs.take k ++ vs ++ cs.drop (k + vs.length) := by
  apply List.ext_getElem?
  intro j
  rw [splice_get _ _ _ _ h]
  have hk : (cs.take k).length = k := by simp; omega
  by_cases h1 : j < k
  · rw [if_neg (by omega), List.append_assoc, List.getElem?_append_left (by omega), List.getElem?_take, if_pos h1]
  · by_cases h2 : j < k + vs.length
    · rw [if_pos ⟨by omega, h2⟩, List.getElem?_append_left (by simp; omega), List.getElem?_append_right (by omega), hk]
    · rw [if_neg (by omega), List.getElem?_append_right (by simp; omega), List.getElem?_drop]
      congr 1; simp; omega
theorem spl_grow {cs A B : List Value} {k a : Nat} (hA : A.length = a) (h : k + a + B.length ≤ cs.length) : (splice (splice cs k A) (k + a) B).take (k + a + B.length) = cs.take k ++ A ++ B := by
  subst hA
  rw [spl_eq (vs := B) (by rw [splice_length]; exact h), spl_eq (vs := A) (by omega)]
  have e : (cs.take k ++ A).length = k + A.length := by simp; omega
  rw [List.take_left' (l₁ := List.take (k + A.length) (cs.take k ++ A ++ cs.drop (k + A.length)) ++ B) (by simp; omega), List.take_left' e]
theorem spl_room {cs A B : List Value} {k a : Nat} (hA : A.length = a) (h : k + a + B.length ≤ cs.length) : (splice (splice cs (k + a) B) k A).take (k + a + B.length) = cs.take k ++ A ++ B := by
  subst hA
  rw [spl_eq (vs := A) (by rw [splice_length]; omega), spl_eq (vs := B) (by omega)]
  have e0 : (cs.take (k + A.length)).length = k + A.length := by simp; omega
  have e1 : (cs.take (k + A.length) ++ B ++ cs.drop (k + A.length + B.length)).take k = cs.take k := by
    rw [List.append_assoc, List.take_append_of_le_length (by omega), List.take_take, Nat.min_eq_left (by omega)]
  have e2 : (cs.take (k + A.length) ++ B ++ cs.drop (k + A.length + B.length)).drop (k + A.length) = B ++ cs.drop (k + A.length + B.length) := by
    rw [List.append_assoc, List.drop_left' e0]
  rw [e1, e2, ← List.append_assoc]
  exact List.take_left' (by simp; omega)
/-- the entry slices.overlaps at two slices in two blocks -/
theorem OT.apart {f : FuncId} {fn : Func} {l : List Operand} {ats : Array TypeId} {tS tR e : TypeId} {a b la ca lb cb oa ob s : Nat} {tA tB : TypeId} {ca' cb' : List Value} {L' L'' : List Ch} (ho : o.op = .call { callee := .value (.func f), args := l.toArray, argTypes := ats }) (hf : P.funcs[f]? = some fn) (hname : (fn.name == "runtime.NumGoroutine") = false) (hb : fn.body.isNone = true) (hn : Extern.findNext fn = none)
    (he : Extern.find fn = some (Extern.SlicesOverlaps.overlaps #[tS, tS] #[tR])) (hI : IdxS P tS e s) (hl : cargs σ l = [.slice (some ⟨a, oa, none⟩) la ca, .slice (some ⟨b, ob, none⟩) lb cb])
    [hA : ExB a L tA ca' L'] [hB : ExB b L tB cb' L''] (hne : a ≠ b) (h0 : 0 < cb'.length) (k : K (updo σ o.dst (.bool false)) G L) : OT P n o σ G L K := by
  obtain ⟨ht, hi'⟩ := hI
  obtain ⟨inf, hh3, rfl⟩ := info_size hi'
  have hS : ∀ w, (sizeOf e).run P w = .ok inf.size w := fun w => by simp [sizeOf, typeInfo, hh3]
  refine OT.ofRun fun w hs => ⟨.bool false, G, L, w, ?_, hs, k⟩
  have h1 := blk_wh (hX := hA) hs
  have h2 := blk_wh (hX := hB) hs
  have h1' : w.heap[a]? = some (.cells ca'.toArray tA (0, 0)) := h1
  have h2' : w.heap[b]? = some (.cells cb'.toArray tB (0, 0)) := h2
  have hr := Lib.run_overlaps_apart (P := P) w tS tR e ht inf.size hS ⟨a, oa, none⟩ ⟨b, ob, none⟩ la ca lb cb hne tA tB ca'.length cb'.length (by simp [World.shape?, h1']) (by simp [World.shape?, h2']) (by omega) (by simp [World.frozen?, h1']) (by simp [World.frozen?, h1'])
  have hc := run_callFunc_extern (P := P) hf hname hb hn he #[.slice (some ⟨a, oa, none⟩) la ca, .slice (some ⟨b, ob, none⟩) lb cb] w
  rw [hr] at hc
  rw [cargs_map] at hl
  simp [execOp, ho, resolve, ev, Deferred.ofValue, invoke, hl, hc]
end Go.Proofs.Ytgechnphgnfmeaa
namespace Go.Proofs.Ytgechnphgnfmeaa
set_option linter.unusedVariables false
set_option linter.unusedSimpArgs false
open Go
set_option maxRecDepth 20000
set_option linter.unusedSimpArgs false
variable {G : Gh} {L : List Ch} {R : Value → Gh → List Ch → Prop}
theorem one_waiver (xs : List Waiver) : allOne (waiverT.flat xs) = true := all_flat fun _ => rfl
theorem take_pre {cs A B : List Value} {n k : Nat} (h : cs.take n = A ++ B) (hk : A.length = k) (hn : k ≤ n) : cs.take k = A := by
  rw [show cs.take k = (cs.take n).take k by rw [List.take_take, Nat.min_eq_left hn], h, List.take_left' hk]
theorem insW_mid {b cap cap2 b2 i : Nat} {cs cs2 : List Value} {ws : List Waiver} {w : Waiver} (hi : i < ws.length) (hl : ws.length ≤ 1000) (c1 : ws.length ≤ cap) (c2 : cap ≤ maxLen) (c3 : cs.length = cap * 2) (c4 : cs.take (ws.length * 2) = waiverT.flat ws) (d1 : 1 ≤ cap2) (d3 : cs2.length = cap2 * 2) (d4 : cs2.take (1 * 2) = waiverT.flat [w])
    (k : ∀ v', R v' G (osl 31 waiverT v' (ws.take i ++ [w] ++ ws.drop i) :: L)) : CallT Try.prog 30 #[.slice (some ⟨b, 0, none⟩) ws.length cap, vi i, .slice (some ⟨b2, 0, none⟩) 1 cap2] G (blk b 31 cs :: blk b2 31 cs2 :: L) R := by
  refine CallT.st (fun w hs => blk_ne hs) fun hne => ?_
  have hti : (ws.take i).length = i := by simp; omega
  have e0 : cs.take (i * 2) = waiverT.flat (ws.take i) := by rw [FT.flat_take, ← c4, List.take_take, Nat.min_eq_left (by show i * 2 ≤ ws.length * 2; omega)]
  have e1 : cs.take ((ws.take i).length * 2) = waiverT.flat (ws.take i) := by rw [hti, e0]
  have lA : (waiverT.flat [w]).length = 2 := rfl
  have lB : (waiverT.flat (ws.drop i)).length = (ws.length - i) * 2 := by rw [FT.flat_len, List.length_drop]
  have sA : ∀ j c, (waiverT.flat [w])[j]? = some c → cs2[0 + j]? = some c := fun j c h => by rw [Nat.zero_add]; exact take_get d4 h
  have sB : ∀ j c, (waiverT.flat (ws.drop i))[j]? = some c → cs[i * 2 + j]? = some c := fun j c h => by
    rw [FT.flat_drop, List.getElem?_drop] at h
    exact take_get c4 h
  have hfl : waiverT.flat (ws.take i ++ [w] ++ ws.drop i) = waiverT.flat (ws.take i) ++ waiverT.flat [w] ++ waiverT.flat (ws.drop i) := by simp [FT.flat]
  have hln : (ws.take i ++ [w] ++ ws.drop i).length = ws.length + 1 := by simp; omega
  have h2 : (ws.take i ++ [w] ++ ws.drop i).length * 2 = i * 2 + 2 + (waiverT.flat (ws.drop i)).length := by rw [hln, lB]; omega
  refine CallT.enter (args := _) Try.func30 rfl rfl (by kernel_rfl) rfl ?_
  refine WP.seq ?_
  refine WP.region ?_
  refine RG.pv rfl (PV.asg rfl rfl) ?_
  refine RG.nil ?_
  refine WP.seq ?_
  refine WP.region ?_
  refine RG.pv rfl (PV.move rfl rfl) ?_
  refine RG.pv rfl (PV.mvI (.inl rfl) rfl) ?_
  refine RG.pv rfl (PV.slcB (l := i) (h := ws.length) rfl Is27 rfl (optAt.s rfl rfl) optAt.n (by omega) c1 (by omega)) ?_
  refine RG.nil ?_
  refine WP.seq ?_
  refine WP.region ?_
  refine RG.pv rfl (PV.move rfl rfl) ?_
  refine RG.pv rfl (PV.lenC rfl Try.underlying27 rfl) ?_
  refine RG.pv rfl (PV.mvI (.inr rfl) rfl) ?_
  refine RG.nil ?_
  refine WP.seq ?_
  refine WP.seq ?_
  refine WP.region ?_
  refine RG.pv rfl (PV.mvI (.inl rfl) rfl) ?_
  refine RG.pv rfl (PV.eql rfl rfl rfl) ?_
  refine RG.nil ?_
  refine WP.cond rfl (fun h3 => ?_) (fun h3 => ?_)
  · simp at h3
  · refine WP.skip ?_
    refine WP.seq ?_
    refine WP.region ?_
    refine RG.pv rfl (PV.move rfl rfl) ?_
    refine RG.pv rfl (PV.lenC rfl Try.underlying27 rfl) ?_
    refine RG.pv rfl (PV.mvI (.inr rfl) rfl) ?_
    refine RG.nil ?_
    refine WP.seq ?_
    refine WP.seq ?_
    refine WP.region ?_
    refine RG.pv rfl (PV.mvI (.inl rfl) rfl) ?_
    refine RG.pv rfl (PV.mvI (.inl rfl) rfl) ?_
    refine RG.pv rfl (PV.eql rfl rfl rfl) ?_
    refine RG.nil ?_
    refine WP.cond rfl (fun h4 => ?_) (fun h4 => ?_)
    · simp at h4; omega
    · refine WP.skip ?_
      refine WP.seq ?_
      refine WP.seq ?_
      refine WP.region ?_
      refine RG.pv rfl (PV.mvI (.inl rfl) rfl) ?_
      refine RG.pv rfl (PV.mvI (.inl rfl) rfl) ?_
      refine RG.pv rfl (PV.add rfl rfl rfl (by omega)) ?_
      refine RG.pv rfl (PV.move rfl rfl) ?_
      refine RG.pv rfl (PV.capC rfl Try.underlying27 rfl) ?_
      refine RG.pv rfl (PV.gtr rfl rfl rfl) ?_
      refine RG.nil ?_
      refine WP.cond rfl (fun h5 => ?_) (fun h5 => ?_)
      · have h5 := of_decide_eq_true h5
        refine WP.seq ?_
        refine WP.region ?_
        refine RG.pv rfl (PV.move rfl rfl) ?_
        refine RG.pv rfl (PV.mvI (.inl rfl) rfl) ?_
        refine RG.pv rfl (PV.slcC (h := i) rfl Is27 rfl rfl rfl (by omega)) ?_
        refine RG.pv rfl (PV.mvI (.inl rfl) rfl) ?_
        refine RG.pv rfl (PV.mvI (.inl rfl) rfl) ?_
        refine RG.pv rfl (PV.add rfl rfl rfl (by omega)) ?_
        refine RG.pv rfl (PV.mvI (.inl rfl) rfl) ?_
        refine RG.pv rfl (PV.sub rfl rfl rfl (by omega)) ?_
        refine RG.ot rfl (OT.appendMake (F := waiverT) (a0 := default) (ys := ws.take i) (m := ws.length + 1 - i) rfl El27 Try.underlying3 rfl (by decide) rfl (Rs.blk (e := 31) hti.symm (by omega) c2 c3 e1) rfl (by omega) (by show cap < _; omega) rfl (by omega) fun b3 cap3 cs3 p1 p2 p3 p4 => ?_)
        refine RG.pv rfl (PV.asg rfl rfl) ?_
        refine RG.nil ?_
        refine WP.seq ?_
        refine WP.region ?_
        refine RG.pv rfl (PV.move rfl rfl) ?_
        refine RG.pv rfl (PV.mvI (.inl rfl) rfl) ?_
        refine RG.pv rfl (PV.slcB (l := i) rfl Is27 rfl (optAt.s rfl rfl) optAt.n (by omega) (by omega) (by omega)) ?_
        refine RG.pv rfl (PV.move rfl rfl) ?_
        refine RG.ot rfl (OT.copy (vs := waiverT.flat [w]) (q := 1) rfl Is27 rfl rfl (by omega) rfl (src_blk (b := b2) sA) (one_waiver _) (by rw [lA, show cs3.length = cap3 * 2 from p3]; omega) ?_)
        refine RG.nil ?_
        refine WP.seq ?_
        refine WP.regionHD [.b b3] (.q 0 (.q 1 (.q 2 (.q 3 (.q 4 (.q 5 (.q 6 (.q 7 (.l 8 Sch.nil))))))))) (by kernel_rfl) (by kernel_rfl) (by kernel_rfl) rfl ?_
        refine RH.pv rfl (fun _ _ _ _ h => h) (Gh.le_refl _) PickC.pick rfl (PV.move rfl rfl) ?_
        refine RH.pv rfl (fun _ _ _ _ h => h) (Gh.le_refl _) PickC.pick rfl (PV.mvI (.inl rfl) rfl) ?_
        refine RH.pv rfl (fun _ _ _ _ h => h) (Gh.le_refl _) PickC.pick rfl (PV.mvI (.inl rfl) rfl) ?_
        refine RH.pv rfl (fun _ _ _ _ h => h) (Gh.le_refl _) PickC.pick rfl (PV.add rfl rfl rfl (by omega)) ?_
        refine RH.pv rfl (fun _ _ _ _ h => h) (Gh.le_refl _) PickC.pick rfl (PV.slcB (l := i + 1) rfl Is27 rfl (optAt.s rfl rfl) optAt.n (by omega) (by omega) (by omega)) ?_
        refine RH.pv rfl (fun _ _ _ _ h => h) (Gh.le_refl _) PickC.pick rfl (PV.move rfl rfl) ?_
        refine RH.pv rfl (fun _ _ _ _ h => h) (Gh.le_refl _) PickC.pick rfl (PV.mvI (.inl rfl) rfl) ?_
        refine RH.pv rfl (fun _ _ _ _ h => h) (Gh.le_refl _) PickC.pick rfl (PV.slcB (l := i) rfl Is27 rfl (optAt.s rfl rfl) optAt.n (by omega) (by omega) (by omega)) ?_
        refine RH.ot rfl rfl (OT.copy (vs := waiverT.flat (ws.drop i)) (q := ws.length - i) rfl Is27 rfl rfl (by omega) lB (src_blk (b := b) sB) (one_waiver _) (by rw [lB, splice_length, show cs3.length = cap3 * 2 from p3]; omega) ⟨Gh.le_refl _, PickC.pick, ?_⟩)
        refine RH.nil ?_
        refine WP.seq ?_
        refine WP.region ?_
        refine RG.pv rfl (PV.move rfl rfl) ?_
        refine RG.pv rfl (PV.asg rfl rfl) ?_
        refine RG.nil ?_
        refine WP.ret ?_
        exact ⟨_, _, ResV.one rfl rfl, (Cv.closeS (F := waiverT) (m := (ws.take i).length + (ws.length + 1 - i)) (xs := ws.take i ++ [w] ++ ws.drop i) (by rw [hln, hti]; omega) (by rw [hln]; omega) p2 (by rw [splice_length, splice_length]; exact p3) (by rw [h2, hfl, show (i + 1) * 2 = i * 2 + 2 by omega, spl_grow lA (by rw [lB, show cs3.length = cap3 * 2 from p3]; omega), take_pre p4 (by rw [FT.flat_len, hti]) (Nat.mul_le_mul_right 2 (by omega))])).trans Cv.p, k (.slice (some ⟨b3, 0, none⟩) ((ws.take i).length + (ws.length + 1 - i)) cap3)⟩
      · have h5 := of_decide_eq_false h5
        refine WP.skip ?_
        refine WP.seq ?_
        refine WP.region ?_
        refine RG.pv rfl (PV.move rfl rfl) ?_
        refine RG.pv rfl (PV.mvI (.inl rfl) rfl) ?_
        refine RG.pv rfl (PV.mvI (.inl rfl) rfl) ?_
        refine RG.pv rfl (PV.add rfl rfl rfl (by omega)) ?_
        refine RG.pv rfl (PV.slcC (h := ws.length + 1) rfl Is27 rfl rfl rfl (by omega)) ?_
        refine RG.pv rfl (PV.asg rfl rfl) ?_
        refine RG.nil ?_
        refine WP.seq ?_
        refine WP.seq ?_
        refine WP.region ?_
        refine RG.pv rfl (PV.move rfl rfl) ?_
        refine RG.pv rfl (PV.move rfl rfl) ?_
        refine RG.pv rfl (PV.mvI (.inl rfl) rfl) ?_
        refine RG.pv rfl (PV.mvI (.inl rfl) rfl) ?_
        refine RG.pv rfl (PV.add rfl rfl rfl (by omega)) ?_
        refine RG.pv rfl (PV.slcB (l := i + 1) rfl Is27 rfl (optAt.s rfl rfl) optAt.n (by omega) (by omega) (by omega)) ?_
        refine RG.ot rfl (OT.apart (tR := 4) rfl Try.func52 (by kernel_rfl) (by kernel_rfl) (by kernel_rfl) (by kernel_rfl) Is27 rfl hne (by omega) ?_)
        refine RG.pv rfl (PV.not rfl rfl) ?_
        refine RG.nil ?_
        refine WP.cond rfl (fun h6 => ?_) (fun h6 => ?_)
        · refine WP.seq ?_
          refine WP.regionHD [.b b] (.q 0 (.q 1 (.q 2 (.q 3 (.q 4 (.q 5 (.q 6 (.q 7 (.l 8 Sch.nil))))))))) (by kernel_rfl) (by kernel_rfl) (by kernel_rfl) rfl ?_
          refine RH.pv rfl (fun _ _ _ _ h => h) (Gh.le_refl _) PickC.pick rfl (PV.move rfl rfl) ?_
          refine RH.pv rfl (fun _ _ _ _ h => h) (Gh.le_refl _) PickC.pick rfl (PV.mvI (.inl rfl) rfl) ?_
          refine RH.pv rfl (fun _ _ _ _ h => h) (Gh.le_refl _) PickC.pick rfl (PV.mvI (.inl rfl) rfl) ?_
          refine RH.pv rfl (fun _ _ _ _ h => h) (Gh.le_refl _) PickC.pick rfl (PV.add rfl rfl rfl (by omega)) ?_
          refine RH.pv rfl (fun _ _ _ _ h => h) (Gh.le_refl _) PickC.pick rfl (PV.slcB (l := i + 1) rfl Is27 rfl (optAt.s rfl rfl) optAt.n (by omega) (by omega) (by omega)) ?_
          refine RH.pv rfl (fun _ _ _ _ h => h) (Gh.le_refl _) PickC.pick rfl (PV.move rfl rfl) ?_
          refine RH.pv rfl (fun _ _ _ _ h => h) (Gh.le_refl _) PickC.pick rfl (PV.mvI (.inl rfl) rfl) ?_
          refine RH.pv rfl (fun _ _ _ _ h => h) (Gh.le_refl _) PickC.pick rfl (PV.slcB (l := i) rfl Is27 rfl (optAt.s rfl rfl) optAt.n (by omega) (by omega) (by omega)) ?_
          refine RH.ot rfl rfl (OT.copy (vs := waiverT.flat (ws.drop i)) (q := ws.length - i) rfl Is27 rfl rfl (by omega) lB (src_blk (b := b) sB) (one_waiver _) (by rw [lB]; omega) ⟨Gh.le_refl _, PickC.pick, ?_⟩)
          refine RH.nil ?_
          refine WP.seq ?_
          refine WP.region ?_
          refine RG.pv rfl (PV.move rfl rfl) ?_
          refine RG.pv rfl (PV.mvI (.inl rfl) rfl) ?_
          refine RG.pv rfl (PV.slcB (l := i) rfl Is27 rfl (optAt.s rfl rfl) optAt.n (by omega) (by omega) (by omega)) ?_
          refine RG.pv rfl (PV.move rfl rfl) ?_
          refine RG.ot rfl (OT.copy (vs := waiverT.flat [w]) (q := 1) rfl Is27 rfl rfl (by omega) rfl (src_blk (b := b2) sA) (one_waiver _) (by rw [lA, splice_length]; omega) ?_)
          refine RG.nil ?_
          refine WP.seq ?_
          refine WP.region ?_
          refine RG.pv rfl (PV.move rfl rfl) ?_
          refine RG.pv rfl (PV.asg rfl rfl) ?_
          refine RG.nil ?_
          refine WP.ret ?_
          exact ⟨_, _, ResV.one rfl rfl, (Cv.closeS (F := waiverT) (m := ws.length + 1) (xs := ws.take i ++ [w] ++ ws.drop i) (by rw [hln]) (by rw [hln]; omega) c2 (by rw [splice_length, splice_length]; exact c3) (by rw [h2, hfl, show (i + 1) * 2 = i * 2 + 2 by omega, spl_room lA (by rw [lB]; omega), e0])).trans Cv.p, k (.slice (some ⟨b, 0, none⟩) (ws.length + 1) cap)⟩
        · simp at h6
end Go.Proofs.Ytgechnphgnfmeaa
namespace Go.Proofs.Ytgechnphgnfmeaa
set_option linter.unusedVariables false
set_option linter.unusedSimpArgs false
open Go
set_option maxRecDepth 20000
set_option linter.unusedSimpArgs false
variable {G : Gh} {L : List Ch} {R : Value → Gh → List Ch → Prop}
theorem insW_end {v u : Value} {ws : List Waiver} {w : Waiver} (hl : ws.length ≤ 1000) (k : ∀ v', R v' G (osl 31 waiverT v' (ws ++ [w]) :: L)) : CallT Try.prog 30 #[v, vi ws.length, u] G (osl 31 waiverT v ws :: osl 31 waiverT u [w] :: L) R := by
  refine CallT.enter (args := _) Try.func30 rfl rfl (by kernel_rfl) rfl ?_
  refine WP.seq ?_
  refine WP.region ?_
  refine RG.pv rfl (PV.asg rfl rfl) ?_
  refine RG.nil ?_
  refine WP.seq ?_
  refine WP.region ?_
  refine RG.pv rfl (PV.move (v := v) rfl rfl) ?_
  refine RG.pv rfl (PV.mvI (.inl rfl) rfl) ?_
  refine RG.pv rfl (PV.slc (v := v) rfl Is27 rfl SlF.o (optAt.s rfl rfl) optAt.n (by omega) (by omega)) ?_
  refine RG.nil ?_
  refine WP.seq ?_
  refine WP.region ?_
  refine RG.pv rfl (PV.move (v := u) rfl rfl) ?_
  refine RG.pv rfl (PV.len (v := u) rfl Try.underlying27 rfl SlF.o) ?_
  refine RG.pv rfl (PV.mvI (.inr rfl) rfl) ?_
  refine RG.nil ?_
  refine WP.seq ?_
  refine WP.seq ?_
  refine WP.region ?_
  refine RG.pv rfl (PV.mvI (.inl rfl) rfl) ?_
  refine RG.pv rfl (PV.eql rfl rfl rfl) ?_
  refine RG.nil ?_
  refine WP.cond rfl (fun h3 => ?_) (fun h3 => ?_)
  · simp at h3
  · refine WP.skip ?_
    refine WP.seq ?_
    refine WP.region ?_
    refine RG.pv rfl (PV.move (v := v) rfl rfl) ?_
    refine RG.pv rfl (PV.len (v := v) rfl Try.underlying27 rfl SlF.o) ?_
    refine RG.pv rfl (PV.mvI (.inr rfl) rfl) ?_
    refine RG.nil ?_
    refine WP.seq ?_
    refine WP.seq ?_
    refine WP.region ?_
    refine RG.pv rfl (PV.mvI (.inl rfl) rfl) ?_
    refine RG.pv rfl (PV.mvI (.inl rfl) rfl) ?_
    refine RG.pv rfl (PV.eql rfl rfl rfl) ?_
    refine RG.nil ?_
    refine WP.cond rfl (fun h4 => ?_) (fun h4 => ?_)
    · refine WP.seq ?_
      refine WP.region ?_
      refine RG.pv rfl (PV.move (v := v) rfl rfl) ?_
      refine RG.pv rfl (PV.move (v := u) rfl rfl) ?_
      refine RG.ot rfl (OT.append (v := v) (u := u) (F := waiverT) rfl El27 rfl (by decide) rfl rfl Rs.o (OneL.c (fun _ => rfl)) rfl (by first | omega | (simp <;> omega)) fun v25 => ?_)
      refine RG.pv rfl (PV.asg (v := v25) rfl rfl) ?_
      refine RG.nil ?_
      refine WP.ret ?_
      exact ⟨_, _, ResV.one rfl rfl, Cv.p, k v25⟩
    · simp at h4
theorem insW_s {v u : Value} {ws : List Waiver} {w : Waiver} {i : Nat} (hi : i ≤ ws.length) (hl : ws.length ≤ 1000) (k : ∀ v', R v' G (osl 31 waiverT v' (ws.take i ++ [w] ++ ws.drop i) :: L)) : CallT Try.prog 30 #[v, vi i, u] G (osl 31 waiverT v ws :: osl 31 waiverT u [w] :: L) R := by
  by_cases h : i = ws.length
  · subst h
    refine insW_end hl fun v' => ?_
    have := k v'
    rwa [List.take_length, List.drop_length, List.append_nil] at this
  · refine CallT.openS (args := fun v => #[v, vi i, u]) (by omega) fun b cap cs c1 c2 c3 c4 => ?_
    refine CallT.cv (L' := osl 31 waiverT u [w] :: blk b 31 cs :: L) Cv.p ?_
    refine CallT.openS (args := fun u => #[.slice (some ⟨b, 0, none⟩) ws.length cap, vi i, u]) (by simp) fun b2 cap2 cs2 d1 d2 d3 d4 => ?_
    refine CallT.cv (L' := blk b 31 cs :: blk b2 31 cs2 :: L) Cv.p ?_
    exact insW_mid (by omega) hl c1 c2 c3 c4 d1 d3 d4 k
/-- how many waivers stand before a signature -/
def lowN (ws : List Waiver) (n : Int) : Nat := (ws.takeWhile fun a => decide (a.sig < n)).length
theorem lowN_eq : ∀ {ws : List Waiver} {n : Int} {i : Nat}, i ≤ ws.length → (∀ j, j < i → (gd ws j).sig < n) → (i < ws.length → ¬ (gd ws i).sig < n) → lowN ws n = i
  | [], n, i, hi, _, _ => by simp at hi; subst hi; rfl
  | a :: ws, n, 0, _, _, h => by
    have h := h (by simp)
    have e : gd (a :: ws) 0 = a := by unfold gd; rfl
    rw [e] at h
    simp [lowN, h]
  | a :: ws, n, i + 1, hi, hj, h => by
    have e : ∀ j, gd (a :: ws) (j + 1) = gd ws j := fun j => by unfold gd; simp
    have e0 : gd (a :: ws) 0 = a := by unfold gd; rfl
    have h0 := hj 0 (by omega)
    rw [e0] at h0
    have ih := lowN_eq (ws := ws) (n := n) (i := i) (by simp at hi; omega) (fun j hh => by have := hj (j + 1) (by omega); rwa [e] at this) (fun hh => by have := h (by simp; omega); rwa [e] at this)
    simp only [lowN] at ih ⊢
    simp [List.takeWhile_cons, h0, ih]
def insA (ws : List Waiver) (w : Waiver) : List Waiver := ws.take (lowN ws w.sig) ++ [w] ++ ws.drop (lowN ws w.sig)
theorem insA_at {ws : List Waiver} {w : Waiver} {i : Nat} (h1 : i ≤ ws.length) (h2 : ∀ j, j < i → (gd ws j).sig < w.sig) (h3 : i < ws.length → ¬ (gd ws i).sig < w.sig) : insA ws w = ws.take i ++ [w] ++ ws.drop i := by
  rw [insA, lowN_eq h1 h2 h3]
def awC (ws : List Waiver) (w : Waiver) : Int := bif !isWL ws || !validW w then 1 else bif hasW ws w.sig then 6 else bif decide (ws.length = 16) then 3 else 0
def awR (ws : List Waiver) (w : Waiver) : List Waiver := bif decide (awC ws w = 0) then insA ws w else []
theorem insert_x {v : Value} {ws : List Waiver} {w : Waiver} (h1 : Rs G L waiverT v ws) (hl : ws.length ≤ 10000) (k : ∀ v', R v' G (osl 31 waiverT v' (insA ws w) :: L)) : CallT Try.prog 26 #[v, vT waiverT w] G L R := by
  refine CallT.enter (args := _) Try.func26 rfl rfl (by kernel_rfl) rfl ?_
  refine WP.seq ?_
  refine WP.region ?_
  refine RG.ot rfl (OT.box (cs := waiverT.enc w) rfl rfl rfl fun b3 => ?_)
  refine RG.pv rfl (PV.asg rfl rfl) ?_
  refine RG.nil ?_
  refine WP.seq ?_
  refine WP.region ?_
  refine RG.pv rfl (PV.mvI (.inr rfl) rfl) ?_
  refine RG.nil ?_
  refine WP.seq ?_
  refine WP.block ?_
  refine WP.loop1 [0, 3] (fun (i : Nat) => i ≤ ws.length ∧ ∀ j, j < i → (gd ws j).sig < w.sig) (fun (i : Nat) => [(5, vi i)]) (fun (i : Nat) => blk b3 31 (waiverT.enc w) :: L) (fun (i : Nat) => ws.length - i) 0 ⟨by omega, fun j h => by omega⟩ ⟨rfl, trivial⟩ Cv.p ?_
  rintro i τ ⟨hi, hj⟩
  refine WP.seq ?_
  refine WP.seq ?_
  refine WP.regionQ (by kernel_rfl) (by kernel_rfl) ?_
  refine RQ.pv rfl (PV.mvI (.inl rfl) rfl) ?_
  refine RQ.pv rfl (PV.move (v := v) rfl rfl) ?_
  refine RQ.pv rfl (PV.len (v := v) rfl Try.underlying27 rfl (SlF.r h1)) ?_
  refine RQ.pv rfl (PV.lss rfl rfl rfl) ?_
  refine RQ.pv rfl (PV.mvB (.inl rfl) rfl) ?_
  refine RQ.gs rfl rfl rfl (fun hp => (PV.move (v := v) rfl rfl)) ?_
  refine RQ.gs rfl rfl rfl (fun hp => (PV.mvI (.inl rfl) rfl)) ?_
  refine RQ.gs rfl rfl rfl (fun hp => (PV.idxS (v := v) rfl Is27 (gs_t hp) (SlF.r h1) (gs_t hp) rfl (by first | omega | (simp at hp; omega)))) ?_
  refine RQ.gs rfl rfl rfl (fun hp => (PV.field rfl Fo31_0 (gs_t hp))) ?_
  refine RQ.gs rfl rfl rfl (fun hp => (PV.loadF rfl Sc2 (gs_t hp) rfl (El.r h1 (getG (by first | omega | (simp at hp; omega)))) rfl)) ?_
  refine RQ.gs rfl rfl rfl (fun hp => (PV.field rfl Fo31_0 rfl)) ?_
  refine RQ.gs rfl rfl rfl (fun hp => (PV.load1 rfl Sc2 (gs_t hp) (Rd.blk rfl))) ?_
  refine RQ.gs rfl rfl rfl (fun hp => (PV.lss rfl (gs_t hp) (gs_t hp))) ?_
  refine RQ.pv rfl (PV.pickA rfl rfl (fun hq => gs_t (geqT hq)) rfl) ?_
  refine RQ.nil ?_
  refine WP.cond rfl (fun h2 => ?_) (fun h2 => ?_)
  · have h3 : i < ws.length := by simp at h2; omega
    have h4 : (gd ws i).sig < w.sig := by simp at h2; exact h2.2
    have hj' : ∀ j, j < i + 1 → (gd ws j).sig < w.sig := fun j h => by
      by_cases c : j = i
      · rw [c]; exact h4
      · exact hj j (by omega)
    refine WP.skip ?_
    refine WP.block ?_
    refine WP.region ?_
    refine RG.pv rfl (PV.mvI (.inl rfl) rfl) ?_
    refine RG.pv rfl (PV.add rfl rfl rfl (by omega)) ?_
    refine RG.pv rfl (PV.mvI (.inr rfl) rfl) ?_
    refine RG.nil ?_
    exact ⟨rfl, i + 1, ⟨by omega, hj'⟩, ⟨rfl, trivial⟩, ⟨rfl, rfl, trivial⟩, Cv.p, by omega⟩
  · have h3 : i < ws.length → ¬ (gd ws i).sig < w.sig := fun hh => by simp at h2; have := h2 (by omega); omega
    have e := insA_at (w := w) hi hj h3
    refine WP.exit ?_
    refine WP.seq ?_
    refine WP.region ?_
    refine RG.ot rfl (OT.bslice (F := waiverT) (els := []) rfl El27 rfl (by decide) rfl (by decide) trivial fun v23 => ?_)
    refine RG.pv rfl (PV.move (v := v) rfl rfl) ?_
    refine RG.pv rfl (PV.mvI (.inl rfl) rfl) ?_
    refine RG.pv rfl (PV.slc (v := v) rfl Is27 rfl (SlF.r h1) optAt.n (optAt.s rfl rfl) (by omega) (by omega)) ?_
    refine RG.ot rfl (OT.append (v := v23) (F := waiverT) rfl El27 rfl (by decide) rfl rfl (Rs.up (Rs.slv (F := waiverT) h1 (by omega) (by omega))) (OneL.c (fun _ => rfl)) rfl (by first | omega | (simp <;> omega)) fun v27 => ?_)
    refine RG.pv rfl (PV.asg (v := v27) rfl rfl) ?_
    refine RG.nil ?_
    refine WP.seq ?_
    refine WP.region ?_
    refine RG.pv rfl (PV.move (v := v27) rfl rfl) ?_
    refine RG.pv rfl (PV.loadW rfl Ag31 rfl rfl) ?_
    refine RG.ot rfl (OT.bslice (F := waiverT) (els := [_]) rfl El27 rfl (by decide) rfl (by decide) ⟨rfl, (Cl.c rfl), trivial⟩ fun v30 => ?_)
    refine RG.ot rfl (OT.append (v := v27) (u := v30) (F := waiverT) rfl El27 rfl (by decide) rfl rfl Rs.o (OneL.c (fun _ => rfl)) rfl (by first | omega | (simp <;> omega)) fun v31 => ?_)
    refine RG.pv rfl (PV.asg (v := v31) rfl rfl) ?_
    refine RG.nil ?_
    refine WP.seq ?_
    refine WP.region ?_
    refine RG.pv rfl (PV.move (v := v31) rfl rfl) ?_
    refine RG.pv rfl (PV.move (v := v) rfl rfl) ?_
    refine RG.pv rfl (PV.mvI (.inl rfl) rfl) ?_
    refine RG.pv rfl (PV.slc (v := v) rfl Is27 rfl (SlF.r h1) (optAt.s rfl rfl) optAt.n (by omega) (by omega)) ?_
    refine RG.ot rfl (OT.append (v := v31) (F := waiverT) rfl El27 rfl (by decide) rfl rfl (Rs.up (Rs.slv (F := waiverT) h1 (by omega) (by omega))) (OneL.c (fun _ => rfl)) rfl (by first | omega | (simp <;> omega)) fun v36 => ?_)
    refine RG.pv rfl (PV.asg (v := v36) rfl rfl) ?_
    refine RG.nil ?_
    refine WP.ret ?_
    exact ⟨_, _, ResV.one rfl rfl, (Cv.p (C := osl 31 waiverT v36 ((([] ++ (ws.take i).drop 0) ++ [w]) ++ (ws.take ws.length).drop i) :: L)).trans (Cv.eqS (by rw [e, List.nil_append, List.drop_zero, List.take_length])), k v36⟩
theorem isWL_len {ws : List Waiver} (h : isWL ws = true) : ws.length ≤ 16 := by
  simp only [isWL, Bool.and_eq_true, decide_eq_true_eq] at h; exact h.1
theorem addW_r {v : Value} {ws : List Waiver} {w : Waiver} (h1 : Rs G L waiverT v ws) (hlen : ∀ i, i < ws.length → (gd ws i).reason.size ≤ 9223372036854775807) (hs : w.reason.size ≤ 9223372036854775807) (k : ∀ v', R (.tuple #[v', vi (awC ws w)]) G (osl 31 waiverT v' (awR ws w) :: L)) : CallT Try.prog 7 #[v, vT waiverT w] G L R := by
  refine CallT.enter (args := _) Try.func7 rfl rfl (by kernel_rfl) rfl ?_
  refine WP.seq ?_
  refine WP.region ?_
  refine RG.ot rfl (OT.box (cs := waiverT.enc w) rfl rfl rfl fun b3 => ?_)
  refine RG.pv rfl (PV.asg rfl rfl) ?_
  refine RG.pv rfl (PV.mvI (.inr rfl) rfl) ?_
  refine RG.nil ?_
  refine WP.seq ?_
  refine WP.seq ?_
  refine WP.region ?_
  refine RG.pv rfl (PV.move (v := v) rfl rfl) ?_
  refine RG.callF (vs := [v]) rfl rfl En23 rfl (isWL_s' (Rs.up h1) hlen ?_)
  refine RG.pv rfl (PV.not rfl rfl) ?_
  refine RG.pv rfl (PV.mvB (.inl rfl) rfl) ?_
  refine RG.gs rfl rfl rfl (fun hp => (PV.loadW rfl Ag31 rfl rfl)) ?_
  refine RG.gsC rfl rfl rfl rfl En24 (fun hp => ⟨_, (acons (gs_t hp) anil), l22Valid_s hs ⟨rfl, rfl, rfl⟩⟩) ?_
  refine RG.gs rfl rfl rfl (fun hp => (PV.not rfl (gs_t hp))) ?_
  refine RG.pv rfl (PV.pickO rfl rfl rfl (fun hq => gs_t (geqF hq))) ?_
  refine RG.nil ?_
  refine WP.cond rfl (fun h2 => ?_) (fun h2 => ?_)
  · have h2' : (!isWL ws || !validW w) = true := by simpa using h2
    have e1 : awC ws w = 1 := by rw [awC, h2', cond_true]
    have e2 : awR ws w = [] := by rw [awR, e1]; rfl
    rw [e1, e2] at k
    refine WP.seq ?_
    refine WP.region ?_
    refine RG.pv rfl (PV.asg rfl rfl) ?_
    refine RG.pv rfl (PV.mvI (.inr rfl) rfl) ?_
    refine RG.nil ?_
    refine WP.ret ?_
    exact ⟨_, _, ResV.two rfl rfl rfl, (Cv.p (C := L)).trans Cv.nilS, k (.slice none 0 0)⟩
  · have h2' : (!isWL ws || !validW w) = false := by simpa using h2
    have hwl : isWL ws = true := by simp at h2'; exact h2'.1
    have hl := isWL_len hwl
    refine WP.skip ?_
    refine WP.seq ?_
    refine WP.seq ?_
    refine WP.region ?_
    refine RG.pv rfl (PV.move (v := v) rfl rfl) ?_
    refine RG.pv rfl (PV.field rfl Fo31_0 rfl) ?_
    refine RG.pv rfl (PV.load1 rfl Sc2 rfl (Rd.blk rfl)) ?_
    refine RG.callF (vs := [v, _]) rfl rfl En25 rfl (l22Has_s (Rs.up h1) ?_)
    refine RG.nil ?_
    refine WP.cond rfl (fun h3 => ?_) (fun h3 => ?_)
    · have e1 : awC ws w = 6 := by rw [awC, h2', cond_false, h3, cond_true]
      have e2 : awR ws w = [] := by rw [awR, e1]; rfl
      rw [e1, e2] at k
      refine WP.seq ?_
      refine WP.region ?_
      refine RG.pv rfl (PV.asg rfl rfl) ?_
      refine RG.pv rfl (PV.mvI (.inr rfl) rfl) ?_
      refine RG.nil ?_
      refine WP.ret ?_
      exact ⟨_, _, ResV.two rfl rfl rfl, (Cv.p (C := L)).trans Cv.nilS, k (.slice none 0 0)⟩
    · refine WP.skip ?_
      refine WP.seq ?_
      refine WP.seq ?_
      refine WP.region ?_
      refine RG.pv rfl (PV.move (v := v) rfl rfl) ?_
      refine RG.pv rfl (PV.len (v := v) rfl Try.underlying27 rfl (SlF.r h1)) ?_
      refine RG.pv rfl (PV.eql rfl rfl rfl) ?_
      refine RG.nil ?_
      refine WP.cond rfl (fun h4 => ?_) (fun h4 => ?_)
      · have h4' : ws.length = 16 := by simp at h4; omega
        have e1 : awC ws w = 3 := by rw [awC, h2', cond_false, h3, cond_false, decide_eq_true h4', cond_true]
        have e2 : awR ws w = [] := by rw [awR, e1]; rfl
        rw [e1, e2] at k
        refine WP.seq ?_
        refine WP.region ?_
        refine RG.pv rfl (PV.asg rfl rfl) ?_
        refine RG.pv rfl (PV.mvI (.inr rfl) rfl) ?_
        refine RG.nil ?_
        refine WP.ret ?_
        exact ⟨_, _, ResV.two rfl rfl rfl, (Cv.p (C := L)).trans Cv.nilS, k (.slice none 0 0)⟩
      · have h4' : ¬ ws.length = 16 := by simp at h4; omega
        have e1 : awC ws w = 0 := by rw [awC, h2', cond_false, h3, cond_false, decide_eq_false h4', cond_false]
        have e2 : awR ws w = insA ws w := by rw [awR, e1]; rfl
        rw [e1, e2] at k
        refine WP.skip ?_
        refine WP.seq ?_
        refine WP.region ?_
        refine RG.pv rfl (PV.move (v := v) rfl rfl) ?_
        refine RG.pv rfl (PV.loadW rfl Ag31 rfl rfl) ?_
        refine RG.callF (vs := [v, _]) rfl rfl En26 rfl (insert_x (Rs.up h1) (by omega) (fun v23 => ?_))
        refine RG.pv rfl (PV.asg (v := v23) rfl rfl) ?_
        refine RG.pv rfl (PV.mvI (.inr rfl) rfl) ?_
        refine RG.nil ?_
        refine WP.ret ?_
        exact ⟨_, _, ResV.two rfl rfl rfl, Cv.p, k v23⟩
theorem clone_waivers {v : Value} {xs : List (Waiver)} (h1 : Rs G L waiverT v xs) (hb : xs.length ≤ 1048576) (k : ∀ v', R v' G (osl 31 waiverT v' xs :: L)) : CallT Try.prog 31 #[v] G L R := by
  refine CallT.st (fun w hs => isNilS_nil h1 hs) fun hn => ?_
  refine CallT.enter (args := _) Try.func31 rfl rfl (by kernel_rfl) rfl ?_
  refine WP.seq ?_
  refine WP.region ?_
  refine RG.pv rfl (PV.asg rfl rfl) ?_
  refine RG.nil ?_
  refine WP.seq ?_
  refine WP.seq ?_
  refine WP.region ?_
  refine RG.pv rfl (PV.move (v := v) rfl rfl) ?_
  refine RG.pv rfl (PV.eqlNil rfl Try.underlying27 rfl (SlF.r h1)) ?_
  refine RG.nil ?_
  refine WP.cond rfl (fun h2 => ?_) (fun h2 => ?_)
  · have e := hn h2
    rw [e] at k
    refine WP.seq ?_
    refine WP.region ?_
    refine RG.pv rfl (PV.asg rfl rfl) ?_
    refine RG.nil ?_
    refine WP.ret ?_
    exact ⟨_, _, ResV.one rfl rfl, Cv.nilS, k _⟩
  · refine WP.skip ?_
    refine WP.seq ?_
    refine WP.region ?_
    refine RG.ot rfl (OT.bslice (F := waiverT) (els := []) rfl El27 rfl (by decide) rfl (by decide) trivial fun v5 => ?_)
    refine RG.pv rfl (PV.move (v := v) rfl rfl) ?_
    refine RG.ot rfl (OT.append (v := v5) (u := v) (F := waiverT) rfl El27 rfl (by decide) rfl rfl (Rs.up h1) (OneL.c (fun _ => rfl)) rfl (by first | omega | (simp <;> omega)) fun v7 => ?_)
    refine RG.pv rfl (PV.asg (v := v7) rfl rfl) ?_
    refine RG.nil ?_
    refine WP.ret ?_
    exact ⟨_, _, ResV.one rfl rfl, (Cv.eqS (List.nil_append _)), k v7⟩
theorem addW_i {v : Value} {ws : List Waiver} {w : Waiver} (h1 : Rs G L waiverT v ws) (hlen : ∀ i, i < ws.length → (gd ws i).reason.size ≤ 9223372036854775807) (hs : w.reason.size ≤ 9223372036854775807) (k : ∀ v', R (.tuple #[v', vi (awC ws w)]) G (osl 31 waiverT v' (awR ws w) :: L)) : CallT Try.prog 10 #[v, vT waiverT w] G L R := by
  refine CallT.enter (args := _) Try.func10 rfl rfl (by kernel_rfl) rfl ?_
  refine WP.seq ?_
  refine WP.region ?_
  refine RG.ot rfl (OT.box (cs := waiverT.enc w) rfl rfl rfl fun b3 => ?_)
  refine RG.pv rfl (PV.asg rfl rfl) ?_
  refine RG.pv rfl (PV.mvI (.inr rfl) rfl) ?_
  refine RG.nil ?_
  refine WP.seq ?_
  refine WP.block ?_
  refine WP.seq ?_
  refine WP.region ?_
  refine RG.pv rfl (PV.move (v := v) rfl rfl) ?_
  refine RG.callF (vs := [v]) rfl rfl En27 rfl (isWL_s (Rs.up h1) hlen ?_)
  refine RG.pv rfl (PV.not rfl rfl) ?_
  refine RG.pv rfl (PV.mvB (.inl rfl) rfl) ?_
  refine RG.gs rfl rfl rfl (fun hp => (PV.loadW rfl Ag31 rfl rfl)) ?_
  refine RG.gsC rfl rfl rfl rfl En28 (fun hp => ⟨_, (acons (gs_t hp) anil), validWaiver_s hs ⟨rfl, rfl, rfl⟩⟩) ?_
  refine RG.gs rfl rfl rfl (fun hp => (PV.not rfl (gs_t hp))) ?_
  refine RG.pv rfl (PV.pickO rfl rfl rfl (fun hq => gs_t (geqF hq))) ?_
  refine RG.pv rfl (PV.mvB (.inr rfl) rfl) ?_
  refine RG.nil ?_
  refine WP.cond rfl (fun h2 => ?_) (fun h2 => ?_)
  · have h2' : (!isWL ws || !validW w) = true := by simpa using h2
    have e1 : awC ws w = 1 := by rw [awC, h2', cond_true]
    have e2 : awR ws w = [] := by rw [awR, e1]; rfl
    rw [e1, e2] at k
    refine WP.seq ?_
    refine WP.region ?_
    refine RG.pv rfl (PV.asg rfl rfl) ?_
    refine RG.pv rfl (PV.mvI (.inr rfl) rfl) ?_
    refine RG.nil ?_
    refine WP.ret ?_
    exact ⟨_, _, ResV.two rfl rfl rfl, (Cv.p (C := L)).trans Cv.nilS, k (.slice none 0 0)⟩
  · have h2' : (!isWL ws || !validW w) = false := by simpa using h2
    have hwl : isWL ws = true := by simp at h2'; exact h2'.1
    have hl := isWL_len hwl
    refine WP.seq ?_
    refine WP.region ?_
    refine RG.pv rfl (PV.move (v := v) rfl rfl) ?_
    refine RG.pv rfl (PV.field rfl Fo31_0 rfl) ?_
    refine RG.pv rfl (PV.load1 rfl Sc2 rfl (Rd.blk rfl)) ?_
    refine RG.callF (vs := [v, _]) rfl rfl En29 rfl (waives_s (Rs.up h1) ?_)
    refine RG.pv rfl (PV.mvB (.inr rfl) rfl) ?_
    refine RG.nil ?_
    refine WP.cond rfl (fun h3 => ?_) (fun h3 => ?_)
    · have e1 : awC ws w = 6 := by rw [awC, h2', cond_false, h3, cond_true]
      have e2 : awR ws w = [] := by rw [awR, e1]; rfl
      rw [e1, e2] at k
      refine WP.seq ?_
      refine WP.region ?_
      refine RG.pv rfl (PV.asg rfl rfl) ?_
      refine RG.pv rfl (PV.mvI (.inr rfl) rfl) ?_
      refine RG.nil ?_
      refine WP.ret ?_
      exact ⟨_, _, ResV.two rfl rfl rfl, (Cv.p (C := L)).trans Cv.nilS, k (.slice none 0 0)⟩
    · refine WP.seq ?_
      refine WP.region ?_
      refine RG.pv rfl (PV.move (v := v) rfl rfl) ?_
      refine RG.pv rfl (PV.len (v := v) rfl Try.underlying27 rfl (SlF.r h1)) ?_
      refine RG.pv rfl (PV.eql rfl rfl rfl) ?_
      refine RG.pv rfl (PV.mvB (.inr rfl) rfl) ?_
      refine RG.nil ?_
      refine WP.cond rfl (fun h4 => ?_) (fun h4 => ?_)
      · have h4' : ws.length = 16 := by simp at h4; omega
        have e1 : awC ws w = 3 := by rw [awC, h2', cond_false, h3, cond_false, decide_eq_true h4', cond_true]
        have e2 : awR ws w = [] := by rw [awR, e1]; rfl
        rw [e1, e2] at k
        refine WP.seq ?_
        refine WP.region ?_
        refine RG.pv rfl (PV.asg rfl rfl) ?_
        refine RG.pv rfl (PV.mvI (.inr rfl) rfl) ?_
        refine RG.nil ?_
        refine WP.ret ?_
        exact ⟨_, _, ResV.two rfl rfl rfl, (Cv.p (C := L)).trans Cv.nilS, k (.slice none 0 0)⟩
      · have h4' : ¬ ws.length = 16 := by simp at h4; omega
        have e1 : awC ws w = 0 := by rw [awC, h2', cond_false, h3, cond_false, decide_eq_false h4', cond_false]
        have e2 : awR ws w = insA ws w := by rw [awR, e1]; rfl
        rw [e1, e2] at k
        refine WP.skip ?_
        refine WP.seq ?_
        refine WP.region ?_
        refine RG.pv rfl (PV.mvI (.inr rfl) rfl) ?_
        refine RG.nil ?_
        refine WP.seq ?_
        refine WP.block ?_
        refine WP.loop1 [0, 3] (fun (i : Nat) => i ≤ ws.length ∧ ∀ j, j < i → (gd ws j).sig < w.sig) (fun (i : Nat) => [(6, vi i)]) (fun (i : Nat) => blk b3 31 (waiverT.enc w) :: L) (fun (i : Nat) => ws.length - i) 0 ⟨by omega, fun j h => by omega⟩ ⟨rfl, trivial⟩ Cv.p ?_
        rintro i τ ⟨hi, hj⟩
        refine WP.seq ?_
        refine WP.seq ?_
        refine WP.regionQ (by kernel_rfl) (by kernel_rfl) ?_
        refine RQ.pv rfl (PV.mvI (.inl rfl) rfl) ?_
        refine RQ.pv rfl (PV.move (v := v) rfl rfl) ?_
        refine RQ.pv rfl (PV.len (v := v) rfl Try.underlying27 rfl (SlF.r h1)) ?_
        refine RQ.pv rfl (PV.lss rfl rfl rfl) ?_
        refine RQ.pv rfl (PV.mvB (.inl rfl) rfl) ?_
        refine RQ.gs rfl rfl rfl (fun hp => (PV.move (v := v) rfl rfl)) ?_
        refine RQ.gs rfl rfl rfl (fun hp => (PV.mvI (.inl rfl) rfl)) ?_
        refine RQ.gs rfl rfl rfl (fun hp => (PV.idxS (v := v) rfl Is27 (gs_t hp) (SlF.r h1) (gs_t hp) rfl (by first | omega | (simp at hp; omega)))) ?_
        refine RQ.gs rfl rfl rfl (fun hp => (PV.field rfl Fo31_0 (gs_t hp))) ?_
        refine RQ.gs rfl rfl rfl (fun hp => (PV.loadF rfl Sc2 (gs_t hp) rfl (El.r h1 (getG (by first | omega | (simp at hp; omega)))) rfl)) ?_
        refine RQ.gs rfl rfl rfl (fun hp => (PV.field rfl Fo31_0 rfl)) ?_
        refine RQ.gs rfl rfl rfl (fun hp => (PV.load1 rfl Sc2 (gs_t hp) (Rd.blk rfl))) ?_
        refine RQ.gs rfl rfl rfl (fun hp => (PV.lss rfl (gs_t hp) (gs_t hp))) ?_
        refine RQ.pv rfl (PV.pickA rfl rfl (fun hq => gs_t (geqT hq)) rfl) ?_
        refine RQ.nil ?_
        refine WP.cond rfl (fun h5 => ?_) (fun h5 => ?_)
        · have h6 : i < ws.length := by simp at h5; omega
          have h7 : (gd ws i).sig < w.sig := by simp at h5; exact h5.2
          have hj' : ∀ j, j < i + 1 → (gd ws j).sig < w.sig := fun j h => by
            by_cases c : j = i
            · rw [c]; exact h7
            · exact hj j (by omega)
          refine WP.skip ?_
          refine WP.block ?_
          refine WP.region ?_
          refine RG.pv rfl (PV.mvI (.inl rfl) rfl) ?_
          refine RG.pv rfl (PV.add rfl rfl rfl (by omega)) ?_
          refine RG.pv rfl (PV.mvI (.inr rfl) rfl) ?_
          refine RG.nil ?_
          exact ⟨rfl, i + 1, ⟨by omega, hj'⟩, ⟨rfl, trivial⟩, ⟨rfl, rfl, trivial⟩, Cv.p, by omega⟩
        · have h6 : i < ws.length → ¬ (gd ws i).sig < w.sig := fun hh => by simp at h5; have := h5 (by omega); omega
          have e := insA_at (w := w) hi hj h6
          rw [e] at k
          refine WP.exit ?_
          refine WP.seq ?_
          refine WP.regionH0 (.q 0 (.q 2 (.q 3 (.b 1 (.l 4 (.l 5 (.q 6 (.q 7 Sch.nil)))) 4 (.l 1 (.l 5 (.q 6 (.q 7 Sch.nil)))))))) (by kernel_rfl) (by kernel_rfl) (by kernel_rfl) rfl ?_
          refine RH.pv rfl (fun _ _ _ _ h => h) (Gh.le_refl _) PickC.pick rfl (PV.move (v := v) rfl rfl) ?_
          refine RH.pv rfl (fun _ _ _ _ h => h) (Gh.le_refl _) PickC.pick rfl (PV.mvI (.inl rfl) rfl) ?_
          refine RH.pv rfl (fun _ _ _ _ h => h) (Gh.le_refl _) PickC.pick rfl (PV.loadW rfl Ag31 rfl rfl) ?_
          refine RH.ot2 rfl rfl rfl rfl (OT.callF (vs := [v]) rfl En31 rfl (clone_waivers (Rs.up h1) (by omega) (fun v42 => ⟨Gh.le_refl _, PickC.pick, ?_⟩))) (OT.bslice (F := waiverT) (els := [_]) rfl El27 rfl (by decide) rfl (by decide) ⟨rfl, (Cl.c rfl), trivial⟩ fun v45 => ⟨Gh.le_refl _, PickC.pick, ?_⟩)
          · refine RH.ot rfl rfl (OT.bslice (F := waiverT) (els := [_]) rfl El27 rfl (by decide) rfl (by decide) ⟨rfl, (Cl.c rfl), trivial⟩ fun v45 => ⟨Gh.le_refl _, PickC.pick, ?_⟩)
            refine RH.ot rfl rfl (OT.callF (vs := [v42, _, v45]) rfl En30 rfl (CallT.exS v45 (CallT.exS v42 (insW_s (by omega) (by omega) (fun v46 => ⟨Gh.le_refl _, PickC.pick, ?_⟩)))))
            refine RH.pv rfl (fun _ _ _ _ h => h) (Gh.le_refl _) PickC.pick rfl (PV.asg (v := v46) rfl rfl) ?_
            refine RH.pv rfl (fun _ _ _ _ h => h) (Gh.le_refl _) PickC.pick rfl (PV.mvI (.inr rfl) rfl) ?_
            refine RH.nil ?_
            refine WP.ret ?_
            exact ⟨_, _, ResV.two rfl rfl rfl, Cv.p, k v46⟩
          · refine RH.ot rfl rfl (OT.callF (vs := [v]) rfl En31 rfl (clone_waivers (Rs.up h1) (by omega) (fun v42 => ⟨Gh.le_refl _, PickC.pick, ?_⟩)))
            refine RH.ot rfl rfl (OT.callF (vs := [v42, _, v45]) rfl En30 rfl (CallT.exS v45 (CallT.exS v42 (insW_s (by omega) (by omega) (fun v46 => ⟨Gh.le_refl _, PickC.pick, ?_⟩)))))
            refine RH.pv rfl (fun _ _ _ _ h => h) (Gh.le_refl _) PickC.pick rfl (PV.asg (v := v46) rfl rfl) ?_
            refine RH.pv rfl (fun _ _ _ _ h => h) (Gh.le_refl _) PickC.pick rfl (PV.mvI (.inr rfl) rfl) ?_
            refine RH.nil ?_
            refine WP.ret ?_
            exact ⟨_, _, ResV.two rfl rfl rfl, Cv.p, k v46⟩
end Go.Proofs.Ytgechnphgnfmeaa
namespace Go.Proofs.Ytgechnphgnfmeaa
set_option linter.unusedVariables false
set_option linter.unusedSimpArgs false
open Go
set_option maxRecDepth 20000
set_option linter.unusedSimpArgs false
variable {G : Gh} {L : List Ch} {R : Value → Gh → List Ch → Prop}
theorem awR_len (ws : List Waiver) (w : Waiver) : (awR ws w).length ≤ ws.length + 1 := by
  rw [awR]
  cases decide (awC ws w = 0)
  · simp
  · simp only [cond_true, insA]
    simp; omega
theorem szWS_le {xs : List Waiver} {n : Int} (h : 0 ≤ szWS xs n) : szWS xs n ≤ n := by
  unfold szWS at h ⊢
  split
  · omega
  · have := szW_le xs (n - xs.length) (by omega); omega
theorem law_AddWaiver {v : Value} {ws : List Waiver} {w : Waiver} (h1 : Rs G L waiverT v ws) (hlen : ∀ i, i < ws.length → (gd ws i).reason.size ≤ 9223372036854775807) (hs : w.reason.size ≤ 9223372036854775807) (k : R (.bool true) G L) : CallT Try.prog 3 #[v, vT waiverT w] G L R := by
  refine CallT.enter (args := _) Try.func3 rfl rfl (by kernel_rfl) rfl ?_
  refine WP.seq ?_
  refine WP.region ?_
  refine RG.ot rfl (OT.box (cs := waiverT.enc w) rfl rfl rfl fun b3 => ?_)
  refine RG.pv rfl (PV.mvB (.inr rfl) rfl) ?_
  refine RG.nil ?_
  refine WP.seq ?_
  refine WP.region ?_
  refine RG.pv rfl (PV.mvI (.inr rfl) rfl) ?_
  refine RG.nil ?_
  refine WP.seq ?_
  refine WP.region ?_
  refine RG.pv rfl (PV.move (v := v) rfl rfl) ?_
  refine RG.pv rfl (PV.mvI (.inl rfl) rfl) ?_
  refine RG.callF (vs := [v, _]) rfl rfl En5 rfl (szWaiverS_s (Rs.up h1) (by omega) (by omega) hlen ?_)
  refine RG.pv rfl (PV.mvI (.inr rfl) rfl) ?_
  refine RG.nil ?_
  refine WP.seq ?_
  refine WP.seq ?_
  refine WP.region ?_
  refine RG.pv rfl (PV.mvI (.inl rfl) rfl) ?_
  refine RG.pv rfl (PV.lss rfl rfl rfl) ?_
  refine RG.nil ?_
  refine WP.cond rfl (fun h2 => ?_) (fun h2 => ?_)
  · refine WP.seq ?_
    refine WP.region ?_
    refine RG.pv rfl (PV.mvB (.inr rfl) rfl) ?_
    refine RG.nil ?_
    refine WP.ret ?_
    exact ⟨_, _, ResV.one rfl rfl, Cv.p, k⟩
  · have h2 := of_decide_eq_false h2
    have hb : ws.length ≤ 1048576 := by have := szWS_len (xs := ws) (n := 1048576) (by omega); omega
    have hsl := szWS_le (xs := ws) (n := 1048576) (by omega)
    refine WP.skip ?_
    refine WP.seq ?_
    refine WP.region ?_
    refine RG.pv rfl (PV.loadW rfl Ag24 rfl rfl) ?_
    refine RG.pv rfl (PV.mvI (.inl rfl) rfl) ?_
    refine RG.callF (vs := [_, _]) rfl rfl En6 rfl (szWaiver_s (by omega) (by omega) hs (fun r hr => ?_))
    refine RG.pv rfl (PV.mvI (.inr rfl) rfl) ?_
    refine RG.nil ?_
    refine WP.seq ?_
    refine WP.seq ?_
    refine WP.region ?_
    refine RG.pv rfl (PV.mvI (.inl rfl) rfl) ?_
    refine RG.pv rfl (PV.lss rfl rfl rfl) ?_
    refine RG.nil ?_
    refine WP.cond rfl (fun h3 => ?_) (fun h3 => ?_)
    · refine WP.seq ?_
      refine WP.region ?_
      refine RG.pv rfl (PV.mvB (.inr rfl) rfl) ?_
      refine RG.nil ?_
      refine WP.ret ?_
      exact ⟨_, _, ResV.one rfl rfl, Cv.p, k⟩
    · have h3 := of_decide_eq_false h3
      have hal := awR_len ws w
      have hm4 : costL nW ws = 2 * ws.length := nW_cost _
      have hm5 : costL nW (awR ws w) = 2 * (awR ws w).length := nW_cost _
      refine WP.skip ?_
      refine WP.seq ?_
      refine WP.regionH0 (.q 0 (.q 2 (.l 1 (.l 3 (.l 4 (.q 5 (.q 6 (.q 7 (.q 8 (.q 9 Sch.nil)))))))))) (by kernel_rfl) (by kernel_rfl) (by kernel_rfl) rfl ?_
      refine RH.pv rfl (fun _ _ _ _ h => h) (Gh.le_refl _) PickC.pick rfl (PV.move (v := v) rfl rfl) ?_
      refine RH.pv rfl (fun _ _ _ _ h => h) (Gh.le_refl _) PickC.pick rfl (PV.loadW rfl Ag24 rfl rfl) ?_
      refine RH.ot rfl rfl (OT.callF (vs := [v]) rfl En8 rfl (toWaiverS_s (Rs.up h1) hb (fun v28 => ⟨Gh.le_refl _, PickC.pick, ?_⟩)))
      refine RH.ot rfl rfl (OT.callF (vs := [_]) rfl En9 rfl (toWaiver_s ⟨Gh.le_refl _, PickC.pick, ?_⟩))
      refine RH.ot rfl rfl (OT.callF (vs := [v28, _]) rfl En7 rfl (addW_r Rs.o hlen hs (fun w31 => ⟨Gh.le_refl _, PickC.pick, ?_⟩)))
      refine RH.pv rfl (fun _ _ _ _ h => h) (Gh.le_refl _) PickC.pick rfl (PV.move (v := .tuple _) rfl rfl) ?_
      refine RH.pv rfl (fun _ _ _ _ h => h) (Gh.le_refl _) PickC.pick rfl (PV.ext (v := w31) rfl rfl rfl) ?_
      refine RH.pv rfl (fun _ _ _ _ h => h) (Gh.le_refl _) PickC.pick rfl (PV.ext rfl rfl rfl) ?_
      refine RH.pv rfl (fun _ _ _ _ h => h) (Gh.le_refl _) PickC.pick rfl (PV.asg (v := w31) rfl rfl) ?_
      refine RH.pv rfl (fun _ _ _ _ h => h) (Gh.le_refl _) PickC.pick rfl (PV.mvI (.inr rfl) rfl) ?_
      refine RH.nil ?_
      refine WP.seq ?_
      refine WP.region ?_
      refine RG.pv rfl (PV.move (v := v) rfl rfl) ?_
      refine RG.callF (vs := [v]) rfl rfl En8 rfl (toWaiverS_s (Rs.up h1) hb (fun v35 => ?_))
      refine RG.pv rfl (PV.asg (v := v35) rfl rfl) ?_
      refine RG.nil ?_
      refine WP.seq ?_
      refine WP.region ?_
      refine RG.pv rfl (PV.move (v := v35) rfl rfl) ?_
      refine RG.pv rfl (PV.loadW rfl Ag24 rfl rfl) ?_
      refine RG.callF (vs := [_]) rfl rfl En9 rfl (toWaiver_s ?_)
      refine RG.callF (vs := [v35, _]) rfl rfl En10 rfl (addW_i Rs.o hlen hs (fun w40 => ?_))
      refine RG.pv rfl (PV.move (v := .tuple _) rfl rfl) ?_
      refine RG.pv rfl (PV.ext (v := w40) rfl rfl rfl) ?_
      refine RG.pv rfl (PV.ext rfl rfl rfl) ?_
      refine RG.pv rfl (PV.asg (v := w40) rfl rfl) ?_
      refine RG.pv rfl (PV.mvI (.inr rfl) rfl) ?_
      refine RG.nil ?_
      refine WP.seq ?_
      refine WP.seq ?_
      refine WP.region ?_
      refine RG.pv rfl (PV.move (v := w40) rfl rfl) ?_
      refine RG.pv rfl (PV.move (v := w31) rfl rfl) ?_
      refine RG.callF (vs := [w40, w31]) rfl rfl En11 rfl (eqWaiverS_s Rs.o Rs.o ?_)
      refine RG.pv rfl (PV.not rfl rfl) ?_
      refine RG.pv rfl (PV.mvB (.inl rfl) rfl) ?_
      refine RG.gs rfl rfl rfl (fun hp => (PV.mvI (.inl rfl) rfl)) ?_
      refine RG.gs rfl rfl rfl (fun hp => (PV.mvI (.inl rfl) rfl)) ?_
      refine RG.gs rfl rfl rfl (fun hp => (PV.neq rfl (gs_t hp) (gs_t hp))) ?_
      refine RG.pv rfl (PV.pickO rfl rfl rfl (fun hq => gs_t (geqF hq))) ?_
      refine RG.nil ?_
      refine WP.cond rfl (fun h4 => ?_) (fun h4 => ?_)
      · simp at h4
      · refine WP.skip ?_
        refine WP.seq ?_
        refine WP.seq ?_
        refine WP.region ?_
        refine RG.pv rfl (PV.move (v := v35) rfl rfl) ?_
        refine RG.pv rfl (PV.move (v := v) rfl rfl) ?_
        refine RG.callF (vs := [v]) rfl rfl En8 rfl (toWaiverS_s (Rs.up h1) hb (fun v54 => ?_))
        refine RG.callF (vs := [v35, v54]) rfl rfl En11 rfl (eqWaiverS_s Rs.o Rs.o ?_)
        refine RG.pv rfl (PV.not rfl rfl) ?_
        refine RG.nil ?_
        refine WP.cond rfl (fun h5 => ?_) (fun h5 => ?_)
        · simp at h5
        · skip
          refine WP.skip ?_
          refine WP.seq ?_
          refine WP.region ?_
          refine RG.pv rfl (PV.mvI (.inr rfl) rfl) ?_
          refine RG.nil ?_
          refine WP.seq ?_
          refine WP.region ?_
          refine RG.pv rfl (PV.move (v := v35) rfl rfl) ?_
          refine RG.pv rfl (PV.mvI (.inl rfl) rfl) ?_
          refine RG.callF (vs := [v35, _]) rfl rfl En12 rfl (CallT.exS v35 (markWaiverS_s (by omega) (by omega) ?_))
          refine RG.pv rfl (PV.mvI (.inr rfl) rfl) ?_
          refine RG.nil ?_
          refine WP.seq ?_
          refine WP.seq ?_
          refine WP.region ?_
          refine RG.pv rfl (PV.mvI (.inl rfl) rfl) ?_
          refine RG.pv rfl (PV.lss rfl rfl rfl) ?_
          refine RG.pv rfl (PV.mvB (.inl rfl) rfl) ?_
          refine RG.gs rfl rfl rfl (fun hp => (PV.move (v := w40) rfl rfl)) ?_
          refine RG.gs rfl rfl rfl (fun hp => (PV.move (v := w31) rfl rfl)) ?_
          refine RG.gsC rfl rfl rfl rfl En11 (fun hp => ⟨_, (acons (gs_t hp) (acons (gs_t hp) anil)), eqWaiverS_s Rs.o Rs.o ⟨rfl, rfl, rfl⟩⟩) ?_
          refine RG.gs rfl rfl rfl (fun hp => (PV.not rfl (gs_t hp))) ?_
          refine RG.pv rfl (PV.pickO rfl rfl rfl (fun hq => gs_t (geqF hq))) ?_
          refine RG.pv rfl (PV.mvB (.inl rfl) rfl) ?_
          refine RG.gs rfl rfl rfl (fun hp => (PV.mvI (.inl rfl) rfl)) ?_
          refine RG.gs rfl rfl rfl (fun hp => (PV.mvI (.inl rfl) rfl)) ?_
          refine RG.gs rfl rfl rfl (fun hp => (PV.neq rfl (gs_t hp) (gs_t hp))) ?_
          refine RG.pv rfl (PV.pickO rfl rfl rfl (fun hq => gs_t (geqF hq))) ?_
          refine RG.nil ?_
          refine WP.cond rfl (fun h6 => ?_) (fun h6 => ?_)
          · simp at h6 <;> omega
          · skip
            refine WP.skip ?_
            refine WP.seq ?_
            refine WP.region ?_
            refine RG.pv rfl (PV.mvI (.inr rfl) rfl) ?_
            refine RG.nil ?_
            refine WP.seq ?_
            refine WP.region ?_
            refine RG.pv rfl (PV.move (v := w40) rfl rfl) ?_
            refine RG.pv rfl (PV.mvI (.inl rfl) rfl) ?_
            refine RG.callF (vs := [w40, _]) rfl rfl En12 rfl (CallT.exS w40 (markWaiverS_s (by omega) (by omega) ?_))
            refine RG.pv rfl (PV.mvI (.inr rfl) rfl) ?_
            refine RG.nil ?_
            refine WP.seq ?_
            refine WP.region ?_
            refine RG.pv rfl (PV.mvI (.inr rfl) rfl) ?_
            refine RG.nil ?_
            refine WP.seq ?_
            refine WP.region ?_
            refine RG.pv rfl (PV.move (v := w40) rfl rfl) ?_
            refine RG.pv rfl (PV.mvI (.inl rfl) rfl) ?_
            refine RG.callF (vs := [w40, _]) rfl rfl En13 rfl (heldWaiverS_s Rs.o (by omega) (by omega) ?_)
            refine RG.pv rfl (PV.mvI (.inr rfl) rfl) ?_
            refine RG.nil ?_
            refine WP.seq ?_
            refine WP.seq ?_
            refine WP.region ?_
            refine RG.pv rfl (PV.mvI (.inl rfl) rfl) ?_
            refine RG.pv rfl (PV.lss rfl rfl rfl) ?_
            refine RG.nil ?_
            refine WP.cond rfl (fun h7 => ?_) (fun h7 => ?_)
            · simp at h7; omega
            · refine WP.skip ?_
              refine WP.seq ?_
              refine WP.seq ?_
              refine WP.region ?_
              refine RG.pv rfl (PV.mvI (.inl rfl) rfl) ?_
              refine RG.pv rfl (PV.mvI (.inl rfl) rfl) ?_
              refine RG.pv rfl (PV.neq rfl rfl rfl) ?_
              refine RG.nil ?_
              refine WP.cond rfl (fun h8 => ?_) (fun h8 => ?_)
              · simp at h8
              · refine WP.skip ?_
                refine WP.seq ?_
                refine WP.regionH0 (.q 0 (.q 2 (.l 1 (.l 3 (.l 4 (.q 5 (.q 6 (.q 7 (.q 8 (.q 9 Sch.nil)))))))))) (by kernel_rfl) (by kernel_rfl) (by kernel_rfl) rfl ?_
                refine RH.pv rfl (fun _ _ _ _ h => h) (Gh.le_refl _) PickC.pick rfl (PV.move (v := v) rfl rfl) ?_
                refine RH.pv rfl (fun _ _ _ _ h => h) (Gh.le_refl _) PickC.pick rfl (PV.loadW rfl Ag24 rfl rfl) ?_
                refine RH.ot rfl rfl (OT.callF (vs := [v]) rfl En8 rfl (toWaiverS_s (Rs.up h1) hb (fun v86 => ⟨Gh.le_refl _, PickC.pick, ?_⟩)))
                refine RH.ot rfl rfl (OT.callF (vs := [_]) rfl En9 rfl (toWaiver_s ⟨Gh.le_refl _, PickC.pick, ?_⟩))
                refine RH.ot rfl rfl (OT.callF (vs := [v86, _]) rfl En10 rfl (addW_i Rs.o hlen hs (fun w89 => ⟨Gh.le_refl _, PickC.pick, ?_⟩)))
                refine RH.pv rfl (fun _ _ _ _ h => h) (Gh.le_refl _) PickC.pick rfl (PV.move (v := .tuple _) rfl rfl) ?_
                refine RH.pv rfl (fun _ _ _ _ h => h) (Gh.le_refl _) PickC.pick rfl (PV.ext (v := w89) rfl rfl rfl) ?_
                refine RH.pv rfl (fun _ _ _ _ h => h) (Gh.le_refl _) PickC.pick rfl (PV.ext rfl rfl rfl) ?_
                refine RH.pv rfl (fun _ _ _ _ h => h) (Gh.le_refl _) PickC.pick rfl (PV.asg (v := w89) rfl rfl) ?_
                refine RH.pv rfl (fun _ _ _ _ h => h) (Gh.le_refl _) PickC.pick rfl (PV.mvI (.inr rfl) rfl) ?_
                refine RH.nil ?_
                refine WP.seq ?_
                refine WP.seq ?_
                refine WP.region ?_
                refine RG.pv rfl (PV.move (v := w89) rfl rfl) ?_
                refine RG.pv rfl (PV.move (v := w31) rfl rfl) ?_
                refine RG.callF (vs := [w89, w31]) rfl rfl En11 rfl (eqWaiverS_s Rs.o Rs.o ?_)
                refine RG.pv rfl (PV.not rfl rfl) ?_
                refine RG.pv rfl (PV.mvB (.inl rfl) rfl) ?_
                refine RG.gs rfl rfl rfl (fun hp => (PV.mvI (.inl rfl) rfl)) ?_
                refine RG.gs rfl rfl rfl (fun hp => (PV.mvI (.inl rfl) rfl)) ?_
                refine RG.gs rfl rfl rfl (fun hp => (PV.neq rfl (gs_t hp) (gs_t hp))) ?_
                refine RG.pv rfl (PV.pickO rfl rfl rfl (fun hq => gs_t (geqF hq))) ?_
                refine RG.nil ?_
                refine WP.cond rfl (fun h9 => ?_) (fun h9 => ?_)
                · simp at h9
                · skip
                  refine WP.skip ?_
                  refine WP.seq ?_
                  refine WP.region ?_
                  refine RG.pv rfl (PV.mvI (.inr rfl) rfl) ?_
                  refine RG.nil ?_
                  refine WP.seq ?_
                  refine WP.region ?_
                  refine RG.pv rfl (PV.move (v := w40) rfl rfl) ?_
                  refine RG.pv rfl (PV.mvI (.inl rfl) rfl) ?_
                  refine RG.callF (vs := [w40, _]) rfl rfl En13 rfl (heldWaiverS_s Rs.o (by omega) (by omega) ?_)
                  refine RG.pv rfl (PV.mvI (.inr rfl) rfl) ?_
                  refine RG.nil ?_
                  refine WP.seq ?_
                  refine WP.seq ?_
                  refine WP.region ?_
                  refine RG.pv rfl (PV.mvI (.inl rfl) rfl) ?_
                  refine RG.pv rfl (PV.lss rfl rfl rfl) ?_
                  refine RG.nil ?_
                  refine WP.cond rfl (fun ha => ?_) (fun ha => ?_)
                  · simp at ha; omega
                  · refine WP.skip ?_
                    refine WP.seq ?_
                    refine WP.seq ?_
                    refine WP.region ?_
                    refine RG.pv rfl (PV.mvI (.inl rfl) rfl) ?_
                    refine RG.pv rfl (PV.mvI (.inl rfl) rfl) ?_
                    refine RG.pv rfl (PV.neq rfl rfl rfl) ?_
                    refine RG.nil ?_
                    refine WP.cond rfl (fun hc => ?_) (fun hc => ?_)
                    · simp at hc
                    · refine WP.skip ?_
                      refine WP.seq ?_
                      refine WP.region ?_
                      refine RG.pv rfl (PV.mvB (.inr rfl) rfl) ?_
                      refine RG.nil ?_
                      refine WP.ret ?_
                      exact ⟨_, _, ResV.one rfl rfl, Cv.p, k⟩
end Go.Proofs.Ytgechnphgnfmeaa
namespace Go.Proofs.Ytgechnphgnfmeaa
set_option linter.unusedVariables false
set_option linter.unusedSimpArgs false
open Go Go.ChangeShapes Go.WideShapes Go.ChangeAt Go.RowKit Go.Deep
set_option linter.unusedVariables false
def Gw (w : World) : Gh := ⟨wh w, w.os, w.tape, w.output⟩
theorem St.start (w : World) : St (Gw w) [] w := ⟨fun _ => none, trivial, Hp.le_refl _, (fun _ _ h => by cases h), fun _ => .inl rfl, rfl, rfl, rfl⟩
/-- behind a call that began in W, all of W's blocks are as they were -/
theorem St.below {W w' : World} {G : Gh} {L : List Ch} (l : Gh.le (Gw W) G) (h : St G L w') : Below W.heap.size W w' := by
  obtain ⟨hp, s, l1, l2, d, ok⟩ := h
  have ok' := Gh.le_ok l ok
  have up := Hp.le_trans l.1 l1
  have key : ∀ k, k < W.heap.size → w'.heap[k]? = W.heap[k]? := fun k hk => by
    have : (Gw W).f k = some W.heap[k] := by simp [Gw, wh, hk]
    have h2 := up k _ this
    simp only [wh] at h2
    rw [h2]; simp [hk]
  refine ⟨ok'.1, ok'.2.1, ok'.2.2, ?_, key⟩
  by_cases h0 : W.heap.size = 0
  · omega
  · have := key (W.heap.size - 1) (by omega)
    rw [Array.getElem?_eq_getElem (by omega : W.heap.size - 1 < W.heap.size)] at this
    have := (Array.getElem?_eq_some_iff.1 this).1
    omega
def Opn {ρ : Type} (P : Program) (t : TypeId) (F : FT ρ) (ok : Gh → ρ → Prop) : Prop :=
  ∀ {H : Type} {enc : TypeId × Value → H} {w : World} {fuel : Nat} {cs : List Value} {x : DataW H × List MemPlace}, DataW.trod enc P w 0 (fun _ => true) true fuel t cs = some x → ∃ a : ρ, cs = F.enc a ∧ ok (Gw w) a
def okI (_ : Gh) (n : Int) : Prop := -9223372036854775808 ≤ n ∧ n ≤ 9223372036854775807
def okS (_ : Gh) (s : ByteArray) : Prop := s.size ≤ 9223372036854775807
def okL {ρ : Type} [Inhabited ρ] (F : FT ρ) (ok : Gh → ρ → Prop) (G : Gh) (v : Value) : Prop := ∃ xs : List ρ, SL G F v xs ∧ ∀ i, i < xs.length → ok G (gd xs i)
section
variable {P : Program} {t e : TypeId}
theorem opnI (ht : P.underlying t = some (.int .i64)) : Opn P t intT okI := fun h => by
  obtain ⟨n, rfl, _, hw⟩ := DataW.trod_int ht h
  refine ⟨n, rfl, ?_⟩
  have : IntKind.i64.min ≤ n ∧ n ≤ IntKind.i64.max := by simpa [Lit.wf] using hw
  simp only [show IntKind.i64.min = -9223372036854775808 from rfl, show IntKind.i64.max = 9223372036854775807 from rfl] at this
  exact this
theorem opnS (ht : P.underlying t = some .string) : Opn P t strT okS := fun h => by
  obtain ⟨s, rfl, _, hs⟩ := DataW.trod_string ht h
  refine ⟨s, rfl, ?_⟩
  simp only [maxLen] at hs
  exact (by omega : s.size ≤ 9223372036854775807)
theorem cells_get {w : World} {a : Addr} {n : Nat} {cs : List Value} (h : w.cells? 0 a n = some cs) : cs.length = n ∧ ∀ j c, cs[j]? = some c → w.cell? (a.add j) = some c := by
  obtain ⟨_, h1, h2⟩ := World.cells?_some h
  refine ⟨h1, fun j c hc => ?_⟩
  have hj := (List.getElem?_eq_some_iff.1 hc).1
  rw [h2 j (by omega), hc]
theorem opnL {ρ : Type} [Inhabited ρ] {F : FT ρ} {ok : Gh → ρ → Prop} (ht : P.underlying t = some (.slice e)) (hE : Opn P e F ok) (hc : P.cellsOf e = F.sz) (h0 : 0 < F.sz) : Opn P t rawT (okL F ok) := fun {H enc w fuel cs x} h => by
  rcases open_slice ht h with ⟨rfl, _⟩ | ⟨a, len, cap, m, n, D, Pl, rfl, _, hl, hm, hmm, _, hel⟩
  · exact ⟨_, rfl, [], ⟨⟨0, Nat.le_refl _, Nat.zero_le _, .inr ⟨⟨_, rfl⟩, rfl⟩⟩, fun j c hj => by simp [FT.flat] at hj⟩, fun i hi => by simp at hi⟩
  have hmcap : m = cap := by simpa using hmm
  refine ⟨.slice (some a) len cap, rfl, ?_⟩
  have hall : ∀ i, i < len → ∃ r : ρ, w.cells? 0 (a.add (i * F.sz)) F.sz = some (F.enc r) ∧ ok (Gw w) r := fun i hi => by
    obtain ⟨cs', h1, h2⟩ := hel i (by omega)
    obtain ⟨r, rfl, hr⟩ := hE h2
    rw [hc] at h1
    exact ⟨r, h1, hr⟩
  have : ∃ f : Nat → ρ, ∀ i, i < len → w.cells? 0 (a.add (i * F.sz)) F.sz = some (F.enc (f i)) ∧ ok (Gw w) (f i) := choose_lt hall
  obtain ⟨f, hf⟩ := this
  have hlen : ((List.range len).map f).length = len := by simp
  have hget : ∀ i, i < len → ((List.range len).map f)[i]? = some (f i) := fun i hi => by simp [hi]
  have hsp : len ≠ 0 → a.spot = none := fun hz => by
    obtain ⟨h1, _⟩ := hf 0 (by omega)
    obtain ⟨hl1, hg⟩ := cells_get h1
    cases hq : (F.enc (f 0))[0]? with
    | none => rw [List.getElem?_eq_none_iff] at hq; omega
    | some c =>
      have hcell := hg 0 c hq
      cases hs : a.spot with
      | none => rfl
      | some s =>
        exfalso
        have h3 : ((a.add (0 * F.sz)).add 0).spot.isSome = true := by simp [Addr.add, hs]
        unfold World.cell? at hcell
        split at hcell
        · rw [if_pos h3] at hcell; cases hcell
        · cases hcell
  refine ⟨(List.range len).map f, ⟨⟨cap, by simpa using hl, hm, ?_⟩, ?_⟩, fun i hi => ?_⟩
  · by_cases hz : len = 0
    · exact .inr ⟨⟨some a, by simp⟩, by simpa using hz⟩
    · refine .inl ⟨a.block, a.off, ?_⟩
      have hsp := hsp hz
      simp only [hlen]
      obtain ⟨ab, ao, az⟩ := a
      simp only at hsp
      subst hsp; rfl
  · intro j c hj
    by_cases hz : len = 0
    · subst hz; simp [FT.flat] at hj
    have hsp := hsp hz
    have hjl : j < len * F.sz := by
      have := (List.getElem?_eq_some_iff.1 hj).1
      rwa [FT.flat_len, hlen] at this
    have hq : j / F.sz < len := (Nat.div_lt_iff_lt_mul h0).2 hjl
    have hr : j % F.sz < F.sz := Nat.mod_lt _ h0
    have hjd : j / F.sz * F.sz + j % F.sz = j := by rw [Nat.mul_comm]; exact Nat.div_add_mod j F.sz
    obtain ⟨h1, _⟩ := hf (j / F.sz) hq
    obtain ⟨_, hg⟩ := cells_get h1
    have hc' : (F.enc (f (j / F.sz)))[j % F.sz]? = some ((F.enc (f (j / F.sz)))[j % F.sz]'(by rw [F.len]; exact hr)) := List.getElem?_eq_getElem _
    have hfl := F.flat_get (hget _ hq) hc'
    rw [hjd, hj] at hfl
    have hcell := hg _ _ hc'
    obtain ⟨ab, ao, az⟩ := a
    simp only at hsp
    subst hsp
    rw [add_none, add_none, cell_hc, Nat.add_assoc, hjd] at hcell
    simp only [sb, so, Gw]
    rw [hcell]; exact hfl.symm
  · have hi' : i < len := by simpa using hi
    have : gd ((List.range len).map f) i = f i := by simp [gd, hi']
    rw [this]; exact (hf i hi').2
end
section
variable {P : Program} {t e : TypeId} {H : Type} {enc : TypeId × Value → H} {W : World} {r : Reach} {base : Nat} {v : Value} {d : DataW H} {ps : List MemPlace}
theorem argL {ok : Gh → Value → Prop} (ht : P.underlying t = some (.slice e)) (hO : Opn P t rawT ok) (hv : Value.okWide P W r base t v) (h : DataW.Trod enc P W 0 (fun _ => true) true t v d ps) : ok (Gw W) v := by
  obtain ⟨a, n, c, rfl⟩ := okWide_slice ht hv
  obtain ⟨fuel, hf⟩ := h
  obtain ⟨m, e1, hm⟩ := hO hf
  simp [Value.cells, rawT] at e1
  subst e1; exact hm
theorem argT {ρ : Type} {F : FT ρ} {ok : Gh → ρ → Prop} {fs : Array Field} (ht : P.underlying t = some (.struct fs)) (hO : Opn P t F ok) (hv : Value.okWide P W r base t v) (h : DataW.Trod enc P W 0 (fun _ => true) true t v d ps) : ∃ a, v = vT F a ∧ ok (Gw W) a := by
  obtain ⟨cs, rfl, _⟩ := okWide_struct ht hv
  obtain ⟨fuel, hf⟩ := h
  obtain ⟨m, e1, hm⟩ := hO hf
  simp only [Value.cells] at e1
  exact ⟨m, by simp only [vT]; rw [← e1], hm⟩
theorem trodAll_stays (hl : laidOutB P = true) {W' : World} (hb : Below W.heap.size W W') : ∀ {ts : List TypeId} {vs : List Value} {ds : List (DataW H)} {ps : List MemPlace}, (∀ t ∈ ts, P.readableRec t = true ∧ t < P.types.size) → (∀ x ∈ ps, x.block < W.heap.size) →
    DataW.TrodAll enc P W 0 (fun _ => true) true ts vs ds ps → DataW.TrodAll enc P W' 0 (fun b => decide (b < W.heap.size)) true ts vs ds ps
  | [], [], [], _, _, _, h => h
  | t :: ts, v :: vs, d :: ds, ps, hr, hlt, h => by
    obtain ⟨p, q, h1, h2, rfl⟩ := h
    have := hr t (.head _)
    exact ⟨p, q, Below.trod hl this.1 this.2 h1 hb (fun x hx => hlt x (List.mem_append_left _ hx)), trodAll_stays hl hb (fun t ht => hr t (.tail _ ht)) (fun x hx => hlt x (List.mem_append_right _ hx)) h2, rfl⟩
end
def recsB (P : Program) (ts : List TypeId) : Bool := ts.all fun t => P.readableRec t && Nat.blt t P.types.size
theorem recs_of {P : Program} {ts : List TypeId} (h : recsB P ts = true) : ∀ t ∈ ts, P.readableRec t = true ∧ t < P.types.size := by
  intro t ht
  have := List.all_eq_true.1 h t ht
  simp only [Bool.and_eq_true] at this
  exact ⟨this.1, Nat.le_of_ble_eq_true this.2⟩
/-- A LAW, LIFTED: the call returns true, the arguments read as they did. -/
theorem law_lifted {H : Type} {enc : TypeId × Value → H} {C : Checked} {os : Os} {f : FuncId} {fn : Func} {s : ChangeSpec} {tb : TypeId} (own : ownKnob C.prog.godebug = none) (started : os.Started) (noInit : C.prog.inits.idxOf? f = none) (hfn : C.prog.funcs[f]? = some fn) (hl : laidOutB C.prog = true)
    (hvars : s.vars = []) (hr : recsB C.prog fn.params.toList = true) (hres : fn.resultTypes = #[tb]) (htb : C.prog.underlying tb = some .bool)
    (hsp : ∀ ds : List (DataW H), ds.length = fn.params.toList.length → s.fn H ds = { results := [.lit (.bool true)], args := ds })
    (witness : ∃ (w : World) (tape : Tape) (i : Input), w.os = os ∧ (w.forCall tape i).Shaped C.prog ∧ i.vars = [] ∧ Input.okWide C.prog (w.forCall tape i) .any w.heap.size f i ∧
      s.pre6 enc C.prog fn [] false (w.forCall tape i).memory i.args ∧ ({} : Assume).holds C.prog (lone (Frame.enter C.prog f i.args .normal) [] (w.forCall tape i)))
    (walk : ∀ (W : World) (base : Nat) (args : Array Value) (ds : List (DataW H)) (ps : List MemPlace), (∀ (j : Nat) t v, fn.params[j]? = some t → args[j]? = some v → Value.okWide C.prog W .any base t v) →
      DataW.TrodAll enc C.prog W 0 (fun _ => true) true fn.params.toList args.toList ds ps → CallT C.prog f args (Gw W) [] fun v G _ => v = .bool true ∧ Gh.le (Gw W) G) :
    ReturnsInHanded {} C os f .any (s.pre6 enc C.prog fn [] false) (s.post enc C.prog fn false true false false) := by
  refine returnsInHanded_of_change own started noInit hfn witness ?_
  intro W base args ds gs before hval hW _ _
  have hW' := hW
  obtain ⟨p, q, hA, hV, rfl, hfz, hnd⟩ := hW
  rw [hvars] at hV
  obtain ⟨rfl, rfl⟩ := trodVars_none hV
  refine ((walk W base args ds p hval hA).run (St.start W)).mono ?_
  rintro e W' ⟨v, G, L, rfl, hs, rfl, hG⟩
  have hb := hs.below hG
  have hlt : ∀ x ∈ p, x.block < W.heap.size := fun x hx => hW'.lt x (List.mem_append_left _ hx)
  have hlen : ds.length = fn.params.toList.length := by
    have : ∀ (ts : List TypeId) (vs : List Value) (ds : List (DataW H)) (ps : List MemPlace), DataW.TrodAll enc C.prog W 0 (fun _ => true) true ts vs ds ps → ds.length = ts.length := by
      intro ts
      induction ts with
      | nil => intro vs ds ps h; cases vs <;> cases ds <;> simp_all [DataW.TrodAll]
      | cons t ts ih =>
        intro vs ds ps h
        cases vs <;> cases ds <;> simp only [DataW.TrodAll] at h
        obtain ⟨_, _, _, h2, _⟩ := h
        simp [ih _ _ _ h2]
    exact this _ _ _ _ hA
  refine ⟨_, rfl, ds, [], _, [], p, [], hW', ?_, ?_, ?_, hb.frame _, fun h => by cases h⟩
  · rw [List.append_nil, hsp ds hlen, hres]
    exact trodAll_mk1 (shut_bool htb true)
  · rw [List.append_nil, hsp ds hlen]
    exact trodAll_stays hl hb (recs_of hr) hlt hA
  · rw [List.append_nil, hsp ds hlen, hvars]
    exact rfl
end Go.Proofs.Ytgechnphgnfmeaa
namespace Go.Proofs.Ytgechnphgnfmeaa
set_option linter.unusedVariables false
set_option linter.unusedSimpArgs false
open Go Go.ChangeShapes Go.WideShapes Go.ChangeAt Go.RowKit
set_option linter.unusedSimpArgs false
set_option maxRecDepth 100000
theorem Try.own : ownKnob Try.prog.godebug = none := by kernel_rfl
theorem Try.laidOut : laidOutB Try.prog = true := by kernel_rfl
def okwaiverT (G : Gh) (a : Waiver) : Prop := okI G a.sig ∧ okS G a.reason
theorem opn24 : Opn Try.prog 24 waiverT okwaiverT := fun {H enc w fuel cs x} h => by
  obtain ⟨xs, n, _, _, hl, hx, hf⟩ := DataW.trod_struct Try.underlying24 h
  rw [show Try.prog.cellsOf 24 = 2 by kernel_rfl] at hl
  obtain ⟨c0, c1, rfl⟩ : ∃ c0 c1, cs = [c0, c1] := by
    match cs, hl with
    | [c0, c1], _ => exact ⟨c0, c1, rfl⟩
  have g0 := hf 0 _ rfl
  simp only [List.getElem_toArray, List.getElem_cons_zero, List.getElem_cons_succ] at g0
  rw [show Try.prog.cellsOf 2 = 1 by kernel_rfl] at g0
  obtain ⟨x0, y0⟩ : ∃ x, xs[0]? = some x := ⟨_, List.getElem?_eq_getElem (by rw [hx]; decide)⟩
  rw [y0] at g0
  obtain ⟨a0, e0, o0⟩ := (opnI Try.underlying2) g0
  have g1 := hf 1 _ rfl
  simp only [List.getElem_toArray, List.getElem_cons_zero, List.getElem_cons_succ] at g1
  rw [show Try.prog.cellsOf 9 = 1 by kernel_rfl] at g1
  obtain ⟨x1, y1⟩ : ∃ x, xs[1]? = some x := ⟨_, List.getElem?_eq_getElem (by rw [hx]; decide)⟩
  rw [y1] at g1
  obtain ⟨a1, e1, o1⟩ := (opnS Try.underlying9) g1
  clear hf hx hl
  refine ⟨⟨a0, a1⟩, ?_, o0, o1⟩
  simp [intT, strT] at e0 e1
  simp [intT, strT, waiverT, e0, e1]
theorem addWaiver_lifted (os : Os) (started : os.Started) (H : Type) (enc : TypeId × Value → H) :
    ReturnsInHanded {} Try.checked os 3 .any (Rows.fnExactAddWaiverSpec.pre6 enc Try.prog Try.f3 [] false) (Rows.fnExactAddWaiverSpec.post enc Try.prog Try.f3 false true false false) := by
  refine law_lifted (C := Try.checked) Try.own started (by kernel_rfl) Try.func3 Try.laidOut rfl (by kernel_rfl) rfl Try.underlying4 (fun ds h => ?_)
    (ChangeSpec.witness6 (enc := enc) (C := Try.checked) false ⟨#[], #[.slice none 0 0, .agg #[.int .i64 0, .string ByteArray.empty]], []⟩ 8 (by kernel_rfl) (by kernel_rfl) (by kernel_rfl) (by kernel_rfl)) ?_
  · match ds, h with
    | [d, e], _ => rfl
  · intro W base args ds ps hval hA
    have hA : DataW.TrodAll enc Try.prog W 0 (fun _ => true) true Try.f3.params.toList args.toList ds ps := hA
    have hval : ∀ (j : Nat) t v, Try.f3.params[j]? = some t → args[j]? = some v → Value.okWide Try.prog W .any base t v := hval
    rw [Try.params3] at hA hval
    obtain ⟨v0, v1, d0, d1, p0, p1, rfl, rfl, _, h0, h1⟩ := trodAll_two hA
    obtain ⟨ws, q4, q5⟩ := argL Try.underlying22 (opnL Try.underlying22 opn24 (by kernel_rfl) (by decide)) (hval 0 _ v0 rfl rfl) h0
    obtain ⟨w, rfl, q1⟩ := argT Try.underlying24 opn24 (hval 1 _ v1 rfl rfl) h1
    exact law_AddWaiver (Rs.g q4) (fun i hi => (q5 i hi).2) q1.2 ⟨rfl, Gh.le_refl _⟩
theorem addWaiver_holds : Rows.FnExactAddWaiverSaid :=
  OpenClaim.holds_of_wide 3 Try.f3 rfl rfl rfl rfl rfl rfl rfl ⟨rfl, rfl, rfl, rfl, rfl⟩ rfl rfl rfl rfl rfl (by kernel_rfl) Try.func3 (by kernel_rfl)
    (of_decide_eq_true (by kernel_rfl)) (by unfold Func.isWrapper; first | (rw [if_pos (by decide +kernel)]; kernel_rfl) | (rw [if_neg (by decide +kernel)]; exact ⟨rfl, rfl⟩))
    (fun os started H enc _ => addWaiver_lifted os started H enc)
end Go.Proofs.Ytgechnphgnfmeaa
