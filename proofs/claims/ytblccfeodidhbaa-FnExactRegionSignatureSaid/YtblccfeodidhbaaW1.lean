/-
  Contracts: the waiver lists.
-/
import Derived.Test.YtblccfeodidhbaaTab
import Derived.Test.YtblccfeodidhbaaData
namespace Go.Proofs.Ytblccfeodidhbaa
open Go
set_option maxRecDepth 20000
variable {G : Gh} {L : List Ch} {R : Value → Gh → List Ch → Prop}

def within (n lo hi : Int) : Bool := decide (lo ≤ n) && decide (n ≤ hi)
theorem within_s {a b c : Int} (k : R (.bool (within a b c)) G L) : CallT Try.prog 71 #[vi a, vi b, vi c] G L R := by
  refine CallT.enter (args := _) Try.func71 rfl rfl (by kernel_rfl) rfl ?_
  refine WP.seq ?_
  refine WP.region ?_
  refine RG.pv rfl (PV.mvB (.inr rfl) rfl) ?_
  refine RG.nil ?_
  refine WP.seq ?_
  refine WP.region ?_
  refine RG.pv rfl (PV.mvI (.inl rfl) rfl) ?_
  refine RG.pv rfl (PV.mvI (.inl rfl) rfl) ?_
  refine RG.pv rfl (PV.geq rfl rfl rfl) ?_
  refine RG.pv rfl (PV.mvB (.inl rfl) rfl) ?_
  refine RG.gs rfl rfl rfl (fun hp => (PV.mvI (.inl rfl) rfl)) ?_
  refine RG.gs rfl rfl rfl (fun hp => (PV.mvI (.inl rfl) rfl)) ?_
  refine RG.gs rfl rfl rfl (fun hp => (PV.leq rfl (gs_t hp) (gs_t hp))) ?_
  refine RG.pv rfl (PV.pickA rfl rfl (fun hq => gs_t (geqT hq)) rfl) ?_
  refine RG.pv rfl (PV.mvB (.inr rfl) rfl) ?_
  refine RG.nil ?_
  refine WP.ret ?_
  exact ⟨_, _, ResV.one rfl rfl, Cv.p, k⟩
theorem l01In_s {a b c : Int} (k : R (.bool (within a b c)) G L) : CallT Try.prog 69 #[vi a, vi b, vi c] G L R := by
  refine CallT.enter (args := _) Try.func69 rfl rfl (by kernel_rfl) rfl ?_
  refine WP.seq ?_
  refine WP.region ?_
  refine RG.pv rfl (PV.mvB (.inr rfl) rfl) ?_
  refine RG.nil ?_
  refine WP.seq ?_
  refine WP.region ?_
  refine RG.pv rfl (PV.mvI (.inl rfl) rfl) ?_
  refine RG.pv rfl (PV.mvI (.inl rfl) rfl) ?_
  refine RG.pv rfl (PV.geq rfl rfl rfl) ?_
  refine RG.pv rfl (PV.mvB (.inl rfl) rfl) ?_
  refine RG.gs rfl rfl rfl (fun hp => (PV.mvI (.inl rfl) rfl)) ?_
  refine RG.gs rfl rfl rfl (fun hp => (PV.mvI (.inl rfl) rfl)) ?_
  refine RG.gs rfl rfl rfl (fun hp => (PV.leq rfl (gs_t hp) (gs_t hp))) ?_
  refine RG.pv rfl (PV.pickA rfl rfl (fun hq => gs_t (geqT hq)) rfl) ?_
  refine RG.pv rfl (PV.mvB (.inr rfl) rfl) ?_
  refine RG.nil ?_
  refine WP.ret ?_
  exact ⟨_, _, ResV.one rfl rfl, Cv.p, k⟩
def validRect (r : Rect) : Bool := decide (-40 ≤ r.x0) && decide (r.x0 < r.x1) && decide (r.x1 ≤ 40) && decide (-40 ≤ r.y0) && decide (r.y0 < r.y1) && decide (r.y1 ≤ 40)
theorem validRect_s {r : Rect} (k : R (.bool (validRect r)) G L) : CallT Try.prog 109 #[vrect r] G L R := by
  refine CallT.enter (args := _) Try.func109 rfl rfl (by kernel_rfl) rfl ?_
  refine WP.seq ?_
  refine WP.region ?_
  refine RG.ot rfl (OT.box (cs := rectT.enc r) rfl rfl rfl fun b1 => ?_)
  refine RG.pv rfl (PV.mvB (.inr rfl) rfl) ?_
  refine RG.nil ?_
  refine WP.seq ?_
  refine WP.region ?_
  refine RG.pv rfl (PV.field rfl Fo84_0 rfl) ?_
  refine RG.pv rfl (PV.load1 rfl Sc2 rfl (Rd.blk rfl)) ?_
  refine RG.pv rfl (PV.leq rfl rfl rfl) ?_
  refine RG.pv rfl (PV.mvB (.inl rfl) rfl) ?_
  refine RG.gs rfl rfl rfl (fun hp => (PV.field rfl Fo84_0 rfl)) ?_
  refine RG.gs rfl rfl rfl (fun hp => (PV.load1 rfl Sc2 (gs_t hp) (Rd.blk rfl))) ?_
  refine RG.gs rfl rfl rfl (fun hp => (PV.field rfl Fo84_2 rfl)) ?_
  refine RG.gs rfl rfl rfl (fun hp => (PV.load1 rfl Sc2 (gs_t hp) (Rd.blk rfl))) ?_
  refine RG.gs rfl rfl rfl (fun hp => (PV.lss rfl (gs_t hp) (gs_t hp))) ?_
  refine RG.pv rfl (PV.pickA rfl rfl (fun hq => gs_t (geqT hq)) rfl) ?_
  refine RG.pv rfl (PV.mvB (.inl rfl) rfl) ?_
  refine RG.gs rfl rfl rfl (fun hp => (PV.field rfl Fo84_2 rfl)) ?_
  refine RG.gs rfl rfl rfl (fun hp => (PV.load1 rfl Sc2 (gs_t hp) (Rd.blk rfl))) ?_
  refine RG.gs rfl rfl rfl (fun hp => (PV.leq rfl (gs_t hp) rfl)) ?_
  refine RG.pv rfl (PV.pickA rfl rfl (fun hq => gs_t (geqT hq)) rfl) ?_
  refine RG.pv rfl (PV.mvB (.inl rfl) rfl) ?_
  refine RG.gs rfl rfl rfl (fun hp => (PV.field rfl Fo84_1 rfl)) ?_
  refine RG.gs rfl rfl rfl (fun hp => (PV.load1 rfl Sc2 (gs_t hp) (Rd.blk rfl))) ?_
  refine RG.gs rfl rfl rfl (fun hp => (PV.leq rfl rfl (gs_t hp))) ?_
  refine RG.pv rfl (PV.pickA rfl rfl (fun hq => gs_t (geqT hq)) rfl) ?_
  refine RG.pv rfl (PV.mvB (.inl rfl) rfl) ?_
  refine RG.gs rfl rfl rfl (fun hp => (PV.field rfl Fo84_1 rfl)) ?_
  refine RG.gs rfl rfl rfl (fun hp => (PV.load1 rfl Sc2 (gs_t hp) (Rd.blk rfl))) ?_
  refine RG.gs rfl rfl rfl (fun hp => (PV.field rfl Fo84_3 rfl)) ?_
  refine RG.gs rfl rfl rfl (fun hp => (PV.load1 rfl Sc2 (gs_t hp) (Rd.blk rfl))) ?_
  refine RG.gs rfl rfl rfl (fun hp => (PV.lss rfl (gs_t hp) (gs_t hp))) ?_
  refine RG.pv rfl (PV.pickA rfl rfl (fun hq => gs_t (geqT hq)) rfl) ?_
  refine RG.pv rfl (PV.mvB (.inl rfl) rfl) ?_
  refine RG.gs rfl rfl rfl (fun hp => (PV.field rfl Fo84_3 rfl)) ?_
  refine RG.gs rfl rfl rfl (fun hp => (PV.load1 rfl Sc2 (gs_t hp) (Rd.blk rfl))) ?_
  refine RG.gs rfl rfl rfl (fun hp => (PV.leq rfl (gs_t hp) rfl)) ?_
  refine RG.pv rfl (PV.pickA rfl rfl (fun hq => gs_t (geqT hq)) rfl) ?_
  refine RG.pv rfl (PV.mvB (.inr rfl) rfl) ?_
  refine RG.nil ?_
  refine WP.ret ?_
  exact ⟨_, _, ResV.one rfl rfl, Cv.p, k⟩
theorem validRect_s' {r : Rect} (k : R (.bool (validRect r)) G L) : CallT Try.prog 108 #[vrect r] G L R := by
  refine CallT.enter (args := _) Try.func108 rfl rfl (by kernel_rfl) rfl ?_
  refine WP.seq ?_
  refine WP.region ?_
  refine RG.ot rfl (OT.box (cs := rectT.enc r) rfl rfl rfl fun b1 => ?_)
  refine RG.pv rfl (PV.mvB (.inr rfl) rfl) ?_
  refine RG.nil ?_
  refine WP.seq ?_
  refine WP.region ?_
  refine RG.pv rfl (PV.field rfl Fo84_0 rfl) ?_
  refine RG.pv rfl (PV.load1 rfl Sc2 rfl (Rd.blk rfl)) ?_
  refine RG.pv rfl (PV.leq rfl rfl rfl) ?_
  refine RG.pv rfl (PV.mvB (.inl rfl) rfl) ?_
  refine RG.gs rfl rfl rfl (fun hp => (PV.field rfl Fo84_0 rfl)) ?_
  refine RG.gs rfl rfl rfl (fun hp => (PV.load1 rfl Sc2 (gs_t hp) (Rd.blk rfl))) ?_
  refine RG.gs rfl rfl rfl (fun hp => (PV.field rfl Fo84_2 rfl)) ?_
  refine RG.gs rfl rfl rfl (fun hp => (PV.load1 rfl Sc2 (gs_t hp) (Rd.blk rfl))) ?_
  refine RG.gs rfl rfl rfl (fun hp => (PV.lss rfl (gs_t hp) (gs_t hp))) ?_
  refine RG.pv rfl (PV.pickA rfl rfl (fun hq => gs_t (geqT hq)) rfl) ?_
  refine RG.pv rfl (PV.mvB (.inl rfl) rfl) ?_
  refine RG.gs rfl rfl rfl (fun hp => (PV.field rfl Fo84_2 rfl)) ?_
  refine RG.gs rfl rfl rfl (fun hp => (PV.load1 rfl Sc2 (gs_t hp) (Rd.blk rfl))) ?_
  refine RG.gs rfl rfl rfl (fun hp => (PV.leq rfl (gs_t hp) rfl)) ?_
  refine RG.pv rfl (PV.pickA rfl rfl (fun hq => gs_t (geqT hq)) rfl) ?_
  refine RG.pv rfl (PV.mvB (.inl rfl) rfl) ?_
  refine RG.gs rfl rfl rfl (fun hp => (PV.field rfl Fo84_1 rfl)) ?_
  refine RG.gs rfl rfl rfl (fun hp => (PV.load1 rfl Sc2 (gs_t hp) (Rd.blk rfl))) ?_
  refine RG.gs rfl rfl rfl (fun hp => (PV.leq rfl rfl (gs_t hp))) ?_
  refine RG.pv rfl (PV.pickA rfl rfl (fun hq => gs_t (geqT hq)) rfl) ?_
  refine RG.pv rfl (PV.mvB (.inl rfl) rfl) ?_
  refine RG.gs rfl rfl rfl (fun hp => (PV.field rfl Fo84_1 rfl)) ?_
  refine RG.gs rfl rfl rfl (fun hp => (PV.load1 rfl Sc2 (gs_t hp) (Rd.blk rfl))) ?_
  refine RG.gs rfl rfl rfl (fun hp => (PV.field rfl Fo84_3 rfl)) ?_
  refine RG.gs rfl rfl rfl (fun hp => (PV.load1 rfl Sc2 (gs_t hp) (Rd.blk rfl))) ?_
  refine RG.gs rfl rfl rfl (fun hp => (PV.lss rfl (gs_t hp) (gs_t hp))) ?_
  refine RG.pv rfl (PV.pickA rfl rfl (fun hq => gs_t (geqT hq)) rfl) ?_
  refine RG.pv rfl (PV.mvB (.inl rfl) rfl) ?_
  refine RG.gs rfl rfl rfl (fun hp => (PV.field rfl Fo84_3 rfl)) ?_
  refine RG.gs rfl rfl rfl (fun hp => (PV.load1 rfl Sc2 (gs_t hp) (Rd.blk rfl))) ?_
  refine RG.gs rfl rfl rfl (fun hp => (PV.leq rfl (gs_t hp) rfl)) ?_
  refine RG.pv rfl (PV.pickA rfl rfl (fun hq => gs_t (geqT hq)) rfl) ?_
  refine RG.pv rfl (PV.mvB (.inr rfl) rfl) ?_
  refine RG.nil ?_
  refine WP.ret ?_
  exact ⟨_, _, ResV.one rfl rfl, Cv.p, k⟩
def reasonByte (c : UInt8) : Bool := decide (97 ≤ c.toNat) && decide (c.toNat ≤ 122) || decide (48 ≤ c.toNat) && decide (c.toNat ≤ 57) || decide (c.toNat = 45)
def reason (s : ByteArray) : Bool := decide (1 ≤ s.size) && decide (s.size ≤ 24) && decide (∀ i, i < s.size → reasonByte (bt s i) = true)
theorem isReason_s {s : ByteArray} (hs : s.size ≤ 9223372036854775807) (k : R (.bool (reason s)) G L) : CallT Try.prog 72 #[.string s] G L R := by
  refine CallT.enter (args := _) Try.func72 rfl rfl (by kernel_rfl) rfl ?_
  refine WP.seq ?_
  refine WP.region ?_
  refine RG.pv rfl (PV.mvB (.inr rfl) rfl) ?_
  refine RG.nil ?_
  refine WP.seq ?_
  refine WP.seq ?_
  refine WP.region ?_
  refine RG.pv rfl (PV.mvI (.inr rfl) rfl) ?_
  refine RG.nil ?_
  refine WP.block ?_
  refine WP.loop1 [0] (fun i => i ≤ s.size ∧ ∀ j, j < i → reasonByte (bt s j) = true) (fun i => [(3, vi i)]) (fun i => L) (fun i => s.size - i) 0 ⟨by omega, fun j h => by omega⟩ ⟨rfl, trivial⟩ Cv.p ?_
  rintro i τ ⟨hi, hb⟩
  refine WP.seq ?_
  refine WP.seq ?_
  refine WP.region ?_
  refine RG.pv rfl (PV.mvI (.inl rfl) rfl) ?_
  refine RG.pv rfl (PV.mvS (.inl rfl) rfl) ?_
  refine RG.pv rfl (PV.lenS rfl Try.underlying9 rfl) ?_
  refine RG.pv rfl (PV.lss rfl rfl rfl) ?_
  refine RG.nil ?_
  refine WP.cond rfl (fun h1 => ?_) (fun h1 => ?_)
  · have h1 := of_decide_eq_true h1
    refine WP.skip ?_
    refine WP.seq ?_
    refine WP.block ?_
    refine WP.seq ?_
    refine WP.region ?_
    refine RG.pv rfl (PV.mvS (.inl rfl) rfl) ?_
    refine RG.pv rfl (PV.mvI (.inl rfl) rfl) ?_
    refine RG.pv rfl (PV.idxStr rfl Try.underlying9 rfl rfl rfl (getBG (by omega))) ?_
    refine RG.pv rfl (PV.lss rfl rfl rfl) ?_
    refine RG.pv rfl (PV.mvB (.inl rfl) rfl) ?_
    refine RG.gs rfl rfl rfl (fun hp => (PV.mvS (.inl rfl) rfl)) ?_
    refine RG.gs rfl rfl rfl (fun hp => (PV.mvI (.inl rfl) rfl)) ?_
    refine RG.gs rfl rfl rfl (fun hp => (PV.idxStr rfl Try.underlying9 (gs_t hp) (gs_t hp) rfl (getBG (by first | omega | (simp at hp; omega))))) ?_
    refine RG.gs rfl rfl rfl (fun hp => (PV.gtr rfl (gs_t hp) rfl)) ?_
    refine RG.pv rfl (PV.pickO rfl rfl rfl (fun hq => gs_t (geqF hq))) ?_
    refine RG.pv rfl (PV.mvB (.inl rfl) rfl) ?_
    refine RG.gs rfl rfl rfl (fun hp => (PV.mvS (.inl rfl) rfl)) ?_
    refine RG.gs rfl rfl rfl (fun hp => (PV.mvI (.inl rfl) rfl)) ?_
    refine RG.gs rfl rfl rfl (fun hp => (PV.idxStr rfl Try.underlying9 (gs_t hp) (gs_t hp) rfl (getBG (by first | omega | (simp at hp; omega))))) ?_
    refine RG.gs rfl rfl rfl (fun hp => (PV.lss rfl (gs_t hp) rfl)) ?_
    refine RG.gs rfl rfl rfl (fun hp => (PV.mvB (.inl rfl) (gs_t hp))) ?_
    refine RG.gs2 rfl rfl rfl (fun hp => (PV.mvS (.inl rfl) rfl)) ?_
    refine RG.gs2 rfl rfl rfl (fun hp => (PV.mvI (.inl rfl) rfl)) ?_
    refine RG.gs2 rfl rfl rfl (fun hp => (PV.idxStr rfl Try.underlying9 (gs_t hp) (gs_t hp) rfl (getBG (by first | omega | (simp at hp; omega))))) ?_
    refine RG.gs2 rfl rfl rfl (fun hp => (PV.gtr rfl (gs_t hp) rfl)) ?_
    refine RG.gs rfl rfl rfl (fun hp => (PV.pickO rfl (gs_t hp) rfl (fun hq => gs_t (gandF hp hq)))) ?_
    refine RG.pv rfl (PV.pickA rfl rfl (fun hq => gs_t (geqT hq)) rfl) ?_
    refine RG.pv rfl (PV.mvB (.inl rfl) rfl) ?_
    refine RG.gs rfl rfl rfl (fun hp => (PV.mvS (.inl rfl) rfl)) ?_
    refine RG.gs rfl rfl rfl (fun hp => (PV.mvI (.inl rfl) rfl)) ?_
    refine RG.gs rfl rfl rfl (fun hp => (PV.idxStr rfl Try.underlying9 (gs_t hp) (gs_t hp) rfl (getBG (by first | omega | (simp at hp; omega))))) ?_
    refine RG.gs rfl rfl rfl (fun hp => (PV.neq rfl (gs_t hp) rfl)) ?_
    refine RG.pv rfl (PV.pickA rfl rfl (fun hq => gs_t (geqT hq)) rfl) ?_
    refine RG.nil ?_
    refine WP.cond rfl (fun h2 => ?_) (fun h2 => ?_)
    · have e : reason s = false := by
        simp only [reason, Bool.and_eq_false_iff, decide_eq_false_iff_not]
        refine .inr fun h => ?_
        have h := h i (by omega)
        simp [reasonByte] at h h2; omega
      rw [e] at k
      refine WP.seq ?_
      refine WP.region ?_
      refine RG.pv rfl (PV.mvB (.inr rfl) rfl) ?_
      refine RG.nil ?_
      refine WP.ret ?_
      exact ⟨_, _, ResV.one rfl rfl, Cv.p, k⟩
    · have h3 : reasonByte (bt s i) = true := by
        simp [reasonByte] at h2 ⊢; omega
      have hj : ∀ j, j < i + 1 → reasonByte (bt s j) = true := fun j h => by
        by_cases e : j = i
        · subst e; exact h3
        · exact hb j (by omega)
      refine WP.skip ?_
      refine WP.region ?_
      refine RG.pv rfl (PV.mvI (.inl rfl) rfl) ?_
      refine RG.pv rfl (PV.add rfl rfl rfl (by omega)) ?_
      refine RG.pv rfl (PV.mvI (.inr rfl) rfl) ?_
      refine RG.nil ?_
      exact ⟨rfl, i + 1, ⟨by omega, hj⟩, ⟨rfl, trivial⟩, ⟨rfl, trivial⟩, Cv.p, by omega⟩
  · have h1 := of_decide_eq_false h1
    have e : reason s = (decide (1 ≤ (s.size : Int)) && decide ((s.size : Int) ≤ 24)) := by
      have : ∀ i, i < s.size → reasonByte (bt s i) = true := fun j h => hb j (by omega)
      simp only [reason, decide_eq_true this, Bool.and_true]
      congr 1 <;> (rw [decide_eq_decide]; omega)
    rw [e] at k
    refine WP.exit ?_
    refine WP.seq ?_
    refine WP.region ?_
    refine RG.pv rfl (PV.mvS (.inl rfl) rfl) ?_
    refine RG.pv rfl (PV.lenS rfl Try.underlying9 rfl) ?_
    refine RG.pv rfl (PV.geq rfl rfl rfl) ?_
    refine RG.pv rfl (PV.mvB (.inl rfl) rfl) ?_
    refine RG.gs rfl rfl rfl (fun hp => (PV.mvS (.inl rfl) rfl)) ?_
    refine RG.gs rfl rfl rfl (fun hp => (PV.lenS rfl Try.underlying9 (gs_t hp))) ?_
    refine RG.gs rfl rfl rfl (fun hp => (PV.leq rfl (gs_t hp) rfl)) ?_
    refine RG.pv rfl (PV.pickA rfl rfl (fun hq => gs_t (geqT hq)) rfl) ?_
    refine RG.pv rfl (PV.mvB (.inr rfl) rfl) ?_
    refine RG.nil ?_
    refine WP.ret ?_
    exact ⟨_, _, ResV.one rfl rfl, Cv.p, k⟩
def validW (w : Waiver) : Bool := within w.sig 0 2147483646 && reason w.reason
theorem validWaiver_s {w : Waiver} (hs : w.reason.size ≤ 9223372036854775807) (k : R (.bool (validW w)) G L) : CallT Try.prog 42 #[vwaiver w] G L R := by
  refine CallT.enter (args := _) Try.func42 rfl rfl (by kernel_rfl) rfl ?_
  refine WP.seq ?_
  refine WP.region ?_
  refine RG.ot rfl (OT.box (cs := waiverT.enc w) rfl rfl rfl fun b1 => ?_)
  refine RG.pv rfl (PV.mvB (.inr rfl) rfl) ?_
  refine RG.nil ?_
  refine WP.seq ?_
  refine WP.region ?_
  refine RG.pv rfl (PV.field rfl Fo34_0 rfl) ?_
  refine RG.pv rfl (PV.load1 rfl Sc2 rfl (Rd.blk rfl)) ?_
  refine RG.callF (vs := [_, _, _]) rfl rfl En71 rfl (within_s ?_)
  refine RG.pv rfl (PV.mvB (.inl rfl) rfl) ?_
  refine RG.gs rfl rfl rfl (fun hp => (PV.field rfl Fo34_1 rfl)) ?_
  refine RG.gs rfl rfl rfl (fun hp => (PV.load1 rfl Sc9 (gs_t hp) (Rd.blk rfl))) ?_
  refine RG.gsC rfl rfl rfl rfl En72 (fun hp => ⟨_, (acons (gs_t hp) anil), isReason_s hs ⟨rfl, rfl, rfl⟩⟩) ?_
  refine RG.pv rfl (PV.pickA rfl rfl (fun hq => gs_t (geqT hq)) rfl) ?_
  refine RG.pv rfl (PV.mvB (.inr rfl) rfl) ?_
  refine RG.nil ?_
  refine WP.ret ?_
  exact ⟨_, _, ResV.one rfl rfl, Cv.p, k⟩
def wlAt (xs : List Waiver) (i : Nat) : Bool := validW (gd xs i) && (decide (i = 0) || decide ((gd xs (i - 1)).sig < (gd xs i).sig))
def isWL (xs : List Waiver) : Bool := decide (xs.length ≤ 16) && decide (∀ i, i < xs.length → wlAt xs i = true)
theorem isWL_false {xs : List Waiver} {i : Nat} (h : i < xs.length) (e : wlAt xs i = false) : isWL xs = false := by
  simp only [isWL, Bool.and_eq_false_iff, decide_eq_false_iff_not]
  exact .inr fun hh => by rw [hh i h] at e; cases e
theorem isWL_all {xs : List Waiver} (h : ∀ i, i < xs.length → wlAt xs i = true) : isWL xs = decide (xs.length ≤ 16) := by
  simp only [isWL, decide_eq_true h, Bool.and_true]
theorem isWL_s {v : Value} {xs : List Waiver} (h1 : Rs G L waiverT v xs) (hlen : ∀ i, i < xs.length → (gd xs i).reason.size ≤ 9223372036854775807) (k : R (.bool (isWL xs)) G L) : CallT Try.prog 12 #[v] G L R := by
  refine CallT.bd h1 fun hb => ?_
  refine CallT.enter (args := _) Try.func12 rfl rfl (by kernel_rfl) rfl ?_
  refine WP.seq ?_
  refine WP.region ?_
  refine RG.pv rfl (PV.mvB (.inr rfl) rfl) ?_
  refine RG.nil ?_
  refine WP.seq ?_
  refine WP.seq ?_
  refine WP.region ?_
  refine RG.pv rfl (PV.move (v := v) rfl rfl) ?_
  refine RG.pv rfl (PV.len (v := v) rfl Try.underlying25 rfl (SlF.r h1)) ?_
  refine RG.pv rfl (PV.mvI (.inl rfl) rfl) ?_
  refine RG.nil ?_
  refine WP.block ?_
  refine WP.loop1 [0, 5, 6] (fun i => i ≤ xs.length ∧ ∀ j, j < i → wlAt xs j = true) (fun i => [(7, vi i)]) (fun i => L) (fun i => xs.length - i) 0 ⟨by omega, fun j h => by omega⟩ ⟨rfl, trivial⟩ Cv.p ?_
  rintro i τ ⟨hi, hj⟩
  refine WP.seq ?_
  refine WP.region ?_
  refine RG.pv rfl (PV.lss rfl rfl rfl) ?_
  refine RG.nil ?_
  refine WP.seq ?_
  refine WP.cond rfl (fun h2 => ?_) (fun h2 => ?_)
  · have h2 := of_decide_eq_true h2
    have h3 : i < xs.length := by omega
    refine WP.skip ?_
    refine WP.seq ?_
    refine WP.block ?_
    refine WP.seq ?_
    refine WP.region ?_
    refine RG.pv rfl (PV.mvI (.inl rfl) rfl) ?_
    refine RG.pv rfl (PV.idxS (v := v) rfl Is25 rfl (SlF.r h1) rfl rfl (by omega)) ?_
    refine RG.pv rfl (PV.loadE rfl Ag34 rfl rfl (El.r h1 (getG (by omega)))) ?_
    refine RG.ot rfl (OT.alloc rfl Zr34 fun b4 => ?_)
    refine RG.pv rfl (PV.mvI (.inr rfl) rfl) ?_
    refine RG.ot rfl (OT.storeW (vs := [vi _, .string _]) rfl Sz34 rfl rfl (Cl.c rfl) rfl rfl (OneC.c rfl) ?_)
    refine RG.nil ?_
    refine WP.seq ?_
    refine WP.regionQ (by kernel_rfl) (by kernel_rfl) ?_
    refine RQ.pv rfl (PV.loadW rfl Ag34 rfl rfl) ?_
    refine RQ.callF (vs := [_]) rfl rfl En42 rfl (validWaiver_s (hlen _ (by assumption)) ⟨rfl, rfl, rfl⟩) ?_
    refine RQ.pv rfl (PV.not rfl rfl) ?_
    refine RQ.pv rfl (PV.mvB (.inl rfl) rfl) ?_
    refine RQ.gs rfl rfl rfl (fun hp => (PV.mvI (.inl rfl) rfl)) ?_
    refine RQ.gs rfl rfl rfl (fun hp => (PV.gtr rfl (gs_t hp) rfl)) ?_
    refine RQ.gs rfl rfl rfl (fun hp => (PV.mvB (.inl rfl) (gs_t hp))) ?_
    refine RQ.gs2 rfl rfl rfl (fun hp => (PV.move (v := v) rfl rfl)) ?_
    refine RQ.gs2 rfl rfl rfl (fun hp => (PV.mvI (.inl rfl) rfl)) ?_
    refine RQ.gs2 rfl rfl rfl (fun hp => (PV.sub rfl (gs_t hp) rfl (by first | omega | (simp at hp; omega)))) ?_
    refine RQ.gs2 rfl rfl rfl (fun hp => (PV.idxS (j := i - 1) (v := v) rfl Is25 (gs_t hp) (SlF.r h1) (gs_t hp) (by first | omega | (simp at hp; omega)) (by first | omega | (simp at hp; omega)))) ?_
    refine RQ.gs2 rfl rfl rfl (fun hp => (PV.field rfl Fo34_0 (gs_t hp))) ?_
    refine RQ.gs2 rfl rfl rfl (fun hp => (PV.loadF rfl Sc2 (gs_t hp) rfl (El.r h1 (getG (by first | omega | (simp at hp; omega)))) rfl)) ?_
    refine RQ.gs2 rfl rfl rfl (fun hp => (PV.field rfl Fo34_0 rfl)) ?_
    refine RQ.gs2 rfl rfl rfl (fun hp => (PV.load1 rfl Sc2 (gs_t hp) (Rd.blk rfl))) ?_
    refine RQ.gs2 rfl rfl rfl (fun hp => (PV.geq rfl (gs_t hp) (gs_t hp))) ?_
    refine RQ.gs rfl rfl rfl (fun hp => (PV.pickA rfl (gs_t hp) (fun hq => gs_t (gandT hp hq)) rfl)) ?_
    refine RQ.pv rfl (PV.pickO rfl rfl rfl (fun hq => gs_t (geqF hq))) ?_
    refine RQ.nil ?_
    refine WP.cond rfl (fun h4 => ?_) (fun h4 => ?_)
    · have e : wlAt xs i = false := by
        cases hv : validW (gd xs i) <;> simp [wlAt, hv] at h4 ⊢ <;> omega
      rw [isWL_false h3 e] at k
      refine WP.seq ?_
      refine WP.region ?_
      refine RG.pv rfl (PV.mvB (.inr rfl) rfl) ?_
      refine RG.nil ?_
      refine WP.ret ?_
      exact ⟨_, _, ResV.one rfl rfl, Cv.p, k⟩
    · have e : wlAt xs i = true := by
        cases hv : validW (gd xs i) <;> simp [wlAt, hv] at h4 ⊢ <;> omega
      have hj' : ∀ j, j < i + 1 → wlAt xs j = true := fun j h => by
        by_cases c : j = i
        · rw [c]; exact e
        · exact hj j (by omega)
      refine WP.skip ?_
      refine WP.region ?_
      refine RG.pv rfl (PV.add rfl rfl rfl (by omega)) ?_
      refine RG.pv rfl (PV.mvI (.inl rfl) rfl) ?_
      refine RG.nil ?_
      exact ⟨rfl, i + 1, ⟨by omega, hj'⟩, ⟨rfl, trivial⟩, ⟨rfl, rfl, rfl, trivial⟩, Cv.p, by omega⟩
  · have h2 := of_decide_eq_false h2
    have e : isWL xs = decide ((xs.length : Int) ≤ 16) := by
      rw [isWL_all (fun i h => hj i (by omega)), decide_eq_decide]; omega
    rw [e] at k
    refine WP.exit ?_
    refine WP.seq ?_
    refine WP.region ?_
    refine RG.pv rfl (PV.move (v := v) rfl rfl) ?_
    refine RG.pv rfl (PV.len (v := v) rfl Try.underlying25 rfl (SlF.r h1)) ?_
    refine RG.pv rfl (PV.leq rfl rfl rfl) ?_
    refine RG.pv rfl (PV.mvB (.inr rfl) rfl) ?_
    refine RG.nil ?_
    refine WP.ret ?_
    exact ⟨_, _, ResV.one rfl rfl, Cv.p, k⟩
theorem l22Reason_s {s : ByteArray} (hs : s.size ≤ 9223372036854775807) (k : R (.bool (reason s)) G L) : CallT Try.prog 70 #[.string s] G L R := by
  refine CallT.enter (args := _) Try.func70 rfl rfl (by kernel_rfl) rfl ?_
  refine WP.seq ?_
  refine WP.region ?_
  refine RG.pv rfl (PV.mvB (.inr rfl) rfl) ?_
  refine RG.nil ?_
  refine WP.seq ?_
  refine WP.seq ?_
  refine WP.region ?_
  refine RG.pv rfl (PV.mvS (.inl rfl) rfl) ?_
  refine RG.pv rfl (PV.lenS rfl Try.underlying9 rfl) ?_
  refine RG.pv rfl (PV.lss rfl rfl rfl) ?_
  refine RG.pv rfl (PV.mvB (.inl rfl) rfl) ?_
  refine RG.gs rfl rfl rfl (fun hp => (PV.mvS (.inl rfl) rfl)) ?_
  refine RG.gs rfl rfl rfl (fun hp => (PV.lenS rfl Try.underlying9 (gs_t hp))) ?_
  refine RG.gs rfl rfl rfl (fun hp => (PV.gtr rfl (gs_t hp) rfl)) ?_
  refine RG.pv rfl (PV.pickO rfl rfl rfl (fun hq => gs_t (geqF hq))) ?_
  refine RG.nil ?_
  refine WP.cond rfl (fun h1 => ?_) (fun h1 => ?_)
  · have e : reason s = false := by simp [reason] at h1 ⊢; omega
    rw [e] at k
    refine WP.seq ?_
    refine WP.region ?_
    refine RG.pv rfl (PV.mvB (.inr rfl) rfl) ?_
    refine RG.nil ?_
    refine WP.ret ?_
    exact ⟨_, _, ResV.one rfl rfl, Cv.p, k⟩
  · refine WP.skip ?_
    refine WP.seq ?_
    refine WP.seq ?_
    refine WP.region ?_
    refine RG.pv rfl (PV.mvI (.inr rfl) rfl) ?_
    refine RG.nil ?_
    refine WP.block ?_
    refine WP.loop1 [0] (fun i => i ≤ s.size ∧ ∀ j, j < i → reasonByte (bt s j) = true) (fun i => [(3, vi i)]) (fun i => L) (fun i => s.size - i) 0 ⟨by omega, fun j h => by omega⟩ ⟨rfl, trivial⟩ Cv.p ?_
    rintro i τ ⟨hi, hb⟩
    refine WP.seq ?_
    refine WP.seq ?_
    refine WP.region ?_
    refine RG.pv rfl (PV.mvI (.inl rfl) rfl) ?_
    refine RG.pv rfl (PV.mvS (.inl rfl) rfl) ?_
    refine RG.pv rfl (PV.lenS rfl Try.underlying9 rfl) ?_
    refine RG.pv rfl (PV.lss rfl rfl rfl) ?_
    refine RG.nil ?_
    refine WP.cond rfl (fun h2 => ?_) (fun h2 => ?_)
    · have h2 := of_decide_eq_true h2
      refine WP.skip ?_
      refine WP.seq ?_
      refine WP.block ?_
      refine WP.seq ?_
      refine WP.region ?_
      refine RG.pv rfl (PV.mvS (.inl rfl) rfl) ?_
      refine RG.pv rfl (PV.mvI (.inl rfl) rfl) ?_
      refine RG.pv rfl (PV.idxStr rfl Try.underlying9 rfl rfl rfl (getBG (by omega))) ?_
      refine RG.pv rfl (PV.geq rfl rfl rfl) ?_
      refine RG.pv rfl (PV.mvB (.inl rfl) rfl) ?_
      refine RG.gs rfl rfl rfl (fun hp => (PV.mvS (.inl rfl) rfl)) ?_
      refine RG.gs rfl rfl rfl (fun hp => (PV.mvI (.inl rfl) rfl)) ?_
      refine RG.gs rfl rfl rfl (fun hp => (PV.idxStr rfl Try.underlying9 (gs_t hp) (gs_t hp) rfl (getBG (by first | omega | (simp at hp; omega))))) ?_
      refine RG.gs rfl rfl rfl (fun hp => (PV.leq rfl (gs_t hp) rfl)) ?_
      refine RG.pv rfl (PV.pickA rfl rfl (fun hq => gs_t (geqT hq)) rfl) ?_
      refine RG.pv rfl (PV.mvB (.inl rfl) rfl) ?_
      refine RG.gs rfl rfl rfl (fun hp => (PV.mvS (.inl rfl) rfl)) ?_
      refine RG.gs rfl rfl rfl (fun hp => (PV.mvI (.inl rfl) rfl)) ?_
      refine RG.gs rfl rfl rfl (fun hp => (PV.idxStr rfl Try.underlying9 (gs_t hp) (gs_t hp) rfl (getBG (by first | omega | (simp at hp; omega))))) ?_
      refine RG.gs rfl rfl rfl (fun hp => (PV.geq rfl (gs_t hp) rfl)) ?_
      refine RG.gs rfl rfl rfl (fun hp => (PV.mvB (.inl rfl) (gs_t hp))) ?_
      refine RG.gs2 rfl rfl rfl (fun hp => (PV.mvS (.inl rfl) rfl)) ?_
      refine RG.gs2 rfl rfl rfl (fun hp => (PV.mvI (.inl rfl) rfl)) ?_
      refine RG.gs2 rfl rfl rfl (fun hp => (PV.idxStr rfl Try.underlying9 (gs_t hp) (gs_t hp) rfl (getBG (by first | omega | (simp at hp; omega))))) ?_
      refine RG.gs2 rfl rfl rfl (fun hp => (PV.leq rfl (gs_t hp) rfl)) ?_
      refine RG.gs rfl rfl rfl (fun hp => (PV.pickA rfl (gs_t hp) (fun hq => gs_t (gandT hp hq)) rfl)) ?_
      refine RG.pv rfl (PV.pickO rfl rfl rfl (fun hq => gs_t (geqF hq))) ?_
      refine RG.pv rfl (PV.mvB (.inl rfl) rfl) ?_
      refine RG.gs rfl rfl rfl (fun hp => (PV.mvS (.inl rfl) rfl)) ?_
      refine RG.gs rfl rfl rfl (fun hp => (PV.mvI (.inl rfl) rfl)) ?_
      refine RG.gs rfl rfl rfl (fun hp => (PV.idxStr rfl Try.underlying9 (gs_t hp) (gs_t hp) rfl (getBG (by first | omega | (simp at hp; omega))))) ?_
      refine RG.gs rfl rfl rfl (fun hp => (PV.eql rfl (gs_t hp) rfl)) ?_
      refine RG.pv rfl (PV.pickO rfl rfl rfl (fun hq => gs_t (geqF hq))) ?_
      refine RG.pv rfl (PV.not rfl rfl) ?_
      refine RG.nil ?_
      refine WP.cond rfl (fun h3 => ?_) (fun h3 => ?_)
      · have e : reason s = false := by
          simp only [reason, Bool.and_eq_false_iff, decide_eq_false_iff_not]
          refine .inr fun h => ?_
          have h := h i (by omega)
          simp [reasonByte] at h h3; omega
        rw [e] at k
        refine WP.seq ?_
        refine WP.region ?_
        refine RG.pv rfl (PV.mvB (.inr rfl) rfl) ?_
        refine RG.nil ?_
        refine WP.ret ?_
        exact ⟨_, _, ResV.one rfl rfl, Cv.p, k⟩
      · have h4 : reasonByte (bt s i) = true := by
          simp [reasonByte] at h3 ⊢; omega
        have hj : ∀ j, j < i + 1 → reasonByte (bt s j) = true := fun j h => by
          by_cases e : j = i
          · subst e; exact h4
          · exact hb j (by omega)
        refine WP.skip ?_
        refine WP.region ?_
        refine RG.pv rfl (PV.mvI (.inl rfl) rfl) ?_
        refine RG.pv rfl (PV.add rfl rfl rfl (by omega)) ?_
        refine RG.pv rfl (PV.mvI (.inr rfl) rfl) ?_
        refine RG.nil ?_
        exact ⟨rfl, i + 1, ⟨by omega, hj⟩, ⟨rfl, trivial⟩, ⟨rfl, trivial⟩, Cv.p, by omega⟩
    · have h2 := of_decide_eq_false h2
      have e : reason s = true := by
        have : ∀ i, i < s.size → reasonByte (bt s i) = true := fun j h => hb j (by omega)
        simp only [reason, decide_eq_true this, Bool.and_true]
        simp at h1 ⊢; omega
      rw [e] at k
      refine WP.exit ?_
      refine WP.seq ?_
      refine WP.region ?_
      refine RG.pv rfl (PV.mvB (.inr rfl) rfl) ?_
      refine RG.nil ?_
      refine WP.ret ?_
      exact ⟨_, _, ResV.one rfl rfl, Cv.p, k⟩
theorem l22Valid_s {w : Waiver} (hs : w.reason.size ≤ 9223372036854775807) (k : R (.bool (validW w)) G L) : CallT Try.prog 41 #[vwaiver w] G L R := by
  refine CallT.enter (args := _) Try.func41 rfl rfl (by kernel_rfl) rfl ?_
  refine WP.seq ?_
  refine WP.region ?_
  refine RG.ot rfl (OT.box (cs := waiverT.enc w) rfl rfl rfl fun b1 => ?_)
  refine RG.pv rfl (PV.mvB (.inr rfl) rfl) ?_
  refine RG.nil ?_
  refine WP.seq ?_
  refine WP.region ?_
  refine RG.pv rfl (PV.field rfl Fo34_0 rfl) ?_
  refine RG.pv rfl (PV.load1 rfl Sc2 rfl (Rd.blk rfl)) ?_
  refine RG.callF (vs := [_, _, _]) rfl rfl En69 rfl (l01In_s ?_)
  refine RG.pv rfl (PV.mvB (.inl rfl) rfl) ?_
  refine RG.gs rfl rfl rfl (fun hp => (PV.field rfl Fo34_1 rfl)) ?_
  refine RG.gs rfl rfl rfl (fun hp => (PV.load1 rfl Sc9 (gs_t hp) (Rd.blk rfl))) ?_
  refine RG.gsC rfl rfl rfl rfl En70 (fun hp => ⟨_, (acons (gs_t hp) anil), l22Reason_s hs ⟨rfl, rfl, rfl⟩⟩) ?_
  refine RG.pv rfl (PV.pickA rfl rfl (fun hq => gs_t (geqT hq)) rfl) ?_
  refine RG.pv rfl (PV.mvB (.inr rfl) rfl) ?_
  refine RG.nil ?_
  refine WP.ret ?_
  exact ⟨_, _, ResV.one rfl rfl, Cv.p, k⟩
theorem isWL_s' {v : Value} {xs : List Waiver} (h1 : Rs G L waiverT v xs) (hlen : ∀ i, i < xs.length → (gd xs i).reason.size ≤ 9223372036854775807) (k : R (.bool (isWL xs)) G L) : CallT Try.prog 10 #[v] G L R := by
  refine CallT.bd h1 fun hb => ?_
  refine CallT.enter (args := _) Try.func10 rfl rfl (by kernel_rfl) rfl ?_
  refine WP.seq ?_
  refine WP.region ?_
  refine RG.pv rfl (PV.mvB (.inr rfl) rfl) ?_
  refine RG.nil ?_
  refine WP.seq ?_
  refine WP.seq ?_
  refine WP.region ?_
  refine RG.pv rfl (PV.move (v := v) rfl rfl) ?_
  refine RG.pv rfl (PV.len (v := v) rfl Try.underlying25 rfl (SlF.r h1)) ?_
  refine RG.pv rfl (PV.gtr rfl rfl rfl) ?_
  refine RG.nil ?_
  refine WP.cond rfl (fun h0 => ?_) (fun h0 => ?_)
  · have e : isWL xs = false := by simp [isWL] at h0 ⊢; omega
    rw [e] at k
    refine WP.seq ?_
    refine WP.region ?_
    refine RG.pv rfl (PV.mvB (.inr rfl) rfl) ?_
    refine RG.nil ?_
    refine WP.ret ?_
    exact ⟨_, _, ResV.one rfl rfl, Cv.p, k⟩
  · refine WP.skip ?_
    refine WP.seq ?_
    refine WP.seq ?_
    refine WP.region ?_
    refine RG.pv rfl (PV.mvI (.inr rfl) rfl) ?_
    refine RG.nil ?_
    refine WP.block ?_
    refine WP.loop1 [0] (fun i => i ≤ xs.length ∧ ∀ j, j < i → wlAt xs j = true) (fun i => [(3, vi i)]) (fun i => L) (fun i => xs.length - i) 0 ⟨by omega, fun j h => by omega⟩ ⟨rfl, trivial⟩ Cv.p ?_
    rintro i τ ⟨hi, hj⟩
    refine WP.seq ?_
    refine WP.seq ?_
    refine WP.region ?_
    refine RG.pv rfl (PV.mvI (.inl rfl) rfl) ?_
    refine RG.pv rfl (PV.move (v := v) rfl rfl) ?_
    refine RG.pv rfl (PV.len (v := v) rfl Try.underlying25 rfl (SlF.r h1)) ?_
    refine RG.pv rfl (PV.lss rfl rfl rfl) ?_
    refine RG.nil ?_
    refine WP.cond rfl (fun h2 => ?_) (fun h2 => ?_)
    · have h2 := of_decide_eq_true h2
      have h3 : i < xs.length := by omega
      refine WP.skip ?_
      refine WP.seq ?_
      refine WP.block ?_
      refine WP.seq ?_
      refine WP.regionQ (by kernel_rfl) (by kernel_rfl) ?_
      refine RQ.pv rfl (PV.move (v := v) rfl rfl) ?_
      refine RQ.pv rfl (PV.mvI (.inl rfl) rfl) ?_
      refine RQ.pv rfl (PV.idxS (v := v) rfl Is25 rfl (SlF.r h1) rfl rfl (by omega)) ?_
      refine RQ.pv rfl (PV.loadE rfl Ag34 rfl rfl (El.r h1 (getG (by omega)))) ?_
      refine RQ.callF (vs := [_]) rfl rfl En41 rfl (l22Valid_s (hlen _ (by assumption)) ⟨rfl, rfl, rfl⟩) ?_
      refine RQ.pv rfl (PV.not rfl rfl) ?_
      refine RQ.pv rfl (PV.mvB (.inl rfl) rfl) ?_
      refine RQ.gs rfl rfl rfl (fun hp => (PV.mvI (.inl rfl) rfl)) ?_
      refine RQ.gs rfl rfl rfl (fun hp => (PV.gtr rfl (gs_t hp) rfl)) ?_
      refine RQ.gs rfl rfl rfl (fun hp => (PV.mvB (.inl rfl) (gs_t hp))) ?_
      refine RQ.gs2 rfl rfl rfl (fun hp => (PV.move (v := v) rfl rfl)) ?_
      refine RQ.gs2 rfl rfl rfl (fun hp => (PV.mvI (.inl rfl) rfl)) ?_
      refine RQ.gs2 rfl rfl rfl (fun hp => (PV.sub rfl (gs_t hp) rfl (by first | omega | (simp at hp; omega)))) ?_
      refine RQ.gs2 rfl rfl rfl (fun hp => (PV.idxS (j := i - 1) (v := v) rfl Is25 (gs_t hp) (SlF.r h1) (gs_t hp) (by first | omega | (simp at hp; omega)) (by first | omega | (simp at hp; omega)))) ?_
      refine RQ.gs2 rfl rfl rfl (fun hp => (PV.field rfl Fo34_0 (gs_t hp))) ?_
      refine RQ.gs2 rfl rfl rfl (fun hp => (PV.loadF rfl Sc2 (gs_t hp) rfl (El.r h1 (getG (by first | omega | (simp at hp; omega)))) rfl)) ?_
      refine RQ.gs2 rfl rfl rfl (fun hp => (PV.move (v := v) rfl rfl)) ?_
      refine RQ.gs2 rfl rfl rfl (fun hp => (PV.mvI (.inl rfl) rfl)) ?_
      refine RQ.gs2 rfl rfl rfl (fun hp => (PV.idxS (v := v) rfl Is25 (gs_t hp) (SlF.r h1) (gs_t hp) rfl (by first | omega | (simp at hp; omega)))) ?_
      refine RQ.gs2 rfl rfl rfl (fun hp => (PV.field rfl Fo34_0 (gs_t hp))) ?_
      refine RQ.gs2 rfl rfl rfl (fun hp => (PV.loadF rfl Sc2 (gs_t hp) rfl (El.r h1 (getG (by first | omega | (simp at hp; omega)))) rfl)) ?_
      refine RQ.gs2 rfl rfl rfl (fun hp => (PV.geq rfl (gs_t hp) (gs_t hp))) ?_
      refine RQ.gs rfl rfl rfl (fun hp => (PV.pickA rfl (gs_t hp) (fun hq => gs_t (gandT hp hq)) rfl)) ?_
      refine RQ.pv rfl (PV.pickO rfl rfl rfl (fun hq => gs_t (geqF hq))) ?_
      refine RQ.nil ?_
      refine WP.cond rfl (fun h4 => ?_) (fun h4 => ?_)
      · have e : wlAt xs i = false := by
          cases hv : validW (gd xs i) <;> simp [wlAt, hv] at h4 ⊢ <;> omega
        rw [isWL_false h3 e] at k
        refine WP.seq ?_
        refine WP.region ?_
        refine RG.pv rfl (PV.mvB (.inr rfl) rfl) ?_
        refine RG.nil ?_
        refine WP.ret ?_
        exact ⟨_, _, ResV.one rfl rfl, Cv.p, k⟩
      · have e : wlAt xs i = true := by
          cases hv : validW (gd xs i) <;> simp [wlAt, hv] at h4 ⊢ <;> omega
        have hj' : ∀ j, j < i + 1 → wlAt xs j = true := fun j h => by
          by_cases c : j = i
          · rw [c]; exact e
          · exact hj j (by omega)
        refine WP.skip ?_
        refine WP.region ?_
        refine RG.pv rfl (PV.mvI (.inl rfl) rfl) ?_
        refine RG.pv rfl (PV.add rfl rfl rfl (by omega)) ?_
        refine RG.pv rfl (PV.mvI (.inr rfl) rfl) ?_
        refine RG.nil ?_
        exact ⟨rfl, i + 1, ⟨by omega, hj'⟩, ⟨rfl, trivial⟩, ⟨rfl, trivial⟩, Cv.p, by omega⟩
    · have h2 := of_decide_eq_false h2
      have e : isWL xs = true := by
        rw [isWL_all (fun i h => hj i (by omega))]; simp at h0 ⊢; omega
      rw [e] at k
      refine WP.exit ?_
      refine WP.seq ?_
      refine WP.region ?_
      refine RG.pv rfl (PV.mvB (.inr rfl) rfl) ?_
      refine RG.nil ?_
      refine WP.ret ?_
      exact ⟨_, _, ResV.one rfl rfl, Cv.p, k⟩
theorem toWaiver_s {w : Waiver} (k : R (vwaiver w) G L) : CallT Try.prog 16 #[vwaiver w] G L R := by
  refine CallT.enter (args := _) Try.func16 rfl rfl (by kernel_rfl) rfl ?_
  refine WP.seq ?_
  refine WP.region ?_
  refine RG.ot rfl (OT.box (cs := waiverT.enc w) rfl rfl rfl fun b1 => ?_)
  refine RG.ot rfl (OT.alloc rfl Zr34 fun b2 => ?_)
  refine RG.nil ?_
  refine WP.seq ?_
  refine WP.region ?_
  refine RG.ot rfl (OT.alloc rfl Zr34 fun b3 => ?_)
  refine RG.nil ?_
  refine WP.seq ?_
  refine WP.region ?_
  refine RG.pv rfl (PV.field rfl Fo30_0 rfl) ?_
  refine RG.pv rfl (PV.load1 rfl Sc2 rfl (Rd.blk rfl)) ?_
  refine RG.pv rfl (PV.field rfl Fo34_0 rfl) ?_
  refine RG.ot rfl (OT.storeB (vs := [vi _]) (cs' := [_, _]) rfl Sz2 rfl rfl (Cl.c rfl) rfl (OneC.c rfl) rfl rfl ?_)
  refine RG.nil ?_
  refine WP.seq ?_
  refine WP.region ?_
  refine RG.pv rfl (PV.field rfl Fo30_1 rfl) ?_
  refine RG.pv rfl (PV.load1 rfl Sc9 rfl (Rd.blk rfl)) ?_
  refine RG.pv rfl (PV.field rfl Fo34_1 rfl) ?_
  refine RG.ot rfl (OT.storeB (vs := [.string _]) (cs' := [_, _]) rfl Sz9 rfl rfl (Cl.c rfl) rfl (OneC.c rfl) rfl rfl ?_)
  refine RG.nil ?_
  refine WP.seq ?_
  refine WP.region ?_
  refine RG.pv rfl (PV.loadW rfl Ag34 rfl rfl) ?_
  refine RG.ot rfl (OT.storeW (vs := [vi _, .string _]) rfl Sz34 rfl rfl (Cl.c rfl) rfl rfl (OneC.c rfl) ?_)
  refine RG.nil ?_
  refine WP.ret ?_
  exact ⟨_, _, ResV.one rfl (RV1.cell rfl Ag34 rfl), Cv.p, k⟩
theorem eqWaiver_s {a b : Waiver} (k : R (.bool (decide (a = b))) G L) : CallT Try.prog 43 #[vwaiver a, vwaiver b] G L R := by
  refine CallT.enter (args := _) Try.func43 rfl rfl (by kernel_rfl) rfl ?_
  refine WP.seq ?_
  refine WP.region ?_
  refine RG.ot rfl (OT.box (cs := waiverT.enc a) rfl rfl rfl fun b2 => ?_)
  refine RG.ot rfl (OT.box (cs := waiverT.enc b) rfl rfl rfl fun b3 => ?_)
  refine RG.pv rfl (PV.mvB (.inr rfl) rfl) ?_
  refine RG.nil ?_
  refine WP.seq ?_
  refine WP.seq ?_
  refine WP.region ?_
  refine RG.pv rfl (PV.field rfl Fo34_0 rfl) ?_
  refine RG.pv rfl (PV.load1 rfl Sc2 rfl (Rd.blk rfl)) ?_
  refine RG.pv rfl (PV.field rfl Fo34_0 rfl) ?_
  refine RG.pv rfl (PV.load1 rfl Sc2 rfl (Rd.blk rfl)) ?_
  refine RG.pv rfl (PV.neq rfl rfl rfl) ?_
  refine RG.nil ?_
  refine WP.cond rfl (fun h1 => ?_) (fun h1 => ?_)
  · have e : decide (a = b) = false := by
      obtain ⟨a1, a2⟩ := a; obtain ⟨b1, b2⟩ := b
      simp at h1 ⊢; intro e; exact absurd e h1
    rw [e] at k
    refine WP.seq ?_
    refine WP.region ?_
    refine RG.pv rfl (PV.mvB (.inr rfl) rfl) ?_
    refine RG.nil ?_
    refine WP.ret ?_
    exact ⟨_, _, ResV.one rfl rfl, Cv.p, k⟩
  · refine WP.skip ?_
    refine WP.seq ?_
    refine WP.seq ?_
    refine WP.region ?_
    refine RG.pv rfl (PV.field rfl Fo34_1 rfl) ?_
    refine RG.pv rfl (PV.load1 rfl Sc9 rfl (Rd.blk rfl)) ?_
    refine RG.pv rfl (PV.field rfl Fo34_1 rfl) ?_
    refine RG.pv rfl (PV.load1 rfl Sc9 rfl (Rd.blk rfl)) ?_
    refine RG.pv rfl (PV.neqS rfl rfl rfl) ?_
    refine RG.nil ?_
    refine WP.cond rfl (fun h2 => ?_) (fun h2 => ?_)
    · have e : decide (a = b) = false := by
        obtain ⟨a1, a2⟩ := a; obtain ⟨b1, b2⟩ := b
        simp at h2 ⊢; exact fun _ => h2
      rw [e] at k
      refine WP.seq ?_
      refine WP.region ?_
      refine RG.pv rfl (PV.mvB (.inr rfl) rfl) ?_
      refine RG.nil ?_
      refine WP.ret ?_
      exact ⟨_, _, ResV.one rfl rfl, Cv.p, k⟩
    · have e : decide (a = b) = true := by
        obtain ⟨a1, a2⟩ := a; obtain ⟨b1, b2⟩ := b
        simp at h1 h2 ⊢; exact ⟨h1, h2⟩
      rw [e] at k
      refine WP.skip ?_
      refine WP.seq ?_
      refine WP.region ?_
      refine RG.pv rfl (PV.mvB (.inr rfl) rfl) ?_
      refine RG.nil ?_
      refine WP.ret ?_
      exact ⟨_, _, ResV.one rfl rfl, Cv.p, k⟩
theorem toWaiverS_s {v : Value} {xs : List Waiver} (h1 : Rs G L waiverT v xs) (hb : xs.length ≤ 1048576) (k : ∀ v', R v' G (osl 34 waiverT v' xs :: L)) : CallT Try.prog 11 #[v] G L R := by
  refine CallT.enter (args := _) Try.func11 rfl rfl (by kernel_rfl) rfl ?_
  refine WP.seq ?_
  refine WP.region ?_
  refine RG.pv rfl (PV.asg rfl rfl) ?_
  refine RG.nil ?_
  refine WP.seq ?_
  refine WP.region ?_
  refine RG.pv rfl (PV.move (v := v) rfl rfl) ?_
  refine RG.pv rfl (PV.len (v := v) rfl Try.underlying22 rfl (SlF.r h1)) ?_
  refine RG.ot rfl (OT.make (F := waiverT) (a0 := default) rfl El25 rfl (by decide) rfl rfl (by omega) (by omega) fun v7 => ?_)
  refine RG.pv rfl (PV.asg (v := v7) rfl rfl) ?_
  refine RG.nil ?_
  refine WP.seq ?_
  refine WP.seq ?_
  refine WP.region ?_
  refine RG.pv rfl (PV.mvI (.inr rfl) rfl) ?_
  refine RG.nil ?_
  refine WP.block ?_
  refine WP.loop2 [0, 3] (fun i ys => i ≤ xs.length ∧ ys.length = xs.length ∧ ∀ j, j < i → ys[j]? = xs[j]?) (fun i ys => [(4, vi i)]) (fun i ys => osl 34 waiverT v7 ys :: L) (fun i ys => xs.length - i) 0 (List.replicate xs.length default) ⟨by omega, by simp, fun j h => by omega⟩ ⟨rfl, trivial⟩ Cv.p ?_
  rintro i ys τ ⟨hi, hl, he⟩
  refine WP.seq ?_
  refine WP.seq ?_
  refine WP.region ?_
  refine RG.pv rfl (PV.mvI (.inl rfl) rfl) ?_
  refine RG.pv rfl (PV.move (v := v) rfl rfl) ?_
  refine RG.pv rfl (PV.len (v := v) rfl Try.underlying22 rfl (SlF.r h1)) ?_
  refine RG.pv rfl (PV.lss rfl rfl rfl) ?_
  refine RG.nil ?_
  refine WP.cond rfl (fun h2 => ?_) (fun h2 => ?_)
  · have h2 := of_decide_eq_true h2
    refine WP.skip ?_
    refine WP.seq ?_
    refine WP.block ?_
    refine WP.region ?_
    refine RG.pv rfl (PV.move (v := v7) rfl rfl) ?_
    refine RG.pv rfl (PV.mvI (.inl rfl) rfl) ?_
    refine RG.pv rfl (PV.move (v := v) rfl rfl) ?_
    refine RG.pv rfl (PV.mvI (.inl rfl) rfl) ?_
    refine RG.pv rfl (PV.idxS (v := v) rfl Is22 rfl (SlF.r h1) rfl rfl (by omega)) ?_
    refine RG.pv rfl (PV.loadE rfl Ag30 rfl rfl (El.r h1 (getG (by omega)))) ?_
    refine RG.callF (vs := [_]) rfl rfl En16 rfl (toWaiver_s ?_)
    refine RG.pv rfl (PV.idxS (v := v7) rfl Is25 rfl SlF.o rfl rfl (by omega)) ?_
    refine RG.ot rfl (OT.storeE (F := waiverT) rfl Sz34 rfl rfl rfl (Cl.c rfl) (OneC.c rfl) (by omega) ?_)
    refine RG.nil ?_
    refine WP.region ?_
    refine RG.pv rfl (PV.mvI (.inl rfl) rfl) ?_
    refine RG.pv rfl (PV.add rfl rfl rfl (by omega)) ?_
    refine RG.pv rfl (PV.mvI (.inr rfl) rfl) ?_
    refine RG.nil ?_
    exact ⟨rfl, i + 1, _, ⟨by omega, by simpa using hl, set_pre he (getG (by omega)) hl⟩, ⟨rfl, trivial⟩, ⟨rfl, rfl, trivial⟩, Cv.p, by omega⟩
  · have h2 := of_decide_eq_false h2
    obtain rfl := pre_eq he hl (by omega)
    refine WP.exit ?_
    refine WP.seq ?_
    refine WP.region ?_
    refine RG.pv rfl (PV.move (v := v7) rfl rfl) ?_
    refine RG.pv rfl (PV.asg (v := v7) rfl rfl) ?_
    refine RG.nil ?_
    refine WP.ret ?_
    exact ⟨_, _, ResV.one rfl rfl, Cv.p, k v7⟩
def szW : List Waiver → Int → Int
  | [], n => n
  | w :: l, n => if n - w.reason.size < 0 then -1 else szW l (n - w.reason.size)
theorem szWaiver_s {w : Waiver} {n : Int} (hn : n ≤ 1048576) (h0 : 0 ≤ n) (hs : w.reason.size ≤ 9223372036854775807) (k : ∀ r : Int, (r = if n - w.reason.size < 0 then -1 else n - w.reason.size) → R (vi r) G L) : CallT Try.prog 14 #[vwaiver w, vi n] G L R := by
  refine CallT.enter (args := _) Try.func14 rfl rfl (by kernel_rfl) rfl ?_
  refine WP.seq ?_
  refine WP.region ?_
  refine RG.ot rfl (OT.box (cs := waiverT.enc w) rfl rfl rfl fun b2 => ?_)
  refine RG.pv rfl (PV.mvI (.inr rfl) rfl) ?_
  refine RG.nil ?_
  refine WP.seq ?_
  refine WP.region ?_
  refine RG.pv rfl (PV.mvI (.inl rfl) rfl) ?_
  refine RG.pv rfl (PV.field rfl Fo30_1 rfl) ?_
  refine RG.pv rfl (PV.load1 rfl Sc9 rfl (Rd.blk rfl)) ?_
  refine RG.pv rfl (PV.lenS rfl Try.underlying9 rfl) ?_
  refine RG.pv rfl (PV.sub rfl rfl rfl (by omega)) ?_
  refine RG.pv rfl (PV.mvI (.inr rfl) rfl) ?_
  refine RG.nil ?_
  refine WP.seq ?_
  refine WP.seq ?_
  refine WP.region ?_
  refine RG.pv rfl (PV.mvI (.inl rfl) rfl) ?_
  refine RG.pv rfl (PV.lss rfl rfl rfl) ?_
  refine RG.nil ?_
  refine WP.cond rfl (fun h1 => ?_) (fun h1 => ?_)
  · have h1 := of_decide_eq_true h1
    refine WP.seq ?_
    refine WP.region ?_
    refine RG.pv rfl (PV.mvI (.inr rfl) rfl) ?_
    refine RG.nil ?_
    refine WP.ret ?_
    exact ⟨_, _, ResV.one rfl rfl, Cv.p, k _ (by rw [if_pos h1])⟩
  · have h1 := of_decide_eq_false h1
    refine WP.skip ?_
    refine WP.seq ?_
    refine WP.region ?_
    refine RG.pv rfl (PV.mvI (.inl rfl) rfl) ?_
    refine RG.pv rfl (PV.mvI (.inr rfl) rfl) ?_
    refine RG.nil ?_
    refine WP.ret ?_
    exact ⟨_, _, ResV.one rfl rfl, Cv.p, k _ (by rw [if_neg h1])⟩
def szWS (xs : List Waiver) (n : Int) : Int := if n - xs.length < 0 then -1 else szW xs (n - xs.length)
theorem szW_le : ∀ (l : List Waiver) (n : Int), 0 ≤ n → szW l n ≤ n
  | [], n, _ => Int.le_refl n
  | w :: l, n, h => by
    unfold szW; split
    · omega
    · have := szW_le l (n - w.reason.size) (by omega); omega
theorem szW_drop {xs : List Waiver} {i : Nat} {n : Int} (h : i < xs.length) : szW (xs.drop i) n = if n - (gd xs i).reason.size < 0 then -1 else szW (xs.drop (i + 1)) (n - (gd xs i).reason.size) := by
  rw [List.drop_eq_getElem_cons h, szW, gd_eq h]
theorem szWaiverS_s {v : Value} {xs : List Waiver} {n : Int} (h1 : Rs G L waiverT v xs) (hn : n ≤ 1048576) (h0 : 0 ≤ n) (hlen : ∀ i, i < xs.length → (gd xs i).reason.size ≤ 9223372036854775807) (k : R (vi (szWS xs n)) G L) : CallT Try.prog 9 #[v, vi n] G L R := by
  refine CallT.bd h1 fun hb => ?_
  refine CallT.enter (args := _) Try.func9 rfl rfl (by kernel_rfl) rfl ?_
  refine WP.seq ?_
  refine WP.region ?_
  refine RG.pv rfl (PV.mvI (.inr rfl) rfl) ?_
  refine RG.nil ?_
  refine WP.seq ?_
  refine WP.region ?_
  refine RG.pv rfl (PV.mvI (.inl rfl) rfl) ?_
  refine RG.pv rfl (PV.move (v := v) rfl rfl) ?_
  refine RG.pv rfl (PV.len (v := v) rfl Try.underlying22 rfl (SlF.r h1)) ?_
  refine RG.pv rfl (PV.sub rfl rfl rfl (by omega)) ?_
  refine RG.pv rfl (PV.mvI (.inr rfl) rfl) ?_
  refine RG.nil ?_
  refine WP.seq ?_
  refine WP.seq ?_
  refine WP.region ?_
  refine RG.pv rfl (PV.mvI (.inl rfl) rfl) ?_
  refine RG.pv rfl (PV.lss rfl rfl rfl) ?_
  refine RG.nil ?_
  refine WP.cond rfl (fun h2 => ?_) (fun h2 => ?_)
  · have h2 := of_decide_eq_true h2
    rw [szWS, if_pos h2] at k
    refine WP.seq ?_
    refine WP.region ?_
    refine RG.pv rfl (PV.mvI (.inr rfl) rfl) ?_
    refine RG.nil ?_
    refine WP.ret ?_
    exact ⟨_, _, ResV.one rfl rfl, Cv.p, k⟩
  · have h2 := of_decide_eq_false h2
    rw [szWS, if_neg h2] at k
    refine WP.skip ?_
    refine WP.seq ?_
    refine WP.seq ?_
    refine WP.region ?_
    refine RG.pv rfl (PV.mvI (.inr rfl) rfl) ?_
    refine RG.nil ?_
    refine WP.block ?_
    refine WP.loop2 [0] (fun i m => i ≤ xs.length ∧ 0 ≤ m ∧ m ≤ 1048576 ∧ szW xs (n - xs.length) = szW (xs.drop i) m) (fun i m => [(5, vi i), (1, vi m)]) (fun i m => L) (fun i m => xs.length - i) 0 (n - xs.length) ⟨by omega, by omega, by omega, by simp⟩ ⟨rfl, rfl, trivial⟩ Cv.p ?_
    rintro i m τ ⟨hi, hm0, hm1, he⟩
    refine WP.seq ?_
    refine WP.seq ?_
    refine WP.region ?_
    refine RG.pv rfl (PV.mvI (.inl rfl) rfl) ?_
    refine RG.pv rfl (PV.move (v := v) rfl rfl) ?_
    refine RG.pv rfl (PV.len (v := v) rfl Try.underlying22 rfl (SlF.r h1)) ?_
    refine RG.pv rfl (PV.lss rfl rfl rfl) ?_
    refine RG.nil ?_
    refine WP.cond rfl (fun h3 => ?_) (fun h3 => ?_)
    · have h3 := of_decide_eq_true h3
      have h4 : i < xs.length := by omega
      rw [szW_drop h4] at he
      refine WP.skip ?_
      refine WP.seq ?_
      refine WP.block ?_
      refine WP.seq ?_
      refine WP.region ?_
      refine RG.pv rfl (PV.move (v := v) rfl rfl) ?_
      refine RG.pv rfl (PV.mvI (.inl rfl) rfl) ?_
      refine RG.pv rfl (PV.idxS (v := v) rfl Is22 rfl (SlF.r h1) rfl rfl (by omega)) ?_
      refine RG.pv rfl (PV.loadE rfl Ag30 rfl rfl (El.r h1 (getG (by omega)))) ?_
      refine RG.pv rfl (PV.mvI (.inl rfl) rfl) ?_
      refine RG.callF (vs := [_, _]) rfl rfl En14 rfl (szWaiver_s (by omega) (by omega) (hlen _ (by assumption)) (fun r hr => ?_))
      refine RG.pv rfl (PV.mvI (.inr rfl) rfl) ?_
      refine RG.nil ?_
      refine WP.seq ?_
      refine WP.region ?_
      refine RG.pv rfl (PV.mvI (.inl rfl) rfl) ?_
      refine RG.pv rfl (PV.lss rfl rfl rfl) ?_
      refine RG.nil ?_
      refine WP.cond rfl (fun h5 => ?_) (fun h5 => ?_)
      · have h5 := of_decide_eq_true h5
        have h6 : m - (gd xs i).reason.size < 0 := by
          by_cases c : m - (gd xs i).reason.size < 0
          · exact c
          · rw [if_neg c] at hr; omega
        rw [he, if_pos h6] at k
        refine WP.seq ?_
        refine WP.region ?_
        refine RG.pv rfl (PV.mvI (.inr rfl) rfl) ?_
        refine RG.nil ?_
        refine WP.ret ?_
        exact ⟨_, _, ResV.one rfl rfl, Cv.p, k⟩
      · have h5 := of_decide_eq_false h5
        have h6 : ¬ m - (gd xs i).reason.size < 0 := fun c => by rw [if_pos c] at hr; omega
        rw [if_neg h6] at he hr
        subst hr
        refine WP.skip ?_
        refine WP.region ?_
        refine RG.pv rfl (PV.mvI (.inl rfl) rfl) ?_
        refine RG.pv rfl (PV.add rfl rfl rfl (by omega)) ?_
        refine RG.pv rfl (PV.mvI (.inr rfl) rfl) ?_
        refine RG.nil ?_
        exact ⟨rfl, i + 1, _, ⟨by omega, by omega, by omega, he⟩, ⟨rfl, rfl, trivial⟩, ⟨rfl, trivial⟩, Cv.p, by omega⟩
    · have h3 := of_decide_eq_false h3
      rw [he, List.drop_eq_nil_of_le (by omega), szW] at k
      refine WP.exit ?_
      refine WP.seq ?_
      refine WP.region ?_
      refine RG.pv rfl (PV.mvI (.inl rfl) rfl) ?_
      refine RG.pv rfl (PV.mvI (.inr rfl) rfl) ?_
      refine RG.nil ?_
      refine WP.ret ?_
      exact ⟨_, _, ResV.one rfl rfl, Cv.p, k⟩
theorem eqWaiverS_s {v u : Value} {xs ys : List Waiver} (h1 : Rs G L waiverT v xs) (h2 : Rs G L waiverT u ys) (k : R (.bool (decide (xs = ys))) G L) : CallT Try.prog 13 #[v, u] G L R := by
  refine CallT.bd h1 fun hb => ?_
  refine CallT.bd h2 fun hb' => ?_
  refine CallT.enter (args := _) Try.func13 rfl rfl (by kernel_rfl) rfl ?_
  refine WP.seq ?_
  refine WP.region ?_
  refine RG.pv rfl (PV.mvB (.inr rfl) rfl) ?_
  refine RG.nil ?_
  refine WP.seq ?_
  refine WP.seq ?_
  refine WP.region ?_
  refine RG.pv rfl (PV.move (v := v) rfl rfl) ?_
  refine RG.pv rfl (PV.len (v := v) rfl Try.underlying25 rfl (SlF.r h1)) ?_
  refine RG.pv rfl (PV.move (v := u) rfl rfl) ?_
  refine RG.pv rfl (PV.len (v := u) rfl Try.underlying25 rfl (SlF.r h2)) ?_
  refine RG.pv rfl (PV.neq rfl rfl rfl) ?_
  refine RG.nil ?_
  refine WP.cond rfl (fun h3 => ?_) (fun h3 => ?_)
  · have e : decide (xs = ys) = false := by
      rw [decide_eq_false_iff_not]; rintro rfl; simp at h3
    rw [e] at k
    refine WP.seq ?_
    refine WP.region ?_
    refine RG.pv rfl (PV.mvB (.inr rfl) rfl) ?_
    refine RG.nil ?_
    refine WP.ret ?_
    exact ⟨_, _, ResV.one rfl rfl, Cv.p, k⟩
  · have hl : xs.length = ys.length := by simp at h3; omega
    refine WP.skip ?_
    refine WP.seq ?_
    refine WP.seq ?_
    refine WP.region ?_
    refine RG.pv rfl (PV.mvI (.inr rfl) rfl) ?_
    refine RG.nil ?_
    refine WP.block ?_
    refine WP.loop1 [0, 1] (fun i => i ≤ xs.length ∧ ∀ j, j < i → xs[j]? = ys[j]?) (fun i => [(5, vi i)]) (fun i => L) (fun i => xs.length - i) 0 ⟨by omega, fun j h => by omega⟩ ⟨rfl, trivial⟩ Cv.p ?_
    rintro i τ ⟨hi, he⟩
    refine WP.seq ?_
    refine WP.seq ?_
    refine WP.region ?_
    refine RG.pv rfl (PV.mvI (.inl rfl) rfl) ?_
    refine RG.pv rfl (PV.move (v := v) rfl rfl) ?_
    refine RG.pv rfl (PV.len (v := v) rfl Try.underlying25 rfl (SlF.r h1)) ?_
    refine RG.pv rfl (PV.lss rfl rfl rfl) ?_
    refine RG.nil ?_
    refine WP.cond rfl (fun h4 => ?_) (fun h4 => ?_)
    · have h4 := of_decide_eq_true h4
      have h5 : i < xs.length := by omega
      refine WP.skip ?_
      refine WP.seq ?_
      refine WP.block ?_
      refine WP.seq ?_
      refine WP.regionQ (by kernel_rfl) (by kernel_rfl) ?_
      refine RQ.pv rfl (PV.move (v := v) rfl rfl) ?_
      refine RQ.pv rfl (PV.mvI (.inl rfl) rfl) ?_
      refine RQ.pv rfl (PV.idxS (v := v) rfl Is25 rfl (SlF.r h1) rfl rfl (by omega)) ?_
      refine RQ.pv rfl (PV.loadE rfl Ag34 rfl rfl (El.r h1 (getG (by omega)))) ?_
      refine RQ.pv rfl (PV.move (v := u) rfl rfl) ?_
      refine RQ.pv rfl (PV.mvI (.inl rfl) rfl) ?_
      refine RQ.pv rfl (PV.idxS (v := u) rfl Is25 rfl (SlF.r h2) rfl rfl (by omega)) ?_
      refine RQ.pv rfl (PV.loadE rfl Ag34 rfl rfl (El.r h2 (getG (by omega)))) ?_
      refine RQ.callF (vs := [_, _]) rfl rfl En43 rfl (eqWaiver_s ⟨rfl, rfl, rfl⟩) ?_
      refine RQ.pv rfl (PV.not rfl rfl) ?_
      refine RQ.nil ?_
      refine WP.cond rfl (fun h6 => ?_) (fun h6 => ?_)
      · have e : decide (xs = ys) = false := by
          rw [decide_eq_false_iff_not]; rintro rfl; simp at h6
        rw [e] at k
        refine WP.seq ?_
        refine WP.region ?_
        refine RG.pv rfl (PV.mvB (.inr rfl) rfl) ?_
        refine RG.nil ?_
        refine WP.ret ?_
        exact ⟨_, _, ResV.one rfl rfl, Cv.p, k⟩
      · have e : gd xs i = gd ys i := by simpa using h6
        have he' : ∀ j, j < i + 1 → xs[j]? = ys[j]? := fun j h => by
          by_cases c : j = i
          · rw [c, getG h5, getG (show i < ys.length by omega), e]
          · exact he j (by omega)
        refine WP.skip ?_
        refine WP.region ?_
        refine RG.pv rfl (PV.mvI (.inl rfl) rfl) ?_
        refine RG.pv rfl (PV.add rfl rfl rfl (by omega)) ?_
        refine RG.pv rfl (PV.mvI (.inr rfl) rfl) ?_
        refine RG.nil ?_
        exact ⟨rfl, i + 1, ⟨by omega, he'⟩, ⟨rfl, trivial⟩, ⟨rfl, rfl, trivial⟩, Cv.p, by omega⟩
    · have h4 := of_decide_eq_false h4
      have e : decide (xs = ys) = true := by
        rw [decide_eq_true_iff]; exact pre_eq he hl (by omega)
      rw [e] at k
      refine WP.exit ?_
      refine WP.seq ?_
      refine WP.region ?_
      refine RG.pv rfl (PV.mvB (.inr rfl) rfl) ?_
      refine RG.nil ?_
      refine WP.ret ?_
      exact ⟨_, _, ResV.one rfl rfl, Cv.p, k⟩
theorem szWS_len {xs : List Waiver} {n : Int} (h : 0 ≤ szWS xs n) : (xs.length : Int) ≤ n := by
  unfold szWS at h; split at h <;> omega
theorem law_IsWaiverList {v : Value} {xs : List Waiver} (h1 : Rs G L waiverT v xs) (hlen : ∀ i, i < xs.length → (gd xs i).reason.size ≤ 9223372036854775807) (k : R (.bool true) G L) : CallT Try.prog 3 #[v] G L R := by
  refine CallT.enter (args := _) Try.func3 rfl rfl (by kernel_rfl) rfl ?_
  refine WP.seq ?_
  refine WP.region ?_
  refine RG.pv rfl (PV.mvB (.inr rfl) rfl) ?_
  refine RG.nil ?_
  refine WP.seq ?_
  refine WP.region ?_
  refine RG.pv rfl (PV.mvI (.inr rfl) rfl) ?_
  refine RG.nil ?_
  refine WP.seq ?_
  refine WP.region ?_
  refine RG.pv rfl (PV.move (v := v) rfl rfl) ?_
  refine RG.pv rfl (PV.mvI (.inl rfl) rfl) ?_
  refine RG.callF (vs := [v, _]) rfl rfl En9 rfl (szWaiverS_s (Rs.up h1) (by omega) (by omega) hlen ?_)
  refine RG.pv rfl (PV.mvI (.inr rfl) rfl) ?_
  refine RG.nil ?_
  refine WP.seq ?_
  refine WP.seq ?_
  refine WP.region ?_
  refine RG.pv rfl (PV.mvI (.inl rfl) rfl) ?_
  refine RG.pv rfl (PV.lss rfl rfl rfl) ?_
  refine RG.nil ?_
  refine WP.cond rfl (fun h2 => ?_) (fun h2 => ?_)
  · refine WP.seq ?_
    refine WP.region ?_
    refine RG.pv rfl (PV.mvB (.inr rfl) rfl) ?_
    refine RG.nil ?_
    refine WP.ret ?_
    exact ⟨_, _, ResV.one rfl rfl, Cv.p, k⟩
  · have h3 := szWS_len (xs := xs) (n := 1048576) (by simpa using h2)
    refine WP.skip ?_
    refine WP.seq ?_
    refine WP.region ?_
    refine RG.pv rfl (PV.move (v := v) rfl rfl) ?_
    refine RG.callF (vs := [v]) rfl rfl En11 rfl (toWaiverS_s (Rs.up h1) (by omega) (fun v13 => ?_))
    refine RG.callF (vs := [v13]) rfl rfl En10 rfl (isWL_s' Rs.o hlen ?_)
    refine RG.pv rfl (PV.mvB (.inr rfl) rfl) ?_
    refine RG.nil ?_
    refine WP.seq ?_
    refine WP.region ?_
    refine RG.pv rfl (PV.move (v := v) rfl rfl) ?_
    refine RG.callF (vs := [v]) rfl rfl En11 rfl (toWaiverS_s (Rs.up h1) (by omega) (fun v16 => ?_))
    refine RG.pv rfl (PV.asg (v := v16) rfl rfl) ?_
    refine RG.nil ?_
    refine WP.seq ?_
    refine WP.region ?_
    refine RG.pv rfl (PV.move (v := v16) rfl rfl) ?_
    refine RG.callF (vs := [v16]) rfl rfl En12 rfl (isWL_s Rs.o hlen ?_)
    refine RG.pv rfl (PV.mvB (.inr rfl) rfl) ?_
    refine RG.nil ?_
    refine WP.seq ?_
    refine WP.seq ?_
    refine WP.region ?_
    refine RG.pv rfl (PV.mvB (.inl rfl) rfl) ?_
    refine RG.pv rfl (PV.mvB (.inl rfl) rfl) ?_
    refine RG.pv rfl (PV.neqB rfl Try.underlying4 rfl rfl) ?_
    refine RG.nil ?_
    refine WP.cond rfl (fun h4 => ?_) (fun h4 => ?_)
    · simp at h4
    · refine WP.skip ?_
      refine WP.seq ?_
      refine WP.seq ?_
      refine WP.region ?_
      refine RG.pv rfl (PV.move (v := v16) rfl rfl) ?_
      refine RG.pv rfl (PV.move (v := v) rfl rfl) ?_
      refine RG.callF (vs := [v]) rfl rfl En11 rfl (toWaiverS_s (Rs.up h1) (by omega) (fun v24 => ?_))
      refine RG.callF (vs := [v16, v24]) rfl rfl En13 rfl (eqWaiverS_s Rs.o Rs.o ?_)
      refine RG.pv rfl (PV.not rfl rfl) ?_
      refine RG.nil ?_
      refine WP.cond rfl (fun h5 => ?_) (fun h5 => ?_)
      · simp at h5
      · refine WP.skip ?_
        refine WP.seq ?_
        refine WP.region ?_
        refine RG.pv rfl (PV.mvB (.inr rfl) rfl) ?_
        refine RG.nil ?_
        refine WP.ret ?_
        exact ⟨_, _, ResV.one rfl rfl, Cv.p, k⟩
end Go.Proofs.Ytblccfeodidhbaa
