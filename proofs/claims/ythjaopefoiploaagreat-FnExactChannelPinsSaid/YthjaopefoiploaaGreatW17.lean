/-
  Contracts: the sort of a list that is sorted leaves it as it is.
-/
import Derived.Test.YthjaopefoiploaaGreatW16
namespace Go.Proofs.YthjaopefoiploaaGreat
open Go
set_option maxRecDepth 20000
set_option linter.unusedSimpArgs false
section
variable {P : Program} {n : Nat} {ops : Array Oper} {rest : List Oper} {Q : Post} {σ : Nat → Value} {G : Gh} {L : List Ch} {o : Oper}
theorem RQ.gsB {j t : Nat} {want p : Bool} {b fv : Value} {fo : Operand} {l : List Operand} {ats : Array TypeId} (hg : o.guard = some (j, want)) (hj : (ops[j]?).bind (·.dst) = some t) (hb : σ t = .bool p)
    (ho : o.op = .call { callee := .value fo, args := l.toArray, argTypes := ats })
    (h : (p == want) = true → ev σ fo = fv ∧ ∃ vs, cargs σ l = vs ∧ CB P G L fv vs b) (k : RQ P n ops rest Q (updo σ o.dst (gv (p == want) b)) G L) : RQ P n ops (o :: rest) Q σ G L :=
  RQ.gsK hg hj hb (fun e k => by obtain ⟨hf, vs, ha, hc⟩ := h e; exact RQ.callB rfl ho hf ha hc k) k
end
variable {G : Gh} {L : List Ch} {R : Value → Gh → List Ch → Prop}
theorem PV.shr {P : Program} {o : Oper} {σ : Nat → Value} {G : Gh} {L : List Ch} {T T' : TypeId} {x y : Operand} {k k' : IntKind} {a b : Int} (ho : o.op = .binOp .shr T x y T') (hx : ev σ x = .int k a) (hy : ev σ y = .int k' b) (h0 : 0 ≤ b) (h1 : b ≤ k.bits) : PV P o σ G L (.int k (a / 2 ^ b.toNat)) := by
  intro w _
  simp [execOp, ho, hx, hy, eqGuard, binOp, shift_shr k k' a b h0 h1]
theorem u64w {a : Int} (h : 0 ≤ a ∧ a ≤ 18446744073709551615) : IntKind.u64.wrap a = a := by simp [IntKind.wrap, IntKind.bits, IntKind.signed]; omega
theorem u8w {a : Int} (h : 0 ≤ a ∧ a ≤ 255) : IntKind.u8.wrap a = a := by simp [IntKind.wrap, IntKind.bits, IntKind.signed]; omega
theorem u8i (c : UInt8) : IntKind.i64.wrap (c.toNat : Int) = c.toNat := i64w (by have := c.toNat_lt; omega)
theorem u8add {a : Int} {c : UInt8} (h : 0 ≤ a ∧ a ≤ 1000) : -9223372036854775808 ≤ a + (c.toNat : Int) ∧ a + (c.toNat : Int) ≤ 9223372036854775807 := by have := c.toNat_lt; omega
theorem bitsLen64_s {a : Int} (ha : 0 ≤ a ∧ a ≤ 6400) (k : ∀ l : Int, (a ≠ 0 → l ≠ 0) → R (vi l) G L) : CallT Tryz.prog 170 #[.int .u64 a] G L R := by
  refine CallT.enter (args := _) Tryz.func170 rfl rfl (by kernel_rfl) rfl ?_
  refine WP.seq ?_
  refine WP.region ?_
  refine RG.pv rfl (PV.mvI (.inr rfl) rfl) ?_
  refine RG.nil ?_
  refine WP.seq ?_
  refine WP.seq ?_
  refine WP.region ?_
  refine RG.pv rfl (PV.mvI (.inl rfl) rfl) ?_
  refine RG.pv rfl (PV.geq rfl rfl rfl) ?_
  refine RG.nil ?_
  refine WP.cond rfl (fun h2 => ?_) (fun h2 => ?_)
  · have h2 := of_decide_eq_true h2
    omega
  · refine WP.skip ?_
    refine WP.seq ?_
    refine WP.seq ?_
    refine WP.region ?_
    refine RG.pv rfl (PV.mvI (.inl rfl) rfl) ?_
    refine RG.pv rfl (PV.geq rfl rfl rfl) ?_
    refine RG.nil ?_
    refine WP.cond rfl (fun h3 => ?_) (fun h3 => ?_)
    · have h3 := of_decide_eq_true h3
      omega
    · refine WP.skip ?_
      refine WP.seq ?_
      refine WP.seq ?_
      refine WP.region ?_
      refine RG.pv rfl (PV.mvI (.inl rfl) rfl) ?_
      refine RG.pv rfl (PV.geq rfl rfl rfl) ?_
      refine RG.nil ?_
      refine WP.cond rfl (fun h4 => ?_) (fun h4 => ?_)
      · have h4 := of_decide_eq_true h4
        have e1 : IntKind.u8.wrap (a / 2 ^ Int.toNat 8) = (((a / 256).toNat : Nat) : Int) := by rw [show (2 : Int) ^ Int.toNat 8 = 256 from rfl, u8w (by omega)]; omega
        have e2 : (a / 256).toNat < 256 := by omega
        refine WP.seq ?_
        refine WP.region ?_
        refine RG.pv rfl (PV.mvI (.inl rfl) rfl) ?_
        refine RG.pv rfl (PV.shr rfl rfl rfl (by decide) (by decide)) ?_
        refine RG.pv rfl (PV.mvI (.inr rfl) rfl) ?_
        refine RG.nil ?_
        refine WP.region ?_
        refine RG.pv rfl (PV.mvI (.inl rfl) rfl) ?_
        refine RG.pv rfl (PV.add rfl rfl rfl (by omega)) ?_
        refine RG.pv rfl (PV.mvI (.inr rfl) rfl) ?_
        refine RG.nil ?_
        refine WP.seq ?_
        refine WP.region ?_
        refine RG.pv rfl (PV.mvI (.inl rfl) rfl) ?_
        refine RG.pv rfl (PV.mvI (.inl rfl) rfl) ?_
        refine RG.pv rfl (PV.conv rfl ⟨_, Tryz.underlying207⟩ Tryz.underlying5 rfl rfl) ?_
        refine RG.pv rfl (PV.idxStr (j := (a / 256).toNat) rfl Tryz.underlying9 rfl rfl e1 (getBG e2)) ?_
        refine RG.pv rfl (PV.conv rfl ⟨_, Tryz.underlying5⟩ Tryz.underlying3 rfl (u8i _)) ?_
        refine RG.pv rfl (PV.add rfl rfl rfl (by first | omega | exact u8add (by omega))) ?_
        refine RG.pv rfl (PV.mvI (.inr rfl) rfl) ?_
        refine RG.nil ?_
        refine WP.ret ?_
        exact ⟨_, _, ResV.one rfl rfl, Cv.p, k _ (fun _ => by omega)⟩
      · have h5 := of_decide_eq_false h4
        have e1 : IntKind.u8.wrap a = ((a.toNat : Nat) : Int) := by rw [u8w (by omega)]; omega
        have e2 : a.toNat < 256 := by omega
        refine WP.skip ?_
        refine WP.seq ?_
        refine WP.region ?_
        refine RG.pv rfl (PV.mvI (.inl rfl) rfl) ?_
        refine RG.pv rfl (PV.mvI (.inl rfl) rfl) ?_
        refine RG.pv rfl (PV.conv rfl ⟨_, Tryz.underlying207⟩ Tryz.underlying5 rfl rfl) ?_
        refine RG.pv rfl (PV.idxStr (j := a.toNat) rfl Tryz.underlying9 rfl rfl e1 (getBG e2)) ?_
        refine RG.pv rfl (PV.conv rfl ⟨_, Tryz.underlying5⟩ Tryz.underlying3 rfl (u8i _)) ?_
        refine RG.pv rfl (PV.add rfl rfl rfl (by first | omega | exact u8add (by omega))) ?_
        refine RG.pv rfl (PV.mvI (.inr rfl) rfl) ?_
        refine RG.nil ?_
        refine WP.ret ?_
        refine ⟨_, _, ResV.one rfl rfl, Cv.p, k _ (fun h => ?_)⟩
        obtain ⟨m, rfl⟩ : ∃ m : Nat, a = (m : Int) := ⟨a.toNat, by omega⟩
        have hm : m < 256 := by omega
        have h0 : m ≠ 0 := by omega
        rw [Int.toNat_natCast]
        clear h e2 e1 h5 h4 h3 h2 k ha
        unfold bt
        revert m
        decide +kernel
theorem bitsLen_s {a : Int} (ha : 0 ≤ a ∧ a ≤ 6400) (k : ∀ l : Int, (a ≠ 0 → l ≠ 0) → R (vi l) G L) : CallT Tryz.prog 117 #[.int .u64 a] G L R := by
  refine CallT.enter (args := _) Tryz.func117 rfl rfl (by kernel_rfl) rfl ?_
  refine WP.seq ?_
  refine WP.region ?_
  refine RG.pv rfl (PV.mvI (.inr rfl) rfl) ?_
  refine RG.nil ?_
  refine WP.seq ?_
  refine WP.cond rfl (fun h2 => ?_) (fun h2 => ?_)
  · exact absurd h2 (by decide)
  · refine WP.skip ?_
    refine WP.seq ?_
    refine WP.region ?_
    refine RG.pv rfl (PV.mvI (.inl rfl) rfl) ?_
    refine RG.callF (vs := [_]) rfl rfl En170 rfl (bitsLen64_s ha (fun l hl => ?_))
    refine RG.pv rfl (PV.mvI (.inr rfl) rfl) ?_
    refine RG.nil ?_
    refine WP.ret ?_
    exact ⟨_, _, ResV.one rfl rfl, Cv.p, k _ hl⟩

theorem order2_rss {v fv p : Value} {xs : List (Sl Rect)} {a b : Int} {cf : Nat → Nat → Int} (h1 : Rs G L slT v xs) (h0 : 0 ≤ a) (hab : a < b) (hb : b < xs.length) (hf : ∀ i j, i < xs.length → j < xs.length → CB Tryz.prog G L fv [Sl.v (gd xs i), Sl.v (gd xs j)] (vi (cf i j))) (hs : ∀ i j, i < j → j < xs.length → ¬ cf j i < 0) (k : R (.tuple #[vi a, vi b]) G L) : CallT Tryz.prog 238 #[v, vi a, vi b, p, fv] G L R := by
  refine CallT.bd h1 fun hbd => ?_
  refine CallT.enter (args := _) Tryz.func238 rfl rfl (by kernel_rfl) rfl ?_
  refine WP.seq ?_
  refine WP.region ?_
  refine RG.pv rfl (PV.mvI (.inr rfl) rfl) ?_
  refine RG.pv rfl (PV.mvI (.inr rfl) rfl) ?_
  refine RG.nil ?_
  refine WP.seq ?_
  refine WP.seq ?_
  refine WP.regionQ (by kernel_rfl) (by kernel_rfl) ?_
  refine RQ.pv rfl (PV.move (v := fv) rfl rfl) ?_
  refine RQ.pv rfl (PV.move (v := v) rfl rfl) ?_
  refine RQ.pv rfl (PV.mvI (.inl rfl) rfl) ?_
  refine RQ.pv rfl (PV.idxS (j := b.toNat) (v := v) rfl Is27 rfl (SlF.r h1) rfl (by omega) (by omega)) ?_
  refine RQ.pv rfl (PV.loadE1 rfl Sc66 rfl rfl (El.r h1 (getG (by omega))) rfl) ?_
  refine RQ.pv rfl (PV.move (v := v) rfl rfl) ?_
  refine RQ.pv rfl (PV.mvI (.inl rfl) rfl) ?_
  refine RQ.pv rfl (PV.idxS (j := a.toNat) (v := v) rfl Is27 rfl (SlF.r h1) rfl (by omega) (by omega)) ?_
  refine RQ.pv rfl (PV.loadE1 rfl Sc66 rfl rfl (El.r h1 (getG (by omega))) rfl) ?_
  refine RQ.callB (vs := [_, _]) rfl rfl rfl rfl (CB.up (hf b.toNat a.toNat (by omega) (by omega))) ?_
  refine RQ.pv rfl (PV.lss rfl rfl rfl) ?_
  refine RQ.nil ?_
  refine WP.cond rfl (fun h2 => ?_) (fun h2 => ?_)
  · exact absurd (of_decide_eq_true h2) (hs _ _ (by omega) (by omega))
  · refine WP.skip ?_
    refine WP.seq ?_
    refine WP.region ?_
    refine RG.pv rfl (PV.mvI (.inl rfl) rfl) ?_
    refine RG.pv rfl (PV.mvI (.inl rfl) rfl) ?_
    refine RG.pv rfl (PV.mvI (.inr rfl) rfl) ?_
    refine RG.pv rfl (PV.mvI (.inr rfl) rfl) ?_
    refine RG.nil ?_
    refine WP.ret ?_
    exact ⟨_, _, ResV.two rfl rfl rfl, Cv.p, k⟩
theorem median_rss {v fv p : Value} {xs : List (Sl Rect)} {a b c : Int} {cf : Nat → Nat → Int} (h1 : Rs G L slT v xs) (h0 : 0 ≤ a) (hab : a < b) (hbc : b < c) (hc : c < xs.length) (hf : ∀ i j, i < xs.length → j < xs.length → CB Tryz.prog G L fv [Sl.v (gd xs i), Sl.v (gd xs j)] (vi (cf i j))) (hs : ∀ i j, i < j → j < xs.length → ¬ cf j i < 0) (k : R (vi b) G L) : CallT Tryz.prog 237 #[v, vi a, vi b, vi c, p, fv] G L R := by
  refine CallT.bd h1 fun hbd => ?_
  refine CallT.enter (args := _) Tryz.func237 rfl rfl (by kernel_rfl) rfl ?_
  refine WP.seq ?_
  refine WP.region ?_
  refine RG.pv rfl (PV.mvI (.inr rfl) rfl) ?_
  refine RG.nil ?_
  refine WP.seq ?_
  refine WP.region ?_
  refine RG.pv rfl (PV.move (v := v) rfl rfl) ?_
  refine RG.pv rfl (PV.mvI (.inl rfl) rfl) ?_
  refine RG.pv rfl (PV.mvI (.inl rfl) rfl) ?_
  refine RG.pv rfl (PV.move (v := p) rfl rfl) ?_
  refine RG.pv rfl (PV.move (v := fv) rfl rfl) ?_
  refine RG.callF (vs := [v, _, _, p, fv]) rfl rfl En238 rfl (order2_rss (Rs.up h1) (by omega) (by omega) (by omega) (fun i j hi hj => (hf i j hi hj).up) hs ?_)
  refine RG.pv rfl (PV.move rfl rfl) ?_
  refine RG.pv rfl (PV.ext rfl rfl rfl) ?_
  refine RG.pv rfl (PV.ext rfl rfl rfl) ?_
  refine RG.pv rfl (PV.mvI (.inr rfl) rfl) ?_
  refine RG.pv rfl (PV.mvI (.inr rfl) rfl) ?_
  refine RG.nil ?_
  refine WP.seq ?_
  refine WP.region ?_
  refine RG.pv rfl (PV.move (v := v) rfl rfl) ?_
  refine RG.pv rfl (PV.mvI (.inl rfl) rfl) ?_
  refine RG.pv rfl (PV.mvI (.inl rfl) rfl) ?_
  refine RG.pv rfl (PV.move (v := p) rfl rfl) ?_
  refine RG.pv rfl (PV.move (v := fv) rfl rfl) ?_
  refine RG.callF (vs := [v, _, _, p, fv]) rfl rfl En238 rfl (order2_rss (Rs.up h1) (by omega) (by omega) (by omega) (fun i j hi hj => (hf i j hi hj).up) hs ?_)
  refine RG.pv rfl (PV.move rfl rfl) ?_
  refine RG.pv rfl (PV.ext rfl rfl rfl) ?_
  refine RG.pv rfl (PV.ext rfl rfl rfl) ?_
  refine RG.pv rfl (PV.mvI (.inr rfl) rfl) ?_
  refine RG.pv rfl (PV.mvI (.inr rfl) rfl) ?_
  refine RG.nil ?_
  refine WP.seq ?_
  refine WP.region ?_
  refine RG.pv rfl (PV.move (v := v) rfl rfl) ?_
  refine RG.pv rfl (PV.mvI (.inl rfl) rfl) ?_
  refine RG.pv rfl (PV.mvI (.inl rfl) rfl) ?_
  refine RG.pv rfl (PV.move (v := p) rfl rfl) ?_
  refine RG.pv rfl (PV.move (v := fv) rfl rfl) ?_
  refine RG.callF (vs := [v, _, _, p, fv]) rfl rfl En238 rfl (order2_rss (Rs.up h1) (by omega) (by omega) (by omega) (fun i j hi hj => (hf i j hi hj).up) hs ?_)
  refine RG.pv rfl (PV.move rfl rfl) ?_
  refine RG.pv rfl (PV.ext rfl rfl rfl) ?_
  refine RG.pv rfl (PV.ext rfl rfl rfl) ?_
  refine RG.pv rfl (PV.mvI (.inr rfl) rfl) ?_
  refine RG.pv rfl (PV.mvI (.inr rfl) rfl) ?_
  refine RG.nil ?_
  refine WP.seq ?_
  refine WP.region ?_
  refine RG.pv rfl (PV.mvI (.inl rfl) rfl) ?_
  refine RG.pv rfl (PV.mvI (.inr rfl) rfl) ?_
  refine RG.nil ?_
  refine WP.ret ?_
  exact ⟨_, _, ResV.one rfl rfl, Cv.p, k⟩
theorem medianAdj_rss {v fv p : Value} {xs : List (Sl Rect)} {a : Int} {cf : Nat → Nat → Int} (h1 : Rs G L slT v xs) (ha : 0 < a) (hc : a + 1 < xs.length) (hf : ∀ i j, i < xs.length → j < xs.length → CB Tryz.prog G L fv [Sl.v (gd xs i), Sl.v (gd xs j)] (vi (cf i j))) (hs : ∀ i j, i < j → j < xs.length → ¬ cf j i < 0) (k : R (vi a) G L) : CallT Tryz.prog 236 #[v, vi a, p, fv] G L R := by
  refine CallT.bd h1 fun hbd => ?_
  refine CallT.enter (args := _) Tryz.func236 rfl rfl (by kernel_rfl) rfl ?_
  refine WP.seq ?_
  refine WP.region ?_
  refine RG.pv rfl (PV.mvI (.inr rfl) rfl) ?_
  refine RG.nil ?_
  refine WP.seq ?_
  refine WP.region ?_
  refine RG.pv rfl (PV.move (v := v) rfl rfl) ?_
  refine RG.pv rfl (PV.mvI (.inl rfl) rfl) ?_
  refine RG.pv rfl (PV.sub rfl rfl rfl (by omega)) ?_
  refine RG.pv rfl (PV.mvI (.inl rfl) rfl) ?_
  refine RG.pv rfl (PV.mvI (.inl rfl) rfl) ?_
  refine RG.pv rfl (PV.add rfl rfl rfl (by omega)) ?_
  refine RG.pv rfl (PV.move (v := p) rfl rfl) ?_
  refine RG.pv rfl (PV.move (v := fv) rfl rfl) ?_
  refine RG.callF (vs := [v, _, _, _, p, fv]) rfl rfl En237 rfl (median_rss (Rs.up h1) (by omega) (by omega) (by omega) (by omega) (fun i j hi hj => (hf i j hi hj).up) hs ?_)
  refine RG.pv rfl (PV.mvI (.inr rfl) rfl) ?_
  refine RG.nil ?_
  refine WP.ret ?_
  exact ⟨_, _, ResV.one rfl rfl, Cv.p, k⟩
theorem choosePivot_rss {v fv : Value} {xs : List (Sl Rect)} {a b : Int} {cf : Nat → Nat → Int} (h1 : Rs G L slT v xs) (h0 : 0 ≤ a) (hab : 8 ≤ b - a) (hb : b ≤ xs.length) (hf : ∀ i j, i < xs.length → j < xs.length → CB Tryz.prog G L fv [Sl.v (gd xs i), Sl.v (gd xs j)] (vi (cf i j))) (hs : ∀ i j, i < j → j < xs.length → ¬ cf j i < 0) (k : ∀ p, R (.tuple #[vi p, vi 1]) G L) : CallT Tryz.prog 230 #[v, vi a, vi b, fv] G L R := by
  refine CallT.bd h1 fun hbd => ?_
  refine CallT.enter (args := _) Tryz.func230 rfl rfl (by kernel_rfl) rfl ?_
  refine WP.seq ?_
  refine WP.region ?_
  refine RG.pv rfl (PV.mvI (.inr rfl) rfl) ?_
  refine RG.pv rfl (PV.mvI (.inr rfl) rfl) ?_
  refine RG.nil ?_
  refine WP.seq ?_
  refine WP.region ?_
  refine RG.pv rfl (PV.mvI (.inl rfl) rfl) ?_
  refine RG.pv rfl (PV.mvI (.inl rfl) rfl) ?_
  refine RG.pv rfl (PV.sub rfl rfl rfl (by omega)) ?_
  refine RG.pv rfl (PV.mvI (.inr rfl) rfl) ?_
  refine RG.nil ?_
  refine WP.seq ?_
  refine WP.region ?_
  refine RG.ot rfl (OT.alloc rfl Zr3 fun b11 => ?_)
  refine RG.nil ?_
  refine WP.seq ?_
  refine WP.region ?_
  refine RG.pv rfl (PV.mvI (.inl rfl) rfl) ?_
  refine RG.pv rfl (PV.mvI (.inl rfl) rfl) ?_
  refine RG.pv rfl (PV.quo rfl rfl rfl (by omega) (by omega) (by omega)) ?_
  refine RG.pv rfl (PV.mul rfl rfl rfl (by omega)) ?_
  refine RG.pv rfl (PV.add rfl rfl rfl (by omega)) ?_
  refine RG.pv rfl (PV.mvI (.inr rfl) rfl) ?_
  refine RG.nil ?_
  refine WP.seq ?_
  refine WP.region ?_
  refine RG.pv rfl (PV.mvI (.inl rfl) rfl) ?_
  refine RG.pv rfl (PV.mvI (.inl rfl) rfl) ?_
  refine RG.pv rfl (PV.quo rfl rfl rfl (by omega) (by omega) (by omega)) ?_
  refine RG.pv rfl (PV.mul rfl rfl rfl (by omega)) ?_
  refine RG.pv rfl (PV.add rfl rfl rfl (by omega)) ?_
  refine RG.pv rfl (PV.mvI (.inr rfl) rfl) ?_
  refine RG.nil ?_
  refine WP.seq ?_
  refine WP.region ?_
  refine RG.pv rfl (PV.mvI (.inl rfl) rfl) ?_
  refine RG.pv rfl (PV.mvI (.inl rfl) rfl) ?_
  refine RG.pv rfl (PV.quo rfl rfl rfl (by omega) (by omega) (by omega)) ?_
  refine RG.pv rfl (PV.mul rfl rfl rfl (by omega)) ?_
  refine RG.pv rfl (PV.add rfl rfl rfl (by omega)) ?_
  refine RG.pv rfl (PV.mvI (.inr rfl) rfl) ?_
  refine RG.nil ?_
  refine WP.seq ?_
  refine WP.seq ?_
  refine WP.region ?_
  refine RG.pv rfl (PV.mvI (.inl rfl) rfl) ?_
  refine RG.pv rfl (PV.geq rfl rfl rfl) ?_
  refine RG.nil ?_
  refine WP.cond rfl (fun h2 => ?_) (fun h2 => ?_)
  · refine WP.seq ?_
    refine WP.seq ?_
    refine WP.region ?_
    refine RG.pv rfl (PV.mvI (.inl rfl) rfl) ?_
    refine RG.pv rfl (PV.geq rfl rfl rfl) ?_
    refine RG.nil ?_
    refine WP.cond rfl (fun h3 => ?_) (fun h3 => ?_)
    · have h3 := of_decide_eq_true h3
      refine WP.seq ?_
      refine WP.region ?_
      refine RG.pv rfl (PV.move (v := v) rfl rfl) ?_
      refine RG.pv rfl (PV.mvI (.inl rfl) rfl) ?_
      refine RG.pv rfl (PV.move (v := fv) rfl rfl) ?_
      refine RG.callF (vs := [v, _, _, fv]) rfl rfl En236 rfl (medianAdj_rss (Rs.up h1) (by omega) (by omega) (fun i j hi hj => (hf i j hi hj).up) hs ?_)
      refine RG.pv rfl (PV.mvI (.inr rfl) rfl) ?_
      refine RG.nil ?_
      refine WP.seq ?_
      refine WP.region ?_
      refine RG.pv rfl (PV.move (v := v) rfl rfl) ?_
      refine RG.pv rfl (PV.mvI (.inl rfl) rfl) ?_
      refine RG.pv rfl (PV.move (v := fv) rfl rfl) ?_
      refine RG.callF (vs := [v, _, _, fv]) rfl rfl En236 rfl (medianAdj_rss (Rs.up h1) (by omega) (by omega) (fun i j hi hj => (hf i j hi hj).up) hs ?_)
      refine RG.pv rfl (PV.mvI (.inr rfl) rfl) ?_
      refine RG.nil ?_
      refine WP.region ?_
      refine RG.pv rfl (PV.move (v := v) rfl rfl) ?_
      refine RG.pv rfl (PV.mvI (.inl rfl) rfl) ?_
      refine RG.pv rfl (PV.move (v := fv) rfl rfl) ?_
      refine RG.callF (vs := [v, _, _, fv]) rfl rfl En236 rfl (medianAdj_rss (Rs.up h1) (by omega) (by omega) (fun i j hi hj => (hf i j hi hj).up) hs ?_)
      refine RG.pv rfl (PV.mvI (.inr rfl) rfl) ?_
      refine RG.nil ?_
      refine WP.region ?_
      refine RG.pv rfl (PV.move (v := v) rfl rfl) ?_
      refine RG.pv rfl (PV.mvI (.inl rfl) rfl) ?_
      refine RG.pv rfl (PV.mvI (.inl rfl) rfl) ?_
      refine RG.pv rfl (PV.mvI (.inl rfl) rfl) ?_
      refine RG.pv rfl (PV.move (v := fv) rfl rfl) ?_
      refine RG.callF (vs := [v, _, _, _, _, fv]) rfl rfl En237 rfl (median_rss (Rs.up h1) (by omega) (by omega) (by omega) (by omega) (fun i j hi hj => (hf i j hi hj).up) hs ?_)
      refine RG.pv rfl (PV.mvI (.inr rfl) rfl) ?_
      refine RG.nil ?_
      refine WP.seq ?_
      refine WP.region ?_
      refine RG.pv rfl (PV.load1 rfl Sc3 rfl (Rd.blk rfl)) ?_
      refine RG.nil ?_
      refine WP.block ?_
      refine WP.seq ?_
      refine WP.region ?_
      refine RG.pv rfl (PV.eql rfl rfl rfl) ?_
      refine RG.pv rfl (PV.mvB (.inr rfl) rfl) ?_
      refine RG.nil ?_
      refine WP.cond rfl (fun h4 => ?_) (fun h4 => ?_)
      · refine WP.seq ?_
        refine WP.region ?_
        refine RG.pv rfl (PV.mvI (.inl rfl) rfl) ?_
        refine RG.pv rfl (PV.mvI (.inr rfl) rfl) ?_
        refine RG.pv rfl (PV.mvI (.inr rfl) rfl) ?_
        refine RG.nil ?_
        refine WP.ret ?_
        exact ⟨_, _, ResV.two rfl rfl rfl, Cv.p, k _⟩
      · skip
        exact absurd h4 (by decide)
    · refine WP.skip ?_
      refine WP.region ?_
      refine RG.pv rfl (PV.move (v := v) rfl rfl) ?_
      refine RG.pv rfl (PV.mvI (.inl rfl) rfl) ?_
      refine RG.pv rfl (PV.mvI (.inl rfl) rfl) ?_
      refine RG.pv rfl (PV.mvI (.inl rfl) rfl) ?_
      refine RG.pv rfl (PV.move (v := fv) rfl rfl) ?_
      refine RG.callF (vs := [v, _, _, _, _, fv]) rfl rfl En237 rfl (median_rss (Rs.up h1) (by omega) (by omega) (by omega) (by omega) (fun i j hi hj => (hf i j hi hj).up) hs ?_)
      refine RG.pv rfl (PV.mvI (.inr rfl) rfl) ?_
      refine RG.nil ?_
      refine WP.seq ?_
      refine WP.region ?_
      refine RG.pv rfl (PV.load1 rfl Sc3 rfl (Rd.blk rfl)) ?_
      refine RG.nil ?_
      refine WP.block ?_
      refine WP.seq ?_
      refine WP.region ?_
      refine RG.pv rfl (PV.eql rfl rfl rfl) ?_
      refine RG.pv rfl (PV.mvB (.inr rfl) rfl) ?_
      refine RG.nil ?_
      refine WP.cond rfl (fun h4 => ?_) (fun h4 => ?_)
      · refine WP.seq ?_
        refine WP.region ?_
        refine RG.pv rfl (PV.mvI (.inl rfl) rfl) ?_
        refine RG.pv rfl (PV.mvI (.inr rfl) rfl) ?_
        refine RG.pv rfl (PV.mvI (.inr rfl) rfl) ?_
        refine RG.nil ?_
        refine WP.ret ?_
        exact ⟨_, _, ResV.two rfl rfl rfl, Cv.p, k _⟩
      · skip
        exact absurd h4 (by decide)
  · exact absurd (of_decide_eq_false h2) (by omega)
theorem insertion_rss {v fv : Value} {xs : List (Sl Rect)} {a b : Int} {cf : Nat → Nat → Int} (hl : xs.length ≤ 1000000) (h1 : Rs G L slT v xs) (h0 : 0 ≤ a) (hab : a ≤ b) (hb : b ≤ xs.length) (hf : ∀ i j, i < xs.length → j < xs.length → CB Tryz.prog G L fv [Sl.v (gd xs i), Sl.v (gd xs j)] (vi (cf i j))) (hs : ∀ i j, i < j → j < xs.length → ¬ cf j i < 0) (k : R (.tuple #[]) G L) : CallT Tryz.prog 227 #[v, vi a, vi b, fv] G L R := by
  refine CallT.bd h1 fun hbd => ?_
  refine CallT.enter (args := _) Tryz.func227 rfl rfl (by kernel_rfl) rfl ?_
  refine WP.seq ?_
  refine WP.region ?_
  refine RG.pv rfl (PV.mvI (.inl rfl) rfl) ?_
  refine RG.pv rfl (PV.add rfl rfl rfl (by omega)) ?_
  refine RG.pv rfl (PV.mvI (.inr rfl) rfl) ?_
  refine RG.nil ?_
  refine WP.block ?_
  refine WP.loop1 [0, 1, 2, 3] (fun (i : Int) => a + 1 ≤ i) (fun (i : Int) => [(8, vi i)]) (fun (i : Int) => L) (fun (i : Int) => (b - i).toNat) (a + 1) (by omega) ⟨rfl, trivial⟩ Cv.p ?_
  rintro i τ hi
  refine WP.seq ?_
  refine WP.seq ?_
  refine WP.region ?_
  refine RG.pv rfl (PV.mvI (.inl rfl) rfl) ?_
  refine RG.pv rfl (PV.mvI (.inl rfl) rfl) ?_
  refine RG.pv rfl (PV.lss rfl rfl rfl) ?_
  refine RG.nil ?_
  refine WP.cond rfl (fun h2 => ?_) (fun h2 => ?_)
  · have h2 := of_decide_eq_true h2
    refine WP.skip ?_
    refine WP.seq ?_
    refine WP.block ?_
    refine WP.seq ?_
    refine WP.region ?_
    refine RG.pv rfl (PV.mvI (.inl rfl) rfl) ?_
    refine RG.pv rfl (PV.mvI (.inr rfl) rfl) ?_
    refine RG.nil ?_
    refine WP.block ?_
    refine WP.loop1 [0, 1, 2, 3, 8] (fun (u : Unit) => True) (fun (u : Unit) => [(9, vi i)]) (fun (u : Unit) => L) (fun (u : Unit) => 0) () trivial ⟨rfl, trivial⟩ Cv.p ?_
    rintro _u τ1 _
    refine WP.seq ?_
    refine WP.seq ?_
    refine WP.regionQ (by kernel_rfl) (by kernel_rfl) ?_
    refine RQ.pv rfl (PV.mvI (.inl rfl) rfl) ?_
    refine RQ.pv rfl (PV.mvI (.inl rfl) rfl) ?_
    refine RQ.pv rfl (PV.gtr rfl rfl rfl) ?_
    refine RQ.pv rfl (PV.mvB (.inl rfl) rfl) ?_
    refine RQ.gs rfl rfl rfl (fun hp => (PV.move (v := fv) rfl rfl)) ?_
    refine RQ.gs rfl rfl rfl (fun hp => (PV.move (v := v) rfl rfl)) ?_
    refine RQ.gs rfl rfl rfl (fun hp => (PV.mvI (.inl rfl) rfl)) ?_
    refine RQ.gs rfl rfl rfl (fun hp => (PV.idxS (j := i.toNat) (v := v) rfl Is27 (gs_t hp) (SlF.r h1) (gs_t hp) (by first | omega | (simp at hp; omega)) (by first | omega | (simp at hp; omega)))) ?_
    refine RQ.gs rfl rfl rfl (fun hp => (PV.loadE1 rfl Sc66 (gs_t hp) rfl (El.r h1 (getG (by first | omega | (simp at hp; omega)))) rfl)) ?_
    refine RQ.gs rfl rfl rfl (fun hp => (PV.move (v := v) rfl rfl)) ?_
    refine RQ.gs rfl rfl rfl (fun hp => (PV.mvI (.inl rfl) rfl)) ?_
    refine RQ.gs rfl rfl rfl (fun hp => (PV.sub rfl (gs_t hp) rfl (by first | omega | (simp at hp; omega)))) ?_
    refine RQ.gs rfl rfl rfl (fun hp => (PV.idxS (j := (i - 1).toNat) (v := v) rfl Is27 (gs_t hp) (SlF.r h1) (gs_t hp) (by first | omega | (simp at hp; omega)) (by first | omega | (simp at hp; omega)))) ?_
    refine RQ.gs rfl rfl rfl (fun hp => (PV.loadE1 rfl Sc66 (gs_t hp) rfl (El.r h1 (getG (by first | omega | (simp at hp; omega)))) rfl)) ?_
    refine RQ.gsB rfl rfl rfl rfl (fun hp => ⟨(gs_t hp), _, (acons (gs_t hp) (acons (gs_t hp) anil)), CB.up (hf i.toNat (i - 1).toNat (by omega) (by omega))⟩) ?_
    refine RQ.gs rfl rfl rfl (fun hp => (PV.lss rfl (gs_t hp) rfl)) ?_
    refine RQ.pv rfl (PV.pickA rfl rfl (fun hq => gs_t (geqT hq)) rfl) ?_
    refine RQ.nil ?_
    refine WP.cond rfl (fun h3 => ?_) (fun h3 => ?_)
    · have h4 := hs (i - 1).toNat i.toNat (by omega) (by omega)
      simp only [Bool.and_eq_true, decide_eq_true_eq] at h3
      exact absurd h3.2 h4
    · refine WP.exit ?_
      refine WP.region ?_
      refine RG.pv rfl (PV.mvI (.inl rfl) rfl) ?_
      refine RG.pv rfl (PV.add rfl rfl rfl (by omega)) ?_
      refine RG.pv rfl (PV.mvI (.inr rfl) rfl) ?_
      refine RG.nil ?_
      exact ⟨rfl, i + 1, (by omega), ⟨rfl, trivial⟩, ⟨rfl, rfl, rfl, rfl, trivial⟩, Cv.p, by omega⟩
  · have h2 := of_decide_eq_false h2
    refine WP.exit ?_
    exact ⟨_, _, ResV.zero rfl, Cv.p, k⟩
theorem partialIns_rss {v fv : Value} {xs : List (Sl Rect)} {a b : Int} {cf : Nat → Nat → Int} (h1 : Rs G L slT v xs) (h0 : 0 ≤ a) (hab : a < b) (hb : b ≤ xs.length) (hf : ∀ i j, i < xs.length → j < xs.length → CB Tryz.prog G L fv [Sl.v (gd xs i), Sl.v (gd xs j)] (vi (cf i j))) (hs : ∀ i j, i < j → j < xs.length → ¬ cf j i < 0) (k : R (.bool true) G L) : CallT Tryz.prog 232 #[v, vi a, vi b, fv] G L R := by
  refine CallT.bd h1 fun hbd => ?_
  refine CallT.enter (args := _) Tryz.func232 rfl rfl (by kernel_rfl) rfl ?_
  refine WP.seq ?_
  refine WP.region ?_
  refine RG.pv rfl (PV.mvB (.inr rfl) rfl) ?_
  refine RG.nil ?_
  refine WP.seq ?_
  refine WP.region ?_
  refine RG.pv rfl (PV.mvI (.inl rfl) rfl) ?_
  refine RG.pv rfl (PV.add rfl rfl rfl (by omega)) ?_
  refine RG.pv rfl (PV.mvI (.inr rfl) rfl) ?_
  refine RG.nil ?_
  refine WP.seq ?_
  refine WP.seq ?_
  refine WP.region ?_
  refine RG.pv rfl (PV.mvI (.inr rfl) rfl) ?_
  refine RG.nil ?_
  refine WP.block ?_
  refine WP.loop1 [0, 1, 2, 3] (fun (u : Unit) => True) (fun (u : Unit) => [(9, vi (a + 1)), (10, vi 0)]) (fun (u : Unit) => L) (fun (u : Unit) => 0) () trivial ⟨rfl, rfl, trivial⟩ Cv.p ?_
  rintro _u τ _
  refine WP.seq ?_
  refine WP.seq ?_
  refine WP.region ?_
  refine RG.pv rfl (PV.mvI (.inl rfl) rfl) ?_
  refine RG.pv rfl (PV.lss rfl rfl rfl) ?_
  refine RG.nil ?_
  refine WP.cond rfl (fun h2 => ?_) (fun h2 => ?_)
  · refine WP.skip ?_
    refine WP.seq ?_
    refine WP.block ?_
    refine WP.seq ?_
    refine WP.block ?_
    refine WP.loop1 [0, 1, 2, 3, 10] (fun (i : Int) => a + 1 ≤ i ∧ i ≤ b) (fun (i : Int) => [(9, vi i)]) (fun (i : Int) => L) (fun (i : Int) => (b - i).toNat) (a + 1) (by omega) ⟨rfl, trivial⟩ Cv.p ?_
    rintro i τ1 hi
    refine WP.seq ?_
    refine WP.seq ?_
    refine WP.regionQ (by kernel_rfl) (by kernel_rfl) ?_
    refine RQ.pv rfl (PV.mvI (.inl rfl) rfl) ?_
    refine RQ.pv rfl (PV.mvI (.inl rfl) rfl) ?_
    refine RQ.pv rfl (PV.lss rfl rfl rfl) ?_
    refine RQ.pv rfl (PV.mvB (.inl rfl) rfl) ?_
    refine RQ.gs rfl rfl rfl (fun hp => (PV.move (v := fv) rfl rfl)) ?_
    refine RQ.gs rfl rfl rfl (fun hp => (PV.move (v := v) rfl rfl)) ?_
    refine RQ.gs rfl rfl rfl (fun hp => (PV.mvI (.inl rfl) rfl)) ?_
    refine RQ.gs rfl rfl rfl (fun hp => (PV.idxS (j := i.toNat) (v := v) rfl Is27 (gs_t hp) (SlF.r h1) (gs_t hp) (by first | omega | (simp at hp; omega)) (by first | omega | (simp at hp; omega)))) ?_
    refine RQ.gs rfl rfl rfl (fun hp => (PV.loadE1 rfl Sc66 (gs_t hp) rfl (El.r h1 (getG (by first | omega | (simp at hp; omega)))) rfl)) ?_
    refine RQ.gs rfl rfl rfl (fun hp => (PV.move (v := v) rfl rfl)) ?_
    refine RQ.gs rfl rfl rfl (fun hp => (PV.mvI (.inl rfl) rfl)) ?_
    refine RQ.gs rfl rfl rfl (fun hp => (PV.sub rfl (gs_t hp) rfl (by first | omega | (simp at hp; omega)))) ?_
    refine RQ.gs rfl rfl rfl (fun hp => (PV.idxS (j := (i - 1).toNat) (v := v) rfl Is27 (gs_t hp) (SlF.r h1) (gs_t hp) (by first | omega | (simp at hp; omega)) (by first | omega | (simp at hp; omega)))) ?_
    refine RQ.gs rfl rfl rfl (fun hp => (PV.loadE1 rfl Sc66 (gs_t hp) rfl (El.r h1 (getG (by first | omega | (simp at hp; omega)))) rfl)) ?_
    refine RQ.gsB rfl rfl rfl rfl (fun hp => ⟨(gs_t hp), _, (acons (gs_t hp) (acons (gs_t hp) anil)), CB.up (hf i.toNat (i - 1).toNat (by simp at hp; omega) (by simp at hp; omega))⟩) ?_
    refine RQ.gs rfl rfl rfl (fun hp => (PV.lss rfl (gs_t hp) rfl)) ?_
    refine RQ.gs rfl rfl rfl (fun hp => (PV.not rfl (gs_t hp))) ?_
    refine RQ.pv rfl (PV.pickA rfl rfl (fun hq => gs_t (geqT hq)) rfl) ?_
    refine RQ.nil ?_
    refine WP.cond rfl (fun h3 => ?_) (fun h3 => ?_)
    · have h4 : i < b := by simp at h3; omega
      refine WP.skip ?_
      refine WP.block ?_
      refine WP.region ?_
      refine RG.pv rfl (PV.mvI (.inl rfl) rfl) ?_
      refine RG.pv rfl (PV.add rfl rfl rfl (by omega)) ?_
      refine RG.pv rfl (PV.mvI (.inr rfl) rfl) ?_
      refine RG.nil ?_
      exact ⟨rfl, i + 1, (by omega), ⟨rfl, trivial⟩, ⟨rfl, rfl, rfl, rfl, rfl, trivial⟩, Cv.p, by omega⟩
    · have h4 : i = b := by
        by_cases e : i < b
        · have h4 := hs (i - 1).toNat i.toNat (by omega) (by omega)
          simp only [Bool.and_eq_false_iff, decide_eq_false_iff_not, Bool.not_eq_false', decide_eq_true_eq] at h3
          omega
        · omega
      subst h4
      refine WP.exit ?_
      refine WP.seq ?_
      refine WP.seq ?_
      refine WP.region ?_
      refine RG.pv rfl (PV.mvI (.inl rfl) rfl) ?_
      refine RG.pv rfl (PV.mvI (.inl rfl) rfl) ?_
      refine RG.pv rfl (PV.eql rfl rfl rfl) ?_
      refine RG.nil ?_
      refine WP.cond rfl (fun h5 => ?_) (fun h5 => ?_)
      · refine WP.seq ?_
        refine WP.region ?_
        refine RG.pv rfl (PV.mvB (.inr rfl) rfl) ?_
        refine RG.nil ?_
        refine WP.ret ?_
        exact ⟨_, _, ResV.one rfl rfl, Cv.p, k⟩
      · simp at h5
  · exact absurd h2 (by decide)
theorem pdq_rss {v fv : Value} {xs : List (Sl Rect)} {n l : Int} {cf : Nat → Nat → Int} (hl : xs.length ≤ 1000000) (h1 : Rs G L slT v xs) (hn : n = xs.length) (hl0 : 12 < n → l ≠ 0) (hf : ∀ i j, i < xs.length → j < xs.length → CB Tryz.prog G L fv [Sl.v (gd xs i), Sl.v (gd xs j)] (vi (cf i j))) (hs : ∀ i j, i < j → j < xs.length → ¬ cf j i < 0) (k : R (.tuple #[]) G L) : CallT Tryz.prog 223 #[v, vi 0, vi n, vi l, fv] G L R := by
  refine CallT.bd h1 fun hbd => ?_
  refine CallT.enter (args := _) Tryz.func223 rfl rfl (by kernel_rfl) rfl ?_
  refine WP.seq ?_
  refine WP.region ?_
  refine RG.pv rfl (PV.mvB (.inr rfl) rfl) ?_
  refine RG.nil ?_
  refine WP.seq ?_
  refine WP.region ?_
  refine RG.pv rfl (PV.mvB (.inr rfl) rfl) ?_
  refine RG.nil ?_
  refine WP.block ?_
  refine WP.loop1 [0, 4] (fun (u : Unit) => True) (fun (u : Unit) => [(1, vi 0), (2, vi n), (3, vi l), (10, .bool true), (11, .bool true)]) (fun (u : Unit) => L) (fun (u : Unit) => 0) () trivial ⟨rfl, rfl, rfl, rfl, rfl, trivial⟩ Cv.p ?_
  rintro _u τ _
  refine WP.block ?_
  refine WP.seq ?_
  refine WP.region ?_
  refine RG.pv rfl (PV.mvI (.inl rfl) rfl) ?_
  refine RG.pv rfl (PV.mvI (.inl rfl) rfl) ?_
  refine RG.pv rfl (PV.sub rfl rfl rfl (by omega)) ?_
  refine RG.pv rfl (PV.mvI (.inr rfl) rfl) ?_
  refine RG.nil ?_
  refine WP.seq ?_
  refine WP.seq ?_
  refine WP.region ?_
  refine RG.pv rfl (PV.mvI (.inl rfl) rfl) ?_
  refine RG.pv rfl (PV.leq rfl rfl rfl) ?_
  refine RG.nil ?_
  refine WP.cond rfl (fun h2 => ?_) (fun h2 => ?_)
  · have h2 := of_decide_eq_true h2
    refine WP.seq ?_
    refine WP.region ?_
    refine RG.pv rfl (PV.move (v := v) rfl rfl) ?_
    refine RG.pv rfl (PV.mvI (.inl rfl) rfl) ?_
    refine RG.pv rfl (PV.mvI (.inl rfl) rfl) ?_
    refine RG.pv rfl (PV.move (v := fv) rfl rfl) ?_
    refine RG.callF (vs := [v, _, _, fv]) rfl rfl En227 rfl (insertion_rss hl (Rs.up h1) (by omega) (by omega) (by omega) (fun i j hi hj => (hf i j hi hj).up) hs ?_)
    refine RG.nil ?_
    refine WP.ret ?_
    exact ⟨_, _, ResV.zero rfl, Cv.p, k⟩
  · have h2 := of_decide_eq_false h2
    refine WP.skip ?_
    refine WP.seq ?_
    refine WP.seq ?_
    refine WP.region ?_
    refine RG.pv rfl (PV.mvI (.inl rfl) rfl) ?_
    refine RG.pv rfl (PV.eql rfl rfl rfl) ?_
    refine RG.nil ?_
    refine WP.cond rfl (fun h3 => ?_) (fun h3 => ?_)
    · exact absurd (of_decide_eq_true h3) (hl0 (by omega))
    · refine WP.skip ?_
      refine WP.seq ?_
      refine WP.seq ?_
      refine WP.region ?_
      refine RG.pv rfl (PV.mvB (.inl rfl) rfl) ?_
      refine RG.pv rfl (PV.not rfl rfl) ?_
      refine RG.nil ?_
      refine WP.cond rfl (fun h4 => ?_) (fun h4 => ?_)
      · exact absurd h4 (by decide)
      · refine WP.skip ?_
        refine WP.seq ?_
        refine WP.region ?_
        refine RG.pv rfl (PV.move (v := v) rfl rfl) ?_
        refine RG.pv rfl (PV.mvI (.inl rfl) rfl) ?_
        refine RG.pv rfl (PV.mvI (.inl rfl) rfl) ?_
        refine RG.pv rfl (PV.move (v := fv) rfl rfl) ?_
        refine RG.callF (vs := [v, _, _, fv]) rfl rfl En230 rfl (choosePivot_rss (Rs.up h1) (by omega) (by omega) (by omega) (fun i j hi hj => (hf i j hi hj).up) hs (fun pw52 => ?_))
        refine RG.pv rfl (PV.move (v := .tuple _) rfl rfl) ?_
        refine RG.pv rfl (PV.ext rfl rfl rfl) ?_
        refine RG.pv rfl (PV.ext rfl rfl rfl) ?_
        refine RG.pv rfl (PV.mvI (.inr rfl) rfl) ?_
        refine RG.pv rfl (PV.mvI (.inr rfl) rfl) ?_
        refine RG.nil ?_
        refine WP.seq ?_
        refine WP.seq ?_
        refine WP.region ?_
        refine RG.pv rfl (PV.mvI (.inl rfl) rfl) ?_
        refine RG.pv rfl (PV.eql rfl rfl rfl) ?_
        refine RG.nil ?_
        refine WP.cond rfl (fun h5 => ?_) (fun h5 => ?_)
        · exact absurd h5 (by decide)
        · refine WP.skip ?_
          refine WP.seq ?_
          refine WP.seq ?_
          refine WP.region ?_
          refine RG.pv rfl (PV.mvB (.inl rfl) rfl) ?_
          refine RG.pv rfl (PV.mvB (.inl rfl) rfl) ?_
          refine RG.gs rfl rfl rfl (fun hp => (PV.mvB (.inl rfl) rfl)) ?_
          refine RG.pv rfl (PV.pickA rfl rfl (fun hq => gs_t (geqT hq)) rfl) ?_
          refine RG.pv rfl (PV.mvB (.inl rfl) rfl) ?_
          refine RG.gs rfl rfl rfl (fun hp => (PV.mvI (.inl rfl) rfl)) ?_
          refine RG.gs rfl rfl rfl (fun hp => (PV.eql rfl (gs_t hp) rfl)) ?_
          refine RG.pv rfl (PV.pickA rfl rfl (fun hq => gs_t (geqT hq)) rfl) ?_
          refine RG.nil ?_
          refine WP.cond rfl (fun h6 => ?_) (fun h6 => ?_)
          · refine WP.seq ?_
            refine WP.region ?_
            refine RG.pv rfl (PV.move (v := v) rfl rfl) ?_
            refine RG.pv rfl (PV.mvI (.inl rfl) rfl) ?_
            refine RG.pv rfl (PV.mvI (.inl rfl) rfl) ?_
            refine RG.pv rfl (PV.move (v := fv) rfl rfl) ?_
            refine RG.callF (vs := [v, _, _, fv]) rfl rfl En232 rfl (partialIns_rss (Rs.up h1) (by omega) (by omega) (by omega) (fun i j hi hj => (hf i j hi hj).up) hs ?_)
            refine RG.nil ?_
            refine WP.cond rfl (fun h7 => ?_) (fun h7 => ?_)
            · refine WP.ret ?_
              exact ⟨_, _, ResV.zero rfl, Cv.p, k⟩
            · skip
              exact absurd h7 (by decide)
          · exact absurd h6 (by decide)
theorem sorted_rss {v fv : Value} {xs : List (Sl Rect)} {cf : Nat → Nat → Int} (hl : xs.length ≤ 6400) (h1 : Rs G L slT v xs) (hf : ∀ i j, i < xs.length → j < xs.length → CB Tryz.prog G L fv [Sl.v (gd xs i), Sl.v (gd xs j)] (vi (cf i j))) (hs : ∀ i j, i < j → j < xs.length → ¬ cf j i < 0) (k : R (.tuple #[]) G L) : CallT Tryz.prog 215 #[v, fv] G L R := by
  refine CallT.bd h1 fun hbd => ?_
  refine CallT.enter (args := _) Tryz.func215 rfl rfl (by kernel_rfl) rfl ?_
  refine WP.seq ?_
  refine WP.region ?_
  refine RG.pv rfl (PV.move (v := v) rfl rfl) ?_
  refine RG.pv rfl (PV.len (v := v) rfl Tryz.underlying27 rfl (SlF.r h1)) ?_
  refine RG.pv rfl (PV.mvI (.inr rfl) rfl) ?_
  refine RG.nil ?_
  refine WP.region ?_
  refine RG.pv rfl (PV.move (v := v) rfl rfl) ?_
  refine RG.pv rfl (PV.mvI (.inl rfl) rfl) ?_
  refine RG.pv rfl (PV.mvI (.inl rfl) rfl) ?_
  refine RG.pv rfl (PV.conv rfl ⟨_, Tryz.underlying3⟩ Tryz.underlying162 rfl rfl) ?_
  refine RG.callF (vs := [_]) rfl rfl En117 rfl (bitsLen_s (by rw [u64w (by omega)]; omega) (fun lw11 hl0w11 => ?_))
  refine RG.pv rfl (PV.move (v := fv) rfl rfl) ?_
  refine RG.callF (vs := [v, _, _, _, fv]) rfl rfl En223 rfl (pdq_rss (by omega) (Rs.up h1) rfl (fun h => hl0w11 (by rw [u64w (by omega)]; omega)) (fun i j hi hj => (hf i j hi hj).up) hs ?_)
  refine RG.nil ?_
  exact ⟨_, _, ResV.zero rfl, Cv.p, k⟩
end Go.Proofs.YthjaopefoiploaaGreat
