/-
  Contracts of functions and plain facts that the last text of this folder uses, part 3.
-/
import Derived.Test.YtmomfgfmnpblpaaGreatCA2
namespace Go.Proofs.YtmomfgfmnpblpaaGreat
set_option linter.unusedVariables false
set_option linter.unusedSimpArgs false
open Go
set_option maxRecDepth 20000
set_option linter.unusedSimpArgs false
section
variable {P : Program} {n : Nat} {ops : Array Oper} {rest : List Oper} {Q : Post} {σ : Nat → Value} {G : Gh} {L : List Ch} {o : Oper}
theorem RQ.gsB {j t : Nat} {want p : Bool} {b fv : Value} {fo : Operand} {l : List Operand} {ats : Array TypeId} (hg : o.guard = some (j, want)) (hj : (ops[j]?).bind (·.dst) = some t) (hb : σ t = .bool p)
    (ho : o.op = .call { callee := .value fo, args := l.toArray, argTypes := ats })
    (h : (p == want) = true → ev σ fo = fv ∧ ∃ vs, cargs σ l = vs ∧ CB P G L fv vs b) (k : RQ P n ops rest Q (updo σ o.dst (gv (p == want) b)) G L) : RQ P n ops (o :: rest) Q σ G L :=
  RQ.gsK hg hj hb (fun e k => by obtain ⟨hf, vs, ha, hc⟩ := h e; exact RQ.callB rfl ho hf ha hc k) k
end
variable {G : Gh} {L : List Ch} {R : Value → Gh → List Ch → Prop}
theorem PV.shr {P : Program} {o : Oper} {σ : Nat → Value} {G : Gh} {L : List Ch} {T T' : TypeId} {x y : Operand} {k k' : IntKind} {a b : Int} (ho : o.op = .binOp .shr T x y T') (hx : ev σ x = .int k a) (hy : ev σ y = .int k' b) (h0 : 0 ≤ b) (h1 : b ≤ k.bits) : PV P o σ G L (.int k (a / 2 ^ b.toNat)) := by
  intro w _
  simp [execOp, ho, hx, hy, eqGuard, binOp, shift_shr k k' a b h0 h1]
theorem u64w {a : Int} (h : 0 ≤ a ∧ a ≤ 18446744073709551615) : IntKind.u64.wrap a = a := by simp [IntKind.wrap, IntKind.bits, IntKind.signed]; omega
theorem u8w {a : Int} (h : 0 ≤ a ∧ a ≤ 255) : IntKind.u8.wrap a = a := by simp [IntKind.wrap, IntKind.bits, IntKind.signed]; omega
theorem u8i (c : UInt8) : IntKind.i64.wrap (c.toNat : Int) = c.toNat := i64w (by have := c.toNat_lt; omega)
theorem u8add {a : Int} {c : UInt8} (h : 0 ≤ a ∧ a ≤ 1000) : -9223372036854775808 ≤ a + (c.toNat : Int) ∧ a + (c.toNat : Int) ≤ 9223372036854775807 := by have := c.toNat_lt; omega
theorem bitsLen64_s {a : Int} (ha : 0 ≤ a ∧ a ≤ 6400) (k : ∀ l : Int, (a ≠ 0 → l ≠ 0) → R (vi l) G L) : CallT Tryz.prog 164 #[.int .u64 a] G L R := by
  refine CallT.enter (args := _) Tryz.func164 rfl rfl (by kernel_rfl) rfl ?_
  refine WP.seq ?_
  refine WP.region ?_
  refine RG.pv rfl (PV.mvI (.inr rfl) rfl) ?_
  refine RG.nil ?_
  refine WP.seq ?_
  refine WP.seq ?_
  refine WP.region ?_
  refine RG.pv rfl (PV.mvI (.inl rfl) rfl) ?_
  refine RG.pv rfl (PV.geq rfl rfl rfl) ?_
  refine RG.nil ?_
  refine WP.cond rfl (fun h2 => ?_) (fun h2 => ?_)
  · have h2 := of_decide_eq_true h2
    omega
  · refine WP.skip ?_
    refine WP.seq ?_
    refine WP.seq ?_
    refine WP.region ?_
    refine RG.pv rfl (PV.mvI (.inl rfl) rfl) ?_
    refine RG.pv rfl (PV.geq rfl rfl rfl) ?_
    refine RG.nil ?_
    refine WP.cond rfl (fun h3 => ?_) (fun h3 => ?_)
    · have h3 := of_decide_eq_true h3
      omega
    · refine WP.skip ?_
      refine WP.seq ?_
      refine WP.seq ?_
      refine WP.region ?_
      refine RG.pv rfl (PV.mvI (.inl rfl) rfl) ?_
      refine RG.pv rfl (PV.geq rfl rfl rfl) ?_
      refine RG.nil ?_
      refine WP.cond rfl (fun h4 => ?_) (fun h4 => ?_)
      · have h4 := of_decide_eq_true h4
        have e1 : IntKind.u8.wrap (a / 2 ^ Int.toNat 8) = (((a / 256).toNat : Nat) : Int) := by rw [show (2 : Int) ^ Int.toNat 8 = 256 from rfl, u8w (by omega)]; omega
        have e2 : (a / 256).toNat < 256 := by omega
        refine WP.seq ?_
        refine WP.region ?_
        refine RG.pv rfl (PV.mvI (.inl rfl) rfl) ?_
        refine RG.pv rfl (PV.shr rfl rfl rfl (by decide) (by decide)) ?_
        refine RG.pv rfl (PV.mvI (.inr rfl) rfl) ?_
        refine RG.nil ?_
        refine WP.region ?_
        refine RG.pv rfl (PV.mvI (.inl rfl) rfl) ?_
        refine RG.pv rfl (PV.add rfl rfl rfl (by omega)) ?_
        refine RG.pv rfl (PV.mvI (.inr rfl) rfl) ?_
        refine RG.nil ?_
        refine WP.seq ?_
        refine WP.region ?_
        refine RG.pv rfl (PV.mvI (.inl rfl) rfl) ?_
        refine RG.pv rfl (PV.mvI (.inl rfl) rfl) ?_
        refine RG.pv rfl (PV.conv rfl ⟨_, Tryz.underlying204⟩ Tryz.underlying5 rfl rfl) ?_
        refine RG.pv rfl (PV.idxStr (j := (a / 256).toNat) rfl Tryz.underlying9 rfl rfl e1 (getBG e2)) ?_
        refine RG.pv rfl (PV.conv rfl ⟨_, Tryz.underlying5⟩ Tryz.underlying3 rfl (u8i _)) ?_
        refine RG.pv rfl (PV.add rfl rfl rfl (by first | omega | exact u8add (by omega))) ?_
        refine RG.pv rfl (PV.mvI (.inr rfl) rfl) ?_
        refine RG.nil ?_
        refine WP.ret ?_
        exact ⟨_, _, ResV.one rfl rfl, Cv.p, k _ (fun _ => by omega)⟩
      · have h5 := of_decide_eq_false h4
        have e1 : IntKind.u8.wrap a = ((a.toNat : Nat) : Int) := by rw [u8w (by omega)]; omega
        have e2 : a.toNat < 256 := by omega
        refine WP.skip ?_
        refine WP.seq ?_
        refine WP.region ?_
        refine RG.pv rfl (PV.mvI (.inl rfl) rfl) ?_
        refine RG.pv rfl (PV.mvI (.inl rfl) rfl) ?_
        refine RG.pv rfl (PV.conv rfl ⟨_, Tryz.underlying204⟩ Tryz.underlying5 rfl rfl) ?_
        refine RG.pv rfl (PV.idxStr (j := a.toNat) rfl Tryz.underlying9 rfl rfl e1 (getBG e2)) ?_
        refine RG.pv rfl (PV.conv rfl ⟨_, Tryz.underlying5⟩ Tryz.underlying3 rfl (u8i _)) ?_
        refine RG.pv rfl (PV.add rfl rfl rfl (by first | omega | exact u8add (by omega))) ?_
        refine RG.pv rfl (PV.mvI (.inr rfl) rfl) ?_
        refine RG.nil ?_
        refine WP.ret ?_
        refine ⟨_, _, ResV.one rfl rfl, Cv.p, k _ (fun h => ?_)⟩
        obtain ⟨m, rfl⟩ : ∃ m : Nat, a = (m : Int) := ⟨a.toNat, by omega⟩
        have hm : m < 256 := by omega
        have h0 : m ≠ 0 := by omega
        rw [Int.toNat_natCast]
        clear h e2 e1 h5 h4 h3 h2 k ha
        unfold bt
        revert m
        decide +kernel
theorem bitsLen_s {a : Int} (ha : 0 ≤ a ∧ a ≤ 6400) (k : ∀ l : Int, (a ≠ 0 → l ≠ 0) → R (vi l) G L) : CallT Tryz.prog 111 #[.int .u64 a] G L R := by
  refine CallT.enter (args := _) Tryz.func111 rfl rfl (by kernel_rfl) rfl ?_
  refine WP.seq ?_
  refine WP.region ?_
  refine RG.pv rfl (PV.mvI (.inr rfl) rfl) ?_
  refine RG.nil ?_
  refine WP.seq ?_
  refine WP.cond rfl (fun h2 => ?_) (fun h2 => ?_)
  · exact absurd h2 (by decide)
  · refine WP.skip ?_
    refine WP.seq ?_
    refine WP.region ?_
    refine RG.pv rfl (PV.mvI (.inl rfl) rfl) ?_
    refine RG.callF (vs := [_]) rfl rfl En164 rfl (bitsLen64_s ha (fun l hl => ?_))
    refine RG.pv rfl (PV.mvI (.inr rfl) rfl) ?_
    refine RG.nil ?_
    refine WP.ret ?_
    exact ⟨_, _, ResV.one rfl rfl, Cv.p, k _ hl⟩
theorem order2_rss {v fv p : Value} {xs : List (Sl Rect)} {a b : Int} {cf : Nat → Nat → Int} (h1 : Rs G L slT v xs) (h0 : 0 ≤ a) (hab : a < b) (hb : b < xs.length) (hf : ∀ i j, i < xs.length → j < xs.length → CB Tryz.prog G L fv [Sl.v (gd xs i), Sl.v (gd xs j)] (vi (cf i j))) (hs : ∀ i j, i < j → j < xs.length → ¬ cf j i < 0) (k : R (.tuple #[vi a, vi b]) G L) : CallT Tryz.prog 232 #[v, vi a, vi b, p, fv] G L R := by
  refine CallT.bd h1 fun hbd => ?_
  refine CallT.enter (args := _) Tryz.func232 rfl rfl (by kernel_rfl) rfl ?_
  refine WP.seq ?_
  refine WP.region ?_
  refine RG.pv rfl (PV.mvI (.inr rfl) rfl) ?_
  refine RG.pv rfl (PV.mvI (.inr rfl) rfl) ?_
  refine RG.nil ?_
  refine WP.seq ?_
  refine WP.seq ?_
  refine WP.regionQ (by kernel_rfl) (by kernel_rfl) ?_
  refine RQ.pv rfl (PV.move (v := fv) rfl rfl) ?_
  refine RQ.pv rfl (PV.move (v := v) rfl rfl) ?_
  refine RQ.pv rfl (PV.mvI (.inl rfl) rfl) ?_
  refine RQ.pv rfl (PV.idxS (j := b.toNat) (v := v) rfl Is29 rfl (SlF.r h1) rfl (by omega) (by omega)) ?_
  refine RQ.pv rfl (PV.loadE1 rfl Sc56 rfl rfl (El.r h1 (getG (by omega))) rfl) ?_
  refine RQ.pv rfl (PV.move (v := v) rfl rfl) ?_
  refine RQ.pv rfl (PV.mvI (.inl rfl) rfl) ?_
  refine RQ.pv rfl (PV.idxS (j := a.toNat) (v := v) rfl Is29 rfl (SlF.r h1) rfl (by omega) (by omega)) ?_
  refine RQ.pv rfl (PV.loadE1 rfl Sc56 rfl rfl (El.r h1 (getG (by omega))) rfl) ?_
  refine RQ.callB (vs := [_, _]) rfl rfl rfl rfl (CB.up (hf b.toNat a.toNat (by omega) (by omega))) ?_
  refine RQ.pv rfl (PV.lss rfl rfl rfl) ?_
  refine RQ.nil ?_
  refine WP.cond rfl (fun h2 => ?_) (fun h2 => ?_)
  · exact absurd (of_decide_eq_true h2) (hs _ _ (by omega) (by omega))
  · refine WP.skip ?_
    refine WP.seq ?_
    refine WP.region ?_
    refine RG.pv rfl (PV.mvI (.inl rfl) rfl) ?_
    refine RG.pv rfl (PV.mvI (.inl rfl) rfl) ?_
    refine RG.pv rfl (PV.mvI (.inr rfl) rfl) ?_
    refine RG.pv rfl (PV.mvI (.inr rfl) rfl) ?_
    refine RG.nil ?_
    refine WP.ret ?_
    exact ⟨_, _, ResV.two rfl rfl rfl, Cv.p, k⟩
theorem median_rss {v fv p : Value} {xs : List (Sl Rect)} {a b c : Int} {cf : Nat → Nat → Int} (h1 : Rs G L slT v xs) (h0 : 0 ≤ a) (hab : a < b) (hbc : b < c) (hc : c < xs.length) (hf : ∀ i j, i < xs.length → j < xs.length → CB Tryz.prog G L fv [Sl.v (gd xs i), Sl.v (gd xs j)] (vi (cf i j))) (hs : ∀ i j, i < j → j < xs.length → ¬ cf j i < 0) (k : R (vi b) G L) : CallT Tryz.prog 231 #[v, vi a, vi b, vi c, p, fv] G L R := by
  refine CallT.bd h1 fun hbd => ?_
  refine CallT.enter (args := _) Tryz.func231 rfl rfl (by kernel_rfl) rfl ?_
  refine WP.seq ?_
  refine WP.region ?_
  refine RG.pv rfl (PV.mvI (.inr rfl) rfl) ?_
  refine RG.nil ?_
  refine WP.seq ?_
  refine WP.region ?_
  refine RG.pv rfl (PV.move (v := v) rfl rfl) ?_
  refine RG.pv rfl (PV.mvI (.inl rfl) rfl) ?_
  refine RG.pv rfl (PV.mvI (.inl rfl) rfl) ?_
  refine RG.pv rfl (PV.move (v := p) rfl rfl) ?_
  refine RG.pv rfl (PV.move (v := fv) rfl rfl) ?_
  refine RG.callF (vs := [v, _, _, p, fv]) rfl rfl En232 rfl (order2_rss (Rs.up h1) (by omega) (by omega) (by omega) (fun i j hi hj => (hf i j hi hj).up) hs ?_)
  refine RG.pv rfl (PV.move rfl rfl) ?_
  refine RG.pv rfl (PV.ext rfl rfl rfl) ?_
  refine RG.pv rfl (PV.ext rfl rfl rfl) ?_
  refine RG.pv rfl (PV.mvI (.inr rfl) rfl) ?_
  refine RG.pv rfl (PV.mvI (.inr rfl) rfl) ?_
  refine RG.nil ?_
  refine WP.seq ?_
  refine WP.region ?_
  refine RG.pv rfl (PV.move (v := v) rfl rfl) ?_
  refine RG.pv rfl (PV.mvI (.inl rfl) rfl) ?_
  refine RG.pv rfl (PV.mvI (.inl rfl) rfl) ?_
  refine RG.pv rfl (PV.move (v := p) rfl rfl) ?_
  refine RG.pv rfl (PV.move (v := fv) rfl rfl) ?_
  refine RG.callF (vs := [v, _, _, p, fv]) rfl rfl En232 rfl (order2_rss (Rs.up h1) (by omega) (by omega) (by omega) (fun i j hi hj => (hf i j hi hj).up) hs ?_)
  refine RG.pv rfl (PV.move rfl rfl) ?_
  refine RG.pv rfl (PV.ext rfl rfl rfl) ?_
  refine RG.pv rfl (PV.ext rfl rfl rfl) ?_
  refine RG.pv rfl (PV.mvI (.inr rfl) rfl) ?_
  refine RG.pv rfl (PV.mvI (.inr rfl) rfl) ?_
  refine RG.nil ?_
  refine WP.seq ?_
  refine WP.region ?_
  refine RG.pv rfl (PV.move (v := v) rfl rfl) ?_
  refine RG.pv rfl (PV.mvI (.inl rfl) rfl) ?_
  refine RG.pv rfl (PV.mvI (.inl rfl) rfl) ?_
  refine RG.pv rfl (PV.move (v := p) rfl rfl) ?_
  refine RG.pv rfl (PV.move (v := fv) rfl rfl) ?_
  refine RG.callF (vs := [v, _, _, p, fv]) rfl rfl En232 rfl (order2_rss (Rs.up h1) (by omega) (by omega) (by omega) (fun i j hi hj => (hf i j hi hj).up) hs ?_)
  refine RG.pv rfl (PV.move rfl rfl) ?_
  refine RG.pv rfl (PV.ext rfl rfl rfl) ?_
  refine RG.pv rfl (PV.ext rfl rfl rfl) ?_
  refine RG.pv rfl (PV.mvI (.inr rfl) rfl) ?_
  refine RG.pv rfl (PV.mvI (.inr rfl) rfl) ?_
  refine RG.nil ?_
  refine WP.seq ?_
  refine WP.region ?_
  refine RG.pv rfl (PV.mvI (.inl rfl) rfl) ?_
  refine RG.pv rfl (PV.mvI (.inr rfl) rfl) ?_
  refine RG.nil ?_
  refine WP.ret ?_
  exact ⟨_, _, ResV.one rfl rfl, Cv.p, k⟩
theorem medianAdj_rss {v fv p : Value} {xs : List (Sl Rect)} {a : Int} {cf : Nat → Nat → Int} (h1 : Rs G L slT v xs) (ha : 0 < a) (hc : a + 1 < xs.length) (hf : ∀ i j, i < xs.length → j < xs.length → CB Tryz.prog G L fv [Sl.v (gd xs i), Sl.v (gd xs j)] (vi (cf i j))) (hs : ∀ i j, i < j → j < xs.length → ¬ cf j i < 0) (k : R (vi a) G L) : CallT Tryz.prog 230 #[v, vi a, p, fv] G L R := by
  refine CallT.bd h1 fun hbd => ?_
  refine CallT.enter (args := _) Tryz.func230 rfl rfl (by kernel_rfl) rfl ?_
  refine WP.seq ?_
  refine WP.region ?_
  refine RG.pv rfl (PV.mvI (.inr rfl) rfl) ?_
  refine RG.nil ?_
  refine WP.seq ?_
  refine WP.region ?_
  refine RG.pv rfl (PV.move (v := v) rfl rfl) ?_
  refine RG.pv rfl (PV.mvI (.inl rfl) rfl) ?_
  refine RG.pv rfl (PV.sub rfl rfl rfl (by omega)) ?_
  refine RG.pv rfl (PV.mvI (.inl rfl) rfl) ?_
  refine RG.pv rfl (PV.mvI (.inl rfl) rfl) ?_
  refine RG.pv rfl (PV.add rfl rfl rfl (by omega)) ?_
  refine RG.pv rfl (PV.move (v := p) rfl rfl) ?_
  refine RG.pv rfl (PV.move (v := fv) rfl rfl) ?_
  refine RG.callF (vs := [v, _, _, _, p, fv]) rfl rfl En231 rfl (median_rss (Rs.up h1) (by omega) (by omega) (by omega) (by omega) (fun i j hi hj => (hf i j hi hj).up) hs ?_)
  refine RG.pv rfl (PV.mvI (.inr rfl) rfl) ?_
  refine RG.nil ?_
  refine WP.ret ?_
  exact ⟨_, _, ResV.one rfl rfl, Cv.p, k⟩
theorem choosePivot_rss {v fv : Value} {xs : List (Sl Rect)} {a b : Int} {cf : Nat → Nat → Int} (h1 : Rs G L slT v xs) (h0 : 0 ≤ a) (hab : 8 ≤ b - a) (hb : b ≤ xs.length) (hf : ∀ i j, i < xs.length → j < xs.length → CB Tryz.prog G L fv [Sl.v (gd xs i), Sl.v (gd xs j)] (vi (cf i j))) (hs : ∀ i j, i < j → j < xs.length → ¬ cf j i < 0) (k : ∀ p, R (.tuple #[vi p, vi 1]) G L) : CallT Tryz.prog 224 #[v, vi a, vi b, fv] G L R := by
  refine CallT.bd h1 fun hbd => ?_
  refine CallT.enter (args := _) Tryz.func224 rfl rfl (by kernel_rfl) rfl ?_
  refine WP.seq ?_
  refine WP.region ?_
  refine RG.pv rfl (PV.mvI (.inr rfl) rfl) ?_
  refine RG.pv rfl (PV.mvI (.inr rfl) rfl) ?_
  refine RG.nil ?_
  refine WP.seq ?_
  refine WP.region ?_
  refine RG.pv rfl (PV.mvI (.inl rfl) rfl) ?_
  refine RG.pv rfl (PV.mvI (.inl rfl) rfl) ?_
  refine RG.pv rfl (PV.sub rfl rfl rfl (by omega)) ?_
  refine RG.pv rfl (PV.mvI (.inr rfl) rfl) ?_
  refine RG.nil ?_
  refine WP.seq ?_
  refine WP.region ?_
  refine RG.ot rfl (OT.alloc rfl Zr3 fun b11 => ?_)
  refine RG.nil ?_
  refine WP.seq ?_
  refine WP.region ?_
  refine RG.pv rfl (PV.mvI (.inl rfl) rfl) ?_
  refine RG.pv rfl (PV.mvI (.inl rfl) rfl) ?_
  refine RG.pv rfl (PV.quo rfl rfl rfl (by omega) (by omega) (by omega)) ?_
  refine RG.pv rfl (PV.mul rfl rfl rfl (by omega)) ?_
  refine RG.pv rfl (PV.add rfl rfl rfl (by omega)) ?_
  refine RG.pv rfl (PV.mvI (.inr rfl) rfl) ?_
  refine RG.nil ?_
  refine WP.seq ?_
  refine WP.region ?_
  refine RG.pv rfl (PV.mvI (.inl rfl) rfl) ?_
  refine RG.pv rfl (PV.mvI (.inl rfl) rfl) ?_
  refine RG.pv rfl (PV.quo rfl rfl rfl (by omega) (by omega) (by omega)) ?_
  refine RG.pv rfl (PV.mul rfl rfl rfl (by omega)) ?_
  refine RG.pv rfl (PV.add rfl rfl rfl (by omega)) ?_
  refine RG.pv rfl (PV.mvI (.inr rfl) rfl) ?_
  refine RG.nil ?_
  refine WP.seq ?_
  refine WP.region ?_
  refine RG.pv rfl (PV.mvI (.inl rfl) rfl) ?_
  refine RG.pv rfl (PV.mvI (.inl rfl) rfl) ?_
  refine RG.pv rfl (PV.quo rfl rfl rfl (by omega) (by omega) (by omega)) ?_
  refine RG.pv rfl (PV.mul rfl rfl rfl (by omega)) ?_
  refine RG.pv rfl (PV.add rfl rfl rfl (by omega)) ?_
  refine RG.pv rfl (PV.mvI (.inr rfl) rfl) ?_
  refine RG.nil ?_
  refine WP.seq ?_
  refine WP.seq ?_
  refine WP.region ?_
  refine RG.pv rfl (PV.mvI (.inl rfl) rfl) ?_
  refine RG.pv rfl (PV.geq rfl rfl rfl) ?_
  refine RG.nil ?_
  refine WP.cond rfl (fun h2 => ?_) (fun h2 => ?_)
  · refine WP.seq ?_
    refine WP.seq ?_
    refine WP.region ?_
    refine RG.pv rfl (PV.mvI (.inl rfl) rfl) ?_
    refine RG.pv rfl (PV.geq rfl rfl rfl) ?_
    refine RG.nil ?_
    refine WP.cond rfl (fun h3 => ?_) (fun h3 => ?_)
    · have h3 := of_decide_eq_true h3
      refine WP.seq ?_
      refine WP.region ?_
      refine RG.pv rfl (PV.move (v := v) rfl rfl) ?_
      refine RG.pv rfl (PV.mvI (.inl rfl) rfl) ?_
      refine RG.pv rfl (PV.move (v := fv) rfl rfl) ?_
      refine RG.callF (vs := [v, _, _, fv]) rfl rfl En230 rfl (medianAdj_rss (Rs.up h1) (by omega) (by omega) (fun i j hi hj => (hf i j hi hj).up) hs ?_)
      refine RG.pv rfl (PV.mvI (.inr rfl) rfl) ?_
      refine RG.nil ?_
      refine WP.seq ?_
      refine WP.region ?_
      refine RG.pv rfl (PV.move (v := v) rfl rfl) ?_
      refine RG.pv rfl (PV.mvI (.inl rfl) rfl) ?_
      refine RG.pv rfl (PV.move (v := fv) rfl rfl) ?_
      refine RG.callF (vs := [v, _, _, fv]) rfl rfl En230 rfl (medianAdj_rss (Rs.up h1) (by omega) (by omega) (fun i j hi hj => (hf i j hi hj).up) hs ?_)
      refine RG.pv rfl (PV.mvI (.inr rfl) rfl) ?_
      refine RG.nil ?_
      refine WP.region ?_
      refine RG.pv rfl (PV.move (v := v) rfl rfl) ?_
      refine RG.pv rfl (PV.mvI (.inl rfl) rfl) ?_
      refine RG.pv rfl (PV.move (v := fv) rfl rfl) ?_
      refine RG.callF (vs := [v, _, _, fv]) rfl rfl En230 rfl (medianAdj_rss (Rs.up h1) (by omega) (by omega) (fun i j hi hj => (hf i j hi hj).up) hs ?_)
      refine RG.pv rfl (PV.mvI (.inr rfl) rfl) ?_
      refine RG.nil ?_
      refine WP.region ?_
      refine RG.pv rfl (PV.move (v := v) rfl rfl) ?_
      refine RG.pv rfl (PV.mvI (.inl rfl) rfl) ?_
      refine RG.pv rfl (PV.mvI (.inl rfl) rfl) ?_
      refine RG.pv rfl (PV.mvI (.inl rfl) rfl) ?_
      refine RG.pv rfl (PV.move (v := fv) rfl rfl) ?_
      refine RG.callF (vs := [v, _, _, _, _, fv]) rfl rfl En231 rfl (median_rss (Rs.up h1) (by omega) (by omega) (by omega) (by omega) (fun i j hi hj => (hf i j hi hj).up) hs ?_)
      refine RG.pv rfl (PV.mvI (.inr rfl) rfl) ?_
      refine RG.nil ?_
      refine WP.seq ?_
      refine WP.region ?_
      refine RG.pv rfl (PV.load1 rfl Sc3 rfl (Rd.blk rfl)) ?_
      refine RG.nil ?_
      refine WP.block ?_
      refine WP.seq ?_
      refine WP.region ?_
      refine RG.pv rfl (PV.eql rfl rfl rfl) ?_
      refine RG.pv rfl (PV.mvB (.inr rfl) rfl) ?_
      refine RG.nil ?_
      refine WP.cond rfl (fun h4 => ?_) (fun h4 => ?_)
      · refine WP.seq ?_
        refine WP.region ?_
        refine RG.pv rfl (PV.mvI (.inl rfl) rfl) ?_
        refine RG.pv rfl (PV.mvI (.inr rfl) rfl) ?_
        refine RG.pv rfl (PV.mvI (.inr rfl) rfl) ?_
        refine RG.nil ?_
        refine WP.ret ?_
        exact ⟨_, _, ResV.two rfl rfl rfl, Cv.p, k _⟩
      · skip
        exact absurd h4 (by decide)
    · refine WP.skip ?_
      refine WP.region ?_
      refine RG.pv rfl (PV.move (v := v) rfl rfl) ?_
      refine RG.pv rfl (PV.mvI (.inl rfl) rfl) ?_
      refine RG.pv rfl (PV.mvI (.inl rfl) rfl) ?_
      refine RG.pv rfl (PV.mvI (.inl rfl) rfl) ?_
      refine RG.pv rfl (PV.move (v := fv) rfl rfl) ?_
      refine RG.callF (vs := [v, _, _, _, _, fv]) rfl rfl En231 rfl (median_rss (Rs.up h1) (by omega) (by omega) (by omega) (by omega) (fun i j hi hj => (hf i j hi hj).up) hs ?_)
      refine RG.pv rfl (PV.mvI (.inr rfl) rfl) ?_
      refine RG.nil ?_
      refine WP.seq ?_
      refine WP.region ?_
      refine RG.pv rfl (PV.load1 rfl Sc3 rfl (Rd.blk rfl)) ?_
      refine RG.nil ?_
      refine WP.block ?_
      refine WP.seq ?_
      refine WP.region ?_
      refine RG.pv rfl (PV.eql rfl rfl rfl) ?_
      refine RG.pv rfl (PV.mvB (.inr rfl) rfl) ?_
      refine RG.nil ?_
      refine WP.cond rfl (fun h4 => ?_) (fun h4 => ?_)
      · refine WP.seq ?_
        refine WP.region ?_
        refine RG.pv rfl (PV.mvI (.inl rfl) rfl) ?_
        refine RG.pv rfl (PV.mvI (.inr rfl) rfl) ?_
        refine RG.pv rfl (PV.mvI (.inr rfl) rfl) ?_
        refine RG.nil ?_
        refine WP.ret ?_
        exact ⟨_, _, ResV.two rfl rfl rfl, Cv.p, k _⟩
      · skip
        exact absurd h4 (by decide)
  · exact absurd (of_decide_eq_false h2) (by omega)
theorem insertion_rss {v fv : Value} {xs : List (Sl Rect)} {a b : Int} {cf : Nat → Nat → Int} (hl : xs.length ≤ 1000000) (h1 : Rs G L slT v xs) (h0 : 0 ≤ a) (hab : a ≤ b) (hb : b ≤ xs.length) (hf : ∀ i j, i < xs.length → j < xs.length → CB Tryz.prog G L fv [Sl.v (gd xs i), Sl.v (gd xs j)] (vi (cf i j))) (hs : ∀ i j, i < j → j < xs.length → ¬ cf j i < 0) (k : R (.tuple #[]) G L) : CallT Tryz.prog 221 #[v, vi a, vi b, fv] G L R := by
  refine CallT.bd h1 fun hbd => ?_
  refine CallT.enter (args := _) Tryz.func221 rfl rfl (by kernel_rfl) rfl ?_
  refine WP.seq ?_
  refine WP.region ?_
  refine RG.pv rfl (PV.mvI (.inl rfl) rfl) ?_
  refine RG.pv rfl (PV.add rfl rfl rfl (by omega)) ?_
  refine RG.pv rfl (PV.mvI (.inr rfl) rfl) ?_
  refine RG.nil ?_
  refine WP.block ?_
  refine WP.loop1 [0, 1, 2, 3] (fun (i : Int) => a + 1 ≤ i) (fun (i : Int) => [(8, vi i)]) (fun (i : Int) => L) (fun (i : Int) => (b - i).toNat) (a + 1) (by omega) ⟨rfl, trivial⟩ Cv.p ?_
  rintro i τ hi
  refine WP.seq ?_
  refine WP.seq ?_
  refine WP.region ?_
  refine RG.pv rfl (PV.mvI (.inl rfl) rfl) ?_
  refine RG.pv rfl (PV.mvI (.inl rfl) rfl) ?_
  refine RG.pv rfl (PV.lss rfl rfl rfl) ?_
  refine RG.nil ?_
  refine WP.cond rfl (fun h2 => ?_) (fun h2 => ?_)
  · have h2 := of_decide_eq_true h2
    refine WP.skip ?_
    refine WP.seq ?_
    refine WP.block ?_
    refine WP.seq ?_
    refine WP.region ?_
    refine RG.pv rfl (PV.mvI (.inl rfl) rfl) ?_
    refine RG.pv rfl (PV.mvI (.inr rfl) rfl) ?_
    refine RG.nil ?_
    refine WP.block ?_
    refine WP.loop1 [0, 1, 2, 3, 8] (fun (u : Unit) => True) (fun (u : Unit) => [(9, vi i)]) (fun (u : Unit) => L) (fun (u : Unit) => 0) () trivial ⟨rfl, trivial⟩ Cv.p ?_
    rintro _u τ1 _
    refine WP.seq ?_
    refine WP.seq ?_
    refine WP.regionQ (by kernel_rfl) (by kernel_rfl) ?_
    refine RQ.pv rfl (PV.mvI (.inl rfl) rfl) ?_
    refine RQ.pv rfl (PV.mvI (.inl rfl) rfl) ?_
    refine RQ.pv rfl (PV.gtr rfl rfl rfl) ?_
    refine RQ.pv rfl (PV.mvB (.inl rfl) rfl) ?_
    refine RQ.gs rfl rfl rfl (fun hp => (PV.move (v := fv) rfl rfl)) ?_
    refine RQ.gs rfl rfl rfl (fun hp => (PV.move (v := v) rfl rfl)) ?_
    refine RQ.gs rfl rfl rfl (fun hp => (PV.mvI (.inl rfl) rfl)) ?_
    refine RQ.gs rfl rfl rfl (fun hp => (PV.idxS (j := i.toNat) (v := v) rfl Is29 (gs_t hp) (SlF.r h1) (gs_t hp) (by first | omega | (simp at hp; omega)) (by first | omega | (simp at hp; omega)))) ?_
    refine RQ.gs rfl rfl rfl (fun hp => (PV.loadE1 rfl Sc56 (gs_t hp) rfl (El.r h1 (getG (by first | omega | (simp at hp; omega)))) rfl)) ?_
    refine RQ.gs rfl rfl rfl (fun hp => (PV.move (v := v) rfl rfl)) ?_
    refine RQ.gs rfl rfl rfl (fun hp => (PV.mvI (.inl rfl) rfl)) ?_
    refine RQ.gs rfl rfl rfl (fun hp => (PV.sub rfl (gs_t hp) rfl (by first | omega | (simp at hp; omega)))) ?_
    refine RQ.gs rfl rfl rfl (fun hp => (PV.idxS (j := (i - 1).toNat) (v := v) rfl Is29 (gs_t hp) (SlF.r h1) (gs_t hp) (by first | omega | (simp at hp; omega)) (by first | omega | (simp at hp; omega)))) ?_
    refine RQ.gs rfl rfl rfl (fun hp => (PV.loadE1 rfl Sc56 (gs_t hp) rfl (El.r h1 (getG (by first | omega | (simp at hp; omega)))) rfl)) ?_
    refine RQ.gsB rfl rfl rfl rfl (fun hp => ⟨(gs_t hp), _, (acons (gs_t hp) (acons (gs_t hp) anil)), CB.up (hf i.toNat (i - 1).toNat (by omega) (by omega))⟩) ?_
    refine RQ.gs rfl rfl rfl (fun hp => (PV.lss rfl (gs_t hp) rfl)) ?_
    refine RQ.pv rfl (PV.pickA rfl rfl (fun hq => gs_t (geqT hq)) rfl) ?_
    refine RQ.nil ?_
    refine WP.cond rfl (fun h3 => ?_) (fun h3 => ?_)
    · have h4 := hs (i - 1).toNat i.toNat (by omega) (by omega)
      simp only [Bool.and_eq_true, decide_eq_true_eq] at h3
      exact absurd h3.2 h4
    · refine WP.exit ?_
      refine WP.region ?_
      refine RG.pv rfl (PV.mvI (.inl rfl) rfl) ?_
      refine RG.pv rfl (PV.add rfl rfl rfl (by omega)) ?_
      refine RG.pv rfl (PV.mvI (.inr rfl) rfl) ?_
      refine RG.nil ?_
      exact ⟨rfl, i + 1, (by omega), ⟨rfl, trivial⟩, ⟨rfl, rfl, rfl, rfl, trivial⟩, Cv.p, by omega⟩
  · have h2 := of_decide_eq_false h2
    refine WP.exit ?_
    exact ⟨_, _, ResV.zero rfl, Cv.p, k⟩
theorem partialIns_rss {v fv : Value} {xs : List (Sl Rect)} {a b : Int} {cf : Nat → Nat → Int} (h1 : Rs G L slT v xs) (h0 : 0 ≤ a) (hab : a < b) (hb : b ≤ xs.length) (hf : ∀ i j, i < xs.length → j < xs.length → CB Tryz.prog G L fv [Sl.v (gd xs i), Sl.v (gd xs j)] (vi (cf i j))) (hs : ∀ i j, i < j → j < xs.length → ¬ cf j i < 0) (k : R (.bool true) G L) : CallT Tryz.prog 226 #[v, vi a, vi b, fv] G L R := by
  refine CallT.bd h1 fun hbd => ?_
  refine CallT.enter (args := _) Tryz.func226 rfl rfl (by kernel_rfl) rfl ?_
  refine WP.seq ?_
  refine WP.region ?_
  refine RG.pv rfl (PV.mvB (.inr rfl) rfl) ?_
  refine RG.nil ?_
  refine WP.seq ?_
  refine WP.region ?_
  refine RG.pv rfl (PV.mvI (.inl rfl) rfl) ?_
  refine RG.pv rfl (PV.add rfl rfl rfl (by omega)) ?_
  refine RG.pv rfl (PV.mvI (.inr rfl) rfl) ?_
  refine RG.nil ?_
  refine WP.seq ?_
  refine WP.seq ?_
  refine WP.region ?_
  refine RG.pv rfl (PV.mvI (.inr rfl) rfl) ?_
  refine RG.nil ?_
  refine WP.block ?_
  refine WP.loop1 [0, 1, 2, 3] (fun (u : Unit) => True) (fun (u : Unit) => [(9, vi (a + 1)), (10, vi 0)]) (fun (u : Unit) => L) (fun (u : Unit) => 0) () trivial ⟨rfl, rfl, trivial⟩ Cv.p ?_
  rintro _u τ _
  refine WP.seq ?_
  refine WP.seq ?_
  refine WP.region ?_
  refine RG.pv rfl (PV.mvI (.inl rfl) rfl) ?_
  refine RG.pv rfl (PV.lss rfl rfl rfl) ?_
  refine RG.nil ?_
  refine WP.cond rfl (fun h2 => ?_) (fun h2 => ?_)
  · refine WP.skip ?_
    refine WP.seq ?_
    refine WP.block ?_
    refine WP.seq ?_
    refine WP.block ?_
    refine WP.loop1 [0, 1, 2, 3, 10] (fun (i : Int) => a + 1 ≤ i ∧ i ≤ b) (fun (i : Int) => [(9, vi i)]) (fun (i : Int) => L) (fun (i : Int) => (b - i).toNat) (a + 1) (by omega) ⟨rfl, trivial⟩ Cv.p ?_
    rintro i τ1 hi
    refine WP.seq ?_
    refine WP.seq ?_
    refine WP.regionQ (by kernel_rfl) (by kernel_rfl) ?_
    refine RQ.pv rfl (PV.mvI (.inl rfl) rfl) ?_
    refine RQ.pv rfl (PV.mvI (.inl rfl) rfl) ?_
    refine RQ.pv rfl (PV.lss rfl rfl rfl) ?_
    refine RQ.pv rfl (PV.mvB (.inl rfl) rfl) ?_
    refine RQ.gs rfl rfl rfl (fun hp => (PV.move (v := fv) rfl rfl)) ?_
    refine RQ.gs rfl rfl rfl (fun hp => (PV.move (v := v) rfl rfl)) ?_
    refine RQ.gs rfl rfl rfl (fun hp => (PV.mvI (.inl rfl) rfl)) ?_
    refine RQ.gs rfl rfl rfl (fun hp => (PV.idxS (j := i.toNat) (v := v) rfl Is29 (gs_t hp) (SlF.r h1) (gs_t hp) (by first | omega | (simp at hp; omega)) (by first | omega | (simp at hp; omega)))) ?_
    refine RQ.gs rfl rfl rfl (fun hp => (PV.loadE1 rfl Sc56 (gs_t hp) rfl (El.r h1 (getG (by first | omega | (simp at hp; omega)))) rfl)) ?_
    refine RQ.gs rfl rfl rfl (fun hp => (PV.move (v := v) rfl rfl)) ?_
    refine RQ.gs rfl rfl rfl (fun hp => (PV.mvI (.inl rfl) rfl)) ?_
    refine RQ.gs rfl rfl rfl (fun hp => (PV.sub rfl (gs_t hp) rfl (by first | omega | (simp at hp; omega)))) ?_
    refine RQ.gs rfl rfl rfl (fun hp => (PV.idxS (j := (i - 1).toNat) (v := v) rfl Is29 (gs_t hp) (SlF.r h1) (gs_t hp) (by first | omega | (simp at hp; omega)) (by first | omega | (simp at hp; omega)))) ?_
    refine RQ.gs rfl rfl rfl (fun hp => (PV.loadE1 rfl Sc56 (gs_t hp) rfl (El.r h1 (getG (by first | omega | (simp at hp; omega)))) rfl)) ?_
    refine RQ.gsB rfl rfl rfl rfl (fun hp => ⟨(gs_t hp), _, (acons (gs_t hp) (acons (gs_t hp) anil)), CB.up (hf i.toNat (i - 1).toNat (by simp at hp; omega) (by simp at hp; omega))⟩) ?_
    refine RQ.gs rfl rfl rfl (fun hp => (PV.lss rfl (gs_t hp) rfl)) ?_
    refine RQ.gs rfl rfl rfl (fun hp => (PV.not rfl (gs_t hp))) ?_
    refine RQ.pv rfl (PV.pickA rfl rfl (fun hq => gs_t (geqT hq)) rfl) ?_
    refine RQ.nil ?_
    refine WP.cond rfl (fun h3 => ?_) (fun h3 => ?_)
    · have h4 : i < b := by simp at h3; omega
      refine WP.skip ?_
      refine WP.block ?_
      refine WP.region ?_
      refine RG.pv rfl (PV.mvI (.inl rfl) rfl) ?_
      refine RG.pv rfl (PV.add rfl rfl rfl (by omega)) ?_
      refine RG.pv rfl (PV.mvI (.inr rfl) rfl) ?_
      refine RG.nil ?_
      exact ⟨rfl, i + 1, (by omega), ⟨rfl, trivial⟩, ⟨rfl, rfl, rfl, rfl, rfl, trivial⟩, Cv.p, by omega⟩
    · have h4 : i = b := by
        by_cases e : i < b
        · have h4 := hs (i - 1).toNat i.toNat (by omega) (by omega)
          simp only [Bool.and_eq_false_iff, decide_eq_false_iff_not, Bool.not_eq_false', decide_eq_true_eq] at h3
          omega
        · omega
      subst h4
      refine WP.exit ?_
      refine WP.seq ?_
      refine WP.seq ?_
      refine WP.region ?_
      refine RG.pv rfl (PV.mvI (.inl rfl) rfl) ?_
      refine RG.pv rfl (PV.mvI (.inl rfl) rfl) ?_
      refine RG.pv rfl (PV.eql rfl rfl rfl) ?_
      refine RG.nil ?_
      refine WP.cond rfl (fun h5 => ?_) (fun h5 => ?_)
      · refine WP.seq ?_
        refine WP.region ?_
        refine RG.pv rfl (PV.mvB (.inr rfl) rfl) ?_
        refine RG.nil ?_
        refine WP.ret ?_
        exact ⟨_, _, ResV.one rfl rfl, Cv.p, k⟩
      · simp at h5
  · exact absurd h2 (by decide)
theorem pdq_rss {v fv : Value} {xs : List (Sl Rect)} {n l : Int} {cf : Nat → Nat → Int} (hl : xs.length ≤ 1000000) (h1 : Rs G L slT v xs) (hn : n = xs.length) (hl0 : 12 < n → l ≠ 0) (hf : ∀ i j, i < xs.length → j < xs.length → CB Tryz.prog G L fv [Sl.v (gd xs i), Sl.v (gd xs j)] (vi (cf i j))) (hs : ∀ i j, i < j → j < xs.length → ¬ cf j i < 0) (k : R (.tuple #[]) G L) : CallT Tryz.prog 217 #[v, vi 0, vi n, vi l, fv] G L R := by
  refine CallT.bd h1 fun hbd => ?_
  refine CallT.enter (args := _) Tryz.func217 rfl rfl (by kernel_rfl) rfl ?_
  refine WP.seq ?_
  refine WP.region ?_
  refine RG.pv rfl (PV.mvB (.inr rfl) rfl) ?_
  refine RG.nil ?_
  refine WP.seq ?_
  refine WP.region ?_
  refine RG.pv rfl (PV.mvB (.inr rfl) rfl) ?_
  refine RG.nil ?_
  refine WP.block ?_
  refine WP.loop1 [0, 4] (fun (u : Unit) => True) (fun (u : Unit) => [(1, vi 0), (2, vi n), (3, vi l), (10, .bool true), (11, .bool true)]) (fun (u : Unit) => L) (fun (u : Unit) => 0) () trivial ⟨rfl, rfl, rfl, rfl, rfl, trivial⟩ Cv.p ?_
  rintro _u τ _
  refine WP.block ?_
  refine WP.seq ?_
  refine WP.region ?_
  refine RG.pv rfl (PV.mvI (.inl rfl) rfl) ?_
  refine RG.pv rfl (PV.mvI (.inl rfl) rfl) ?_
  refine RG.pv rfl (PV.sub rfl rfl rfl (by omega)) ?_
  refine RG.pv rfl (PV.mvI (.inr rfl) rfl) ?_
  refine RG.nil ?_
  refine WP.seq ?_
  refine WP.seq ?_
  refine WP.region ?_
  refine RG.pv rfl (PV.mvI (.inl rfl) rfl) ?_
  refine RG.pv rfl (PV.leq rfl rfl rfl) ?_
  refine RG.nil ?_
  refine WP.cond rfl (fun h2 => ?_) (fun h2 => ?_)
  · have h2 := of_decide_eq_true h2
    refine WP.seq ?_
    refine WP.region ?_
    refine RG.pv rfl (PV.move (v := v) rfl rfl) ?_
    refine RG.pv rfl (PV.mvI (.inl rfl) rfl) ?_
    refine RG.pv rfl (PV.mvI (.inl rfl) rfl) ?_
    refine RG.pv rfl (PV.move (v := fv) rfl rfl) ?_
    refine RG.callF (vs := [v, _, _, fv]) rfl rfl En221 rfl (insertion_rss hl (Rs.up h1) (by omega) (by omega) (by omega) (fun i j hi hj => (hf i j hi hj).up) hs ?_)
    refine RG.nil ?_
    refine WP.ret ?_
    exact ⟨_, _, ResV.zero rfl, Cv.p, k⟩
  · have h2 := of_decide_eq_false h2
    refine WP.skip ?_
    refine WP.seq ?_
    refine WP.seq ?_
    refine WP.region ?_
    refine RG.pv rfl (PV.mvI (.inl rfl) rfl) ?_
    refine RG.pv rfl (PV.eql rfl rfl rfl) ?_
    refine RG.nil ?_
    refine WP.cond rfl (fun h3 => ?_) (fun h3 => ?_)
    · exact absurd (of_decide_eq_true h3) (hl0 (by omega))
    · refine WP.skip ?_
      refine WP.seq ?_
      refine WP.seq ?_
      refine WP.region ?_
      refine RG.pv rfl (PV.mvB (.inl rfl) rfl) ?_
      refine RG.pv rfl (PV.not rfl rfl) ?_
      refine RG.nil ?_
      refine WP.cond rfl (fun h4 => ?_) (fun h4 => ?_)
      · exact absurd h4 (by decide)
      · refine WP.skip ?_
        refine WP.seq ?_
        refine WP.region ?_
        refine RG.pv rfl (PV.move (v := v) rfl rfl) ?_
        refine RG.pv rfl (PV.mvI (.inl rfl) rfl) ?_
        refine RG.pv rfl (PV.mvI (.inl rfl) rfl) ?_
        refine RG.pv rfl (PV.move (v := fv) rfl rfl) ?_
        refine RG.callF (vs := [v, _, _, fv]) rfl rfl En224 rfl (choosePivot_rss (Rs.up h1) (by omega) (by omega) (by omega) (fun i j hi hj => (hf i j hi hj).up) hs (fun pw52 => ?_))
        refine RG.pv rfl (PV.move (v := .tuple _) rfl rfl) ?_
        refine RG.pv rfl (PV.ext rfl rfl rfl) ?_
        refine RG.pv rfl (PV.ext rfl rfl rfl) ?_
        refine RG.pv rfl (PV.mvI (.inr rfl) rfl) ?_
        refine RG.pv rfl (PV.mvI (.inr rfl) rfl) ?_
        refine RG.nil ?_
        refine WP.seq ?_
        refine WP.seq ?_
        refine WP.region ?_
        refine RG.pv rfl (PV.mvI (.inl rfl) rfl) ?_
        refine RG.pv rfl (PV.eql rfl rfl rfl) ?_
        refine RG.nil ?_
        refine WP.cond rfl (fun h5 => ?_) (fun h5 => ?_)
        · exact absurd h5 (by decide)
        · refine WP.skip ?_
          refine WP.seq ?_
          refine WP.seq ?_
          refine WP.region ?_
          refine RG.pv rfl (PV.mvB (.inl rfl) rfl) ?_
          refine RG.pv rfl (PV.mvB (.inl rfl) rfl) ?_
          refine RG.gs rfl rfl rfl (fun hp => (PV.mvB (.inl rfl) rfl)) ?_
          refine RG.pv rfl (PV.pickA rfl rfl (fun hq => gs_t (geqT hq)) rfl) ?_
          refine RG.pv rfl (PV.mvB (.inl rfl) rfl) ?_
          refine RG.gs rfl rfl rfl (fun hp => (PV.mvI (.inl rfl) rfl)) ?_
          refine RG.gs rfl rfl rfl (fun hp => (PV.eql rfl (gs_t hp) rfl)) ?_
          refine RG.pv rfl (PV.pickA rfl rfl (fun hq => gs_t (geqT hq)) rfl) ?_
          refine RG.nil ?_
          refine WP.cond rfl (fun h6 => ?_) (fun h6 => ?_)
          · refine WP.seq ?_
            refine WP.region ?_
            refine RG.pv rfl (PV.move (v := v) rfl rfl) ?_
            refine RG.pv rfl (PV.mvI (.inl rfl) rfl) ?_
            refine RG.pv rfl (PV.mvI (.inl rfl) rfl) ?_
            refine RG.pv rfl (PV.move (v := fv) rfl rfl) ?_
            refine RG.callF (vs := [v, _, _, fv]) rfl rfl En226 rfl (partialIns_rss (Rs.up h1) (by omega) (by omega) (by omega) (fun i j hi hj => (hf i j hi hj).up) hs ?_)
            refine RG.nil ?_
            refine WP.cond rfl (fun h7 => ?_) (fun h7 => ?_)
            · refine WP.ret ?_
              exact ⟨_, _, ResV.zero rfl, Cv.p, k⟩
            · skip
              exact absurd h7 (by decide)
          · exact absurd h6 (by decide)
theorem sorted_rss {v fv : Value} {xs : List (Sl Rect)} {cf : Nat → Nat → Int} (hl : xs.length ≤ 6400) (h1 : Rs G L slT v xs) (hf : ∀ i j, i < xs.length → j < xs.length → CB Tryz.prog G L fv [Sl.v (gd xs i), Sl.v (gd xs j)] (vi (cf i j))) (hs : ∀ i j, i < j → j < xs.length → ¬ cf j i < 0) (k : R (.tuple #[]) G L) : CallT Tryz.prog 207 #[v, fv] G L R := by
  refine CallT.bd h1 fun hbd => ?_
  refine CallT.enter (args := _) Tryz.func207 rfl rfl (by kernel_rfl) rfl ?_
  refine WP.seq ?_
  refine WP.region ?_
  refine RG.pv rfl (PV.move (v := v) rfl rfl) ?_
  refine RG.pv rfl (PV.len (v := v) rfl Tryz.underlying29 rfl (SlF.r h1)) ?_
  refine RG.pv rfl (PV.mvI (.inr rfl) rfl) ?_
  refine RG.nil ?_
  refine WP.region ?_
  refine RG.pv rfl (PV.move (v := v) rfl rfl) ?_
  refine RG.pv rfl (PV.mvI (.inl rfl) rfl) ?_
  refine RG.pv rfl (PV.mvI (.inl rfl) rfl) ?_
  refine RG.pv rfl (PV.conv rfl ⟨_, Tryz.underlying3⟩ Tryz.underlying159 rfl rfl) ?_
  refine RG.callF (vs := [_]) rfl rfl En111 rfl (bitsLen_s (by rw [u64w (by omega)]; omega) (fun lw11 hl0w11 => ?_))
  refine RG.pv rfl (PV.move (v := fv) rfl rfl) ?_
  refine RG.callF (vs := [v, _, _, _, fv]) rfl rfl En217 rfl (pdq_rss (by omega) (Rs.up h1) rfl (fun h => hl0w11 (by rw [u64w (by omega)]; omega)) (fun i j hi hj => (hf i j hi hj).up) hs ?_)
  refine RG.nil ?_
  exact ⟨_, _, ResV.zero rfl, Cv.p, k⟩
end Go.Proofs.YtmomfgfmnpblpaaGreat
namespace Go.Proofs.YtmomfgfmnpblpaaGreat
set_option linter.unusedVariables false
set_option linter.unusedSimpArgs false
open Go
theorem runsFrom_first (r : Nat → Bool) (X : Nat) (hX : X < 80) (hr : r X = true) (x : Nat) (hx : x ≤ X) (h0 : ∀ z, x ≤ z → z < X → r z = false) : ∃ e l, runsFrom r x = (X, e) :: l := by
  rw [runsFrom, if_pos (by omega)]
  by_cases e : x = X
  · subst e; rw [if_pos hr]; exact ⟨_, _, rfl⟩
  · rw [if_neg (by simp [h0 x (Nat.le_refl _) (by omega)])]
    exact runsFrom_first r X hX hr (x + 1) (by omega) fun z h1 h2 => h0 z (by omega) h2
termination_by 80 - x
theorem runsFrom_none (r : Nat → Bool) (x : Nat) (h0 : ∀ z, x ≤ z → z < 80 → r z = false) : runsFrom r x = [] := by
  rw [runsFrom]; split
  · rename_i h
    rw [if_neg (by simp [h0 x (Nat.le_refl _) h])]
    exact runsFrom_none r (x + 1) fun z h1 h2 => h0 z (by omega) h2
  · rfl
termination_by 80 - x
theorem canonFrom_first (bs : List Bool) (Y X : Nat) (hY : Y < 80) (hX : X < 80) (hb : gb bs Y X = true) (hx : ∀ z, z < X → gb bs Y z = false) (y : Nat) (hy : y ≤ Y) (h0 : ∀ z x, y ≤ z → z < Y → x < 80 → gb bs z x = false) : ∃ e f l, canonFrom bs y = mkR Y e (X, f) :: l := by
  rw [canonFrom, if_pos (by omega)]
  by_cases e : y = Y
  · subst e
    obtain ⟨f, l, hf⟩ := runsFrom_first (gb bs y) X hX hb 0 (by omega) fun z _ h => hx z h
    rw [hf]; exact ⟨_, _, _, rfl⟩
  · rw [runsFrom_none (gb bs y) 0 fun z _ h => h0 y z (Nat.le_refl _) (by omega) h, List.map_nil, List.nil_append]
    have h1 := endFrom_ge bs y (y + 1)
    have h2 : endFrom bs y (y + 1) ≤ Y := by
      by_cases c : endFrom bs y (y + 1) ≤ Y
      · exact c
      · have h3 := rowsEq_gb' (endFrom_eq bs y (y + 1) Y (by omega) (by omega)) X hX
        rw [hb, h0 y X (Nat.le_refl _) (by omega) hX] at h3; cases h3
    exact canonFrom_first bs Y X hY hX hb hx (endFrom bs y (y + 1)) h2 fun z x h3 h4 h5 => h0 z x (by omega) h4 h5
termination_by 80 - y
/-- the first rectangle of a part begins at its first cell -/
theorem canon_first {S : List Bool} {n : Nat} (h : First S n) : 0 < (canon (compB S (cel n))).length ∧ (gd (canon (compB S (cel n))) 0).y0 = ((n / 80 : Nat) : Int) - 40 ∧ (gd (canon (compB S (cel n))) 0).x0 = ((n % 80 : Nat) : Int) - 40 := by
  obtain ⟨h1, h2⟩ := h
  have hY : n / 80 < 80 := h1.1
  have hX : n % 80 < 80 := h1.2.1
  have key : ∀ y x, y < 80 → x < 80 → y * 80 + x < n → gb (compB S (cel n)) y x = false := fun y x hy hx hlt => by
    cases hg : gb (compB S (cel n)) y x with
    | false => rfl
    | true =>
      exfalso
      have hc := (comp_iff hy hx).1 hg
      have hon := hc.on h1
      have e : cel (y * 80 + x) = (y, x) := cel_pos (a := (y, x)) hx
      exact h2 _ hlt (by rw [e]; exact hon) (by rw [e]; exact hc.symm h1)
  have hb : gb (compB S (cel n)) (n / 80) (n % 80) = true := (comp_iff hY hX).2 .refl
  obtain ⟨e, f, l, hc⟩ := canonFrom_first (compB S (cel n)) (n / 80) (n % 80) hY hX hb (fun z hz => key _ _ hY (by omega) (by omega)) 0 (by omega) fun z x _ hz hx => key z x (by omega) hx (by omega)
  rw [canon, hc]
  refine ⟨by simp, ?_, ?_⟩ <;> simp [gd, mkR]
theorem cel_div {n : Nat} (h : n < 6400) : n / 80 < 80 := by omega
structure PI {β : Type} (f : List Bool → β) (S : List Bool) (n : Nat) (T : List Bool) (zs : List β) : Prop where
  len : T.length = 6400
  left : ∀ a, On T a ↔ Left S n a
  er : zs = (firsts S n).map fun j => f (compB S (cel j))
theorem PI.start {β : Type} {f : List Bool → β} {S : List Bool} (h : S.length = 6400) : PI f S 0 S [] := ⟨h, fun _ => left_zero.symm, rfl⟩
theorem on_cel {T : List Bool} {n : Nat} (hn : n < 6400) : On T (cel n) ↔ gb T (n / 80) (n % 80) = true := ⟨fun h => h.2.2, fun h => ⟨by simp only [cel]; omega, by simp only [cel]; omega, h⟩⟩
theorem PI.skip {β : Type} {f : List Bool → β} {S T : List Bool} {n : Nat} {zs : List β} (h : PI f S n T zs) (hn : n < 6400) (hg : gb T (n / 80) (n % 80) = false) : PI f S (n + 1) T zs := by
  have hf : ¬ First S n := fun hf => by
    have := (on_cel hn).1 ((h.left _).2 (left_first.2 hf)); rw [hg] at this; cases this
  refine ⟨h.len, fun a => (h.left a).trans (left_succ_skip hf).symm, ?_⟩
  rw [firsts_succ, if_neg hf]; exact h.er
theorem PI.first {β : Type} {f : List Bool → β} {S T : List Bool} {n : Nat} {zs : List β} (h : PI f S n T zs) (hn : n < 6400) (hg : gb T (n / 80) (n % 80) = true) : First S n := left_first.1 ((h.left _).1 ((on_cel hn).2 hg))
theorem PI.comp {β : Type} {f : List Bool → β} {S T : List Bool} {n : Nat} {zs : List β} (h : PI f S n T zs) (hn : n < 6400) (hg : gb T (n / 80) (n % 80) = true) : compB T (cel n) = compB S (cel n) := comp_left h.left (left_first.2 (h.first hn hg))
theorem PI.take {β : Type} {f : List Bool → β} {S T T' : List Bool} {n : Nat} {zs : List β} (h : PI f S n T zs) (hn : n < 6400) (hg : gb T (n / 80) (n % 80) = true) (hl : T'.length = 6400) (hg' : ∀ y x, y < 80 → x < 80 → gb T' y x = (gb T y x && !gb (compB T (cel n)) y x)) : PI f S (n + 1) T' (zs ++ [f (compB T (cel n))]) := by
  have hf := h.first hn hg
  have hc := h.comp hn hg
  refine ⟨hl, fun a => ?_, ?_⟩
  · rw [left_succ_take hf, ← h.left a]
    constructor
    · rintro ⟨h1, h2, h3⟩
      rw [hg' _ _ h1 h2, Bool.and_eq_true, Bool.not_eq_true', hc] at h3
      refine ⟨⟨h1, h2, h3.1⟩, fun k => ?_⟩
      have := (comp_iff h1 h2).2 k; rw [h3.2] at this; cases this
    · rintro ⟨⟨h1, h2, h3⟩, h4⟩
      refine ⟨h1, h2, ?_⟩
      rw [hg' _ _ h1 h2, h3, hc, Bool.true_and, Bool.not_eq_true']
      cases hb : gb (compB S (cel n)) a.1 a.2 with
      | false => rfl
      | true => exact absurd ((comp_iff h1 h2).1 hb) h4
  · rw [firsts_succ, if_pos hf, List.map_append, ← h.er, hc]; rfl
noncomputable def partsL (S : List Bool) : List (List Rect) := (comps S).map canon
theorem PI.all {S T : List Bool} {zs : List (List Bool)} (h : PI id S 6400 T zs) : zs = comps S := by
  rw [h.er, comps]; simp only [id]
theorem PI.final {S T : List Bool} {zs : List (List Rect)} (h : PI canon S 6400 T zs) : zs = partsL S := by
  rw [h.er, partsL, comps, List.map_map]; simp only [Function.comp_def]
open Classical in
theorem firsts_sorted (S : List Bool) (n : Nat) : (firsts S n).Pairwise (· < ·) := List.Pairwise.filter _ List.pairwise_lt_range
theorem firsts_lt {S : List Bool} {n i j : Nat} (h : i < j) (hj : j < (firsts S n).length) : gd (firsts S n) i < gd (firsts S n) j := by
  rw [gd_eq hj, gd_eq (by omega)]
  exact List.pairwise_iff_getElem.1 (firsts_sorted S n) i j (by omega) hj h
open Classical in
theorem firsts_first {S : List Bool} {n i : Nat} (hi : i < (firsts S n).length) : First S (gd (firsts S n) i) := by
  rw [gd_eq hi]
  have := List.getElem_mem hi
  have := (List.mem_filter.1 this).2
  simpa using this
theorem partsL_len (S : List Bool) : (partsL S).length = (firsts S 6400).length := by simp [partsL, comps]
open Classical in
theorem firsts_len (S : List Bool) (n : Nat) : (firsts S n).length ≤ n := by
  have := List.length_filter_le (fun j => decide (First S j)) (List.range n)
  simpa [firsts] using this
theorem partsL_gd {S : List Bool} {i : Nat} (hi : i < (firsts S 6400).length) : gd (partsL S) i = canon (compB S (cel (gd (firsts S 6400) i))) := by
  rw [gd_eq (by rw [partsL_len]; exact hi), gd_eq hi]; simp [partsL, comps]
/-- a part is taken away, cell by cell -/
def Sub (T C : List Bool) (n : Nat) (U : List Bool) : Prop := U.length = 6400 ∧ ∀ y x, y < 80 → x < 80 → gb U y x = if y * 80 + x < n then (gb T y x && !gb C y x) else gb T y x
theorem Sub.start {T C : List Bool} (h : T.length = 6400) : Sub T C 0 T := ⟨h, fun y x _ _ => by rw [if_neg (by omega)]⟩
theorem Sub.step {T C U : List Bool} {v u m : Nat} (h : Sub T C (v * 80 + u) U) (hv : v < 80) (hu : u < 80) (hm : m = v * 80 + u + 1) : Sub T C m (U.set (0 + v * 80 + u * 1) (gd U (0 + v * 80 + u * 1) && !gd C (0 + v * 80 + u * 1))) := by
  subst hm
  obtain ⟨h1, h2⟩ := h
  refine ⟨by simpa using h1, fun y x hy hx => ?_⟩
  rw [show 0 + v * 80 + u * 1 = v * 80 + u by omega, gb_set' h1 hv hu hx]
  by_cases e : y = v ∧ x = u
  · obtain ⟨rfl, rfl⟩ := e
    rw [if_pos ⟨rfl, rfl⟩, if_pos (by omega)]
    have := h2 y x hv hu
    rw [if_neg (by omega)] at this
    show (gb U y x && !gb C y x) = _
    rw [this]
  · rw [if_neg e, h2 y x hy hx]
    by_cases c : y * 80 + x < v * 80 + u
    · rw [if_pos c, if_pos (by omega)]
    · rw [if_neg c, if_neg (by omega)]
theorem Sub.final {T C U : List Bool} (h : Sub T C 6400 U) : ∀ y x, y < 80 → x < 80 → gb U y x = (gb T y x && !gb C y x) := fun y x hy hx => by
  rw [h.2 y x hy hx, if_pos (by omega)]
def dX (d : Nat) : Int := gd [1, -1, 0, 0] d
def dY (d : Nat) : Int := gd [0, 0, 1, -1] d
theorem dX_le (d : Nat) : -1 ≤ dX d ∧ dX d ≤ 1 := by
  match d with
  | 0 | 1 | 2 | 3 => simp [dX, gd]
  | n + 4 => simp [dX, gd]
theorem dY_le (d : Nat) : -1 ≤ dY d ∧ dY d ≤ 1 := by
  match d with
  | 0 | 1 | 2 | 3 => simp [dY, gd]
  | n + 4 => simp [dY, gd]
def Near4 (S O : List Bool) (p : Cel) (d : Nat) : Prop := ∀ e, e < d → ∀ c : Cel, (c.1 : Int) = p.1 + dY e → (c.2 : Int) = p.2 + dX e → On S c → On O c
theorem Near4.zero (S O : List Bool) (p : Cel) : Near4 S O p 0 := fun e h => by omega
theorem Near4.done {S O : List Bool} {p : Cel} (h : Near4 S O p 4) : ∀ c, Adj p c → On S c → On O c := fun c ha hs => by
  rcases ha with ⟨h1, h2 | h2⟩ | ⟨h1, h2 | h2⟩
  · exact h 1 (by omega) c (by simp [dY, gd]; omega) (by simp [dX, gd]; omega) hs
  · exact h 0 (by omega) c (by simp [dY, gd]; omega) (by simp [dX, gd]; omega) hs
  · exact h 3 (by omega) c (by simp [dY, gd]; omega) (by simp [dX, gd]; omega) hs
  · exact h 2 (by omega) c (by simp [dY, gd]; omega) (by simp [dX, gd]; omega) hs
theorem Near4.step {S O O' : List Bool} {p : Cel} {d : Nat} (h : Near4 S O p d) (hO : ∀ c, On O c → On O' c) (hn : ∀ c : Cel, (c.1 : Int) = p.1 + dY d → (c.2 : Int) = p.2 + dX d → On S c → On O' c) : Near4 S O' p (d + 1) := fun e he c h1 h2 hs => by
  by_cases k : e = d
  · subst k; exact hn c h1 h2 hs
  · exact hO c (h e (by omega) c h1 h2 hs)
theorem Done.next4 {S O : List Bool} {Q : List (Int × Int)} {i : Nat} {p : Cel} (h : Done S O Q i) (hp : qc (gd Q i) = p) (hn : Near4 S O p 4) : Done S O Q (i + 1) := fun m hm c ha hs => by
  by_cases e : m = i
  · subst e; rw [hp] at ha; exact hn.done c ha hs
  · exact h m (by omega) c ha hs
theorem Near4.skip {S O : List Bool} {q : Int × Int} {d : Nat} (h : Near4 S O (qc q) d) (hb : 0 ≤ q.1 ∧ q.1 < 80 ∧ 0 ≤ q.2 ∧ q.2 < 80) (hc : ¬ (0 ≤ q.1 + dX d ∧ q.1 + dX d < 80 ∧ 0 ≤ q.2 + dY d ∧ q.2 + dY d < 80) ∨ gb S (q.2 + dY d).toNat (q.1 + dX d).toNat = false ∨ gb O (q.2 + dY d).toNat (q.1 + dX d).toNat = true) : Near4 S O (qc q) (d + 1) :=
  h.step (fun _ h => h) fun c e1 e2 hs => by
    obtain ⟨c1, c2⟩ := c
    obtain ⟨h1, h2, h3⟩ := hs
    simp only [qc] at *
    have e3 : c1 = (q.2 + dY d).toNat := by omega
    have e4 : c2 = (q.1 + dX d).toNat := by omega
    rcases hc with k | k | k
    · omega
    · rw [← e3, ← e4, h3] at k; cases k
    · exact ⟨h1, h2, by rw [e3, e4]; exact k⟩
theorem Near4.take {S O : List Bool} {q : Int × Int} {d : Nat} (h : Near4 S O (qc q) d) (hl : O.length = 6400) (hb : 0 ≤ q.1 ∧ q.1 < 80 ∧ 0 ≤ q.2 ∧ q.2 < 80) (hx : 0 ≤ q.1 + dX d ∧ q.1 + dX d < 80) (hy : 0 ≤ q.2 + dY d ∧ q.2 + dY d < 80) : Near4 S (O.set ((q.2 + dY d).toNat * 80 + (q.1 + dX d).toNat) true) (qc q) (d + 1) :=
  h.step (fun c hc => on_set hl hx hy hc) fun c e1 e2 hs => by
    obtain ⟨c1, c2⟩ := c
    obtain ⟨h1, h2, h3⟩ := hs
    simp only [qc] at *
    have e3 : c1 = (q.2 + dY d).toNat := by omega
    have e4 : c2 = (q.1 + dX d).toNat := by omega
    refine ⟨h1, h2, ?_⟩
    rw [gb_set' hl (by omega) (by omega) h2, if_pos ⟨e3, e4⟩]
theorem adj4 {q : Int × Int} {d : Nat} (hd : d < 4) (hb : 0 ≤ q.1 ∧ q.1 < 80 ∧ 0 ≤ q.2 ∧ q.2 < 80) (hx : 0 ≤ q.1 + dX d) (hy : 0 ≤ q.2 + dY d) : Adj (qc q) ((q.2 + dY d).toNat, (q.1 + dX d).toNat) := by
  match d with
  | 0 | 1 | 2 | 3 => simp [dX, dY, gd, qc, Adj] at *; omega
end Go.Proofs.YtmomfgfmnpblpaaGreat
namespace Go.Proofs.YtmomfgfmnpblpaaGreat
set_option linter.unusedVariables false
set_option linter.unusedSimpArgs false
open Go
set_option maxRecDepth 20000
set_option linter.unusedSimpArgs false
variable {G : Gh} {L : List Ch} {R : Value → Gh → List Ch → Prop}
def cmpI (x y : Int) : Int := if x < y then -1 else if y < x then 1 else 0
def orI : List Int → Int
  | [] => 0
  | x :: l => if x ≠ 0 then x else orI l
def cmpR (a b : Rect) : Int := orI [cmpI a.y0 b.y0, cmpI a.x0 b.x0, cmpI a.y1 b.y1, cmpI a.x1 b.x1]
theorem orI_zero : ∀ {xs : List Int} {i : Nat}, (∀ j, j < i → gd xs j = 0) → orI xs = orI (xs.drop i)
  | xs, 0, _ => by simp
  | [], i + 1, _ => by simp
  | x :: xs, i + 1, h => by
    have h0 : x = 0 := by have := h 0 (by omega); simpa [gd] using this
    rw [List.drop_succ_cons, orI, if_neg (by simp [h0])]
    exact orI_zero fun j hj => by have := h (j + 1) (by omega); simpa [gd] using this
theorem orI_at {xs : List Int} {i : Nat} (hi : i < xs.length) (h : ∀ j, j < i → gd xs j = 0) (hx : gd xs i ≠ 0) : orI xs = gd xs i := by
  rw [orI_zero h, List.drop_eq_getElem_cons hi, ← gd_eq hi, orI, if_pos hx]
theorem orI_all {xs : List Int} (h : ∀ j, j < xs.length → gd xs j = 0) : orI xs = 0 := by
  rw [orI_zero h]; simp [orI]
theorem cmpOr_s {v : Value} {xs : List Int} (h1 : Rs G L intT v xs) (k : R (vi (orI xs)) G L) : CallT Tryz.prog 218 #[v] G L R := by
  refine CallT.bd h1 fun hb => ?_
  refine CallT.enter (args := _) Tryz.func218 rfl rfl (by kernel_rfl) rfl ?_
  refine WP.seq ?_
  refine WP.region ?_
  refine RG.pv rfl (PV.mvI (.inr rfl) rfl) ?_
  refine RG.nil ?_
  refine WP.seq ?_
  refine WP.region ?_
  refine RG.pv rfl (PV.mvI (.inr rfl) rfl) ?_
  refine RG.nil ?_
  refine WP.seq ?_
  refine WP.seq ?_
  refine WP.region ?_
  refine RG.pv rfl (PV.move (v := v) rfl rfl) ?_
  refine RG.pv rfl (PV.len (v := v) rfl Tryz.underlying183 rfl (SlF.r h1)) ?_
  refine RG.pv rfl (PV.mvI (.inl rfl) rfl) ?_
  refine RG.nil ?_
  refine WP.block ?_
  refine WP.loop1 [3, 6, 7] (fun i => i ≤ xs.length ∧ ∀ j, j < i → gd xs j = 0) (fun i => [(8, vi i)]) (fun i => L) (fun i => xs.length - i) 0 ⟨by omega, fun j h => by omega⟩ ⟨rfl, trivial⟩ Cv.p ?_
  rintro i τ ⟨hi, hj⟩
  refine WP.seq ?_
  refine WP.region ?_
  refine RG.pv rfl (PV.lss rfl rfl rfl) ?_
  refine RG.nil ?_
  refine WP.seq ?_
  refine WP.cond rfl (fun h2 => ?_) (fun h2 => ?_)
  · have h2 := of_decide_eq_true h2
    refine WP.skip ?_
    refine WP.seq ?_
    refine WP.block ?_
    refine WP.seq ?_
    refine WP.region ?_
    refine RG.pv rfl (PV.idxS (v := v) rfl Is183 rfl (SlF.r h1) rfl rfl (by omega)) ?_
    refine RG.pv rfl (PV.loadE1 rfl Sc3 rfl rfl (El.r h1 (getG (by omega))) rfl) ?_
    refine RG.pv rfl (PV.mvI (.inr rfl) rfl) ?_
    refine RG.nil ?_
    refine WP.seq ?_
    refine WP.region ?_
    refine RG.pv rfl (PV.mvI (.inl rfl) rfl) ?_
    refine RG.pv rfl (PV.mvI (.inl rfl) rfl) ?_
    refine RG.pv rfl (PV.neq rfl rfl rfl) ?_
    refine RG.nil ?_
    refine WP.cond rfl (fun h3 => ?_) (fun h3 => ?_)
    · have h3 : gd xs i ≠ 0 := by simpa using h3
      rw [orI_at (by omega) hj h3] at k
      refine WP.seq ?_
      refine WP.region ?_
      refine RG.pv rfl (PV.mvI (.inl rfl) rfl) ?_
      refine RG.pv rfl (PV.mvI (.inr rfl) rfl) ?_
      refine RG.nil ?_
      refine WP.ret ?_
      exact ⟨_, _, ResV.one rfl rfl, Cv.p, k⟩
    · have h3 : gd xs i = 0 := by simpa using h3
      have hj' : ∀ j, j < i + 1 → gd xs j = 0 := fun j h => by
        by_cases c : j = i
        · rw [c]; exact h3
        · exact hj j (by omega)
      refine WP.skip ?_
      refine WP.region ?_
      refine RG.pv rfl (PV.add rfl rfl rfl (by omega)) ?_
      refine RG.pv rfl (PV.mvI (.inl rfl) rfl) ?_
      refine RG.nil ?_
      exact ⟨rfl, i + 1, ⟨by omega, hj'⟩, ⟨rfl, trivial⟩, ⟨rfl, rfl, rfl, trivial⟩, Cv.p, by omega⟩
  · have h2 := of_decide_eq_false h2
    rw [orI_all (fun j h => hj j (by omega))] at k
    refine WP.exit ?_
    refine WP.seq ?_
    refine WP.region ?_
    refine RG.pv rfl (PV.mvI (.inl rfl) rfl) ?_
    refine RG.pv rfl (PV.mvI (.inr rfl) rfl) ?_
    refine RG.nil ?_
    refine WP.ret ?_
    exact ⟨_, _, ResV.one rfl rfl, Cv.p, k⟩
theorem isNaN_s {a : Int} (k : R (.bool false) G L) : CallT Tryz.prog 199 #[vi a] G L R := by
  have e : (!decide (a = a)) = false := by simp
  refine CallT.enter (args := _) Tryz.func199 rfl rfl (by kernel_rfl) rfl ?_
  refine WP.seq ?_
  refine WP.region ?_
  refine RG.pv rfl (PV.mvB (.inr rfl) rfl) ?_
  refine RG.nil ?_
  refine WP.seq ?_
  refine WP.region ?_
  refine RG.pv rfl (PV.mvI (.inl rfl) rfl) ?_
  refine RG.pv rfl (PV.mvI (.inl rfl) rfl) ?_
  refine RG.pv rfl (PV.neq rfl rfl rfl) ?_
  refine RG.pv rfl (PV.mvB (.inr rfl) rfl) ?_
  refine RG.nil ?_
  refine WP.ret ?_
  exact ⟨_, _, ResV.one rfl rfl, Cv.p, (by rw [e]; exact k)⟩
theorem cmp_s {a b : Int} (k : R (vi (cmpI a b)) G L) : CallT Tryz.prog 219 #[vi a, vi b] G L R := by
  refine CallT.enter (args := _) Tryz.func219 rfl rfl (by kernel_rfl) rfl ?_
  refine WP.seq ?_
  refine WP.region ?_
  refine RG.pv rfl (PV.mvI (.inr rfl) rfl) ?_
  refine RG.nil ?_
  refine WP.seq ?_
  refine WP.region ?_
  refine RG.pv rfl (PV.mvI (.inl rfl) rfl) ?_
  refine RG.callF (vs := [_]) rfl rfl En199 rfl (isNaN_s ?_)
  refine RG.pv rfl (PV.mvB (.inr rfl) rfl) ?_
  refine RG.nil ?_
  refine WP.seq ?_
  refine WP.region ?_
  refine RG.pv rfl (PV.mvI (.inl rfl) rfl) ?_
  refine RG.callF (vs := [_]) rfl rfl En199 rfl (isNaN_s ?_)
  refine RG.pv rfl (PV.mvB (.inr rfl) rfl) ?_
  refine RG.nil ?_
  refine WP.seq ?_
  refine WP.seq ?_
  refine WP.region ?_
  refine RG.pv rfl (PV.mvB (.inl rfl) rfl) ?_
  refine RG.nil ?_
  refine WP.cond rfl (fun h => ?_) (fun h => ?_)
  · cases h
  · refine WP.skip ?_
    refine WP.seq ?_
    refine WP.seq ?_
    refine WP.region ?_
    refine RG.pv rfl (PV.mvB (.inl rfl) rfl) ?_
    refine RG.nil ?_
    refine WP.cond rfl (fun h => ?_) (fun h => ?_)
    · cases h
    · refine WP.skip ?_
      refine WP.seq ?_
      refine WP.seq ?_
      refine WP.region ?_
      refine RG.pv rfl (PV.mvI (.inl rfl) rfl) ?_
      refine RG.pv rfl (PV.mvI (.inl rfl) rfl) ?_
      refine RG.pv rfl (PV.lss rfl rfl rfl) ?_
      refine RG.nil ?_
      refine WP.cond rfl (fun h1 => ?_) (fun h1 => ?_)
      · rw [cmpI, if_pos (of_decide_eq_true h1)] at k
        refine WP.seq ?_
        refine WP.region ?_
        refine RG.pv rfl (PV.mvI (.inr rfl) rfl) ?_
        refine RG.nil ?_
        refine WP.ret ?_
        exact ⟨_, _, ResV.one rfl rfl, Cv.p, k⟩
      · have h1 := of_decide_eq_false h1
        refine WP.skip ?_
        refine WP.seq ?_
        refine WP.seq ?_
        refine WP.region ?_
        refine RG.pv rfl (PV.mvI (.inl rfl) rfl) ?_
        refine RG.pv rfl (PV.mvI (.inl rfl) rfl) ?_
        refine RG.pv rfl (PV.gtr rfl rfl rfl) ?_
        refine RG.nil ?_
        refine WP.cond rfl (fun h2 => ?_) (fun h2 => ?_)
        · rw [cmpI, if_neg h1, if_pos (of_decide_eq_true h2)] at k
          refine WP.seq ?_
          refine WP.region ?_
          refine RG.pv rfl (PV.mvI (.inr rfl) rfl) ?_
          refine RG.nil ?_
          refine WP.ret ?_
          exact ⟨_, _, ResV.one rfl rfl, Cv.p, k⟩
        · rw [cmpI, if_neg h1, if_neg (of_decide_eq_false h2)] at k
          refine WP.skip ?_
          refine WP.seq ?_
          refine WP.region ?_
          refine RG.pv rfl (PV.mvI (.inr rfl) rfl) ?_
          refine RG.nil ?_
          refine WP.ret ?_
          exact ⟨_, _, ResV.one rfl rfl, Cv.p, k⟩
theorem compareRects_s {a b : Rect} (k : R (vi (cmpR a b)) G L) : CallT Tryz.prog 209 #[.agg #[vi a.x0, vi a.y0, vi a.x1, vi a.y1], .agg #[vi b.x0, vi b.y0, vi b.x1, vi b.y1]] G L R := by
  refine CallT.enter (args := _) Tryz.func209 rfl rfl (by kernel_rfl) rfl ?_
  refine WP.seq ?_
  refine WP.region ?_
  refine RG.ot rfl (OT.box rfl rfl rfl fun b2 => ?_)
  refine RG.ot rfl (OT.box rfl rfl rfl fun b3 => ?_)
  refine RG.pv rfl (PV.mvI (.inr rfl) rfl) ?_
  refine RG.nil ?_
  refine WP.seq ?_
  refine WP.regionH0 (.q 0 (.q 1 (.q 2 (.q 3 (.q 5 (.q 6 (.q 7 (.q 8 (.q 10 (.q 11 (.q 12 (.q 13 (.q 15 (.q 16 (.q 17 (.q 18 (.l 4 (.l 9 (.l 14 (.l 19 (.l 20 (.l 21 (.q 22 Sch.nil))))))))))))))))))))))) (by kernel_rfl) (by kernel_rfl) (by kernel_rfl) rfl ?_
  refine RH.pv rfl (fun _ _ _ _ h => h) (Gh.le_refl _) PickC.pick rfl (PV.field rfl Fo61_1 rfl) ?_
  refine RH.pv rfl (fun _ _ _ _ h => h) (Gh.le_refl _) PickC.pick rfl (PV.load1 rfl Sc2 rfl (Rd.blk rfl)) ?_
  refine RH.pv rfl (fun _ _ _ _ h => h) (Gh.le_refl _) PickC.pick rfl (PV.field rfl Fo61_1 rfl) ?_
  refine RH.pv rfl (fun _ _ _ _ h => h) (Gh.le_refl _) PickC.pick rfl (PV.load1 rfl Sc2 rfl (Rd.blk rfl)) ?_
  refine RH.pv rfl (fun _ _ _ _ h => h) (Gh.le_refl _) PickC.pick rfl (PV.field rfl Fo61_0 rfl) ?_
  refine RH.pv rfl (fun _ _ _ _ h => h) (Gh.le_refl _) PickC.pick rfl (PV.load1 rfl Sc2 rfl (Rd.blk rfl)) ?_
  refine RH.pv rfl (fun _ _ _ _ h => h) (Gh.le_refl _) PickC.pick rfl (PV.field rfl Fo61_0 rfl) ?_
  refine RH.pv rfl (fun _ _ _ _ h => h) (Gh.le_refl _) PickC.pick rfl (PV.load1 rfl Sc2 rfl (Rd.blk rfl)) ?_
  refine RH.pv rfl (fun _ _ _ _ h => h) (Gh.le_refl _) PickC.pick rfl (PV.field rfl Fo61_3 rfl) ?_
  refine RH.pv rfl (fun _ _ _ _ h => h) (Gh.le_refl _) PickC.pick rfl (PV.load1 rfl Sc2 rfl (Rd.blk rfl)) ?_
  refine RH.pv rfl (fun _ _ _ _ h => h) (Gh.le_refl _) PickC.pick rfl (PV.field rfl Fo61_3 rfl) ?_
  refine RH.pv rfl (fun _ _ _ _ h => h) (Gh.le_refl _) PickC.pick rfl (PV.load1 rfl Sc2 rfl (Rd.blk rfl)) ?_
  refine RH.pv rfl (fun _ _ _ _ h => h) (Gh.le_refl _) PickC.pick rfl (PV.field rfl Fo61_2 rfl) ?_
  refine RH.pv rfl (fun _ _ _ _ h => h) (Gh.le_refl _) PickC.pick rfl (PV.load1 rfl Sc2 rfl (Rd.blk rfl)) ?_
  refine RH.pv rfl (fun _ _ _ _ h => h) (Gh.le_refl _) PickC.pick rfl (PV.field rfl Fo61_2 rfl) ?_
  refine RH.pv rfl (fun _ _ _ _ h => h) (Gh.le_refl _) PickC.pick rfl (PV.load1 rfl Sc2 rfl (Rd.blk rfl)) ?_
  refine RH.ot rfl rfl (OT.callF (vs := [_, _]) rfl En219 rfl (cmp_s ⟨Gh.le_refl _, PickC.pick, ?_⟩))
  refine RH.ot rfl rfl (OT.callF (vs := [_, _]) rfl En219 rfl (cmp_s ⟨Gh.le_refl _, PickC.pick, ?_⟩))
  refine RH.ot rfl rfl (OT.callF (vs := [_, _]) rfl En219 rfl (cmp_s ⟨Gh.le_refl _, PickC.pick, ?_⟩))
  refine RH.ot rfl rfl (OT.callF (vs := [_, _]) rfl En219 rfl (cmp_s ⟨Gh.le_refl _, PickC.pick, ?_⟩))
  refine RH.ot rfl rfl (OT.bslice (F := intT) (els := [_, _, _, _]) rfl El183 rfl (by decide) rfl (by decide) ⟨rfl, (Cl.c rfl), ⟨rfl, (Cl.c rfl), ⟨rfl, (Cl.c rfl), ⟨rfl, (Cl.c rfl), trivial⟩⟩⟩⟩ fun v25 => ⟨Gh.le_refl _, PickC.pick, ?_⟩)
  refine RH.ot rfl rfl (OT.callF (vs := [v25]) rfl En218 rfl (cmpOr_s Rs.o ⟨Gh.le_refl _, PickC.pick, ?_⟩))
  refine RH.pv rfl (fun _ _ _ _ h => h) (Gh.le_refl _) PickC.pick rfl (PV.mvI (.inr rfl) rfl) ?_
  refine RH.nil ?_
  refine WP.ret ?_
  exact ⟨_, _, ResV.one rfl rfl, Cv.p, k⟩
theorem partsCmp_s {v u : Value} {xs ys : List Rect} (h1 : Rs G L rectT v xs) (h2 : Rs G L rectT u ys) (hx : 0 < xs.length) (hy : 0 < ys.length) (k : R (vi (cmpR (gd xs 0) (gd ys 0))) G L) : CallT Tryz.prog 208 #[v, u] G L R := by
  refine CallT.enter (args := _) Tryz.func208 rfl rfl (by kernel_rfl) rfl ?_
  refine WP.seq ?_
  refine WP.region ?_
  refine RG.pv rfl (PV.mvI (.inr rfl) rfl) ?_
  refine RG.nil ?_
  refine WP.seq ?_
  refine WP.regionQ (by kernel_rfl) (by kernel_rfl) ?_
  refine RQ.pv rfl (PV.move (v := v) rfl rfl) ?_
  refine RQ.pv rfl (PV.idxS (j := 0) (v := v) rfl Is56 rfl (SlF.r h1) rfl (by omega) (by omega)) ?_
  refine RQ.pv rfl (PV.loadE rfl Ag61 rfl rfl (El.r h1 (getG (by omega)))) ?_
  refine RQ.pv rfl (PV.move (v := u) rfl rfl) ?_
  refine RQ.pv rfl (PV.idxS (j := 0) (v := u) rfl Is56 rfl (SlF.r h2) rfl (by omega) (by omega)) ?_
  refine RQ.pv rfl (PV.loadE rfl Ag61 rfl rfl (El.r h2 (getG (by omega)))) ?_
  refine RQ.callF (vs := [_, _]) rfl rfl En209 rfl (compareRects_s ⟨rfl, rfl, rfl⟩) ?_
  refine RQ.pv rfl (PV.mvI (.inr rfl) rfl) ?_
  refine RQ.nil ?_
  refine WP.ret ?_
  exact ⟨_, _, ResV.one rfl rfl, Cv.p, k⟩
theorem parts_len {S : List Bool} {zs : List (Sl Rect)} (h : er zs = partsL S) : zs.length ≤ 6400 := by
  have := congrArg List.length h
  have h1 := firsts_len S 6400
  rw [er_len, partsL_len] at this; omega
theorem parts_at {S : List Bool} {zs : List (Sl Rect)} (h : er zs = partsL S) {i : Nat} (hi : i < zs.length) : i < (firsts S 6400).length ∧ (gd zs i).xs = canon (compB S (cel (gd (firsts S 6400) i))) := by
  have := congrArg List.length h
  rw [er_len, partsL_len] at this
  refine ⟨by omega, ?_⟩
  rw [← er_gd, h, partsL_gd (by omega)]
theorem parts_ne {S : List Bool} {zs : List (Sl Rect)} (h : er zs = partsL S) {i : Nat} (hi : i < zs.length) : 0 < (gd zs i).xs.length := by
  obtain ⟨h1, h2⟩ := parts_at h hi
  rw [h2]; exact (canon_first (firsts_first h1)).1
theorem parts_lt {S : List Bool} {zs : List (Sl Rect)} (h : er zs = partsL S) {i j : Nat} (hij : i < j) (hj : j < zs.length) : ¬ cmpR (gd (gd zs j).xs 0) (gd (gd zs i).xs 0) < 0 := by
  obtain ⟨h1, h2⟩ := parts_at h (i := i) (by omega)
  obtain ⟨h3, h4⟩ := parts_at h hj
  obtain ⟨_, a1, a2⟩ := canon_first (firsts_first h1)
  obtain ⟨_, a3, a4⟩ := canon_first (firsts_first h3)
  have h5 := firsts_lt hij h3
  rw [h2, h4, cmpR, a1, a2, a3, a4]
  simp only [orI, cmpI]
  split <;> split <;> (try split) <;> (try split) <;> (try split) <;> omega
theorem pi_zlen {S T : List Bool} {n : Nat} {zs : List (Sl Rect)} (h : PI canon S n T (er zs)) : zs.length ≤ n := by
  have := congrArg List.length h.er
  have h1 := firsts_len S n
  rw [er_len, List.length_map] at this; omega
theorem bv_len (bs : List Bool) : (bv bs).length = bs.length := by simp [bv]
theorem take6400 {S : List Bool} (h : S.length = 6400) : (S.drop 0).take 6400 = S := by rw [List.drop_zero, List.take_of_length_le (by omega)]
theorem allOne_bv (bs : List Bool) : allOne (bv bs) = true := by simp [allOne, bv, Value.oneCell']
theorem OT.storeGG {P : Program} {n : Nat} {σ : Nat → Value} {o : Oper} {K : (Nat → Value) → Gh → List Ch → Prop} {b : Nat} {t e : TypeId} {x y : Operand} {cs : List Value} {bs : List Bool} {L' : List Ch} (ho : o.op = .store t x y) (hS : ∀ w, (sizeOf t).run P w = .ok 6400 w) (hx : ev σ x = .pointer (some ⟨b, 0, none⟩)) (hy : ev σ y = .agg (bv bs).toArray) (hl : bs.length = 6400) [hX : ExB b L e cs L'] (hc : cs.length = 6400) (k : K (updo σ o.dst undef) G (blk b e (bv bs) :: L')) : OT P n o σ G L K :=
  OT.storeW ho hS hx hy (Cl.c (by simp [Value.cells])) (by simp [bv, hl]) hc (OneC.c (allOne_bv bs)) k
set_option maxHeartbeats 1000000 in
theorem parts_s {b : Nat} {S : List Bool} (hS : S.length = 6400) (k : ∀ v zs, er zs = partsL S → R v G (osl 56 slT v zs :: bagS 61 rectT zs :: grd b S :: L)) : CallT Tryz.prog 178 #[.pointer (some ⟨b, 0, none⟩), .bool false] G (grd b S :: L) R := by
  refine CallT.enter (args := _) Tryz.func178 rfl rfl (by kernel_rfl) rfl ?_
  refine WP.seq ?_
  refine WP.region ?_
  refine RG.pv rfl (PV.asg rfl rfl) ?_
  refine RG.nil ?_
  refine WP.cut2 [1] (fun (o : Value) (b6 : Nat) => True) (fun (o : Value) (b6 : Nat) => [(5, o), (6, .pointer (some ⟨b6, 0, none⟩))]) (fun (o : Value) (b6 : Nat) => grd b6 S :: osl 56 slT o ([] : List (Sl Rect)) :: grd b S :: L) ?_ ?_
  refine WP.regionH0 (.q 1 (.q 2 (.q 3 (.b 0 (.l 4 (.q 5 (.l 6 Sch.nil))) 4 (.l 0 (.q 5 (.l 6 Sch.nil))))))) (by kernel_rfl) (by kernel_rfl) (by kernel_rfl) rfl ?_
  refine RH.pv rfl (fun _ _ _ _ h => h) (Gh.le_refl _) PickC.pick rfl (PV.mvP (.inl rfl) rfl) ?_
  refine RH.pv rfl (fun _ _ _ _ h => h) (Gh.le_refl _) PickC.pick rfl (PV.nilc rfl rfl) ?_
  refine RH.pv rfl (fun _ _ _ _ h => h) (Gh.le_refl _) PickC.pick rfl (PV.loadRow rfl Ag213 rfl rfl (by omega)) ?_
  · refine RH.ot2 rfl rfl rfl rfl  (OT.bslice (F := (slT (α := Rect))) (els := []) rfl El29 rfl (by decide) rfl (by decide) trivial fun v12 => ⟨Gh.le_refl _, PickC.pick, ?_⟩) (OT.alloc rfl (zeroB_spec (n := 6400) (by kernel_rfl)) fun b6 => ⟨Gh.le_refl _, PickC.pick, ?_⟩)
    · refine RH.ot rfl rfl (OT.alloc rfl (zeroB_spec (n := 6400) (by kernel_rfl)) fun b6 => ⟨Gh.le_refl _, PickC.pick, ?_⟩)
      refine RH.pv rfl (fun _ _ _ _ h => h) (Gh.le_refl _) PickC.pick rfl (PV.asg (v := v12) rfl rfl) ?_
      refine RH.ot rfl rfl (OT.storeGG rfl Sz213 rfl rfl (by first | omega | (simp <;> omega)) (by first | assumption | rw [bv_len, List.length_replicate]) ⟨Gh.le_refl _, PickC.pick, ?_⟩)
      refine RH.nil ?_
      exact ⟨rfl, v12, b6, trivial, ⟨rfl, rfl, trivial⟩, ⟨rfl, trivial⟩, (Cv.p (C := grd b6 ((S.drop 0).take 6400) :: osl 56 slT v12 ([] : List (Sl Rect)) :: grd b S :: L)).trans (Cv.cast (by rw [take6400 hS]))⟩
    · refine RH.ot rfl rfl (OT.bslice (F := (slT (α := Rect))) (els := []) rfl El29 rfl (by decide) rfl (by decide) trivial fun v12 => ⟨Gh.le_refl _, PickC.pick, ?_⟩)
      refine RH.pv rfl (fun _ _ _ _ h => h) (Gh.le_refl _) PickC.pick rfl (PV.asg (v := v12) rfl rfl) ?_
      refine RH.ot rfl rfl (OT.storeGG rfl Sz213 rfl rfl (by first | omega | (simp <;> omega)) (by first | assumption | rw [bv_len, List.length_replicate]) ⟨Gh.le_refl _, PickC.pick, ?_⟩)
      refine RH.nil ?_
      exact ⟨rfl, v12, b6, trivial, ⟨rfl, rfl, trivial⟩, ⟨rfl, trivial⟩, (Cv.p (C := grd b6 ((S.drop 0).take 6400) :: osl 56 slT v12 ([] : List (Sl Rect)) :: grd b S :: L)).trans (Cv.cast (by rw [take6400 hS]))⟩
  · rintro o b6 τ _
    refine WP.seq ?_
    refine WP.seq ?_
    refine WP.region ?_
    refine RG.pv rfl (PV.mvI (.inl rfl) rfl) ?_
    refine RG.nil ?_
    refine WP.block ?_
    refine WP.cv ((Cv.p (C := osl 56 slT o ([] : List (Sl Rect)) :: grd b6 S :: grd b S :: L)).trans (Cv.cons (Cv.bag0 (e := 61) (F := rectT) (xs := []) rfl))) ?_
    refine WP.loop4 [1, 6] (fun (y : Nat) (T : List Bool) (zs : List (Sl Rect)) (q : Value) => y ≤ 80 ∧ PI canon S (y * 80) T (er zs)) (fun (y : Nat) (T : List Bool) (zs : List (Sl Rect)) (q : Value) => [(16, vi y), (5, q)]) (fun (y : Nat) (T : List Bool) (zs : List (Sl Rect)) (q : Value) => grd b6 T :: osl 56 slT q zs :: bagS 61 rectT zs :: grd b S :: L) (fun (y : Nat) (T : List Bool) (zs : List (Sl Rect)) (q : Value) => 80 - y) 0 S [] o ⟨by omega, PI.start hS⟩ ⟨rfl, rfl, trivial⟩ Cv.p ?_
    rintro y T zs q τ ⟨hy, hP⟩
    refine WP.seq ?_
    refine WP.region ?_
    refine RG.pv rfl (PV.lss rfl rfl rfl) ?_
    refine RG.nil ?_
    refine WP.seq ?_
    refine WP.cond rfl (fun h2 => ?_) (fun h2 => ?_)
    · have h2 := of_decide_eq_true h2
      refine WP.skip ?_
      refine WP.seq ?_
      refine WP.block ?_
      refine WP.seq ?_
      refine WP.region ?_
      refine RG.pv rfl (PV.mvI (.inl rfl) rfl) ?_
      refine RG.pv rfl (PV.mvI (.inr rfl) rfl) ?_
      refine RG.nil ?_
      refine WP.seq ?_
      refine WP.region ?_
      refine RG.pv rfl (PV.mvI (.inl rfl) rfl) ?_
      refine RG.nil ?_
      refine WP.block ?_
      refine WP.loop4 [1, 6, 7, 16] (fun (x : Nat) (T1 : List Bool) (zs1 : List (Sl Rect)) (q1 : Value) => x ≤ 80 ∧ PI canon S (y * 80 + x) T1 (er zs1)) (fun (x : Nat) (T1 : List Bool) (zs1 : List (Sl Rect)) (q1 : Value) => [(19, vi x), (5, q1)]) (fun (x : Nat) (T1 : List Bool) (zs1 : List (Sl Rect)) (q1 : Value) => grd b6 T1 :: osl 56 slT q1 zs1 :: bagS 61 rectT zs1 :: grd b S :: L) (fun (x : Nat) (T1 : List Bool) (zs1 : List (Sl Rect)) (q1 : Value) => 80 - x) 0 T zs q ⟨by omega, hP⟩ ⟨rfl, rfl, trivial⟩ Cv.p ?_
      rintro x T1 zs1 q1 τ1 ⟨hx, hP1⟩
      refine WP.seq ?_
      refine WP.region ?_
      refine RG.pv rfl (PV.lss rfl rfl rfl) ?_
      refine RG.nil ?_
      refine WP.seq ?_
      refine WP.cond rfl (fun h3 => ?_) (fun h3 => ?_)
      · have h3 := of_decide_eq_true h3
        have hl1 := hP1.len
        have hzl := pi_zlen hP1
        have e1 : (y * 80 + x) / 80 = y := by omega
        have e2 : (y * 80 + x) % 80 = x := by omega
        have e3 : cel (y * 80 + x) = (y, x) := by rw [cel, e1, e2]
        refine WP.skip ?_
        refine WP.seq ?_
        refine WP.block ?_
        refine WP.seq ?_
        refine WP.region ?_
        refine RG.pv rfl (PV.mvI (.inl rfl) rfl) ?_
        refine RG.pv rfl (PV.mvI (.inr rfl) rfl) ?_
        refine RG.nil ?_
        refine WP.seq ?_
        refine WP.seq ?_
        refine WP.region ?_
        refine RG.pv rfl (PV.mvI (.inl rfl) rfl) ?_
        refine RG.pv rfl (PV.mvI (.inl rfl) rfl) ?_
        refine RG.pv rfl (PV.idxA (j := y) rfl Ia213 rfl rfl (by omega) (by omega)) ?_
        refine RG.pv rfl (PV.idxA (j := x) rfl Ia211 rfl rfl (by omega) (by omega)) ?_
        refine RG.pv rfl (PV.loadGr rfl Sc4 rfl rfl (by omega)) ?_
        refine RG.pv rfl (PV.not rfl rfl) ?_
        refine RG.nil ?_
        refine WP.cond rfl (fun h4 => ?_) (fun h4 => ?_)
        · have h5 : gb T1 y x = false := by rw [← gd_gb]; simpa using h4
          refine WP.exit ?_
          refine WP.region ?_
          refine RG.pv rfl (PV.add rfl rfl rfl (by omega)) ?_
          refine RG.pv rfl (PV.mvI (.inl rfl) rfl) ?_
          refine RG.nil ?_
          exact ⟨rfl, x + 1, T1, zs1, q1, ⟨by omega, hP1.skip (by omega) (by rw [e1, e2]; exact h5)⟩, ⟨rfl, rfl, trivial⟩, ⟨rfl, rfl, rfl, rfl, trivial⟩, Cv.p, by omega⟩
        · have h5 : gb T1 y x = true := by rw [← gd_gb]; simpa using h4
          refine WP.skip ?_
          refine WP.seq ?_
          refine WP.region ?_
          refine RG.pv rfl (PV.mvI (.inl rfl) rfl) ?_
          refine RG.pv rfl (PV.mvI (.inl rfl) rfl) ?_
          refine RG.pv rfl (PV.mvB (.inl rfl) rfl) ?_
          refine RG.callF (vs := [_, _, _, _]) rfl rfl En206 rfl (CallT.exB (flood_s (x := (x : Int)) (y := (y : Int)) hl1 (by omega) (by omega) (by rw [Int.toNat_natCast, Int.toNat_natCast]; exact h5) (fun b9 => ?_)))
          refine RG.pv rfl (PV.asg rfl rfl) ?_
          refine RG.nil ?_
          refine WP.seq ?_
          refine WP.seq ?_
          refine WP.region ?_
          refine RG.pv rfl (PV.mvI (.inl rfl) rfl) ?_
          refine RG.nil ?_
          refine WP.block ?_
          refine WP.cv ((Cv.p (C := grd b9 (compB T1 ((y : Int).toNat, (x : Int).toNat)) :: grd b6 T1 :: osl 56 slT q1 zs1 :: bagS 61 rectT zs1 :: grd b S :: L)).trans (Cv.cast (by rw [Int.toNat_natCast, Int.toNat_natCast, ← e3]))) ?_
          have hlc := compB_len T1 (cel (y * 80 + x))
          refine WP.loop2 [1, 5, 6, 7, 9, 16, 19] (fun (v : Nat) (U : List Bool) => v ≤ 80 ∧ Sub T1 (compB T1 (cel (y * 80 + x))) (v * 80) U) (fun (v : Nat) (U : List Bool) => [(32, vi v)]) (fun (v : Nat) (U : List Bool) => grd b9 (compB T1 (cel (y * 80 + x))) :: grd b6 U :: osl 56 slT q1 zs1 :: bagS 61 rectT zs1 :: grd b S :: L) (fun (v : Nat) (U : List Bool) => 80 - v) 0 T1 ⟨by omega, Sub.start hl1⟩ ⟨rfl, trivial⟩ Cv.p ?_
          rintro v U τ2 ⟨hv, hU⟩
          refine WP.seq ?_
          refine WP.region ?_
          refine RG.pv rfl (PV.lss rfl rfl rfl) ?_
          refine RG.nil ?_
          refine WP.seq ?_
          refine WP.cond rfl (fun h6 => ?_) (fun h6 => ?_)
          · have h6 := of_decide_eq_true h6
            refine WP.skip ?_
            refine WP.seq ?_
            refine WP.block ?_
            refine WP.seq ?_
            refine WP.region ?_
            refine RG.pv rfl (PV.mvI (.inl rfl) rfl) ?_
            refine RG.pv rfl (PV.mvI (.inr rfl) rfl) ?_
            refine RG.nil ?_
            refine WP.seq ?_
            refine WP.region ?_
            refine RG.pv rfl (PV.mvI (.inl rfl) rfl) ?_
            refine RG.nil ?_
            refine WP.block ?_
            refine WP.loop2 [1, 5, 6, 7, 9, 10, 16, 19, 32] (fun (u : Nat) (V : List Bool) => u ≤ 80 ∧ Sub T1 (compB T1 (cel (y * 80 + x))) (v * 80 + u) V) (fun (u : Nat) (V : List Bool) => [(35, vi u)]) (fun (u : Nat) (V : List Bool) => grd b9 (compB T1 (cel (y * 80 + x))) :: grd b6 V :: osl 56 slT q1 zs1 :: bagS 61 rectT zs1 :: grd b S :: L) (fun (u : Nat) (V : List Bool) => 80 - u) 0 U ⟨by omega, hU⟩ ⟨rfl, trivial⟩ Cv.p ?_
            rintro u V τ3 ⟨hu, hV⟩
            refine WP.seq ?_
            refine WP.region ?_
            refine RG.pv rfl (PV.lss rfl rfl rfl) ?_
            refine RG.nil ?_
            refine WP.seq ?_
            refine WP.cond rfl (fun h7 => ?_) (fun h7 => ?_)
            · have h7 := of_decide_eq_true h7
              have hVl := hV.1
              refine WP.skip ?_
              refine WP.seq ?_
              refine WP.block ?_
              refine WP.seq ?_
              refine WP.region ?_
              refine RG.pv rfl (PV.mvI (.inl rfl) rfl) ?_
              refine RG.pv rfl (PV.mvI (.inr rfl) rfl) ?_
              refine RG.nil ?_
              refine WP.regionHD [.b b6] (.q 0 (.q 1 (.q 2 (.q 3 (.q 4 (.q 5 (.q 17 (.l 6 (.q 7 (.q 8 (.q 9 (.q 10 (.q 11 (.q 12 (.q 13 (.q 14 (.q 15 (.q 16 (.q 18 (.l 19 Sch.nil)))))))))))))))))))) (by kernel_rfl) (by kernel_rfl) (by kernel_rfl) rfl ?_
              refine RH.pv rfl (fun _ _ _ _ h => h) (Gh.le_refl _) PickC.pick rfl (PV.mvI (.inl rfl) rfl) ?_
              refine RH.pv rfl (fun _ _ _ _ h => h) (Gh.le_refl _) PickC.pick rfl (PV.mvI (.inl rfl) rfl) ?_
              refine RH.pv rfl (fun _ _ _ _ h => h) (Gh.le_refl _) PickC.pick rfl (PV.mvI (.inl rfl) rfl) ?_
              refine RH.pv rfl (fun _ _ _ _ h => h) (Gh.le_refl _) PickC.pick rfl (PV.mvI (.inl rfl) rfl) ?_
              refine RH.pv rfl (fun _ _ _ _ h => h) (Gh.le_refl _) PickC.pick rfl (PV.idxA (j := v) rfl Ia213 rfl rfl (by omega) (by omega)) ?_
              refine RH.pv rfl (fun _ _ _ _ h => h) (Gh.le_refl _) PickC.pick rfl (PV.idxA (j := u) rfl Ia211 rfl rfl (by omega) (by omega)) ?_
              refine RH.pv rfl (fun _ _ _ _ h => h) (Gh.le_refl _) PickC.pick rfl (PV.idxA (j := v) rfl Ia213 rfl rfl (by omega) (by omega)) ?_
              refine RH.ot rfl rfl (OT.pv (PV.loadGr rfl Sc4 rfl rfl (by omega)) ⟨Gh.le_refl _, PickC.pick, ?_⟩)
              refine RH.pv rfl (fun _ _ _ _ h => h) (Gh.le_refl _) PickC.pick rfl (PV.mvB (.inl rfl) rfl) ?_
              refine RH.gs rfl (fun _ _ _ _ h => h) (Gh.le_refl _) PickC.pick rfl rfl rfl (fun hp => (PV.mvP (.inl rfl) rfl)) ?_
              refine RH.gs rfl (fun _ _ _ _ h => h) (Gh.le_refl _) PickC.pick rfl rfl rfl (fun hp => (PV.mvI (.inl rfl) rfl)) ?_
              refine RH.gs rfl (fun _ _ _ _ h => h) (Gh.le_refl _) PickC.pick rfl rfl rfl (fun hp => (PV.mvI (.inl rfl) rfl)) ?_
              refine RH.gs rfl (fun _ _ _ _ h => h) (Gh.le_refl _) PickC.pick rfl rfl rfl (fun hp => (PV.nilc rfl (gs_t hp))) ?_
              refine RH.gs rfl (fun _ _ _ _ h => h) (Gh.le_refl _) PickC.pick rfl rfl rfl (fun hp => (PV.idxA (j := v) rfl Ia213 (gs_t hp) (gs_t hp) (by first | omega | (simp at hp; omega)) (by first | omega | (simp at hp; omega)))) ?_
              refine RH.gs rfl (fun _ _ _ _ h => h) (Gh.le_refl _) PickC.pick rfl rfl rfl (fun hp => (PV.idxA (j := u) rfl Ia211 (gs_t hp) (gs_t hp) (by first | omega | (simp at hp; omega)) (by first | omega | (simp at hp; omega)))) ?_
              refine RH.gs rfl (fun _ _ _ _ h => h) (Gh.le_refl _) PickC.pick rfl rfl rfl (fun hp => (PV.loadGr rfl Sc4 (gs_t hp) rfl (by first | omega | (simp at hp; omega)))) ?_
              refine RH.gs rfl (fun _ _ _ _ h => h) (Gh.le_refl _) PickC.pick rfl rfl rfl (fun hp => (PV.not rfl (gs_t hp))) ?_
              refine RH.pv rfl (fun _ _ _ _ h => h) (Gh.le_refl _) PickC.pick rfl (PV.pickA rfl rfl (fun hq => gs_t (geqT hq)) rfl) ?_
              refine RH.pv rfl (fun _ _ _ _ h => h) (Gh.le_refl _) PickC.pick rfl (PV.idxA (j := u) rfl Ia211 rfl rfl (by omega) (by omega)) ?_
              refine RH.ot rfl rfl (OT.storeGr rfl Sz4 rfl rfl rfl (by first | omega | (simp; omega)) ⟨Gh.le_refl _, PickC.pick, ?_⟩)
              refine RH.nil ?_
              refine WP.region ?_
              refine RG.pv rfl (PV.add rfl rfl rfl (by omega)) ?_
              refine RG.pv rfl (PV.mvI (.inl rfl) rfl) ?_
              refine RG.nil ?_
              exact ⟨rfl, u + 1, (V.set (0 + v * 80 + u * 1) (gd V (0 + v * 80 + u * 1) && !gd (compB T1 (cel (y * 80 + x))) (0 + v * 80 + u * 1))), ⟨by omega, hV.step (by omega) (by omega) (by omega)⟩, ⟨rfl, trivial⟩, ⟨rfl, rfl, rfl, rfl, rfl, rfl, rfl, rfl, rfl, trivial⟩, Cv.p, by omega⟩
            · have h7 := of_decide_eq_false h7
              obtain rfl : u = 80 := by omega
              refine WP.exit ?_
              refine WP.region ?_
              refine RG.pv rfl (PV.add rfl rfl rfl (by omega)) ?_
              refine RG.pv rfl (PV.mvI (.inl rfl) rfl) ?_
              refine RG.nil ?_
              exact ⟨rfl, v + 1, V, ⟨by omega, by rw [Nat.add_mul]; exact hV⟩, ⟨rfl, trivial⟩, ⟨rfl, rfl, rfl, rfl, rfl, rfl, rfl, trivial⟩, Cv.p, by omega⟩
          · have h6 := of_decide_eq_false h6
            obtain rfl : v = 80 := by omega
            refine WP.exit ?_
            refine WP.region ?_
            refine RG.pv rfl (PV.move (v := q1) rfl rfl) ?_
            refine RG.pv rfl (PV.mvP (.inl rfl) rfl) ?_
            refine RG.callF (vs := [_]) rfl rfl En139 rfl (region_s hlc (fun v61 => ?_))
            refine RG.ot rfl (OT.bslice (F := (slT (α := Rect))) (els := [⟨v61, canon (compB T1 (cel (y * 80 + x)))⟩]) rfl El29 rfl (by decide) rfl (by decide) ⟨rfl, (Cl.s (v := v61) SlF.o), trivial⟩ fun v62 => ?_)
            refine RG.ot rfl (OT.append (v := q1) (u := v62) (F := (slT (α := Rect))) rfl El29 rfl (by decide) rfl rfl Rs.o (OneL.one (OneC.sl SlF.o OneC.nil)) rfl (by first | omega | (simp <;> omega)) fun v63 => ?_)
            refine RG.pv rfl (PV.asg (v := v63) rfl rfl) ?_
            refine RG.nil ?_
            refine WP.region ?_
            refine RG.pv rfl (PV.add rfl rfl rfl (by omega)) ?_
            refine RG.pv rfl (PV.mvI (.inl rfl) rfl) ?_
            refine RG.nil ?_
            refine ⟨rfl, x + 1, U, (zs1 ++ [⟨v61, canon (compB T1 (cel (y * 80 + x)))⟩]), v63, ⟨by omega, ?_⟩, ⟨rfl, rfl, trivial⟩, ⟨rfl, rfl, rfl, rfl, trivial⟩, ((Cv.p (C := osl 61 rectT v61 (canon (compB T1 (cel (y * 80 + x)))) :: bagS 61 rectT zs1 :: grd b6 U :: osl 56 slT v63 (zs1 ++ [⟨v61, canon (compB T1 (cel (y * 80 + x)))⟩]) :: grd b S :: L)).trans (Cv.bagS_add.trans Cv.p)), by omega⟩
            rw [er, List.map_append]
            exact hP1.take (by omega) (by rw [e1, e2]; exact h5) hU.1 hU.final
      · have h3 := of_decide_eq_false h3
        obtain rfl : x = 80 := by omega
        refine WP.exit ?_
        refine WP.region ?_
        refine RG.pv rfl (PV.add rfl rfl rfl (by omega)) ?_
        refine RG.pv rfl (PV.mvI (.inl rfl) rfl) ?_
        refine RG.nil ?_
        exact ⟨rfl, y + 1, T1, zs1, q1, ⟨by omega, by rw [Nat.add_mul]; exact hP1⟩, ⟨rfl, rfl, trivial⟩, ⟨rfl, rfl, trivial⟩, Cv.p, by omega⟩
    · have h2 := of_decide_eq_false h2
      obtain rfl : y = 80 := by omega
      have hz := hP.final
      refine WP.exit ?_
      refine WP.seq ?_
      refine WP.region ?_
      refine RG.pv rfl (PV.move (v := q) rfl rfl) ?_
      refine RG.callF (vs := [q, _]) rfl rfl En207 rfl (sorted_rss (cf := fun i j => cmpR (gd (gd zs i).xs 0) (gd (gd zs j).xs 0)) (parts_len hz) Rs.o (fun i j hi hj => CB.mk0 En208 fun L' R c k => partsCmp_s (Rs.cv c (RsE.o i hi)) (Rs.cv c (RsE.o j hj)) (parts_ne hz hi) (parts_ne hz hj) k) (fun i j hij hj => parts_lt hz hij hj) ?_)
      refine RG.nil ?_
      refine WP.seq ?_
      refine WP.region ?_
      refine RG.pv rfl (PV.move (v := q) rfl rfl) ?_
      refine RG.pv rfl (PV.asg (v := q) rfl rfl) ?_
      refine RG.nil ?_
      refine WP.ret ?_
      exact ⟨_, _, ResV.one rfl rfl, Cv.p, k q zs hz⟩
end Go.Proofs.YtmomfgfmnpblpaaGreat
namespace Go.Proofs.YtmomfgfmnpblpaaGreat
set_option linter.unusedVariables false
set_option linter.unusedSimpArgs false
open Go
set_option maxRecDepth 20000
set_option linter.unusedSimpArgs false
set_option linter.unusedVariables false
variable {G : Gh} {L : List Ch} {R : Value → Gh → List Ch → Prop}
theorem wpAnyH_mono {P : Program} {md : Region.Mode} {ops : Array Oper} {Q : Exit → Act → World → Prop} {S S' : World → Prop} (h : ∀ w, S' w → S w) : ∀ (fuel : Nat) (ls : Array Bool) (a : Act) (w : World), wpAnyH P md ops Q S' fuel ls a w → wpAnyH P md ops Q S fuel ls a w
  | 0, _, _, _, k => k
  | fuel + 1, _, _, _, k => ⟨k.1, fun i hi => wpOp_mono (fun a' w' k' => ⟨h w' k'.1, wpAnyH_mono h fuel _ a' w' k'.2⟩) (k.2 i hi)⟩
/-- a fresh chunk is held from here on -/
theorem RH.up1 {P : Program} {n : Nat} {ops : Array Oper} {Q : Post} {σ : Nat → Value} {G G0 : Gh} {L C0 : List Ch} {r : Sch} {c : Ch} (k : RH P n ops G0 (c :: C0) r Q σ G (c :: L)) : RH P n ops G0 C0 r Q σ G (c :: L) :=
  RH.of fun h1 h2 ls a w hb ha hs => wpAnyH_mono (fun w' hs' => hs'.pick (.drop _ (.refl _))) _ _ _ _ (k.run h1 h2 hb ha hs)
theorem components_s {v : Value} {xs : List Rect} (h1 : Rs G L rectT v xs) (k : ∀ v zs, er zs = partsL (bits xs) → R v G (osl 56 slT v zs :: bagS 61 rectT zs :: L)) : CallT Tryz.prog 116 #[v] G L R := by
  refine CallT.enter (args := _) Tryz.func116 rfl rfl (by kernel_rfl) rfl ?_
  refine WP.seq ?_
  refine WP.region ?_
  refine RG.pv rfl (PV.asg rfl rfl) ?_
  refine RG.nil ?_
  refine WP.seq ?_
  refine WP.region ?_
  refine RG.pv rfl (PV.move (v := v) rfl rfl) ?_
  refine RG.callF (vs := [v]) rfl rfl En114 rfl (cellsOf_s (Rs.up h1) (fun b7 => ?_))
  refine RG.callF (vs := [_, _]) rfl rfl En178 rfl (CallT.exB (parts_s (bits_length _) (fun v8 ps8 hp8 => ?_)))
  refine RG.pv rfl (PV.asg rfl rfl) ?_
  refine RG.nil ?_
  refine WP.ret ?_
  exact ⟨_, _, ResV.one rfl rfl, Cv.p, k v8 ps8 hp8⟩
theorem l17At_s {x y : Int} (hx : -40 ≤ x ∧ x ≤ 40) (hy : -40 ≤ y ∧ y ≤ 40) (k : R (vi ((y + 40) * 80 + x + 40)) G L) : CallT Tryz.prog 107 #[vi x, vi y] G L R := by
  refine CallT.enter (args := _) Tryz.func107 rfl rfl (by kernel_rfl) rfl ?_
  refine WP.seq ?_
  refine WP.region ?_
  refine RG.pv rfl (PV.mvI (.inr rfl) rfl) ?_
  refine RG.nil ?_
  refine WP.seq ?_
  refine WP.region ?_
  refine RG.pv rfl (PV.mvI (.inl rfl) rfl) ?_
  refine RG.pv rfl (PV.add rfl rfl rfl (by omega)) ?_
  refine RG.pv rfl (PV.mul rfl rfl rfl (by omega)) ?_
  refine RG.pv rfl (PV.mvI (.inl rfl) rfl) ?_
  refine RG.pv rfl (PV.add rfl rfl rfl (by omega)) ?_
  refine RG.pv rfl (PV.add rfl rfl rfl (by omega)) ?_
  refine RG.pv rfl (PV.mvI (.inr rfl) rfl) ?_
  refine RG.nil ?_
  refine WP.ret ?_
  exact ⟨_, _, ResV.one rfl rfl, Cv.p, k⟩
theorem l17Inside_s {x y : Int} (k : R (.bool (decide (-40 ≤ x ∧ x < 40) && decide (-40 ≤ y ∧ y < 40))) G L) : CallT Tryz.prog 135 #[vi x, vi y] G L R := by
  have e : (decide (-40 ≤ x ∧ x < 40) && decide (-40 ≤ y ∧ y < 40)) = (decide (x ≥ -40) && decide (x < 40) && decide (y ≥ -40) && decide (y < 40)) := by rw [Bool.eq_iff_iff]; simp; omega
  rw [e] at k
  refine CallT.enter (args := _) Tryz.func135 rfl rfl (by kernel_rfl) rfl ?_
  refine WP.seq ?_
  refine WP.region ?_
  refine RG.pv rfl (PV.mvB (.inr rfl) rfl) ?_
  refine RG.nil ?_
  refine WP.seq ?_
  refine WP.region ?_
  refine RG.pv rfl (PV.mvI (.inl rfl) rfl) ?_
  refine RG.pv rfl (PV.geq rfl rfl rfl) ?_
  refine RG.pv rfl (PV.mvB (.inl rfl) rfl) ?_
  refine RG.gs rfl rfl rfl (fun hp => (PV.mvI (.inl rfl) rfl)) ?_
  refine RG.gs rfl rfl rfl (fun hp => (PV.lss rfl (gs_t hp) rfl)) ?_
  refine RG.pv rfl (PV.pickA rfl rfl (fun hq => gs_t (geqT hq)) rfl) ?_
  refine RG.pv rfl (PV.mvB (.inl rfl) rfl) ?_
  refine RG.gs rfl rfl rfl (fun hp => (PV.mvI (.inl rfl) rfl)) ?_
  refine RG.gs rfl rfl rfl (fun hp => (PV.geq rfl (gs_t hp) rfl)) ?_
  refine RG.pv rfl (PV.pickA rfl rfl (fun hq => gs_t (geqT hq)) rfl) ?_
  refine RG.pv rfl (PV.mvB (.inl rfl) rfl) ?_
  refine RG.gs rfl rfl rfl (fun hp => (PV.mvI (.inl rfl) rfl)) ?_
  refine RG.gs rfl rfl rfl (fun hp => (PV.lss rfl (gs_t hp) rfl)) ?_
  refine RG.pv rfl (PV.pickA rfl rfl (fun hq => gs_t (geqT hq)) rfl) ?_
  refine RG.pv rfl (PV.mvB (.inr rfl) rfl) ?_
  refine RG.nil ?_
  refine WP.ret ?_
  exact ⟨_, _, ResV.one rfl rfl, Cv.p, k⟩
theorem l17Cell_s {v : Value} {S : List Bool} {x y : Int} (h1 : Rs G L boolT v S) (hS : S.length = 6400) (k : R (.bool ((decide (-40 ≤ x ∧ x < 40) && decide (-40 ≤ y ∧ y < 40)) && gd S ((y + 40) * 80 + x + 40).toNat)) G L) : CallT Tryz.prog 88 #[v, vi x, vi y] G L R := by
  refine CallT.enter (args := _) Tryz.func88 rfl rfl (by kernel_rfl) rfl ?_
  refine WP.seq ?_
  refine WP.region ?_
  refine RG.pv rfl (PV.mvB (.inr rfl) rfl) ?_
  refine RG.nil ?_
  refine WP.seq ?_
  refine WP.region ?_
  refine RG.pv rfl (PV.mvI (.inl rfl) rfl) ?_
  refine RG.pv rfl (PV.mvI (.inl rfl) rfl) ?_
  refine RG.callF (vs := [_, _]) rfl rfl En135 rfl (l17Inside_s ?_)
  refine RG.pv rfl (PV.mvB (.inl rfl) rfl) ?_
  refine RG.gs rfl rfl rfl (fun hp => (PV.move (v := v) rfl rfl)) ?_
  refine RG.gs rfl rfl rfl (fun hp => (PV.mvI (.inl rfl) rfl)) ?_
  refine RG.gs rfl rfl rfl (fun hp => (PV.mvI (.inl rfl) rfl)) ?_
  refine RG.gsC rfl rfl rfl rfl En107 (fun hp => ⟨_, (acons (gs_t hp) (acons (gs_t hp) anil)), l17At_s (by simp at hp <;> omega) (by simp at hp <;> omega) ⟨rfl, rfl, rfl⟩⟩) ?_
  refine RG.gs rfl rfl rfl (fun hp => (PV.idxS (j := ((y + 40) * 80 + x + 40).toNat) (v := v) rfl Is124 (gs_t hp) (SlF.r h1) (gs_t hp) (by first | omega | (simp at hp; omega)) (by first | omega | (simp at hp; omega)))) ?_
  refine RG.gs rfl rfl rfl (fun hp => (PV.loadE1 rfl Sc4 (gs_t hp) rfl (El.r h1 (getG (by first | omega | (simp at hp; omega)))) rfl)) ?_
  refine RG.pv rfl (PV.pickA rfl rfl (fun hq => gs_t (geqT hq)) rfl) ?_
  refine RG.pv rfl (PV.mvB (.inr rfl) rfl) ?_
  refine RG.nil ?_
  refine WP.ret ?_
  exact ⟨_, _, ResV.one rfl rfl, Cv.p, k⟩
def ptOf (q : Int × Int) : Pt := ⟨q.1 - 40, q.2 - 40⟩
theorem gd_pt {Q : List (Int × Int)} {i : Nat} (h : i < Q.length) : gd (Q.map ptOf) i = ptOf (gd Q i) := by
  rw [gd_eq h, gd_eq (by simpa using h)]; simp
theorem dX_gd (d : Nat) : gd [1, -1, 0, 0] d = dX d := rfl
theorem dY_gd (d : Nat) : gd [0, 0, 1, -1] d = dY d := rfl
theorem visit_s {v : Value} {S : List Bool} {x y : Int} (h1 : Rs G L boolT v S) (hS : S.length = 6400) (hx : 0 ≤ x ∧ x < 80) (hy : 0 ≤ y ∧ y < 80) (hon : gb S y.toNat x.toNat = true)
    (k : ∀ v' Q, FI S (y.toNat, x.toNat) (compB S (y.toNat, x.toNat)) Q → R v' G (osl 49 ptT v' (Q.map ptOf) :: L)) : CallT Tryz.prog 133 #[v, vi (x - 40), vi (y - 40)] G L R := by
  have hst := FI.start (S := S) hx hy
  have hseed : On S (y.toNat, x.toNat) := ⟨by simp only; omega, by simp only; omega, hon⟩
  have hrl : (List.replicate S.length false).length = 6400 := by simp [hS]
  refine CallT.enter (args := _) Tryz.func133 rfl rfl (by kernel_rfl) rfl ?_
  refine WP.seq ?_
  refine WP.region ?_
  refine RG.pv rfl (PV.asg rfl rfl) ?_
  refine RG.nil ?_
  refine WP.seq ?_
  refine WP.region ?_
  refine RG.pv rfl (PV.move (v := v) rfl rfl) ?_
  refine RG.pv rfl (PV.len (v := v) rfl Tryz.underlying124 rfl (SlF.r h1)) ?_
  refine RG.ot rfl (OT.make (F := boolT) (a0 := false) rfl El124 rfl (by decide) rfl rfl (by omega) (by omega) fun v14 => ?_)
  refine RG.pv rfl (PV.asg (v := v14) rfl rfl) ?_
  refine RG.nil ?_
  refine WP.seq ?_
  refine WP.region ?_
  refine RG.pv rfl (PV.move (v := v14) rfl rfl) ?_
  refine RG.pv rfl (PV.mvI (.inl rfl) rfl) ?_
  refine RG.pv rfl (PV.mvI (.inl rfl) rfl) ?_
  refine RG.callF (vs := [_, _]) rfl rfl En107 rfl (l17At_s (by first | omega | (simp at hp; omega)) (by first | omega | (simp at hp; omega)) ?_)
  refine RG.pv rfl (PV.idxS (j := y.toNat * 80 + x.toNat) (v := v14) rfl Is124 rfl SlF.o rfl (by omega) (by omega)) ?_
  refine RG.ot rfl (OT.storeE (F := boolT) rfl Sz4 rfl rfl rfl (Cl.c rfl) (OneC.c rfl) (by omega) ?_)
  refine RG.nil ?_
  refine WP.seq ?_
  refine WP.region ?_
  refine RG.pv rfl (PV.mvI (.inl rfl) rfl) ?_
  refine RG.pv rfl (PV.mvI (.inl rfl) rfl) ?_
  refine RG.pv rfl (PV.build (vs := [(0, [vi _]), (1, [vi _])]) (out := [_, _]) rfl Zr49 Pl49 ⟨rfl, (Cl.c rfl), ⟨rfl, (Cl.c rfl), trivial⟩⟩ rfl) ?_
  refine RG.ot rfl (OT.bslice (F := ptT) (els := [⟨_, _⟩]) rfl El175 rfl (by decide) rfl (by decide) ⟨rfl, (Cl.c rfl), trivial⟩ fun v23 => ?_)
  refine RG.pv rfl (PV.asg (v := v23) rfl rfl) ?_
  refine RG.nil ?_
  refine WP.seq ?_
  refine WP.seq ?_
  refine WP.region ?_
  refine RG.pv rfl (PV.mvI (.inr rfl) rfl) ?_
  refine RG.nil ?_
  refine WP.block ?_
  refine WP.cv ((Cv.p (C := osl 4 boolT v14 ((List.replicate S.length false).set (y.toNat * 80 + x.toNat) true) :: osl 49 ptT v23 [⟨x - 40, y - 40⟩] :: L)).trans (Cv.cast (L' := osl 4 boolT v14 ((List.replicate 6400 false).set (y.toNat * 80 + x.toNat) true) :: osl 49 ptT v23 ([(x, y)].map ptOf) :: L) (by rw [hS]; rfl))) ?_
  refine WP.loop4 [0, 7] (fun (i : Nat) (Q : List (Int × Int)) (O : List Bool) (qv : Value) => i ≤ Q.length ∧ FI S (y.toNat, x.toNat) O Q ∧ Done S O Q i ∧ On O (y.toNat, x.toNat)) (fun (i : Nat) (Q : List (Int × Int)) (O : List Bool) (qv : Value) => [(9, vi i), (8, qv)]) (fun (i : Nat) (Q : List (Int × Int)) (O : List Bool) (qv : Value) => osl 4 boolT v14 O :: osl 49 ptT qv (Q.map ptOf) :: L) (fun (i : Nat) (Q : List (Int × Int)) (O : List Bool) (qv : Value) => 6401 - i) 0 [(x, y)] ((List.replicate 6400 false).set (y.toNat * 80 + x.toNat) true) v23 ⟨by simp, hst, fun m hm => by omega, by have := hst.on 0 (by simp); simpa [gd, qc] using this⟩ ⟨rfl, rfl, trivial⟩ Cv.p ?_
  rintro i Q O qv τ ⟨hi, hF, hD, h0⟩
  refine WP.seq ?_
  refine WP.seq ?_
  refine WP.region ?_
  refine RG.pv rfl (PV.mvI (.inl rfl) rfl) ?_
  refine RG.pv rfl (PV.move (v := qv) rfl rfl) ?_
  refine RG.pv rfl (PV.len (v := qv) rfl Tryz.underlying175 rfl SlF.o) ?_
  refine RG.pv rfl (PV.lss rfl rfl rfl) ?_
  refine RG.nil ?_
  have hml : (Q.map ptOf).length = Q.length := by simp
  refine WP.cond rfl (fun h2 => ?_) (fun h2 => ?_)
  · have h2 := of_decide_eq_true h2
    have hQ := hF.len_le
    have hb := hF.bd i (by omega)
    refine WP.skip ?_
    refine WP.seq ?_
    refine WP.block ?_
    refine WP.seq ?_
    refine WP.region ?_
    refine RG.pv rfl (PV.mvI (.inr rfl) rfl) ?_
    refine RG.nil ?_
    refine WP.block ?_
    refine WP.loop4 [0, 7, 9] (fun (d : Nat) (Q1 : List (Int × Int)) (O1 : List Bool) (qv1 : Value) => d ≤ 4 ∧ FI S (y.toNat, x.toNat) O1 Q1 ∧ Done S O1 Q1 i ∧ On O1 (y.toNat, x.toNat) ∧ i < Q1.length ∧ gd Q1 i = gd Q i ∧ Near4 S O1 (qc (gd Q i)) d) (fun (d : Nat) (Q1 : List (Int × Int)) (O1 : List Bool) (qv1 : Value) => [(10, vi d), (8, qv1)]) (fun (d : Nat) (Q1 : List (Int × Int)) (O1 : List Bool) (qv1 : Value) => osl 4 boolT v14 O1 :: osl 49 ptT qv1 (Q1.map ptOf) :: L) (fun (d : Nat) (Q1 : List (Int × Int)) (O1 : List Bool) (qv1 : Value) => 4 - d) 0 Q O qv ⟨by omega, hF, hD, h0, by omega, rfl, Near4.zero _ _ _⟩ ⟨rfl, rfl, trivial⟩ Cv.p ?_
    rintro d Q1 O1 qv1 τ1 ⟨hd, hF1, hD1, h01, hi1, hq1, hN1⟩
    refine WP.seq ?_
    refine WP.seq ?_
    refine WP.region ?_
    refine RG.pv rfl (PV.mvI (.inl rfl) rfl) ?_
    refine RG.pv rfl (PV.lss rfl rfl rfl) ?_
    refine RG.nil ?_
    have hml1 : (Q1.map ptOf).length = Q1.length := by simp
    refine WP.cond rfl (fun h3 => ?_) (fun h3 => ?_)
    · have h3 := of_decide_eq_true h3
      have hl1 := hF1.len
      have hQ1 := hF1.len_le
      have hb1 : 0 ≤ (gd Q1 i).1 ∧ (gd Q1 i).1 < 80 ∧ 0 ≤ (gd Q1 i).2 ∧ (gd Q1 i).2 < 80 := by rw [hq1]; exact hb
      have e1 : gd (Q1.map ptOf) i = ⟨(gd Q1 i).1 - 40, (gd Q1 i).2 - 40⟩ := gd_pt hi1
      have ex : (gd (Q1.map ptOf) i).x = (gd Q1 i).1 - 40 := by rw [e1]
      have ey : (gd (Q1.map ptOf) i).y = (gd Q1 i).2 - 40 := by rw [e1]
      have hdx : -1 ≤ gd [1, -1, 0, 0] d ∧ gd [1, -1, 0, 0] d ≤ (1 : Int) := dX_le d
      have hdy : -1 ≤ gd [0, 0, 1, -1] d ∧ gd [0, 0, 1, -1] d ≤ (1 : Int) := dY_le d
      have hn4 : ([1, -1, 0, 0] : List Int).length = 4 := rfl
      have hn4' : ([0, 0, 1, -1] : List Int).length = 4 := rfl
      refine WP.skip ?_
      refine WP.seq ?_
      refine WP.block ?_
      refine WP.cut1 [0, 7, 8, 9, 10] (fun (b11 : Nat) => True) (fun (b11 : Nat) => [(11, .pointer (some ⟨b11, 0, none⟩))]) (fun (b11 : Nat) => blk b11 49 [vi ((gd Q1 i).1 - 40 + dX d), vi ((gd Q1 i).2 - 40 + dY d)] :: osl 4 boolT v14 O1 :: osl 49 ptT qv1 (Q1.map ptOf) :: L) ?_ ?_
      refine WP.regionH0 (.q 0 (.q 1 (.q 2 (.q 3 (.q 4 (.q 6 (.q 10 (.q 11 (.q 12 (.q 13 (.q 14 (.q 16 (.c 5 (.q 7 (.q 8 (.q 9 (.b 15 (.q 17 (.q 18 (.q 19 (.q 20 (.l 21 (.l 22 Sch.nil)))))) 21 (.l 15 (.q 17 (.q 18 (.q 19 (.q 20 (.l 22 Sch.nil)))))))))) 15 (.q 17 (.q 18 (.q 19 (.b 5 (.q 7 (.q 8 (.q 9 (.q 20 (.l 21 (.l 22 Sch.nil)))))) 21 (.l 5 (.q 7 (.q 8 (.q 9 (.q 20 (.l 22 Sch.nil)))))))))) 21 (.b 5 (.q 7 (.q 8 (.q 9 (.l 15 (.q 17 (.q 18 (.q 19 (.q 20 (.l 22 Sch.nil))))))))) 15 (.q 17 (.q 18 (.q 19 (.l 5 (.q 7 (.q 8 (.q 9 (.q 20 (.l 22 Sch.nil))))))))))))))))))))))) (by kernel_rfl) (by kernel_rfl) (by kernel_rfl) rfl ?_
      refine RH.pv rfl (fun _ _ _ _ h => h) (Gh.le_refl _) PickC.pick rfl (PV.move (v := qv1) rfl rfl) ?_
      refine RH.pv rfl (fun _ _ _ _ h => h) (Gh.le_refl _) PickC.pick rfl (PV.mvI (.inl rfl) rfl) ?_
      refine RH.pv rfl (fun _ _ _ _ h => h) (Gh.le_refl _) PickC.pick rfl (PV.idxS (v := qv1) rfl Is175 rfl SlF.o rfl rfl (by omega)) ?_
      refine RH.pv rfl (fun _ _ _ _ h => h) (Gh.le_refl _) PickC.pick rfl (PV.field rfl Fo49_0 rfl) ?_
      refine RH.pv rfl (fun _ _ _ _ h => h) (Gh.le_refl _) PickC.pick rfl (PV.loadF (v := qv1) (j := 0) rfl Sc2 rfl rfl (El.o (getG (by omega))) rfl) ?_
      refine RH.pv rfl (fun _ _ _ _ h => h) (Gh.le_refl _) PickC.pick rfl (PV.mvI (.inl rfl) rfl) ?_
      refine RH.pv rfl (fun _ _ _ _ h => h) (Gh.le_refl _) PickC.pick rfl (PV.move (v := qv1) rfl rfl) ?_
      refine RH.pv rfl (fun _ _ _ _ h => h) (Gh.le_refl _) PickC.pick rfl (PV.mvI (.inl rfl) rfl) ?_
      refine RH.pv rfl (fun _ _ _ _ h => h) (Gh.le_refl _) PickC.pick rfl (PV.idxS (v := qv1) rfl Is175 rfl SlF.o rfl rfl (by omega)) ?_
      refine RH.pv rfl (fun _ _ _ _ h => h) (Gh.le_refl _) PickC.pick rfl (PV.field rfl Fo49_1 rfl) ?_
      refine RH.pv rfl (fun _ _ _ _ h => h) (Gh.le_refl _) PickC.pick rfl (PV.loadF rfl Sc2 rfl rfl (El.o (getG (by omega))) rfl) ?_
      refine RH.pv rfl (fun _ _ _ _ h => h) (Gh.le_refl _) PickC.pick rfl (PV.mvI (.inl rfl) rfl) ?_
      · refine RH.ot3 rfl rfl rfl rfl rfl rfl  (OT.bslice (F := intT) (els := [_, _, _, _]) rfl El26 rfl (by decide) rfl (by decide) ⟨rfl, (Cl.c rfl), ⟨rfl, (Cl.c rfl), ⟨rfl, (Cl.c rfl), ⟨rfl, (Cl.c rfl), trivial⟩⟩⟩⟩ fun v39 => ⟨Gh.le_refl _, PickC.pick, ?_⟩) (OT.bslice (F := intT) (els := [_, _, _, _]) rfl El26 rfl (by decide) rfl (by decide) ⟨rfl, (Cl.c rfl), ⟨rfl, (Cl.c rfl), ⟨rfl, (Cl.c rfl), ⟨rfl, (Cl.c rfl), trivial⟩⟩⟩⟩ fun v49 => ⟨Gh.le_refl _, PickC.pick, ?_⟩) (OT.alloc rfl Zr49 fun b11 => ⟨Gh.le_refl _, PickC.pick, ?_⟩)
        · refine RH.up1 ?_
          refine RH.pv rfl (fun _ _ _ _ h => h) (Gh.le_refl _) PickC.pick rfl (PV.idxS (v := v39) rfl Is26 rfl SlF.o rfl rfl (by omega)) ?_
          refine RH.pv rfl (fun _ _ _ _ h => h) (Gh.le_refl _) PickC.pick rfl (PV.loadE1 rfl Sc2 rfl rfl (El.o (getG (by omega))) rfl) ?_
          refine RH.pv rfl (fun _ _ _ _ h => h) (Gh.le_refl _) PickC.pick rfl (PV.add rfl rfl rfl (by omega)) ?_
          refine RH.ot2 rfl rfl rfl rfl  (OT.bslice (F := intT) (els := [_, _, _, _]) rfl El26 rfl (by decide) rfl (by decide) ⟨rfl, (Cl.c rfl), ⟨rfl, (Cl.c rfl), ⟨rfl, (Cl.c rfl), ⟨rfl, (Cl.c rfl), trivial⟩⟩⟩⟩ fun v49 => ⟨Gh.le_refl _, PickC.pick, ?_⟩) (OT.alloc rfl Zr49 fun b11 => ⟨Gh.le_refl _, PickC.pick, ?_⟩)
          · refine RH.up1 ?_
            refine RH.pv rfl (fun _ _ _ _ h => h) (Gh.le_refl _) PickC.pick rfl (PV.idxS (v := v49) rfl Is26 rfl SlF.o rfl rfl (by omega)) ?_
            refine RH.pv rfl (fun _ _ _ _ h => h) (Gh.le_refl _) PickC.pick rfl (PV.loadE1 rfl Sc2 rfl rfl (El.o (getG (by omega))) rfl) ?_
            refine RH.pv rfl (fun _ _ _ _ h => h) (Gh.le_refl _) PickC.pick rfl (PV.add rfl rfl rfl (by omega)) ?_
            refine RH.pv rfl (fun _ _ _ _ h => h) (Gh.le_refl _) PickC.pick rfl (PV.build (vs := [(0, [vi _]), (1, [vi _])]) (out := [_, _]) rfl Zr49 Pl49 ⟨rfl, (Cl.c rfl), ⟨rfl, (Cl.c rfl), trivial⟩⟩ rfl) ?_
            refine RH.ot rfl rfl (OT.alloc rfl Zr49 fun b11 => ⟨Gh.le_refl _, PickC.pick, ?_⟩)
            refine RH.ot rfl rfl (OT.storeW (vs := [vi _, vi _]) rfl Sz49 rfl rfl (Cl.c rfl) rfl rfl (OneC.c rfl) ⟨Gh.le_refl _, PickC.pick, ?_⟩)
            refine RH.nil ?_
            exact ⟨rfl, b11, trivial, ⟨rfl, trivial⟩, ⟨rfl, rfl, rfl, rfl, rfl, trivial⟩, (Cv.p (C := blk b11 49 [vi ((gd (Q1.map ptOf) i).x + gd [1, -1, 0, 0] d), vi ((gd (Q1.map ptOf) i).y + gd [0, 0, 1, -1] d)] :: osl 4 boolT v14 O1 :: osl 49 ptT qv1 (Q1.map ptOf) :: L)).trans (Cv.cast (by rw [ex, ey]; rfl))⟩
          · refine RH.ot rfl rfl (OT.bslice (F := intT) (els := [_, _, _, _]) rfl El26 rfl (by decide) rfl (by decide) ⟨rfl, (Cl.c rfl), ⟨rfl, (Cl.c rfl), ⟨rfl, (Cl.c rfl), ⟨rfl, (Cl.c rfl), trivial⟩⟩⟩⟩ fun v49 => ⟨Gh.le_refl _, PickC.pick, ?_⟩)
            refine RH.up1 ?_
            refine RH.pv rfl (fun _ _ _ _ h => h) (Gh.le_refl _) PickC.pick rfl (PV.idxS (v := v49) rfl Is26 rfl SlF.o rfl rfl (by omega)) ?_
            refine RH.pv rfl (fun _ _ _ _ h => h) (Gh.le_refl _) PickC.pick rfl (PV.loadE1 rfl Sc2 rfl rfl (El.o (getG (by omega))) rfl) ?_
            refine RH.pv rfl (fun _ _ _ _ h => h) (Gh.le_refl _) PickC.pick rfl (PV.add rfl rfl rfl (by omega)) ?_
            refine RH.pv rfl (fun _ _ _ _ h => h) (Gh.le_refl _) PickC.pick rfl (PV.build (vs := [(0, [vi _]), (1, [vi _])]) (out := [_, _]) rfl Zr49 Pl49 ⟨rfl, (Cl.c rfl), ⟨rfl, (Cl.c rfl), trivial⟩⟩ rfl) ?_
            refine RH.ot rfl rfl (OT.storeW (vs := [vi _, vi _]) rfl Sz49 rfl rfl (Cl.c rfl) rfl rfl (OneC.c rfl) ⟨Gh.le_refl _, PickC.pick, ?_⟩)
            refine RH.nil ?_
            exact ⟨rfl, b11, trivial, ⟨rfl, trivial⟩, ⟨rfl, rfl, rfl, rfl, rfl, trivial⟩, (Cv.p (C := blk b11 49 [vi ((gd (Q1.map ptOf) i).x + gd [1, -1, 0, 0] d), vi ((gd (Q1.map ptOf) i).y + gd [0, 0, 1, -1] d)] :: osl 4 boolT v14 O1 :: osl 49 ptT qv1 (Q1.map ptOf) :: L)).trans (Cv.cast (by rw [ex, ey]; rfl))⟩
        · refine RH.up1 ?_
          refine RH.pv rfl (fun _ _ _ _ h => h) (Gh.le_refl _) PickC.pick rfl (PV.idxS (v := v49) rfl Is26 rfl SlF.o rfl rfl (by omega)) ?_
          refine RH.pv rfl (fun _ _ _ _ h => h) (Gh.le_refl _) PickC.pick rfl (PV.loadE1 rfl Sc2 rfl rfl (El.o (getG (by omega))) rfl) ?_
          refine RH.pv rfl (fun _ _ _ _ h => h) (Gh.le_refl _) PickC.pick rfl (PV.add rfl rfl rfl (by omega)) ?_
          refine RH.ot2 rfl rfl rfl rfl  (OT.bslice (F := intT) (els := [_, _, _, _]) rfl El26 rfl (by decide) rfl (by decide) ⟨rfl, (Cl.c rfl), ⟨rfl, (Cl.c rfl), ⟨rfl, (Cl.c rfl), ⟨rfl, (Cl.c rfl), trivial⟩⟩⟩⟩ fun v39 => ⟨Gh.le_refl _, PickC.pick, ?_⟩) (OT.alloc rfl Zr49 fun b11 => ⟨Gh.le_refl _, PickC.pick, ?_⟩)
          · refine RH.up1 ?_
            refine RH.pv rfl (fun _ _ _ _ h => h) (Gh.le_refl _) PickC.pick rfl (PV.idxS (v := v39) rfl Is26 rfl SlF.o rfl rfl (by omega)) ?_
            refine RH.pv rfl (fun _ _ _ _ h => h) (Gh.le_refl _) PickC.pick rfl (PV.loadE1 rfl Sc2 rfl rfl (El.o (getG (by omega))) rfl) ?_
            refine RH.pv rfl (fun _ _ _ _ h => h) (Gh.le_refl _) PickC.pick rfl (PV.add rfl rfl rfl (by omega)) ?_
            refine RH.pv rfl (fun _ _ _ _ h => h) (Gh.le_refl _) PickC.pick rfl (PV.build (vs := [(0, [vi _]), (1, [vi _])]) (out := [_, _]) rfl Zr49 Pl49 ⟨rfl, (Cl.c rfl), ⟨rfl, (Cl.c rfl), trivial⟩⟩ rfl) ?_
            refine RH.ot rfl rfl (OT.alloc rfl Zr49 fun b11 => ⟨Gh.le_refl _, PickC.pick, ?_⟩)
            refine RH.ot rfl rfl (OT.storeW (vs := [vi _, vi _]) rfl Sz49 rfl rfl (Cl.c rfl) rfl rfl (OneC.c rfl) ⟨Gh.le_refl _, PickC.pick, ?_⟩)
            refine RH.nil ?_
            exact ⟨rfl, b11, trivial, ⟨rfl, trivial⟩, ⟨rfl, rfl, rfl, rfl, rfl, trivial⟩, (Cv.p (C := blk b11 49 [vi ((gd (Q1.map ptOf) i).x + gd [1, -1, 0, 0] d), vi ((gd (Q1.map ptOf) i).y + gd [0, 0, 1, -1] d)] :: osl 4 boolT v14 O1 :: osl 49 ptT qv1 (Q1.map ptOf) :: L)).trans (Cv.cast (by rw [ex, ey]; rfl))⟩
          · refine RH.ot rfl rfl (OT.bslice (F := intT) (els := [_, _, _, _]) rfl El26 rfl (by decide) rfl (by decide) ⟨rfl, (Cl.c rfl), ⟨rfl, (Cl.c rfl), ⟨rfl, (Cl.c rfl), ⟨rfl, (Cl.c rfl), trivial⟩⟩⟩⟩ fun v39 => ⟨Gh.le_refl _, PickC.pick, ?_⟩)
            refine RH.up1 ?_
            refine RH.pv rfl (fun _ _ _ _ h => h) (Gh.le_refl _) PickC.pick rfl (PV.idxS (v := v39) rfl Is26 rfl SlF.o rfl rfl (by omega)) ?_
            refine RH.pv rfl (fun _ _ _ _ h => h) (Gh.le_refl _) PickC.pick rfl (PV.loadE1 rfl Sc2 rfl rfl (El.o (getG (by omega))) rfl) ?_
            refine RH.pv rfl (fun _ _ _ _ h => h) (Gh.le_refl _) PickC.pick rfl (PV.add rfl rfl rfl (by omega)) ?_
            refine RH.pv rfl (fun _ _ _ _ h => h) (Gh.le_refl _) PickC.pick rfl (PV.build (vs := [(0, [vi _]), (1, [vi _])]) (out := [_, _]) rfl Zr49 Pl49 ⟨rfl, (Cl.c rfl), ⟨rfl, (Cl.c rfl), trivial⟩⟩ rfl) ?_
            refine RH.ot rfl rfl (OT.storeW (vs := [vi _, vi _]) rfl Sz49 rfl rfl (Cl.c rfl) rfl rfl (OneC.c rfl) ⟨Gh.le_refl _, PickC.pick, ?_⟩)
            refine RH.nil ?_
            exact ⟨rfl, b11, trivial, ⟨rfl, trivial⟩, ⟨rfl, rfl, rfl, rfl, rfl, trivial⟩, (Cv.p (C := blk b11 49 [vi ((gd (Q1.map ptOf) i).x + gd [1, -1, 0, 0] d), vi ((gd (Q1.map ptOf) i).y + gd [0, 0, 1, -1] d)] :: osl 4 boolT v14 O1 :: osl 49 ptT qv1 (Q1.map ptOf) :: L)).trans (Cv.cast (by rw [ex, ey]; rfl))⟩
        · refine RH.ot2 rfl rfl rfl rfl  (OT.bslice (F := intT) (els := [_, _, _, _]) rfl El26 rfl (by decide) rfl (by decide) ⟨rfl, (Cl.c rfl), ⟨rfl, (Cl.c rfl), ⟨rfl, (Cl.c rfl), ⟨rfl, (Cl.c rfl), trivial⟩⟩⟩⟩ fun v39 => ⟨Gh.le_refl _, PickC.pick, ?_⟩) (OT.bslice (F := intT) (els := [_, _, _, _]) rfl El26 rfl (by decide) rfl (by decide) ⟨rfl, (Cl.c rfl), ⟨rfl, (Cl.c rfl), ⟨rfl, (Cl.c rfl), ⟨rfl, (Cl.c rfl), trivial⟩⟩⟩⟩ fun v49 => ⟨Gh.le_refl _, PickC.pick, ?_⟩)
          · refine RH.up1 ?_
            refine RH.pv rfl (fun _ _ _ _ h => h) (Gh.le_refl _) PickC.pick rfl (PV.idxS (v := v39) rfl Is26 rfl SlF.o rfl rfl (by omega)) ?_
            refine RH.pv rfl (fun _ _ _ _ h => h) (Gh.le_refl _) PickC.pick rfl (PV.loadE1 rfl Sc2 rfl rfl (El.o (getG (by omega))) rfl) ?_
            refine RH.pv rfl (fun _ _ _ _ h => h) (Gh.le_refl _) PickC.pick rfl (PV.add rfl rfl rfl (by omega)) ?_
            refine RH.ot rfl rfl (OT.bslice (F := intT) (els := [_, _, _, _]) rfl El26 rfl (by decide) rfl (by decide) ⟨rfl, (Cl.c rfl), ⟨rfl, (Cl.c rfl), ⟨rfl, (Cl.c rfl), ⟨rfl, (Cl.c rfl), trivial⟩⟩⟩⟩ fun v49 => ⟨Gh.le_refl _, PickC.pick, ?_⟩)
            refine RH.up1 ?_
            refine RH.pv rfl (fun _ _ _ _ h => h) (Gh.le_refl _) PickC.pick rfl (PV.idxS (v := v49) rfl Is26 rfl SlF.o rfl rfl (by omega)) ?_
            refine RH.pv rfl (fun _ _ _ _ h => h) (Gh.le_refl _) PickC.pick rfl (PV.loadE1 rfl Sc2 rfl rfl (El.o (getG (by omega))) rfl) ?_
            refine RH.pv rfl (fun _ _ _ _ h => h) (Gh.le_refl _) PickC.pick rfl (PV.add rfl rfl rfl (by omega)) ?_
            refine RH.pv rfl (fun _ _ _ _ h => h) (Gh.le_refl _) PickC.pick rfl (PV.build (vs := [(0, [vi _]), (1, [vi _])]) (out := [_, _]) rfl Zr49 Pl49 ⟨rfl, (Cl.c rfl), ⟨rfl, (Cl.c rfl), trivial⟩⟩ rfl) ?_
            refine RH.ot rfl rfl (OT.storeW (vs := [vi _, vi _]) rfl Sz49 rfl rfl (Cl.c rfl) rfl rfl (OneC.c rfl) ⟨Gh.le_refl _, PickC.pick, ?_⟩)
            refine RH.nil ?_
            exact ⟨rfl, b11, trivial, ⟨rfl, trivial⟩, ⟨rfl, rfl, rfl, rfl, rfl, trivial⟩, (Cv.p (C := blk b11 49 [vi ((gd (Q1.map ptOf) i).x + gd [1, -1, 0, 0] d), vi ((gd (Q1.map ptOf) i).y + gd [0, 0, 1, -1] d)] :: osl 4 boolT v14 O1 :: osl 49 ptT qv1 (Q1.map ptOf) :: L)).trans (Cv.cast (by rw [ex, ey]; rfl))⟩
          · refine RH.up1 ?_
            refine RH.pv rfl (fun _ _ _ _ h => h) (Gh.le_refl _) PickC.pick rfl (PV.idxS (v := v49) rfl Is26 rfl SlF.o rfl rfl (by omega)) ?_
            refine RH.pv rfl (fun _ _ _ _ h => h) (Gh.le_refl _) PickC.pick rfl (PV.loadE1 rfl Sc2 rfl rfl (El.o (getG (by omega))) rfl) ?_
            refine RH.pv rfl (fun _ _ _ _ h => h) (Gh.le_refl _) PickC.pick rfl (PV.add rfl rfl rfl (by omega)) ?_
            refine RH.ot rfl rfl (OT.bslice (F := intT) (els := [_, _, _, _]) rfl El26 rfl (by decide) rfl (by decide) ⟨rfl, (Cl.c rfl), ⟨rfl, (Cl.c rfl), ⟨rfl, (Cl.c rfl), ⟨rfl, (Cl.c rfl), trivial⟩⟩⟩⟩ fun v39 => ⟨Gh.le_refl _, PickC.pick, ?_⟩)
            refine RH.up1 ?_
            refine RH.pv rfl (fun _ _ _ _ h => h) (Gh.le_refl _) PickC.pick rfl (PV.idxS (v := v39) rfl Is26 rfl SlF.o rfl rfl (by omega)) ?_
            refine RH.pv rfl (fun _ _ _ _ h => h) (Gh.le_refl _) PickC.pick rfl (PV.loadE1 rfl Sc2 rfl rfl (El.o (getG (by omega))) rfl) ?_
            refine RH.pv rfl (fun _ _ _ _ h => h) (Gh.le_refl _) PickC.pick rfl (PV.add rfl rfl rfl (by omega)) ?_
            refine RH.pv rfl (fun _ _ _ _ h => h) (Gh.le_refl _) PickC.pick rfl (PV.build (vs := [(0, [vi _]), (1, [vi _])]) (out := [_, _]) rfl Zr49 Pl49 ⟨rfl, (Cl.c rfl), ⟨rfl, (Cl.c rfl), trivial⟩⟩ rfl) ?_
            refine RH.ot rfl rfl (OT.storeW (vs := [vi _, vi _]) rfl Sz49 rfl rfl (Cl.c rfl) rfl rfl (OneC.c rfl) ⟨Gh.le_refl _, PickC.pick, ?_⟩)
            refine RH.nil ?_
            exact ⟨rfl, b11, trivial, ⟨rfl, trivial⟩, ⟨rfl, rfl, rfl, rfl, rfl, trivial⟩, (Cv.p (C := blk b11 49 [vi ((gd (Q1.map ptOf) i).x + gd [1, -1, 0, 0] d), vi ((gd (Q1.map ptOf) i).y + gd [0, 0, 1, -1] d)] :: osl 4 boolT v14 O1 :: osl 49 ptT qv1 (Q1.map ptOf) :: L)).trans (Cv.cast (by rw [ex, ey]; rfl))⟩
      · have ej : ((gd Q1 i).2 - 40 + dY d + 40) * 80 + ((gd Q1 i).1 - 40 + dX d) + 40 = ((gd Q1 i).2 + dY d) * 80 + ((gd Q1 i).1 + dX d) := by omega
        rintro b11 τ2 _
        refine WP.seq ?_
        refine WP.region ?_
        refine RG.pv rfl (PV.move (v := v) rfl rfl) ?_
        refine RG.pv rfl (PV.field rfl Fo49_0 rfl) ?_
        refine RG.pv rfl (PV.load1 rfl Sc2 rfl (Rd.blk rfl)) ?_
        refine RG.pv rfl (PV.field rfl Fo49_1 rfl) ?_
        refine RG.pv rfl (PV.load1 rfl Sc2 rfl (Rd.blk rfl)) ?_
        refine RG.callF (vs := [v, _, _]) rfl rfl En88 rfl (l17Cell_s (Rs.up h1) hS ?_)
        refine RG.pv rfl (PV.mvB (.inl rfl) rfl) ?_
        refine RG.gs rfl rfl rfl (fun hp => (PV.move (v := v14) rfl rfl)) ?_
        refine RG.gs rfl rfl rfl (fun hp => (PV.field rfl Fo49_0 rfl)) ?_
        refine RG.gs rfl rfl rfl (fun hp => (PV.load1 rfl Sc2 (gs_t hp) (Rd.blk rfl))) ?_
        refine RG.gs rfl rfl rfl (fun hp => (PV.field rfl Fo49_1 rfl)) ?_
        refine RG.gs rfl rfl rfl (fun hp => (PV.load1 rfl Sc2 (gs_t hp) (Rd.blk rfl))) ?_
        refine RG.gsC rfl rfl rfl rfl En107 (fun hp => ⟨_, (acons (gs_t hp) (acons (gs_t hp) anil)), l17At_s (by first | omega | (simp at hp; omega)) (by first | omega | (simp at hp; omega)) ⟨rfl, rfl, rfl⟩⟩) ?_
        refine RG.gs rfl rfl rfl (fun hp => (PV.idxS (j := ((gd Q1 i).2 + dY d).toNat * 80 + ((gd Q1 i).1 + dX d).toNat) (v := v14) rfl Is124 (gs_t hp) SlF.o (gs_t hp) (by first | omega | (simp at hp; omega)) (by first | omega | (simp at hp; omega)))) ?_
        refine RG.gs rfl rfl rfl (fun hp => (PV.loadE1 rfl Sc4 (gs_t hp) rfl (El.o (getG (by first | omega | (simp at hp; omega)))) rfl)) ?_
        refine RG.gs rfl rfl rfl (fun hp => (PV.not rfl (gs_t hp))) ?_
        refine RG.pv rfl (PV.pickA rfl rfl (fun hq => gs_t (geqT hq)) rfl) ?_
        refine RG.nil ?_
        refine WP.cond rfl (fun h4 => ?_) (fun h4 => ?_)
        · have h5 : ((-40 ≤ (gd Q1 i).1 - 40 + dX d ∧ (gd Q1 i).1 - 40 + dX d < 40) ∧ (-40 ≤ (gd Q1 i).2 - 40 + dY d ∧ (gd Q1 i).2 - 40 + dY d < 40)) ∧ gb S ((gd Q1 i).2 + dY d).toNat ((gd Q1 i).1 + dX d).toNat = true ∧ gb O1 ((gd Q1 i).2 + dY d).toNat ((gd Q1 i).1 + dX d).toNat = false := by
            simp only [Bool.and_eq_true, decide_eq_true_eq, Bool.not_eq_true', ej] at h4
            obtain ⟨⟨⟨a1, a2⟩, a3⟩, a4⟩ := h4
            rw [show (((gd Q1 i).2 + dY d) * 80 + ((gd Q1 i).1 + dX d)).toNat = ((gd Q1 i).2 + dY d).toNat * 80 + ((gd Q1 i).1 + dX d).toNat by omega] at a3
            exact ⟨⟨a1, a2⟩, a3, a4⟩
          obtain ⟨⟨a1, a2⟩, a3, a4⟩ := h5
          refine WP.seq ?_
          refine WP.region ?_
          refine RG.pv rfl (PV.move (v := v14) rfl rfl) ?_
          refine RG.pv rfl (PV.field rfl Fo49_0 rfl) ?_
          refine RG.pv rfl (PV.load1 rfl Sc2 rfl (Rd.blk rfl)) ?_
          refine RG.pv rfl (PV.field rfl Fo49_1 rfl) ?_
          refine RG.pv rfl (PV.load1 rfl Sc2 rfl (Rd.blk rfl)) ?_
          refine RG.callF (vs := [_, _]) rfl rfl En107 rfl (l17At_s (by first | omega | (simp at hp; omega)) (by first | omega | (simp at hp; omega)) ?_)
          refine RG.pv rfl (PV.idxS (j := ((gd Q1 i).2 + dY d).toNat * 80 + ((gd Q1 i).1 + dX d).toNat) (v := v14) rfl Is124 rfl SlF.o rfl (by omega) (by omega)) ?_
          refine RG.ot rfl (OT.storeE (F := boolT) rfl Sz4 rfl rfl rfl (Cl.c rfl) (OneC.c rfl) (by omega) ?_)
          refine RG.nil ?_
          refine WP.region ?_
          refine RG.pv rfl (PV.move (v := qv1) rfl rfl) ?_
          refine RG.pv rfl (PV.loadW rfl Ag49 rfl rfl) ?_
          refine RG.ot rfl (OT.bslice (F := ptT) (els := [⟨_, _⟩]) rfl El175 rfl (by decide) rfl (by decide) ⟨rfl, (Cl.c rfl), trivial⟩ fun v81 => ?_)
          refine RG.ot rfl (OT.append (v := qv1) (u := v81) (F := ptT) rfl El175 rfl (by decide) rfl rfl Rs.o (OneL.c (fun _ => rfl)) rfl (by first | omega | (simp <;> omega)) fun v82 => ?_)
          refine RG.pv rfl (PV.asg (v := v82) rfl rfl) ?_
          refine RG.nil ?_
          refine WP.region ?_
          refine RG.pv rfl (PV.mvI (.inl rfl) rfl) ?_
          refine RG.pv rfl (PV.add rfl rfl rfl (by omega)) ?_
          refine RG.pv rfl (PV.mvI (.inr rfl) rfl) ?_
          refine RG.nil ?_
          have ep : ptOf ((gd Q1 i).1 + dX d, (gd Q1 i).2 + dY d) = ⟨(gd Q1 i).1 - 40 + dX d, (gd Q1 i).2 - 40 + dY d⟩ := by simp only [ptOf, Pt.mk.injEq]; omega
          have ha := adj4 (q := gd Q1 i) (d := d) (by omega) hb1 (by omega) (by omega)
          exact ⟨rfl, d + 1, (Q1 ++ [((gd Q1 i).1 + dX d, (gd Q1 i).2 + dY d)]), (O1.set (((gd Q1 i).2 + dY d).toNat * 80 + ((gd Q1 i).1 + dX d).toNat) true), v82, ⟨by omega, hF1.add ⟨by omega, by omega⟩ ⟨by omega, by omega⟩ a4 a3 hi1 ha, hD1.add hi1 (fun c hc => on_set hl1 ⟨by omega, by omega⟩ ⟨by omega, by omega⟩ hc), on_set hl1 ⟨by omega, by omega⟩ ⟨by omega, by omega⟩ h01, by simp; omega, by rw [gd_app_l hi1]; exact hq1, by rw [← hq1] at hN1 ⊢; exact hN1.take hl1 hb1 (by omega) (by omega)⟩, ⟨rfl, rfl, trivial⟩, ⟨rfl, rfl, rfl, trivial⟩, (Cv.p (C := osl 4 boolT v14 (O1.set (((gd Q1 i).2 + dY d).toNat * 80 + ((gd Q1 i).1 + dX d).toNat) true) :: osl 49 ptT v82 (Q1.map ptOf ++ [⟨(gd Q1 i).1 - 40 + dX d, (gd Q1 i).2 - 40 + dY d⟩]) :: L)).trans (Cv.cast (by rw [List.map_append, ← ep]; rfl)), by omega⟩
        · refine WP.skip ?_
          refine WP.region ?_
          refine RG.pv rfl (PV.mvI (.inl rfl) rfl) ?_
          refine RG.pv rfl (PV.add rfl rfl rfl (by omega)) ?_
          refine RG.pv rfl (PV.mvI (.inr rfl) rfl) ?_
          refine RG.nil ?_
          refine ⟨rfl, d + 1, Q1, O1, qv1, ⟨by omega, hF1, hD1, h01, hi1, hq1, ?_⟩, ⟨rfl, rfl, trivial⟩, ⟨rfl, rfl, rfl, trivial⟩, Cv.p, by omega⟩
          rw [← hq1] at hN1 ⊢
          refine hN1.skip hb1 ?_
          by_cases hin : 0 ≤ (gd Q1 i).1 + dX d ∧ (gd Q1 i).1 + dX d < 80 ∧ 0 ≤ (gd Q1 i).2 + dY d ∧ (gd Q1 i).2 + dY d < 80
          · refine .inr ?_
            simp only [Bool.and_eq_false_iff, decide_eq_false_iff_not, Bool.not_eq_false', ej] at h4
            rw [show (((gd Q1 i).2 + dY d) * 80 + ((gd Q1 i).1 + dX d)).toNat = ((gd Q1 i).2 + dY d).toNat * 80 + ((gd Q1 i).1 + dX d).toNat by omega] at h4
            rcases h4 with (((a | a) | a) | a)
            · omega
            · omega
            · exact .inl a
            · exact .inr a
          · exact .inl hin
    · have h3 := of_decide_eq_false h3
      refine WP.exit ?_
      refine WP.region ?_
      refine RG.pv rfl (PV.mvI (.inl rfl) rfl) ?_
      refine RG.pv rfl (PV.add rfl rfl rfl (by omega)) ?_
      refine RG.pv rfl (PV.mvI (.inr rfl) rfl) ?_
      refine RG.nil ?_
      exact ⟨rfl, i + 1, Q1, O1, qv1, ⟨by omega, hF1, hD1.next4 (by rw [hq1]) (by obtain rfl : d = 4 := (by omega); exact hN1), h01⟩, ⟨rfl, rfl, trivial⟩, ⟨rfl, rfl, trivial⟩, Cv.p, by omega⟩
  · have h2 := of_decide_eq_false h2
    obtain rfl : i = Q.length := by omega
    have e := hF.final hseed h0 hD
    rw [e] at hF
    refine WP.exit ?_
    refine WP.seq ?_
    refine WP.region ?_
    refine RG.pv rfl (PV.move (v := qv) rfl rfl) ?_
    refine RG.pv rfl (PV.asg (v := qv) rfl rfl) ?_
    refine RG.nil ?_
    refine WP.ret ?_
    exact ⟨_, _, ResV.one rfl rfl, Cv.p, k qv Q hF⟩
/-- the cells of the first n places of the queue -/
def PQ (Q : List (Int × Int)) (n : Nat) (P : List Bool) : Prop := P.length = 6400 ∧ ∀ y x, y < 80 → x < 80 → (gb P y x = true ↔ ∃ m, m < n ∧ qc (gd Q m) = (y, x))
theorem PQ.zero (Q : List (Int × Int)) : PQ Q 0 (List.replicate 6400 false) := ⟨List.length_replicate, fun y x _ _ => by rw [gb_rep']; simp⟩
theorem PQ.step {Q : List (Int × Int)} {n : Nat} {P : List Bool} (h : PQ Q n P) (hb : 0 ≤ (gd Q n).1 ∧ (gd Q n).1 < 80 ∧ 0 ≤ (gd Q n).2 ∧ (gd Q n).2 < 80) : PQ Q (n + 1) (P.set ((gd Q n).2.toNat * 80 + (gd Q n).1.toNat) true) := by
  refine ⟨by simpa using h.1, fun y x hy hx => ?_⟩
  rw [gb_set' h.1 (by omega) (by omega) hx]
  by_cases e : y = (gd Q n).2.toNat ∧ x = (gd Q n).1.toNat
  · rw [if_pos e]
    exact ⟨fun _ => ⟨n, by omega, by rw [qc, e.1, e.2]⟩, fun _ => rfl⟩
  · rw [if_neg e, h.2 y x hy hx]
    constructor
    · rintro ⟨m, hm, he⟩; exact ⟨m, by omega, he⟩
    · rintro ⟨m, hm, he⟩
      by_cases c : m = n
      · subst c; exfalso; apply e; simp only [qc, Prod.mk.injEq] at he; omega
      · exact ⟨m, by omega, he⟩
theorem PQ.final {S : List Bool} {a : Cel} {Q : List (Int × Int)} {P : List Bool} (hF : FI S a (compB S a) Q) (h : PQ Q Q.length P) : P = compB S a := by
  refine gb_ext h.1 (compB_len _ _) fun y x hy hx => ?_
  rw [Bool.eq_iff_iff, h.2 y x hy hx]
  constructor
  · rintro ⟨m, hm, he⟩; have := (hF.on m hm).2.2; rw [he] at this; exact this
  · intro hg; exact hF.all (y, x) ⟨hy, hx, hg⟩
/-- what is left when the cells of P are taken away -/
def MQ (T P U : List Bool) : Prop := U.length = 6400 ∧ ∀ y x, y < 80 → x < 80 → gb U y x = (gb T y x && !gb P y x)
theorem MQ.zero {T : List Bool} (h : T.length = 6400) : MQ T (List.replicate 6400 false) T := ⟨h, fun y x _ _ => by rw [gb_rep']; simp⟩
theorem MQ.step {T P U : List Bool} (h : MQ T P U) (hP : P.length = 6400) {v u : Nat} (hv : v < 80) (hu : u < 80) : MQ T (P.set (v * 80 + u) true) (U.set (v * 80 + u) false) := by
  refine ⟨by simpa using h.1, fun y x hy hx => ?_⟩
  rw [gb_set' h.1 hv hu hx, gb_set' hP hv hu hx]
  by_cases e : y = v ∧ x = u
  · rw [if_pos e, if_pos e]; simp
  · rw [if_neg e, if_neg e]; exact h.2 y x hy hx
theorem comps_s {v : Value} {S : List Bool} (h1 : Rs G L boolT v S) (hS : S.length = 6400) (k : ∀ v' zs, er zs = comps S → R v' G (osl 124 slT v' zs :: bagS 4 boolT zs :: L)) : CallT Tryz.prog 84 #[v] G L R := by
  have hrl : (List.replicate S.length false).length = 6400 := by simp [hS]
  refine CallT.enter (args := _) Tryz.func84 rfl rfl (by kernel_rfl) rfl ?_
  refine WP.seq ?_
  refine WP.region ?_
  refine RG.pv rfl (PV.asg rfl rfl) ?_
  refine RG.nil ?_
  refine WP.seq ?_
  refine WP.region ?_
  refine RG.ot rfl (OT.bslice (F := (slT (α := Bool))) (els := []) rfl El121 rfl (by decide) rfl (by decide) trivial fun v10 => ?_)
  refine RG.pv rfl (PV.asg (v := v10) rfl rfl) ?_
  refine RG.nil ?_
  refine WP.seq ?_
  refine WP.region ?_
  refine RG.ot rfl (OT.bslice (F := boolT) (els := []) rfl El124 rfl (by decide) rfl (by decide) trivial fun v11 => ?_)
  refine RG.pv rfl (PV.move (v := v) rfl rfl) ?_
  refine RG.ot rfl (OT.append (v := v11) (u := v) (F := boolT) rfl El124 rfl (by decide) rfl rfl (Rs.up h1) (OneL.c (fun _ => rfl)) rfl (by first | omega | (simp <;> omega)) fun v13 => ?_)
  refine RG.pv rfl (PV.asg (v := v13) rfl rfl) ?_
  refine RG.nil ?_
  refine WP.seq ?_
  refine WP.seq ?_
  refine WP.region ?_
  refine RG.pv rfl (PV.mvI (.inr rfl) rfl) ?_
  refine RG.nil ?_
  refine WP.block ?_
  refine WP.cv (((Cv.p (C := osl 124 slT v10 ([] : List (Sl Bool)) :: osl 4 boolT v13 ([] ++ S) :: L)).trans (Cv.cons (Cv.bag0 (e := 4) (F := boolT) (xs := []) rfl))).trans (Cv.cast (by rw [List.nil_append]))) ?_
  refine WP.loop4 [0, 4] (fun (yy : Int) (T : List Bool) (zs : List (Sl Bool)) (q : Value) => (-40 ≤ yy ∧ yy ≤ 40) ∧ PI id S ((yy + 40).toNat * 80) T (er zs)) (fun (yy : Int) (T : List Bool) (zs : List (Sl Bool)) (q : Value) => [(5, vi yy), (3, q)]) (fun (yy : Int) (T : List Bool) (zs : List (Sl Bool)) (q : Value) => osl 4 boolT v13 T :: osl 124 slT q zs :: bagS 4 boolT zs :: L) (fun (yy : Int) (T : List Bool) (zs : List (Sl Bool)) (q : Value) => (40 - yy).toNat) (-40) S [] v10 ⟨by omega, PI.start hS⟩ ⟨rfl, rfl, trivial⟩ Cv.p ?_
  rintro yy T zs q τ ⟨hy, hP⟩
  refine WP.seq ?_
  refine WP.seq ?_
  refine WP.region ?_
  refine RG.pv rfl (PV.mvI (.inl rfl) rfl) ?_
  refine RG.pv rfl (PV.lss rfl rfl rfl) ?_
  refine RG.nil ?_
  obtain ⟨y, rfl⟩ : ∃ n : Nat, yy = (n : Int) - 40 := ⟨(yy + 40).toNat, by omega⟩
  rw [show ((y : Int) - 40 + 40).toNat = y by omega] at hP
  refine WP.cond rfl (fun h2 => ?_) (fun h2 => ?_)
  · have h2 := of_decide_eq_true h2
    refine WP.skip ?_
    refine WP.seq ?_
    refine WP.block ?_
    refine WP.seq ?_
    refine WP.region ?_
    refine RG.pv rfl (PV.mvI (.inr rfl) rfl) ?_
    refine RG.nil ?_
    refine WP.block ?_
    refine WP.loop4 [0, 4, 5] (fun (xx : Int) (T1 : List Bool) (zs1 : List (Sl Bool)) (q1 : Value) => (-40 ≤ xx ∧ xx ≤ 40) ∧ PI id S (y * 80 + (xx + 40).toNat) T1 (er zs1)) (fun (xx : Int) (T1 : List Bool) (zs1 : List (Sl Bool)) (q1 : Value) => [(6, vi xx), (3, q1)]) (fun (xx : Int) (T1 : List Bool) (zs1 : List (Sl Bool)) (q1 : Value) => osl 4 boolT v13 T1 :: osl 124 slT q1 zs1 :: bagS 4 boolT zs1 :: L) (fun (xx : Int) (T1 : List Bool) (zs1 : List (Sl Bool)) (q1 : Value) => (40 - xx).toNat) (-40) T zs q ⟨by omega, by rw [show ((-40 : Int) + 40).toNat = 0 from rfl]; exact hP⟩ ⟨rfl, rfl, trivial⟩ Cv.p ?_
    rintro xx T1 zs1 q1 τ1 ⟨hx, hP1⟩
    refine WP.seq ?_
    refine WP.seq ?_
    refine WP.region ?_
    refine RG.pv rfl (PV.mvI (.inl rfl) rfl) ?_
    refine RG.pv rfl (PV.lss rfl rfl rfl) ?_
    refine RG.nil ?_
    obtain ⟨x, rfl⟩ : ∃ n : Nat, xx = (n : Int) - 40 := ⟨(xx + 40).toNat, by omega⟩
    rw [show ((x : Int) - 40 + 40).toNat = x by omega] at hP1
    refine WP.cond rfl (fun h3 => ?_) (fun h3 => ?_)
    · have h3 := of_decide_eq_true h3
      have hl1 := hP1.len
      have hzl : zs1.length ≤ y * 80 + x := by
        have := congrArg List.length hP1.er
        have h1 := firsts_len S (y * 80 + x)
        rw [er_len, List.length_map] at this; omega
      have e1 : (y * 80 + x) / 80 = y := by omega
      have e2 : (y * 80 + x) % 80 = x := by omega
      have e3 : cel (y * 80 + x) = (y, x) := by rw [cel, e1, e2]
      have e4 : ((x : Int) - 40 + 1 + 40).toNat = x + 1 := by omega
      refine WP.skip ?_
      refine WP.seq ?_
      refine WP.block ?_
      refine WP.seq ?_
      refine WP.seq ?_
      refine WP.region ?_
      refine RG.pv rfl (PV.move (v := v13) rfl rfl) ?_
      refine RG.pv rfl (PV.mvI (.inl rfl) rfl) ?_
      refine RG.pv rfl (PV.mvI (.inl rfl) rfl) ?_
      refine RG.callF (vs := [_, _]) rfl rfl En107 rfl (l17At_s (by omega) (by omega) ?_)
      refine RG.pv rfl (PV.idxS (j := y * 80 + x) (v := v13) rfl Is124 rfl SlF.o rfl (by omega) (by omega)) ?_
      refine RG.pv rfl (PV.loadE1 rfl Sc4 rfl rfl (El.o (getG (by omega))) rfl) ?_
      refine RG.pv rfl (PV.not rfl rfl) ?_
      refine RG.nil ?_
      refine WP.cond rfl (fun h4 => ?_) (fun h4 => ?_)
      · have h5 : gb T1 y x = false := by rw [gb]; simpa using h4
        refine WP.exit ?_
        refine WP.region ?_
        refine RG.pv rfl (PV.mvI (.inl rfl) rfl) ?_
        refine RG.pv rfl (PV.add rfl rfl rfl (by omega)) ?_
        refine RG.pv rfl (PV.mvI (.inr rfl) rfl) ?_
        refine RG.nil ?_
        exact ⟨rfl, (x : Int) - 40 + 1, T1, zs1, q1, ⟨by omega, by rw [e4]; exact hP1.skip (by omega) (by rw [e1, e2]; exact h5)⟩, ⟨rfl, rfl, trivial⟩, ⟨rfl, rfl, rfl, trivial⟩, Cv.p, by omega⟩
      · have h5 : gb T1 y x = true := by rw [gb]; simpa using h4
        refine WP.skip ?_
        refine WP.seq ?_
        refine WP.region ?_
        refine RG.pv rfl (PV.move (v := v13) rfl rfl) ?_
        refine RG.pv rfl (PV.mvI (.inl rfl) rfl) ?_
        refine RG.pv rfl (PV.mvI (.inl rfl) rfl) ?_
        refine RG.callF (vs := [v13, _, _]) rfl rfl En133 rfl (visit_s (x := (x : Int)) (y := (y : Int)) Rs.o hl1 (by omega) (by omega) (by rw [Int.toNat_natCast, Int.toNat_natCast]; exact h5) (fun v32 Q hQ => ?_))
        refine RG.pv rfl (PV.asg (v := v32) rfl rfl) ?_
        refine RG.nil ?_
        refine WP.seq ?_
        refine WP.region ?_
        refine RG.pv rfl (PV.move (v := v) rfl rfl) ?_
        refine RG.pv rfl (PV.len (v := v) rfl Tryz.underlying124 rfl (SlF.r h1)) ?_
        refine RG.ot rfl (OT.make (F := boolT) (a0 := false) rfl El124 rfl (by decide) rfl rfl (by omega) (by omega) fun v35 => ?_)
        refine RG.pv rfl (PV.asg (v := v35) rfl rfl) ?_
        refine RG.nil ?_
        refine WP.seq ?_
        refine WP.seq ?_
        refine WP.region ?_
        refine RG.pv rfl (PV.mvI (.inr rfl) rfl) ?_
        refine RG.nil ?_
        refine WP.block ?_
        rw [Int.toNat_natCast, Int.toNat_natCast, ← e3] at hQ
        have hQl := hQ.len_le
        have hml : (Q.map ptOf).length = Q.length := by simp
        refine WP.loop3 [0, 3, 4, 5, 6, 7, 8] (fun (i : Nat) (P U : List Bool) => i ≤ Q.length ∧ PQ Q i P ∧ MQ T1 P U) (fun (i : Nat) (P U : List Bool) => [(9, vi i)]) (fun (i : Nat) (P U : List Bool) => osl 4 boolT v35 P :: osl 4 boolT v13 U :: osl 49 ptT v32 (Q.map ptOf) :: osl 124 slT q1 zs1 :: bagS 4 boolT zs1 :: L) (fun (i : Nat) (P U : List Bool) => Q.length - i) 0 (List.replicate S.length false) T1 ⟨by omega, by rw [hS]; exact PQ.zero Q, by rw [hS]; exact MQ.zero hl1⟩ ⟨rfl, trivial⟩ Cv.p ?_
        rintro i P U τ2 ⟨hi, hPQ, hMQ⟩
        refine WP.seq ?_
        refine WP.seq ?_
        refine WP.region ?_
        refine RG.pv rfl (PV.mvI (.inl rfl) rfl) ?_
        refine RG.pv rfl (PV.move (v := v32) rfl rfl) ?_
        refine RG.pv rfl (PV.len (v := v32) rfl Tryz.underlying175 rfl SlF.o) ?_
        refine RG.pv rfl (PV.lss rfl rfl rfl) ?_
        refine RG.nil ?_
        refine WP.cond rfl (fun h6 => ?_) (fun h6 => ?_)
        · have h6 := of_decide_eq_true h6
          have hPl := hPQ.1
          have hUl := hMQ.1
          have hbq := hQ.bd i (by omega)
          have e5 : gd (Q.map ptOf) i = ⟨(gd Q i).1 - 40, (gd Q i).2 - 40⟩ := gd_pt (by omega)
          have ex : (gd (Q.map ptOf) i).x = (gd Q i).1 - 40 := by rw [e5]
          have ey : (gd (Q.map ptOf) i).y = (gd Q i).2 - 40 := by rw [e5]
          refine WP.skip ?_
          refine WP.seq ?_
          refine WP.block ?_
          refine WP.seq ?_
          refine WP.regionHD [.s v35] (.q 0 (.q 1 (.q 2 (.q 3 (.q 4 (.q 5 (.q 6 (.q 7 (.q 8 (.q 9 (.q 10 (.l 11 (.l 12 (.l 13 Sch.nil)))))))))))))) (by kernel_rfl) (by kernel_rfl) (by kernel_rfl) rfl ?_
          refine RH.pv rfl (fun _ _ _ _ h => h) (Gh.le_refl _) PickC.pick rfl (PV.move (v := v35) rfl rfl) ?_
          refine RH.pv rfl (fun _ _ _ _ h => h) (Gh.le_refl _) PickC.pick rfl (PV.move (v := v32) rfl rfl) ?_
          refine RH.pv rfl (fun _ _ _ _ h => h) (Gh.le_refl _) PickC.pick rfl (PV.mvI (.inl rfl) rfl) ?_
          refine RH.pv rfl (fun _ _ _ _ h => h) (Gh.le_refl _) PickC.pick rfl (PV.idxS (v := v32) rfl Is175 rfl SlF.o rfl rfl (by omega)) ?_
          refine RH.pv rfl (fun _ _ _ _ h => h) (Gh.le_refl _) PickC.pick rfl (PV.field rfl Fo49_0 rfl) ?_
          refine RH.pv rfl (fun _ _ _ _ h => h) (Gh.le_refl _) PickC.pick rfl (PV.loadF rfl Sc2 rfl rfl (El.o (getG (by omega))) rfl) ?_
          refine RH.pv rfl (fun _ _ _ _ h => h) (Gh.le_refl _) PickC.pick rfl (PV.move (v := v32) rfl rfl) ?_
          refine RH.pv rfl (fun _ _ _ _ h => h) (Gh.le_refl _) PickC.pick rfl (PV.mvI (.inl rfl) rfl) ?_
          refine RH.pv rfl (fun _ _ _ _ h => h) (Gh.le_refl _) PickC.pick rfl (PV.idxS (v := v32) rfl Is175 rfl SlF.o rfl rfl (by omega)) ?_
          refine RH.pv rfl (fun _ _ _ _ h => h) (Gh.le_refl _) PickC.pick rfl (PV.field rfl Fo49_1 rfl) ?_
          refine RH.pv rfl (fun _ _ _ _ h => h) (Gh.le_refl _) PickC.pick rfl (PV.loadF rfl Sc2 rfl rfl (El.o (getG (by omega))) rfl) ?_
          refine RH.ot rfl rfl (OT.callF (vs := [_, _]) rfl En107 rfl (l17At_s (by omega) (by omega) ⟨Gh.le_refl _, PickC.pick, ?_⟩))
          refine RH.ot rfl rfl (OT.pv (PV.idxS (j := (gd Q i).2.toNat * 80 + (gd Q i).1.toNat) (v := v35) rfl Is124 rfl SlF.o rfl (by omega) (by omega)) ⟨Gh.le_refl _, PickC.pick, ?_⟩)
          refine RH.ot rfl rfl (OT.storeE (F := boolT) rfl Sz4 rfl rfl rfl (Cl.c rfl) (OneC.c rfl) (by omega) ⟨Gh.le_refl _, PickC.pick, ?_⟩)
          refine RH.nil ?_
          refine WP.regionHD [.s v13] (.q 0 (.q 1 (.q 2 (.q 3 (.q 4 (.q 5 (.q 6 (.q 7 (.q 8 (.q 9 (.q 10 (.l 11 (.l 12 (.l 13 Sch.nil)))))))))))))) (by kernel_rfl) (by kernel_rfl) (by kernel_rfl) rfl ?_
          refine RH.pv rfl (fun _ _ _ _ h => h) (Gh.le_refl _) PickC.pick rfl (PV.move (v := v13) rfl rfl) ?_
          refine RH.pv rfl (fun _ _ _ _ h => h) (Gh.le_refl _) PickC.pick rfl (PV.move (v := v32) rfl rfl) ?_
          refine RH.pv rfl (fun _ _ _ _ h => h) (Gh.le_refl _) PickC.pick rfl (PV.mvI (.inl rfl) rfl) ?_
          refine RH.pv rfl (fun _ _ _ _ h => h) (Gh.le_refl _) PickC.pick rfl (PV.idxS (v := v32) rfl Is175 rfl SlF.o rfl rfl (by omega)) ?_
          refine RH.pv rfl (fun _ _ _ _ h => h) (Gh.le_refl _) PickC.pick rfl (PV.field rfl Fo49_0 rfl) ?_
          refine RH.pv rfl (fun _ _ _ _ h => h) (Gh.le_refl _) PickC.pick rfl (PV.loadF rfl Sc2 rfl rfl (El.o (getG (by omega))) rfl) ?_
          refine RH.pv rfl (fun _ _ _ _ h => h) (Gh.le_refl _) PickC.pick rfl (PV.move (v := v32) rfl rfl) ?_
          refine RH.pv rfl (fun _ _ _ _ h => h) (Gh.le_refl _) PickC.pick rfl (PV.mvI (.inl rfl) rfl) ?_
          refine RH.pv rfl (fun _ _ _ _ h => h) (Gh.le_refl _) PickC.pick rfl (PV.idxS (v := v32) rfl Is175 rfl SlF.o rfl rfl (by omega)) ?_
          refine RH.pv rfl (fun _ _ _ _ h => h) (Gh.le_refl _) PickC.pick rfl (PV.field rfl Fo49_1 rfl) ?_
          refine RH.pv rfl (fun _ _ _ _ h => h) (Gh.le_refl _) PickC.pick rfl (PV.loadF rfl Sc2 rfl rfl (El.o (getG (by omega))) rfl) ?_
          refine RH.ot rfl rfl (OT.callF (vs := [_, _]) rfl En107 rfl (l17At_s (by omega) (by omega) ⟨Gh.le_refl _, PickC.pick, ?_⟩))
          refine RH.ot rfl rfl (OT.pv (PV.idxS (j := (gd Q i).2.toNat * 80 + (gd Q i).1.toNat) (v := v13) rfl Is124 rfl SlF.o rfl (by omega) (by omega)) ⟨Gh.le_refl _, PickC.pick, ?_⟩)
          refine RH.ot rfl rfl (OT.storeE (F := boolT) rfl Sz4 rfl rfl rfl (Cl.c rfl) (OneC.c rfl) (by omega) ⟨Gh.le_refl _, PickC.pick, ?_⟩)
          refine RH.nil ?_
          refine WP.region ?_
          refine RG.pv rfl (PV.mvI (.inl rfl) rfl) ?_
          refine RG.pv rfl (PV.add rfl rfl rfl (by omega)) ?_
          refine RG.pv rfl (PV.mvI (.inr rfl) rfl) ?_
          refine RG.nil ?_
          exact ⟨rfl, i + 1, (P.set ((gd Q i).2.toNat * 80 + (gd Q i).1.toNat) true), (U.set ((gd Q i).2.toNat * 80 + (gd Q i).1.toNat) false), ⟨by omega, hPQ.step hbq, hMQ.step hPl (by omega) (by omega)⟩, ⟨rfl, trivial⟩, ⟨rfl, rfl, rfl, rfl, rfl, rfl, rfl, trivial⟩, Cv.p, by omega⟩
        · have h6 := of_decide_eq_false h6
          obtain rfl : i = Q.length := by omega
          obtain rfl := hPQ.final hQ
          refine WP.exit ?_
          refine WP.region ?_
          refine RG.pv rfl (PV.move (v := q1) rfl rfl) ?_
          refine RG.pv rfl (PV.move (v := v35) rfl rfl) ?_
          refine RG.ot rfl (OT.bslice (F := (slT (α := Bool))) (els := [⟨v35, compB T1 (cel (y * 80 + x))⟩]) rfl El121 rfl (by decide) rfl (by decide) ⟨rfl, (Cl.s (v := v35) SlF.o), trivial⟩ fun v70 => ?_)
          refine RG.ot rfl (OT.append (v := q1) (u := v70) (F := (slT (α := Bool))) rfl El121 rfl (by decide) rfl rfl Rs.o (OneL.one (OneC.sl SlF.o OneC.nil)) rfl (by first | omega | (simp <;> omega)) fun v71 => ?_)
          refine RG.pv rfl (PV.asg (v := v71) rfl rfl) ?_
          refine RG.nil ?_
          refine WP.region ?_
          refine RG.pv rfl (PV.mvI (.inl rfl) rfl) ?_
          refine RG.pv rfl (PV.add rfl rfl rfl (by omega)) ?_
          refine RG.pv rfl (PV.mvI (.inr rfl) rfl) ?_
          refine RG.nil ?_
          refine ⟨rfl, (x : Int) - 40 + 1, U, (zs1 ++ [⟨v35, compB T1 (cel (y * 80 + x))⟩]), v71, ⟨by omega, ?_⟩, ⟨rfl, rfl, trivial⟩, ⟨rfl, rfl, rfl, trivial⟩, ((Cv.p (C := osl 4 boolT v35 (compB T1 (cel (y * 80 + x))) :: bagS 4 boolT zs1 :: osl 4 boolT v13 U :: osl 124 slT v71 (zs1 ++ [⟨v35, compB T1 (cel (y * 80 + x))⟩]) :: L)).trans (Cv.bagS_add.trans Cv.p)), by omega⟩
          rw [e4, er, List.map_append]
          exact hP1.take (by omega) (by rw [e1, e2]; exact h5) hMQ.1 hMQ.2
    · have h3 := of_decide_eq_false h3
      obtain rfl : x = 80 := by omega
      refine WP.exit ?_
      refine WP.region ?_
      refine RG.pv rfl (PV.mvI (.inl rfl) rfl) ?_
      refine RG.pv rfl (PV.add rfl rfl rfl (by omega)) ?_
      refine RG.pv rfl (PV.mvI (.inr rfl) rfl) ?_
      refine RG.nil ?_
      exact ⟨rfl, (y : Int) - 40 + 1, T1, zs1, q1, ⟨by omega, by rw [show ((y : Int) - 40 + 1 + 40).toNat = y + 1 by omega, Nat.add_mul]; exact hP1⟩, ⟨rfl, rfl, trivial⟩, ⟨rfl, rfl, trivial⟩, Cv.p, by omega⟩
  · have h2 := of_decide_eq_false h2
    obtain rfl : y = 80 := by omega
    have hz := hP.all
    refine WP.exit ?_
    refine WP.seq ?_
    refine WP.region ?_
    refine RG.pv rfl (PV.move (v := q) rfl rfl) ?_
    refine RG.pv rfl (PV.asg (v := q) rfl rfl) ?_
    refine RG.nil ?_
    refine WP.ret ?_
    exact ⟨_, _, ResV.one rfl rfl, Cv.p, k q zs hz⟩
end Go.Proofs.YtmomfgfmnpblpaaGreat
namespace Go.Proofs.YtmomfgfmnpblpaaGreat
set_option linter.unusedVariables false
set_option linter.unusedSimpArgs false
open Go
set_option maxRecDepth 20000
set_option linter.unusedSimpArgs false
variable {G : Gh} {L : List Ch} {R : Value → Gh → List Ch → Prop}
theorem toRect_s {r : Rect} (k : R (vrect r) G L) : CallT Tryz.prog 89 #[vrect r] G L R := by
  refine CallT.enter (args := _) Tryz.func89 rfl rfl (by kernel_rfl) rfl ?_
  refine WP.seq ?_
  refine WP.region ?_
  refine RG.ot rfl (OT.box (cs := rectT.enc r) rfl rfl rfl fun b1 => ?_)
  refine RG.ot rfl (OT.alloc rfl Zr61 fun b2 => ?_)
  refine RG.nil ?_
  refine WP.seq ?_
  refine WP.region ?_
  refine RG.ot rfl (OT.alloc rfl Zr61 fun b3 => ?_)
  refine RG.nil ?_
  refine WP.seq ?_
  refine WP.region ?_
  refine RG.pv rfl (PV.field rfl Fo132_0 rfl) ?_
  refine RG.pv rfl (PV.load1 rfl Sc2 rfl (Rd.blk rfl)) ?_
  refine RG.pv rfl (PV.field rfl Fo61_0 rfl) ?_
  refine RG.ot rfl (OT.storeB (vs := [vi _]) (cs' := [_, _, _, _]) rfl Sz2 rfl rfl (Cl.c rfl) rfl (OneC.c rfl) rfl rfl ?_)
  refine RG.nil ?_
  refine WP.seq ?_
  refine WP.region ?_
  refine RG.pv rfl (PV.field rfl Fo132_1 rfl) ?_
  refine RG.pv rfl (PV.load1 rfl Sc2 rfl (Rd.blk rfl)) ?_
  refine RG.pv rfl (PV.field rfl Fo61_1 rfl) ?_
  refine RG.ot rfl (OT.storeB (vs := [vi _]) (cs' := [_, _, _, _]) rfl Sz2 rfl rfl (Cl.c rfl) rfl (OneC.c rfl) rfl rfl ?_)
  refine RG.nil ?_
  refine WP.seq ?_
  refine WP.region ?_
  refine RG.pv rfl (PV.field rfl Fo132_2 rfl) ?_
  refine RG.pv rfl (PV.load1 rfl Sc2 rfl (Rd.blk rfl)) ?_
  refine RG.pv rfl (PV.field rfl Fo61_2 rfl) ?_
  refine RG.ot rfl (OT.storeB (vs := [vi _]) (cs' := [_, _, _, _]) rfl Sz2 rfl rfl (Cl.c rfl) rfl (OneC.c rfl) rfl rfl ?_)
  refine RG.nil ?_
  refine WP.seq ?_
  refine WP.region ?_
  refine RG.pv rfl (PV.field rfl Fo132_3 rfl) ?_
  refine RG.pv rfl (PV.load1 rfl Sc2 rfl (Rd.blk rfl)) ?_
  refine RG.pv rfl (PV.field rfl Fo61_3 rfl) ?_
  refine RG.ot rfl (OT.storeB (vs := [vi _]) (cs' := [_, _, _, _]) rfl Sz2 rfl rfl (Cl.c rfl) rfl (OneC.c rfl) rfl rfl ?_)
  refine RG.nil ?_
  refine WP.seq ?_
  refine WP.region ?_
  refine RG.pv rfl (PV.loadW rfl Ag61 rfl rfl) ?_
  refine RG.ot rfl (OT.storeW (vs := [vi _, vi _, vi _, vi _]) rfl Sz61 rfl rfl (Cl.c rfl) rfl rfl (OneC.c rfl) ?_)
  refine RG.nil ?_
  refine WP.ret ?_
  exact ⟨_, _, ResV.one rfl (RV1.cell rfl Ag61 rfl), Cv.p, k⟩
theorem eqRect_s {a b : Rect} (k : R (.bool (decide (a = b))) G L) : CallT Tryz.prog 103 #[vrect a, vrect b] G L R := by
  refine CallT.enter (args := _) Tryz.func103 rfl rfl (by kernel_rfl) rfl ?_
  refine WP.seq ?_
  refine WP.region ?_
  refine RG.ot rfl (OT.box (cs := rectT.enc a) rfl rfl rfl fun b2 => ?_)
  refine RG.ot rfl (OT.box (cs := rectT.enc b) rfl rfl rfl fun b3 => ?_)
  refine RG.pv rfl (PV.mvB (.inr rfl) rfl) ?_
  refine RG.nil ?_
  refine WP.seq ?_
  refine WP.seq ?_
  refine WP.region ?_
  refine RG.pv rfl (PV.field rfl Fo61_0 rfl) ?_
  refine RG.pv rfl (PV.load1 rfl Sc2 rfl (Rd.blk rfl)) ?_
  refine RG.pv rfl (PV.field rfl Fo61_0 rfl) ?_
  refine RG.pv rfl (PV.load1 rfl Sc2 rfl (Rd.blk rfl)) ?_
  refine RG.pv rfl (PV.neq rfl rfl rfl) ?_
  refine RG.nil ?_
  refine WP.cond rfl (fun h1 => ?_) (fun h1 => ?_)
  · have e : decide (a = b) = false := by rw [decide_eq_false_iff_not]; rintro rfl; simp at h1
    rw [e] at k
    refine WP.seq ?_
    refine WP.region ?_
    refine RG.pv rfl (PV.mvB (.inr rfl) rfl) ?_
    refine RG.nil ?_
    refine WP.ret ?_
    exact ⟨_, _, ResV.one rfl rfl, Cv.p, k⟩
  · refine WP.skip ?_
    refine WP.seq ?_
    refine WP.seq ?_
    refine WP.region ?_
    refine RG.pv rfl (PV.field rfl Fo61_1 rfl) ?_
    refine RG.pv rfl (PV.load1 rfl Sc2 rfl (Rd.blk rfl)) ?_
    refine RG.pv rfl (PV.field rfl Fo61_1 rfl) ?_
    refine RG.pv rfl (PV.load1 rfl Sc2 rfl (Rd.blk rfl)) ?_
    refine RG.pv rfl (PV.neq rfl rfl rfl) ?_
    refine RG.nil ?_
    refine WP.cond rfl (fun h2 => ?_) (fun h2 => ?_)
    · have e : decide (a = b) = false := by rw [decide_eq_false_iff_not]; rintro rfl; simp at h2
      rw [e] at k
      refine WP.seq ?_
      refine WP.region ?_
      refine RG.pv rfl (PV.mvB (.inr rfl) rfl) ?_
      refine RG.nil ?_
      refine WP.ret ?_
      exact ⟨_, _, ResV.one rfl rfl, Cv.p, k⟩
    · refine WP.skip ?_
      refine WP.seq ?_
      refine WP.seq ?_
      refine WP.region ?_
      refine RG.pv rfl (PV.field rfl Fo61_2 rfl) ?_
      refine RG.pv rfl (PV.load1 rfl Sc2 rfl (Rd.blk rfl)) ?_
      refine RG.pv rfl (PV.field rfl Fo61_2 rfl) ?_
      refine RG.pv rfl (PV.load1 rfl Sc2 rfl (Rd.blk rfl)) ?_
      refine RG.pv rfl (PV.neq rfl rfl rfl) ?_
      refine RG.nil ?_
      refine WP.cond rfl (fun h3 => ?_) (fun h3 => ?_)
      · have e : decide (a = b) = false := by rw [decide_eq_false_iff_not]; rintro rfl; simp at h3
        rw [e] at k
        refine WP.seq ?_
        refine WP.region ?_
        refine RG.pv rfl (PV.mvB (.inr rfl) rfl) ?_
        refine RG.nil ?_
        refine WP.ret ?_
        exact ⟨_, _, ResV.one rfl rfl, Cv.p, k⟩
      · refine WP.skip ?_
        refine WP.seq ?_
        refine WP.seq ?_
        refine WP.region ?_
        refine RG.pv rfl (PV.field rfl Fo61_3 rfl) ?_
        refine RG.pv rfl (PV.load1 rfl Sc2 rfl (Rd.blk rfl)) ?_
        refine RG.pv rfl (PV.field rfl Fo61_3 rfl) ?_
        refine RG.pv rfl (PV.load1 rfl Sc2 rfl (Rd.blk rfl)) ?_
        refine RG.pv rfl (PV.neq rfl rfl rfl) ?_
        refine RG.nil ?_
        refine WP.cond rfl (fun h4 => ?_) (fun h4 => ?_)
        · have e : decide (a = b) = false := by rw [decide_eq_false_iff_not]; rintro rfl; simp at h4
          rw [e] at k
          refine WP.seq ?_
          refine WP.region ?_
          refine RG.pv rfl (PV.mvB (.inr rfl) rfl) ?_
          refine RG.nil ?_
          refine WP.ret ?_
          exact ⟨_, _, ResV.one rfl rfl, Cv.p, k⟩
        · have e : decide (a = b) = true := by
            obtain ⟨a0, a1, a2, a3⟩ := a; obtain ⟨b0, b1, b2, b3⟩ := b
            simp at h1 h2 h3 h4 ⊢; exact ⟨h1, h2, h3, h4⟩
          rw [e] at k
          refine WP.skip ?_
          refine WP.seq ?_
          refine WP.region ?_
          refine RG.pv rfl (PV.mvB (.inr rfl) rfl) ?_
          refine RG.nil ?_
          refine WP.ret ?_
          exact ⟨_, _, ResV.one rfl rfl, Cv.p, k⟩
theorem toRectS_s {v : Value} {xs : List Rect} (h1 : Rs G L rectT v xs) (hb : xs.length ≤ 1048576) (k : ∀ v', R v' G (osl 61 rectT v' xs :: L)) : CallT Tryz.prog 51 #[v] G L R := by
  refine CallT.enter (args := _) Tryz.func51 rfl rfl (by kernel_rfl) rfl ?_
  refine WP.seq ?_
  refine WP.region ?_
  refine RG.pv rfl (PV.asg rfl rfl) ?_
  refine RG.nil ?_
  refine WP.seq ?_
  refine WP.region ?_
  refine RG.pv rfl (PV.move (v := v) rfl rfl) ?_
  refine RG.pv rfl (PV.len (v := v) rfl Tryz.underlying72 rfl (SlF.r h1)) ?_
  refine RG.ot rfl (OT.make (F := rectT) (a0 := default) rfl El56 rfl (by decide) rfl rfl (by omega) (by omega) fun v7 => ?_)
  refine RG.pv rfl (PV.asg (v := v7) rfl rfl) ?_
  refine RG.nil ?_
  refine WP.seq ?_
  refine WP.seq ?_
  refine WP.region ?_
  refine RG.pv rfl (PV.mvI (.inr rfl) rfl) ?_
  refine RG.nil ?_
  refine WP.block ?_
  refine WP.loop2 [0, 3] (fun i ys => i ≤ xs.length ∧ ys.length = xs.length ∧ ∀ j, j < i → ys[j]? = xs[j]?) (fun i ys => [(4, vi i)]) (fun i ys => osl 61 rectT v7 ys :: L) (fun i ys => xs.length - i) 0 (List.replicate xs.length default) ⟨by omega, by simp, fun j h => by omega⟩ ⟨rfl, trivial⟩ Cv.p ?_
  rintro i ys τ ⟨hi, hl, he⟩
  refine WP.seq ?_
  refine WP.seq ?_
  refine WP.region ?_
  refine RG.pv rfl (PV.mvI (.inl rfl) rfl) ?_
  refine RG.pv rfl (PV.move (v := v) rfl rfl) ?_
  refine RG.pv rfl (PV.len (v := v) rfl Tryz.underlying72 rfl (SlF.r h1)) ?_
  refine RG.pv rfl (PV.lss rfl rfl rfl) ?_
  refine RG.nil ?_
  refine WP.cond rfl (fun h2 => ?_) (fun h2 => ?_)
  · have h2 := of_decide_eq_true h2
    refine WP.skip ?_
    refine WP.seq ?_
    refine WP.block ?_
    refine WP.region ?_
    refine RG.pv rfl (PV.move (v := v7) rfl rfl) ?_
    refine RG.pv rfl (PV.mvI (.inl rfl) rfl) ?_
    refine RG.pv rfl (PV.move (v := v) rfl rfl) ?_
    refine RG.pv rfl (PV.mvI (.inl rfl) rfl) ?_
    refine RG.pv rfl (PV.idxS (v := v) rfl Is72 rfl (SlF.r h1) rfl rfl (by omega)) ?_
    refine RG.pv rfl (PV.loadE rfl Ag132 rfl rfl (El.r h1 (getG (by omega)))) ?_
    refine RG.callF (vs := [_]) rfl rfl En89 rfl (toRect_s ?_)
    refine RG.pv rfl (PV.idxS (v := v7) rfl Is56 rfl SlF.o rfl rfl (by omega)) ?_
    refine RG.ot rfl (OT.storeE (F := rectT) rfl Sz61 rfl rfl rfl (Cl.c rfl) (OneC.c rfl) (by omega) ?_)
    refine RG.nil ?_
    refine WP.region ?_
    refine RG.pv rfl (PV.mvI (.inl rfl) rfl) ?_
    refine RG.pv rfl (PV.add rfl rfl rfl (by omega)) ?_
    refine RG.pv rfl (PV.mvI (.inr rfl) rfl) ?_
    refine RG.nil ?_
    exact ⟨rfl, i + 1, _, ⟨by omega, by simpa using hl, set_pre he (getG (by omega)) hl⟩, ⟨rfl, trivial⟩, ⟨rfl, rfl, trivial⟩, Cv.p, by omega⟩
  · have h2 := of_decide_eq_false h2
    obtain rfl := pre_eq he hl (by omega)
    refine WP.exit ?_
    refine WP.seq ?_
    refine WP.region ?_
    refine RG.pv rfl (PV.move (v := v7) rfl rfl) ?_
    refine RG.pv rfl (PV.asg (v := v7) rfl rfl) ?_
    refine RG.nil ?_
    refine WP.ret ?_
    exact ⟨_, _, ResV.one rfl rfl, Cv.p, k v7⟩
theorem eqRectS_s {v u : Value} {xs ys : List Rect} (h1 : Rs G L rectT v xs) (h2 : Rs G L rectT u ys) (k : R (.bool (decide (xs = ys))) G L) : CallT Tryz.prog 57 #[v, u] G L R := by
  refine CallT.bd h1 fun hb => ?_
  refine CallT.bd h2 fun hb' => ?_
  refine CallT.enter (args := _) Tryz.func57 rfl rfl (by kernel_rfl) rfl ?_
  refine WP.seq ?_
  refine WP.region ?_
  refine RG.pv rfl (PV.mvB (.inr rfl) rfl) ?_
  refine RG.nil ?_
  refine WP.seq ?_
  refine WP.seq ?_
  refine WP.region ?_
  refine RG.pv rfl (PV.move (v := v) rfl rfl) ?_
  refine RG.pv rfl (PV.len (v := v) rfl Tryz.underlying56 rfl (SlF.r h1)) ?_
  refine RG.pv rfl (PV.move (v := u) rfl rfl) ?_
  refine RG.pv rfl (PV.len (v := u) rfl Tryz.underlying56 rfl (SlF.r h2)) ?_
  refine RG.pv rfl (PV.neq rfl rfl rfl) ?_
  refine RG.nil ?_
  refine WP.cond rfl (fun h3 => ?_) (fun h3 => ?_)
  · have e : decide (xs = ys) = false := by
      rw [decide_eq_false_iff_not]; rintro rfl; simp at h3
    rw [e] at k
    refine WP.seq ?_
    refine WP.region ?_
    refine RG.pv rfl (PV.mvB (.inr rfl) rfl) ?_
    refine RG.nil ?_
    refine WP.ret ?_
    exact ⟨_, _, ResV.one rfl rfl, Cv.p, k⟩
  · have hl : xs.length = ys.length := by simp at h3; omega
    refine WP.skip ?_
    refine WP.seq ?_
    refine WP.seq ?_
    refine WP.region ?_
    refine RG.pv rfl (PV.mvI (.inr rfl) rfl) ?_
    refine RG.nil ?_
    refine WP.block ?_
    refine WP.loop1 [0, 1] (fun i => i ≤ xs.length ∧ ∀ j, j < i → xs[j]? = ys[j]?) (fun i => [(5, vi i)]) (fun i => L) (fun i => xs.length - i) 0 ⟨by omega, fun j h => by omega⟩ ⟨rfl, trivial⟩ Cv.p ?_
    rintro i τ ⟨hi, he⟩
    refine WP.seq ?_
    refine WP.seq ?_
    refine WP.region ?_
    refine RG.pv rfl (PV.mvI (.inl rfl) rfl) ?_
    refine RG.pv rfl (PV.move (v := v) rfl rfl) ?_
    refine RG.pv rfl (PV.len (v := v) rfl Tryz.underlying56 rfl (SlF.r h1)) ?_
    refine RG.pv rfl (PV.lss rfl rfl rfl) ?_
    refine RG.nil ?_
    refine WP.cond rfl (fun h4 => ?_) (fun h4 => ?_)
    · have h4 := of_decide_eq_true h4
      have h5 : i < xs.length := by omega
      refine WP.skip ?_
      refine WP.seq ?_
      refine WP.block ?_
      refine WP.seq ?_
      refine WP.regionQ (by kernel_rfl) (by kernel_rfl) ?_
      refine RQ.pv rfl (PV.move (v := v) rfl rfl) ?_
      refine RQ.pv rfl (PV.mvI (.inl rfl) rfl) ?_
      refine RQ.pv rfl (PV.idxS (v := v) rfl Is56 rfl (SlF.r h1) rfl rfl (by omega)) ?_
      refine RQ.pv rfl (PV.loadE rfl Ag61 rfl rfl (El.r h1 (getG (by omega)))) ?_
      refine RQ.pv rfl (PV.move (v := u) rfl rfl) ?_
      refine RQ.pv rfl (PV.mvI (.inl rfl) rfl) ?_
      refine RQ.pv rfl (PV.idxS (v := u) rfl Is56 rfl (SlF.r h2) rfl rfl (by omega)) ?_
      refine RQ.pv rfl (PV.loadE rfl Ag61 rfl rfl (El.r h2 (getG (by omega)))) ?_
      refine RQ.callF (vs := [_, _]) rfl rfl En103 rfl (eqRect_s ⟨rfl, rfl, rfl⟩) ?_
      refine RQ.pv rfl (PV.not rfl rfl) ?_
      refine RQ.nil ?_
      refine WP.cond rfl (fun h6 => ?_) (fun h6 => ?_)
      · have e : decide (xs = ys) = false := by
          rw [decide_eq_false_iff_not]; rintro rfl; simp at h6
        rw [e] at k
        refine WP.seq ?_
        refine WP.region ?_
        refine RG.pv rfl (PV.mvB (.inr rfl) rfl) ?_
        refine RG.nil ?_
        refine WP.ret ?_
        exact ⟨_, _, ResV.one rfl rfl, Cv.p, k⟩
      · have e : gd xs i = gd ys i := by simpa using h6
        have he' : ∀ j, j < i + 1 → xs[j]? = ys[j]? := fun j h => by
          by_cases c : j = i
          · rw [c, getG h5, getG (show i < ys.length by omega), e]
          · exact he j (by omega)
        refine WP.skip ?_
        refine WP.region ?_
        refine RG.pv rfl (PV.mvI (.inl rfl) rfl) ?_
        refine RG.pv rfl (PV.add rfl rfl rfl (by omega)) ?_
        refine RG.pv rfl (PV.mvI (.inr rfl) rfl) ?_
        refine RG.nil ?_
        exact ⟨rfl, i + 1, ⟨by omega, he'⟩, ⟨rfl, trivial⟩, ⟨rfl, rfl, trivial⟩, Cv.p, by omega⟩
    · have h4 := of_decide_eq_false h4
      have e : decide (xs = ys) = true := by
        rw [decide_eq_true_iff]; exact pre_eq he hl (by omega)
      rw [e] at k
      refine WP.exit ?_
      refine WP.seq ?_
      refine WP.region ?_
      refine RG.pv rfl (PV.mvB (.inr rfl) rfl) ?_
      refine RG.nil ?_
      refine WP.ret ?_
      exact ⟨_, _, ResV.one rfl rfl, Cv.p, k⟩
theorem szRectS_s {v : Value} {xs : List Rect} {n : Int} (h1 : Rs G L rectT v xs) (hn : n ≤ 1048576) (h0 : 0 ≤ n) (k : ∀ r : Int, r ≤ n → (0 ≤ r → r = n - xs.length) → R (vi r) G L) : CallT Tryz.prog 43 #[v, vi n] G L R := by
  refine CallT.bd h1 fun hb => ?_
  refine CallT.enter (args := _) Tryz.func43 rfl rfl (by kernel_rfl) rfl ?_
  refine WP.seq ?_
  refine WP.region ?_
  refine RG.pv rfl (PV.mvI (.inr rfl) rfl) ?_
  refine RG.nil ?_
  refine WP.seq ?_
  refine WP.region ?_
  refine RG.pv rfl (PV.mvI (.inl rfl) rfl) ?_
  refine RG.pv rfl (PV.move (v := v) rfl rfl) ?_
  refine RG.pv rfl (PV.len (v := v) rfl Tryz.underlying72 rfl (SlF.r h1)) ?_
  refine RG.pv rfl (PV.sub rfl rfl rfl (by omega)) ?_
  refine RG.pv rfl (PV.mvI (.inr rfl) rfl) ?_
  refine RG.nil ?_
  refine WP.seq ?_
  refine WP.seq ?_
  refine WP.region ?_
  refine RG.pv rfl (PV.mvI (.inl rfl) rfl) ?_
  refine RG.pv rfl (PV.lss rfl rfl rfl) ?_
  refine RG.nil ?_
  refine WP.cond rfl (fun h2 => ?_) (fun h2 => ?_)
  · refine WP.seq ?_
    refine WP.region ?_
    refine RG.pv rfl (PV.mvI (.inr rfl) rfl) ?_
    refine RG.nil ?_
    refine WP.ret ?_
    exact ⟨_, _, ResV.one rfl rfl, Cv.p, k _ (by omega) (fun h => by omega)⟩
  · refine WP.skip ?_
    refine WP.seq ?_
    refine WP.region ?_
    refine RG.pv rfl (PV.mvI (.inl rfl) rfl) ?_
    refine RG.pv rfl (PV.mvI (.inr rfl) rfl) ?_
    refine RG.nil ?_
    refine WP.ret ?_
    exact ⟨_, _, ResV.one rfl rfl, Cv.p, k _ (by omega) (fun h => by omega)⟩
def mkRect (_ : Rect) (k : Int) : Rect := ⟨k, k + 1, k + 1 + 1, k + 1 + 1 + 1⟩
def nRect (_ : Rect) : Int := 4
theorem nRect_cost (xs : List Rect) : costL nRect xs = 4 * xs.length := costL_const 4 xs
theorem mkRect_at {xs : List Rect} {i : Nat} {k0 kk : Int} (h : i < xs.length) (e : kk = k0 + 4 * i) : mkRect (gd xs i) (k0 + costL nRect (xs.take i)) = ⟨kk, kk + 1, kk + 1 + 1, kk + 1 + 1 + 1⟩ := by
  rw [mkRect, nRect_cost, List.length_take, Nat.min_eq_left (by omega), e]
theorem markRectS_s {v : Value} {xs : List Rect} {k0 : Int} (hk : 0 ≤ k0) (hb : k0 + costL nRect xs ≤ 4611686018427387904) (k : R (vi (k0 + costL nRect xs)) G (osl 61 rectT v (markL mkRect nRect xs k0) :: L)) : CallT Tryz.prog 59 #[v, vi k0] G (osl 61 rectT v xs :: L) R := by
  have hc := nRect_cost xs
  refine CallT.cv (Cv.eqS (markTo_zero (mk := mkRect) (n := nRect) (k := k0)).symm) ?_
  refine CallT.enter (args := _) Tryz.func59 rfl rfl (by kernel_rfl) rfl ?_
  refine WP.seq ?_
  refine WP.region ?_
  refine RG.pv rfl (PV.mvI (.inr rfl) rfl) ?_
  refine RG.nil ?_
  refine WP.seq ?_
  refine WP.seq ?_
  refine WP.region ?_
  refine RG.pv rfl (PV.mvI (.inr rfl) rfl) ?_
  refine RG.nil ?_
  refine WP.block ?_
  refine WP.loop2 [0] (fun (i : Nat) (kk : Int) => i ≤ xs.length ∧ kk = k0 + 4 * i) (fun (i : Nat) (kk : Int) => [(5, vi i), (1, vi kk)]) (fun (i : Nat) (kk : Int) => osl 61 rectT v (markTo mkRect nRect xs k0 i) :: L) (fun (i : Nat) (kk : Int) => xs.length - i) 0 k0 ⟨by omega, by omega⟩ ⟨rfl, rfl, trivial⟩ Cv.p ?_
  rintro i kk τ ⟨hi, hkk⟩
  refine WP.seq ?_
  refine WP.seq ?_
  refine WP.region ?_
  refine RG.pv rfl (PV.mvI (.inl rfl) rfl) ?_
  refine RG.pv rfl (PV.move (v := v) rfl rfl) ?_
  refine RG.pv rfl (PV.len (v := v) rfl Tryz.underlying56 rfl SlF.o) ?_
  refine RG.pv rfl (PV.lss rfl rfl rfl) ?_
  refine RG.nil ?_
  have hml := markTo_len (mk := mkRect) (n := nRect) (k := k0) hi
  refine WP.cond rfl (fun h1 => ?_) (fun h1 => ?_)
  · have h1 := of_decide_eq_true h1
    have h2 : i < xs.length := by omega
    refine WP.skip ?_
    refine WP.seq ?_
    refine WP.block ?_
    refine WP.seq ?_
    refine WP.region ?_
    refine RG.pv rfl (PV.move (v := v) rfl rfl) ?_
    refine RG.pv rfl (PV.mvI (.inl rfl) rfl) ?_
    refine RG.pv rfl (PV.mvI (.inl rfl) rfl) ?_
    refine RG.pv rfl (PV.idxS (v := v) rfl Is56 rfl SlF.o rfl rfl (by omega)) ?_
    refine RG.pv rfl (PV.field rfl Fo61_0 rfl) ?_
    refine RG.ot rfl (OT.storeF (F := rectT) (val := vi) (cv := fun u => [vi u]) (st := Rect.s0) rfl Sz2 rfl rfl rfl (Cl.c rfl) rfl (OneC.c rfl) (by exact set_self (by omega)) (by first | omega | (simp; omega)) rfl (fun _ _ => rfl) ?_)
    refine RG.nil ?_
    refine WP.seq ?_
    refine WP.region ?_
    refine RG.pv rfl (PV.mvI (.inl rfl) rfl) ?_
    refine RG.pv rfl (PV.add rfl rfl rfl (by first | omega | (simp only [List.length_set]; omega))) ?_
    refine RG.pv rfl (PV.mvI (.inr rfl) rfl) ?_
    refine RG.nil ?_
    refine WP.seq ?_
    refine WP.region ?_
    refine RG.pv rfl (PV.move (v := v) rfl rfl) ?_
    refine RG.pv rfl (PV.mvI (.inl rfl) rfl) ?_
    refine RG.pv rfl (PV.mvI (.inl rfl) rfl) ?_
    refine RG.pv rfl (PV.idxS (v := v) rfl Is56 rfl SlF.o rfl rfl (by first | omega | (simp only [List.length_set]; omega))) ?_
    refine RG.pv rfl (PV.field rfl Fo61_1 rfl) ?_
    refine RG.ot rfl (OT.storeF (F := rectT) (val := vi) (cv := fun u => [vi u]) (st := Rect.s1) rfl Sz2 rfl rfl rfl (Cl.c rfl) rfl (OneC.c rfl) (by rfl) (by first | omega | (simp; omega)) rfl (fun _ _ => rfl) ?_)
    refine RG.nil ?_
    refine WP.seq ?_
    refine WP.region ?_
    refine RG.pv rfl (PV.mvI (.inl rfl) rfl) ?_
    refine RG.pv rfl (PV.add rfl rfl rfl (by first | omega | (simp only [List.length_set]; omega))) ?_
    refine RG.pv rfl (PV.mvI (.inr rfl) rfl) ?_
    refine RG.nil ?_
    refine WP.seq ?_
    refine WP.region ?_
    refine RG.pv rfl (PV.move (v := v) rfl rfl) ?_
    refine RG.pv rfl (PV.mvI (.inl rfl) rfl) ?_
    refine RG.pv rfl (PV.mvI (.inl rfl) rfl) ?_
    refine RG.pv rfl (PV.idxS (v := v) rfl Is56 rfl SlF.o rfl rfl (by first | omega | (simp only [List.length_set]; omega))) ?_
    refine RG.pv rfl (PV.field rfl Fo61_2 rfl) ?_
    refine RG.ot rfl (OT.storeF (F := rectT) (val := vi) (cv := fun u => [vi u]) (st := Rect.s2) rfl Sz2 rfl rfl rfl (Cl.c rfl) rfl (OneC.c rfl) (by rfl) (by first | omega | (simp; omega)) rfl (fun _ _ => rfl) ?_)
    refine RG.nil ?_
    refine WP.seq ?_
    refine WP.region ?_
    refine RG.pv rfl (PV.mvI (.inl rfl) rfl) ?_
    refine RG.pv rfl (PV.add rfl rfl rfl (by first | omega | (simp only [List.length_set]; omega))) ?_
    refine RG.pv rfl (PV.mvI (.inr rfl) rfl) ?_
    refine RG.nil ?_
    refine WP.seq ?_
    refine WP.region ?_
    refine RG.pv rfl (PV.move (v := v) rfl rfl) ?_
    refine RG.pv rfl (PV.mvI (.inl rfl) rfl) ?_
    refine RG.pv rfl (PV.mvI (.inl rfl) rfl) ?_
    refine RG.pv rfl (PV.idxS (v := v) rfl Is56 rfl SlF.o rfl rfl (by first | omega | (simp only [List.length_set]; omega))) ?_
    refine RG.pv rfl (PV.field rfl Fo61_3 rfl) ?_
    refine RG.ot rfl (OT.storeF (F := rectT) (val := vi) (cv := fun u => [vi u]) (st := Rect.s3) rfl Sz2 rfl rfl rfl (Cl.c rfl) rfl (OneC.c rfl) (by rfl) (by first | omega | (simp; omega)) rfl (fun _ _ => rfl) ?_)
    refine RG.nil ?_
    refine WP.region ?_
    refine RG.pv rfl (PV.mvI (.inl rfl) rfl) ?_
    refine RG.pv rfl (PV.add rfl rfl rfl (by first | omega | (simp only [List.length_set]; omega))) ?_
    refine RG.pv rfl (PV.mvI (.inr rfl) rfl) ?_
    refine RG.nil ?_
    refine WP.region ?_
    refine RG.pv rfl (PV.mvI (.inl rfl) rfl) ?_
    refine RG.pv rfl (PV.add rfl rfl rfl (by first | omega | (simp only [List.length_set]; omega))) ?_
    refine RG.pv rfl (PV.mvI (.inr rfl) rfl) ?_
    refine RG.nil ?_
    exact ⟨rfl, i + 1, _, ⟨by omega, by omega⟩, ⟨rfl, rfl, trivial⟩, ⟨rfl, trivial⟩, (Cv.eqS (by rw [← markTo_set h2, mkRect_at h2 hkk])), by omega⟩
  · have h1 := of_decide_eq_false h1
    have e : kk = k0 + costL nRect xs := by omega
    rw [← e] at k
    refine WP.exit ?_
    refine WP.seq ?_
    refine WP.region ?_
    refine RG.pv rfl (PV.mvI (.inl rfl) rfl) ?_
    refine RG.pv rfl (PV.mvI (.inr rfl) rfl) ?_
    refine RG.nil ?_
    refine WP.ret ?_
    exact ⟨_, _, ResV.one rfl rfl, (Cv.eqS (markTo_all (by omega))), k⟩
theorem toRectSS_s {v : Value} {xs : List (Sl Rect)} (h1 : Rs G L slT v xs) (hd : RsE G L rectT xs) (hb : xs.length ≤ 1048576) (hbi : ∀ i, i < xs.length → (gd xs i).xs.length ≤ 1048576) (k : ∀ v' ys, er ys = er xs → R v' G (osl 56 slT v' ys :: bagS 61 rectT ys :: L)) : CallT Tryz.prog 12 #[v] G L R := by
  refine CallT.enter (args := _) Tryz.func12 rfl rfl (by kernel_rfl) rfl ?_
  refine WP.seq ?_
  refine WP.region ?_
  refine RG.pv rfl (PV.asg rfl rfl) ?_
  refine RG.nil ?_
  refine WP.seq ?_
  refine WP.region ?_
  refine RG.pv rfl (PV.move (v := v) rfl rfl) ?_
  refine RG.pv rfl (PV.len (v := v) rfl Tryz.underlying22 rfl (SlF.r h1)) ?_
  refine RG.ot rfl (OT.make (F := (slT (α := Rect))) (a0 := default) rfl El29 rfl (by decide) rfl rfl (by omega) (by omega) fun v7 => ?_)
  refine RG.pv rfl (PV.asg (v := v7) rfl rfl) ?_
  refine RG.nil ?_
  refine WP.seq ?_
  refine WP.seq ?_
  refine WP.region ?_
  refine RG.pv rfl (PV.mvI (.inr rfl) rfl) ?_
  refine RG.nil ?_
  refine WP.block ?_
  refine WP.cv (Cv.cons (Cv.bag0 (e := 61) (F := rectT) (xs := (List.replicate xs.length default).take 0) rfl)) ?_
  refine WP.loop2 [0, 3] (fun (i : Nat) (ys : List (Sl Rect)) => i ≤ xs.length ∧ ys.length = xs.length ∧ ∀ j, j < i → (gd ys j).xs = (gd xs j).xs) (fun (i : Nat) (ys : List (Sl Rect)) => [(4, vi i)]) (fun (i : Nat) (ys : List (Sl Rect)) => osl 56 slT v7 ys :: bagS 61 rectT (ys.take i) :: L) (fun (i : Nat) (ys : List (Sl Rect)) => xs.length - i) 0 (List.replicate xs.length default) ⟨by omega, by simp, fun j h => by omega⟩ ⟨rfl, trivial⟩ Cv.p ?_
  rintro i ys τ ⟨hi, hl, he⟩
  refine WP.seq ?_
  refine WP.seq ?_
  refine WP.region ?_
  refine RG.pv rfl (PV.mvI (.inl rfl) rfl) ?_
  refine RG.pv rfl (PV.move (v := v) rfl rfl) ?_
  refine RG.pv rfl (PV.len (v := v) rfl Tryz.underlying22 rfl (SlF.r h1)) ?_
  refine RG.pv rfl (PV.lss rfl rfl rfl) ?_
  refine RG.nil ?_
  refine WP.cond rfl (fun h2 => ?_) (fun h2 => ?_)
  · have h2 := of_decide_eq_true h2
    have h3 : i < ys.length := by omega
    refine WP.skip ?_
    refine WP.seq ?_
    refine WP.block ?_
    refine WP.region ?_
    refine RG.pv rfl (PV.move (v := v7) rfl rfl) ?_
    refine RG.pv rfl (PV.mvI (.inl rfl) rfl) ?_
    refine RG.pv rfl (PV.move (v := v) rfl rfl) ?_
    refine RG.pv rfl (PV.mvI (.inl rfl) rfl) ?_
    refine RG.pv rfl (PV.idxS (v := v) rfl Is22 rfl (SlF.r h1) rfl rfl (by omega)) ?_
    refine RG.pv rfl (PV.loadE1 rfl Sc72 rfl rfl (El.r h1 (getG (by omega))) rfl) ?_
    refine RG.callF (vs := [_]) rfl rfl En51 rfl (toRectS_s ((hd i (by omega)).up) (by have := hbi i (by omega); omega) (fun v20 => ?_))
    refine RG.pv rfl (PV.idxS (v := v7) rfl Is29 rfl SlF.o rfl rfl (by omega)) ?_
    refine RG.ot rfl (OT.storeE (v := v20) (a := ⟨v20, (gd xs i).xs⟩) (F := (slT (α := Rect))) rfl Sz56 rfl rfl rfl (Cl.s (v := v20) SlF.o) (OneC.sl SlF.o OneC.nil) (by omega) ?_)
    refine RG.nil ?_
    refine WP.region ?_
    refine RG.pv rfl (PV.mvI (.inl rfl) rfl) ?_
    refine RG.pv rfl (PV.add rfl rfl rfl (by omega)) ?_
    refine RG.pv rfl (PV.mvI (.inr rfl) rfl) ?_
    refine RG.nil ?_
    refine ⟨rfl, i + 1, _, ⟨by omega, by simpa using hl, fun j hj => ?_⟩, ⟨rfl, trivial⟩, ⟨rfl, rfl, trivial⟩, (Cv.cons (Cv.grow (take_set_succ h3))), by omega⟩
    by_cases c : j = i
    · subst c; simp [gd, h3]
    · have := he j (by omega)
      simpa [gd, List.getElem?_set, Ne.symm c] using this
  · have h2 := of_decide_eq_false h2
    have e : ys.take i = ys := List.take_of_length_le (by omega)
    rw [e]
    refine WP.exit ?_
    refine WP.seq ?_
    refine WP.region ?_
    refine RG.pv rfl (PV.move (v := v7) rfl rfl) ?_
    refine RG.pv rfl (PV.asg (v := v7) rfl rfl) ?_
    refine RG.nil ?_
    refine WP.ret ?_
    exact ⟨_, _, ResV.one rfl rfl, Cv.p, k v7 ys (er_of hl (fun j hj => he j (by omega)))⟩
theorem eqRectSS_s {v u : Value} {xs ys : List (Sl Rect)} (h1 : Rs G L slT v xs) (hd : RsE G L rectT xs) (h2 : Rs G L slT u ys) (hd' : RsE G L rectT ys) (k : R (.bool (decide (er xs = er ys))) G L) : CallT Tryz.prog 16 #[v, u] G L R := by
  refine CallT.bd h1 fun hb => ?_
  refine CallT.bd h2 fun hb' => ?_
  refine CallT.enter (args := _) Tryz.func16 rfl rfl (by kernel_rfl) rfl ?_
  refine WP.seq ?_
  refine WP.region ?_
  refine RG.pv rfl (PV.mvB (.inr rfl) rfl) ?_
  refine RG.nil ?_
  refine WP.seq ?_
  refine WP.seq ?_
  refine WP.region ?_
  refine RG.pv rfl (PV.move (v := v) rfl rfl) ?_
  refine RG.pv rfl (PV.len (v := v) rfl Tryz.underlying29 rfl (SlF.r h1)) ?_
  refine RG.pv rfl (PV.move (v := u) rfl rfl) ?_
  refine RG.pv rfl (PV.len (v := u) rfl Tryz.underlying29 rfl (SlF.r h2)) ?_
  refine RG.pv rfl (PV.neq rfl rfl rfl) ?_
  refine RG.nil ?_
  refine WP.cond rfl (fun h3 => ?_) (fun h3 => ?_)
  · have e : decide (er xs = er ys) = false := by
      rw [decide_eq_false_iff_not]; intro h; have := er_length h; simp at h3; omega
    rw [e] at k
    refine WP.seq ?_
    refine WP.region ?_
    refine RG.pv rfl (PV.mvB (.inr rfl) rfl) ?_
    refine RG.nil ?_
    refine WP.ret ?_
    exact ⟨_, _, ResV.one rfl rfl, Cv.p, k⟩
  · have hl : xs.length = ys.length := by simp at h3; omega
    refine WP.skip ?_
    refine WP.seq ?_
    refine WP.seq ?_
    refine WP.region ?_
    refine RG.pv rfl (PV.mvI (.inr rfl) rfl) ?_
    refine RG.nil ?_
    refine WP.block ?_
    refine WP.loop1 [0, 1] (fun i => i ≤ xs.length ∧ ∀ j, j < i → (gd xs j).xs = (gd ys j).xs) (fun i => [(5, vi i)]) (fun i => L) (fun i => xs.length - i) 0 ⟨by omega, fun j h => by omega⟩ ⟨rfl, trivial⟩ Cv.p ?_
    rintro i τ ⟨hi, he⟩
    refine WP.seq ?_
    refine WP.seq ?_
    refine WP.region ?_
    refine RG.pv rfl (PV.mvI (.inl rfl) rfl) ?_
    refine RG.pv rfl (PV.move (v := v) rfl rfl) ?_
    refine RG.pv rfl (PV.len (v := v) rfl Tryz.underlying29 rfl (SlF.r h1)) ?_
    refine RG.pv rfl (PV.lss rfl rfl rfl) ?_
    refine RG.nil ?_
    refine WP.cond rfl (fun h4 => ?_) (fun h4 => ?_)
    · have h4 := of_decide_eq_true h4
      have h5 : i < xs.length := by omega
      refine WP.skip ?_
      refine WP.seq ?_
      refine WP.block ?_
      refine WP.seq ?_
      refine WP.regionQ (by kernel_rfl) (by kernel_rfl) ?_
      refine RQ.pv rfl (PV.move (v := v) rfl rfl) ?_
      refine RQ.pv rfl (PV.mvI (.inl rfl) rfl) ?_
      refine RQ.pv rfl (PV.idxS (v := v) rfl Is29 rfl (SlF.r h1) rfl rfl (by omega)) ?_
      refine RQ.pv rfl (PV.loadE1 rfl Sc56 rfl rfl (El.r h1 (getG (by omega))) rfl) ?_
      refine RQ.pv rfl (PV.move (v := u) rfl rfl) ?_
      refine RQ.pv rfl (PV.mvI (.inl rfl) rfl) ?_
      refine RQ.pv rfl (PV.idxS (v := u) rfl Is29 rfl (SlF.r h2) rfl rfl (by omega)) ?_
      refine RQ.pv rfl (PV.loadE1 rfl Sc56 rfl rfl (El.r h2 (getG (by omega))) rfl) ?_
      refine RQ.callF (vs := [_, _]) rfl rfl En57 rfl (eqRectS_s ((hd i (by omega)).up) ((hd' i (by omega)).up) ⟨rfl, rfl, rfl⟩) ?_
      refine RQ.pv rfl (PV.not rfl rfl) ?_
      refine RQ.nil ?_
      refine WP.cond rfl (fun h6 => ?_) (fun h6 => ?_)
      · have e : decide (er xs = er ys) = false := by
          rw [decide_eq_false_iff_not]; intro h; simp [er_get h i] at h6
        rw [e] at k
        refine WP.seq ?_
        refine WP.region ?_
        refine RG.pv rfl (PV.mvB (.inr rfl) rfl) ?_
        refine RG.nil ?_
        refine WP.ret ?_
        exact ⟨_, _, ResV.one rfl rfl, Cv.p, k⟩
      · have e : (gd xs i).xs = (gd ys i).xs := by simpa using h6
        have he' : ∀ j, j < i + 1 → (gd xs j).xs = (gd ys j).xs := fun j h => by
          by_cases c : j = i
          · rw [c, e]
          · exact he j (by omega)
        refine WP.skip ?_
        refine WP.region ?_
        refine RG.pv rfl (PV.mvI (.inl rfl) rfl) ?_
        refine RG.pv rfl (PV.add rfl rfl rfl (by omega)) ?_
        refine RG.pv rfl (PV.mvI (.inr rfl) rfl) ?_
        refine RG.nil ?_
        exact ⟨rfl, i + 1, ⟨by omega, he'⟩, ⟨rfl, trivial⟩, ⟨rfl, rfl, trivial⟩, Cv.p, by omega⟩
    · have h4 := of_decide_eq_false h4
      have e : decide (er xs = er ys) = true := by
        rw [decide_eq_true_iff]; exact er_of hl (fun j hj => he j (by omega))
      rw [e] at k
      refine WP.exit ?_
      refine WP.seq ?_
      refine WP.region ?_
      refine RG.pv rfl (PV.mvB (.inr rfl) rfl) ?_
      refine RG.nil ?_
      refine WP.ret ?_
      exact ⟨_, _, ResV.one rfl rfl, Cv.p, k⟩
def nSl {α : Type} (n : α → Int) (s : Sl α) : Int := costL n s.xs
def mkSl {α : Type} (mk : α → Int → α) (n : α → Int) (s : Sl α) (k : Int) : Sl α := ⟨s.v, markL mk n s.xs k⟩
theorem nRect_nn (r : Rect) : 0 ≤ nRect r := by simp [nRect]
theorem nSl_nn (s : Sl Rect) : 0 ≤ nSl nRect s := costL_nonneg nRect_nn _
abbrev mkRS := mkSl mkRect nRect
abbrev nRS := nSl nRect
theorem markRectSS_s {v : Value} {xs : List (Sl Rect)} {k0 : Int} (hk : 0 ≤ k0) (hb : k0 + costL nRS xs ≤ 4611686018427387904) (k : R (vi (k0 + costL nRS xs)) G (osl 56 slT v (markL mkRS nRS xs k0) :: bagS 61 rectT (markL mkRS nRS xs k0) :: L)) :
    CallT Tryz.prog 18 #[v, vi k0] G (osl 56 slT v xs :: bagS 61 rectT xs :: L) R := by
  refine CallT.bd (T := slT) (v := v) (xs := xs) Rs.o fun hb2 => ?_
  refine CallT.cv (Cv.eq2 (markTo_zero (mk := mkRS) (n := nRS) (k := k0)).symm) ?_
  refine CallT.enter (args := _) Tryz.func18 rfl rfl (by kernel_rfl) rfl ?_
  refine WP.seq ?_
  refine WP.region ?_
  refine RG.pv rfl (PV.mvI (.inr rfl) rfl) ?_
  refine RG.nil ?_
  refine WP.seq ?_
  refine WP.seq ?_
  refine WP.region ?_
  refine RG.pv rfl (PV.mvI (.inr rfl) rfl) ?_
  refine RG.nil ?_
  refine WP.block ?_
  refine WP.loop2 [0] (fun (i : Nat) (kk : Int) => i ≤ xs.length ∧ kk = k0 + costL nRS (xs.take i)) (fun (i : Nat) (kk : Int) => [(5, vi i), (1, vi kk)]) (fun (i : Nat) (kk : Int) => osl 56 slT v (markTo mkRS nRS xs k0 i) :: bagS 61 rectT (markTo mkRS nRS xs k0 i) :: L) (fun (i : Nat) (kk : Int) => xs.length - i) 0 k0 ⟨by omega, by simp [costL]⟩ ⟨rfl, rfl, trivial⟩ Cv.p ?_
  rintro i kk τ ⟨hi, hkk⟩
  refine WP.seq ?_
  refine WP.seq ?_
  refine WP.region ?_
  refine RG.pv rfl (PV.mvI (.inl rfl) rfl) ?_
  refine RG.pv rfl (PV.move (v := v) rfl rfl) ?_
  refine RG.pv rfl (PV.len (v := v) rfl Tryz.underlying29 rfl SlF.o) ?_
  refine RG.pv rfl (PV.lss rfl rfl rfl) ?_
  refine RG.nil ?_
  have hml := markTo_len (mk := mkRS) (n := nRS) (k := k0) hi
  refine WP.cond rfl (fun h1 => ?_) (fun h1 => ?_)
  · have h1 := of_decide_eq_true h1
    have h2 : i < xs.length := by omega
    have hmg := markTo_gd (mk := mkRS) (n := nRS) (k := k0) h2
    have hc := costL_take nRS h2
    have hc1 : costL nRS (xs.take (i + 1)) ≤ costL nRS xs := costL_le nSl_nn xs (i + 1)
    have hc2 : 0 ≤ costL nRS (xs.take i) := costL_nonneg nSl_nn (xs.take i)
    have hc3 : 0 ≤ nRS (gd xs i) := nSl_nn (gd xs i)
    have hc4 : costL nRect (gd (markTo mkRS nRS xs k0 i) i).xs = nRS (gd xs i) := by rw [hmg]; rfl
    refine WP.cv (Cv.cons (Cv.bagS_take i (by omega))) ?_
    refine WP.skip ?_
    refine WP.seq ?_
    refine WP.block ?_
    refine WP.region ?_
    refine RG.pv rfl (PV.move (v := v) rfl rfl) ?_
    refine RG.pv rfl (PV.mvI (.inl rfl) rfl) ?_
    refine RG.pv rfl (PV.idxS (v := v) rfl Is29 rfl SlF.o rfl rfl (by omega)) ?_
    refine RG.pv rfl (PV.loadE1 rfl Sc56 rfl rfl (El.o (getG (by omega))) rfl) ?_
    refine RG.pv rfl (PV.mvI (.inl rfl) rfl) ?_
    refine RG.callF (vs := [_, _]) rfl rfl En59 rfl (CallT.exS (gd (markTo mkRS nRS xs k0 i) i).v (markRectS_s (by omega) (by omega) ?_))
    refine RG.pv rfl (PV.mvI (.inr rfl) rfl) ?_
    refine RG.nil ?_
    refine WP.region ?_
    refine RG.pv rfl (PV.mvI (.inl rfl) rfl) ?_
    refine RG.pv rfl (PV.add rfl rfl rfl (by omega)) ?_
    refine RG.pv rfl (PV.mvI (.inr rfl) rfl) ?_
    refine RG.nil ?_
    exact ⟨rfl, i + 1, _, ⟨by omega, by rw [hc]; omega⟩, ⟨rfl, rfl, trivial⟩, ⟨rfl, trivial⟩, ((Cv.slot i (by omega)).trans (Cv.eq2 (by rw [← markTo_set h2, hmg, hkk]; rfl))), by omega⟩
  · have h1 := of_decide_eq_false h1
    have e : kk = k0 + costL nRS xs := by rw [hkk, List.take_of_length_le (by omega)]
    rw [← e] at k
    refine WP.exit ?_
    refine WP.seq ?_
    refine WP.region ?_
    refine RG.pv rfl (PV.mvI (.inl rfl) rfl) ?_
    refine RG.pv rfl (PV.mvI (.inr rfl) rfl) ?_
    refine RG.nil ?_
    refine WP.ret ?_
    exact ⟨_, _, ResV.one rfl rfl, (Cv.eq2 (markTo_all (by omega))), k⟩
end Go.Proofs.YtmomfgfmnpblpaaGreat
namespace Go.Proofs.YtmomfgfmnpblpaaGreat
set_option linter.unusedVariables false
set_option linter.unusedSimpArgs false
open Go
set_option maxRecDepth 20000
set_option linter.unusedSimpArgs false
variable {G : Gh} {L : List Ch} {R : Value → Gh → List Ch → Prop}
theorem WP.st {P : Program} {n : Nat} {c : Code} {Q : Post} {σ : Nat → Value} {A : Prop} (h : ∀ w, St G L w → A) (k : A → WP P n c Q σ G L) : WP P n c Q σ G L := WP.of fun hk _ w ha hs => (k (h w hs)).run hk ha hs
def lenS {α : Type} (s : Sl α) : Int := s.xs.length
theorem lenS_nn {α : Type} (s : Sl α) : 0 ≤ lenS s := by simp [lenS]
theorem costL_er {α : Type} {n : α → Int} {xs ys : List (Sl α)} (h : er xs = er ys) : costL (nSl n) xs = costL (nSl n) ys := by
  have key : ∀ zs : List (Sl α), costL (nSl n) zs = costL (costL n) (er zs) := fun zs => by
    induction zs with
    | nil => rfl
    | cons z zs ih => simp only [er, List.map_cons, costL] at ih ⊢; rw [ih]; rfl
  rw [key, key, h]
theorem costL_scale {α : Type} {n m : α → Int} (c : Int) (h : ∀ a, n a = c * m a) : ∀ xs : List α, costL n xs = c * costL m xs
  | [] => by simp [costL]
  | x :: xs => by simp only [costL, h x, costL_scale c h xs, Int.mul_add]
theorem costL_mem {α : Type} [Inhabited α] {n : α → Int} (hn : ∀ a, 0 ≤ n a) {xs : List α} {i : Nat} (h : i < xs.length) : n (gd xs i) ≤ costL n xs := by
  have h1 := costL_take n h
  have h2 := costL_le hn xs (i + 1)
  have h3 := costL_nonneg hn (xs.take i)
  omega
theorem nRS_lenS (xs : List (Sl Rect)) : costL nRS xs = 4 * costL lenS xs := costL_scale 4 (fun s => by simp [nSl, nRect_cost, lenS]) xs
def szOf (xs : List (Sl Rect)) : Int := xs.length + costL lenS xs
theorem szRectSS_s {v : Value} {xs : List (Sl Rect)} {n : Int} (h1 : Rs G L slT v xs) (hd : RsE G L rectT xs) (hn : n ≤ 1048576) (h0 : 0 ≤ n) (k : ∀ r : Int, r ≤ n → (0 ≤ r → r = n - szOf xs) → R (vi r) G L) : CallT Tryz.prog 9 #[v, vi n] G L R := by
  refine CallT.bd h1 fun hb => ?_
  refine CallT.enter (args := _) Tryz.func9 rfl rfl (by kernel_rfl) rfl ?_
  refine WP.seq ?_
  refine WP.region ?_
  refine RG.pv rfl (PV.mvI (.inr rfl) rfl) ?_
  refine RG.nil ?_
  refine WP.seq ?_
  refine WP.region ?_
  refine RG.pv rfl (PV.mvI (.inl rfl) rfl) ?_
  refine RG.pv rfl (PV.move (v := v) rfl rfl) ?_
  refine RG.pv rfl (PV.len (v := v) rfl Tryz.underlying22 rfl (SlF.r h1)) ?_
  refine RG.pv rfl (PV.sub rfl rfl rfl (by omega)) ?_
  refine RG.pv rfl (PV.mvI (.inr rfl) rfl) ?_
  refine RG.nil ?_
  refine WP.seq ?_
  refine WP.seq ?_
  refine WP.region ?_
  refine RG.pv rfl (PV.mvI (.inl rfl) rfl) ?_
  refine RG.pv rfl (PV.lss rfl rfl rfl) ?_
  refine RG.nil ?_
  refine WP.cond rfl (fun h2 => ?_) (fun h2 => ?_)
  · have h2 := of_decide_eq_true h2
    refine WP.seq ?_
    refine WP.region ?_
    refine RG.pv rfl (PV.mvI (.inr rfl) rfl) ?_
    refine RG.nil ?_
    refine WP.ret ?_
    exact ⟨_, _, ResV.one rfl rfl, Cv.p, k _ (by omega) (fun h => by omega)⟩
  · have h2 := of_decide_eq_false h2
    refine WP.skip ?_
    refine WP.seq ?_
    refine WP.seq ?_
    refine WP.region ?_
    refine RG.pv rfl (PV.mvI (.inr rfl) rfl) ?_
    refine RG.nil ?_
    refine WP.block ?_
    refine WP.loop2 [0] (fun (i : Nat) (m : Int) => i ≤ xs.length ∧ 0 ≤ m ∧ m = n - xs.length - costL lenS (xs.take i)) (fun (i : Nat) (m : Int) => [(5, vi i), (1, vi m)]) (fun (i : Nat) (m : Int) => L) (fun (i : Nat) (m : Int) => xs.length - i) 0 (n - xs.length) ⟨by omega, by omega, by simp [costL]⟩ ⟨rfl, rfl, trivial⟩ Cv.p ?_
    rintro i m τ ⟨hi, hm0, hm1⟩
    refine WP.seq ?_
    refine WP.seq ?_
    refine WP.region ?_
    refine RG.pv rfl (PV.mvI (.inl rfl) rfl) ?_
    refine RG.pv rfl (PV.move (v := v) rfl rfl) ?_
    refine RG.pv rfl (PV.len (v := v) rfl Tryz.underlying22 rfl (SlF.r h1)) ?_
    refine RG.pv rfl (PV.lss rfl rfl rfl) ?_
    refine RG.nil ?_
    refine WP.cond rfl (fun h3 => ?_) (fun h3 => ?_)
    · have h3 := of_decide_eq_true h3
      have hct := costL_take lenS (xs := xs) (i := i) (by omega)
      have hcn : 0 ≤ costL lenS (xs.take i) := costL_nonneg lenS_nn _
      refine WP.skip ?_
      refine WP.seq ?_
      refine WP.block ?_
      refine WP.seq ?_
      refine WP.region ?_
      refine RG.pv rfl (PV.move (v := v) rfl rfl) ?_
      refine RG.pv rfl (PV.mvI (.inl rfl) rfl) ?_
      refine RG.pv rfl (PV.idxS (v := v) rfl Is22 rfl (SlF.r h1) rfl rfl (by omega)) ?_
      refine RG.pv rfl (PV.loadE1 rfl Sc72 rfl rfl (El.r h1 (getG (by omega))) rfl) ?_
      refine RG.pv rfl (PV.mvI (.inl rfl) rfl) ?_
      refine RG.callF (vs := [_, _]) rfl rfl En43 rfl (szRectS_s ((hd i (by omega)).up) (by omega) (by omega) (fun r hr hr' => ?_))
      refine RG.pv rfl (PV.mvI (.inr rfl) rfl) ?_
      refine RG.nil ?_
      refine WP.seq ?_
      refine WP.region ?_
      refine RG.pv rfl (PV.mvI (.inl rfl) rfl) ?_
      refine RG.pv rfl (PV.lss rfl rfl rfl) ?_
      refine RG.nil ?_
      refine WP.cond rfl (fun h5 => ?_) (fun h5 => ?_)
      · have h5 := of_decide_eq_true h5
        refine WP.seq ?_
        refine WP.region ?_
        refine RG.pv rfl (PV.mvI (.inr rfl) rfl) ?_
        refine RG.nil ?_
        refine WP.ret ?_
        exact ⟨_, _, ResV.one rfl rfl, Cv.p, k _ (by omega) (fun h => by omega)⟩
      · have h5 := of_decide_eq_false h5
        refine WP.skip ?_
        refine WP.region ?_
        refine RG.pv rfl (PV.mvI (.inl rfl) rfl) ?_
        refine RG.pv rfl (PV.add rfl rfl rfl (by omega)) ?_
        refine RG.pv rfl (PV.mvI (.inr rfl) rfl) ?_
        refine RG.nil ?_
        refine ⟨rfl, i + 1, _, ⟨by omega, by omega, ?_⟩, ⟨rfl, rfl, trivial⟩, ⟨rfl, trivial⟩, Cv.p, by omega⟩
        have hr' := hr' (by omega)
        rw [hct, lenS]; omega
    · have h3 := of_decide_eq_false h3
      refine WP.exit ?_
      refine WP.seq ?_
      refine WP.region ?_
      refine RG.pv rfl (PV.mvI (.inl rfl) rfl) ?_
      refine RG.pv rfl (PV.mvI (.inr rfl) rfl) ?_
      refine RG.nil ?_
      refine WP.ret ?_
      exact ⟨_, _, ResV.one rfl rfl, Cv.p, k _ (by have : 0 ≤ costL lenS (xs.take i) := costL_nonneg lenS_nn _; omega) (fun h => by rw [List.take_of_length_le (by omega)] at hm1; simp only [szOf]; omega)⟩
def chanR (l : List (List Rect)) : List Rect := bif isLay l then canon (zipB (fun p q => p && q) (bits (gd l 0)) (bits (gd l 1))) else []
theorem chanR_len (l : List (List Rect)) : (chanR l).length ≤ 3200 := by
  unfold chanR; cases isLay l
  · simp
  · exact canon_len _
theorem l24Area_s {v : Value} {xs : List (Sl Rect)} (h1 : Rs G L slT v xs) (hd : RsE G L rectT xs) (h8 : xs.length = 8) (hreg : ∀ i, i < 8 → isReg (gd xs i).xs = true) (k : ∀ v', R v' G (osl 4 boolT v' (zipB (fun p q => p && q) (bits (gd xs 0).xs) (bits (gd xs 1).xs)) :: L)) : CallT Tryz.prog 184 #[v] G L R := by
  refine CallT.enter (args := _) Tryz.func184 rfl rfl (by kernel_rfl) rfl ?_
  refine WP.seq ?_
  refine WP.region ?_
  refine RG.pv rfl (PV.asg rfl rfl) ?_
  refine RG.nil ?_
  refine WP.seq ?_
  refine WP.regionH0 (.q 0 (.q 1 (.q 2 (.q 4 (.q 5 (.q 6 (.l 3 (.l 7 (.l 8 (.q 9 Sch.nil)))))))))) (by kernel_rfl) (by kernel_rfl) (by kernel_rfl) rfl ?_
  refine RH.pv rfl (fun _ _ _ _ h => h) (Gh.le_refl _) PickC.pick rfl (PV.move (v := v) rfl rfl) ?_
  refine RH.pv rfl (fun _ _ _ _ h => h) (Gh.le_refl _) PickC.pick rfl (PV.idxS (j := 0) (v := v) rfl Is29 rfl (SlF.r h1) rfl (by omega) (by omega)) ?_
  refine RH.pv rfl (fun _ _ _ _ h => h) (Gh.le_refl _) PickC.pick rfl (PV.loadE1 rfl Sc56 rfl rfl (El.r h1 (getG (by omega))) rfl) ?_
  refine RH.pv rfl (fun _ _ _ _ h => h) (Gh.le_refl _) PickC.pick rfl (PV.move (v := v) rfl rfl) ?_
  refine RH.pv rfl (fun _ _ _ _ h => h) (Gh.le_refl _) PickC.pick rfl (PV.idxS (j := 1) (v := v) rfl Is29 rfl (SlF.r h1) rfl (by omega) (by omega)) ?_
  refine RH.pv rfl (fun _ _ _ _ h => h) (Gh.le_refl _) PickC.pick rfl (PV.loadE1 rfl Sc56 rfl rfl (El.r h1 (getG (by omega))) rfl) ?_
  refine RH.ot rfl rfl (OT.callF (vs := [_]) rfl En86 rfl (l03Bits_s (Rs.up (hd _ (by omega))) (fun i hi => valid_get (isReg_valid (hreg _ (by omega))) hi) (fun v6 => ⟨Gh.le_refl _, PickC.pick, ?_⟩)))
  refine RH.ot rfl rfl (OT.callF (vs := [_]) rfl En86 rfl (l03Bits_s (Rs.up (hd _ (by omega))) (fun i hi => valid_get (isReg_valid (hreg _ (by omega))) hi) (fun v10 => ⟨Gh.le_refl _, PickC.pick, ?_⟩)))
  refine RH.ot rfl rfl (OT.callF (vs := [v6, v10]) rfl En211 rfl (l24Meet_s Rs.o Rs.o (bits_length _) (bits_length _) (fun v11 => ⟨Gh.le_refl _, PickC.pick, ?_⟩)))
  refine RH.pv rfl (fun _ _ _ _ h => h) (Gh.le_refl _) PickC.pick rfl (PV.asg (v := v11) rfl rfl) ?_
  refine RH.nil ?_
  refine WP.ret ?_
  exact ⟨_, _, ResV.one rfl rfl, Cv.p, k v11⟩
theorem channelRegion_s {v : Value} {xs : List (Sl Rect)} (h1 : Rs G L slT v xs) (hd : RsE G L rectT xs) (h8 : xs.length = 8) (k : ∀ v', R v' G (osl 61 rectT v' (opR (fun p q => p && q) (gd xs 0).xs (gd xs 1).xs) :: L)) : CallT Tryz.prog 117 #[v] G L R := by
  refine CallT.enter (args := _) Tryz.func117 rfl rfl (by kernel_rfl) rfl ?_
  refine WP.seq ?_
  refine WP.region ?_
  refine RG.pv rfl (PV.asg rfl rfl) ?_
  refine RG.nil ?_
  refine WP.seq ?_
  refine WP.regionH0 (.q 0 (.q 1 (.q 2 (.q 3 (.q 4 (.q 5 (.l 6 (.q 7 Sch.nil)))))))) (by kernel_rfl) (by kernel_rfl) (by kernel_rfl) rfl ?_
  refine RH.pv rfl (fun _ _ _ _ h => h) (Gh.le_refl _) PickC.pick rfl (PV.move (v := v) rfl rfl) ?_
  refine RH.pv rfl (fun _ _ _ _ h => h) (Gh.le_refl _) PickC.pick rfl (PV.idxS (j := 0) (v := v) rfl Is29 rfl (SlF.r h1) rfl (by omega) (by omega)) ?_
  refine RH.pv rfl (fun _ _ _ _ h => h) (Gh.le_refl _) PickC.pick rfl (PV.loadE1 rfl Sc56 rfl rfl (El.r h1 (getG (by omega))) rfl) ?_
  refine RH.pv rfl (fun _ _ _ _ h => h) (Gh.le_refl _) PickC.pick rfl (PV.move (v := v) rfl rfl) ?_
  refine RH.pv rfl (fun _ _ _ _ h => h) (Gh.le_refl _) PickC.pick rfl (PV.idxS (j := 1) (v := v) rfl Is29 rfl (SlF.r h1) rfl (by omega) (by omega)) ?_
  refine RH.pv rfl (fun _ _ _ _ h => h) (Gh.le_refl _) PickC.pick rfl (PV.loadE1 rfl Sc56 rfl rfl (El.r h1 (getG (by omega))) rfl) ?_
  refine RH.ot rfl rfl (OT.callF (vs := [_, _]) rfl En179 rfl (inter_s (Rs.up (hd 0 (by omega))) (Rs.up (hd 1 (by omega))) (fun v9 => ⟨Gh.le_refl _, PickC.pick, ?_⟩)))
  refine RH.pv rfl (fun _ _ _ _ h => h) (Gh.le_refl _) PickC.pick rfl (PV.asg (v := v9) rfl rfl) ?_
  refine RH.nil ?_
  refine WP.ret ?_
  exact ⟨_, _, ResV.one rfl rfl, Cv.p, k v9⟩
end Go.Proofs.YtmomfgfmnpblpaaGreat
namespace Go.Proofs.YtmomfgfmnpblpaaGreat
set_option linter.unusedVariables false
set_option linter.unusedSimpArgs false
open Go
set_option maxRecDepth 20000
set_option linter.unusedSimpArgs false
variable {G : Gh} {L : List Ch} {R : Value → Gh → List Ch → Prop}
def regs (xs : List Piece) : List (Sl Rect) := xs.map Piece.reg
theorem regs_len (xs : List Piece) : (regs xs).length = xs.length := by simp [regs]
theorem regs_gd {xs : List Piece} {i : Nat} (h : i < xs.length) : gd (regs xs) i = (gd xs i).reg := gd_map _ h
theorem RsE.reg {xs : List Piece} (h : RsE G L rectT (regs xs)) {i : Nat} (hi : i < xs.length) : Rs G L rectT (gd xs i).reg.v (gd xs i).reg.xs := by
  have := h i (by rw [regs_len]; exact hi); rwa [regs_gd hi] at this
def erP (p : Piece) : Int × List Rect := (p.layer, p.reg.xs)
def erPs (xs : List Piece) : List (Int × List Rect) := xs.map erP
theorem erPs_len (xs : List Piece) : (erPs xs).length = xs.length := by simp [erPs]
theorem erPs_gd {xs : List Piece} {i : Nat} (h : i < xs.length) : gd (erPs xs) i = erP (gd xs i) := gd_map _ h
theorem erPs_get {xs ys : List Piece} (h : erPs xs = erPs ys) {i : Nat} (hi : i < ys.length) : erP (gd xs i) = erP (gd ys i) := by
  have hl : xs.length = ys.length := by rw [← erPs_len, ← erPs_len, h]
  rw [← erPs_gd (by omega), ← erPs_gd hi, h]
theorem erPs_of {xs ys : List Piece} (hl : xs.length = ys.length) (h : ∀ i, i < ys.length → erP (gd xs i) = erP (gd ys i)) : erPs xs = erPs ys := by
  apply List.ext_getElem?
  intro i
  by_cases hi : i < ys.length
  · rw [getG (by rw [erPs_len]; omega), getG (by rw [erPs_len]; omega), erPs_gd (by omega), erPs_gd hi, h i hi]
  · rw [List.getElem?_eq_none (by rw [erPs_len]; omega), List.getElem?_eq_none (by rw [erPs_len]; omega)]
theorem erPs_regs {xs ys : List Piece} (h : erPs xs = erPs ys) : er (regs xs) = er (regs ys) := by
  have : ∀ zs : List Piece, er (regs zs) = (erPs zs).map Prod.snd := fun zs => by simp [er, regs, erPs, erP, Function.comp_def]
  rw [this, this, h]
def netC (l : List (List Rect)) : Int := bif l.all isReg then costL areaS l else -1
theorem netC_false {l : List (List Rect)} {i : Nat} (h : i < l.length) (e : isReg (gd l i) = false) : netC l = -1 := by
  have : l.all isReg = false := by
    rw [List.all_eq_false]; exact ⟨gd l i, by rw [gd_eq h]; exact List.getElem_mem _, by simp [e]⟩
  simp [netC, this]
theorem netC_all {l : List (List Rect)} (h : ∀ i, i < l.length → isReg (gd l i) = true) : netC l = costL areaS l := by
  have : l.all isReg = true := by
    rw [List.all_eq_true]
    intro x hx
    obtain ⟨j, hj', rfl⟩ := List.getElem_of_mem hx
    rw [← gd_eq hj']; exact h j hj'
  simp [netC, this]
theorem areaS_reg {xs : List Rect} (h : isReg xs = true) : areaS xs = cnt (bits xs) := by
  have := cnt_canon (bits_length xs); rwa [isReg_eq h] at this
theorem area_bnd {l : List (List Rect)} (h : ∀ i, i < l.length → isReg (gd l i) = true) : ∀ i, i ≤ l.length → 0 ≤ costL areaS (l.take i) ∧ costL areaS (l.take i) ≤ 6400 * i
  | 0, _ => by simp [costL]
  | i + 1, hi => by
    have ih := area_bnd h i (by omega)
    have h1 := areaS_reg (h i (by omega))
    have h2 := cnt_le (bits (gd l i))
    rw [bits_length] at h2
    rw [costL_take _ (by omega), h1]; omega
theorem erregs_gd {xs : List Piece} {i : Nat} (h : i < xs.length) : gd (er (regs xs)) i = (gd xs i).reg.xs := by rw [er_gd, regs_gd h]
end Go.Proofs.YtmomfgfmnpblpaaGreat
namespace Go.Proofs.YtmomfgfmnpblpaaGreat
set_option linter.unusedVariables false
set_option linter.unusedSimpArgs false
open Go
set_option maxRecDepth 20000
set_option linter.unusedSimpArgs false
variable {G : Gh} {L : List Ch} {R : Value → Gh → List Ch → Prop}
theorem clone_rects {v : Value} {xs : List (Rect)} (h1 : Rs G L rectT v xs) (hb : xs.length ≤ 1048576) (k : ∀ v', R v' G (osl 61 rectT v' xs :: L)) : CallT Tryz.prog 177 #[v] G L R := by
  refine CallT.st (fun w hs => isNilS_nil h1 hs) fun hn => ?_
  refine CallT.enter (args := _) Tryz.func177 rfl rfl (by kernel_rfl) rfl ?_
  refine WP.seq ?_
  refine WP.region ?_
  refine RG.pv rfl (PV.asg rfl rfl) ?_
  refine RG.nil ?_
  refine WP.seq ?_
  refine WP.seq ?_
  refine WP.region ?_
  refine RG.pv rfl (PV.move (v := v) rfl rfl) ?_
  refine RG.pv rfl (PV.eqlNil rfl Tryz.underlying56 rfl (SlF.r h1)) ?_
  refine RG.nil ?_
  refine WP.cond rfl (fun h2 => ?_) (fun h2 => ?_)
  · have e := hn h2
    rw [e] at k
    refine WP.seq ?_
    refine WP.region ?_
    refine RG.pv rfl (PV.asg rfl rfl) ?_
    refine RG.nil ?_
    refine WP.ret ?_
    exact ⟨_, _, ResV.one rfl rfl, Cv.nilS, k _⟩
  · refine WP.skip ?_
    refine WP.seq ?_
    refine WP.region ?_
    refine RG.ot rfl (OT.bslice (F := rectT) (els := []) rfl El56 rfl (by decide) rfl (by decide) trivial fun v5 => ?_)
    refine RG.pv rfl (PV.move (v := v) rfl rfl) ?_
    refine RG.ot rfl (OT.append (v := v5) (u := v) (F := rectT) rfl El56 rfl (by decide) rfl rfl (Rs.up h1) (OneL.c (fun _ => rfl)) rfl (by first | omega | (simp <;> omega)) fun v7 => ?_)
    refine RG.pv rfl (PV.asg (v := v7) rfl rfl) ?_
    refine RG.nil ?_
    refine WP.ret ?_
    exact ⟨_, _, ResV.one rfl rfl, (Cv.eqS (List.nil_append _)), k v7⟩
def condB (l : List (List Rect)) : List (List Bool) := [zipB (fun p q => p && !q) (bits (gd l 0)) (bits (gd l 1)), bits (gd l 1), bits (gd l 3), bits (gd l 5)]
def condR (l : List (List Rect)) : List (List Rect) := bif isLay l then (condB l).map canon else []
theorem condB_len (l : List (List Rect)) {i : Nat} (h : i < 4) : (gd (condB l) i).length = 6400 := by
  have h0 : ∀ xs, (bits xs).length = 6400 := bits_length
  match i, h with
  | 0, _ => simp [condB, gd, zipB, h0]
  | 1, _ => simp [condB, gd, h0]
  | 2, _ => simp [condB, gd, h0]
  | 3, _ => simp [condB, gd, h0]
theorem condR_eq {l : List (List Rect)} (h : isLay l = true) : condR l = [opR (fun p q => p && !q) (gd l 0) (gd l 1), gd l 1, gd l 3, gd l 5] := by
  simp only [condR, h, cond_true, condB, List.map_cons, List.map_nil, opR, isLay_reg h (show 0 < 8 by omega), isLay_reg h (show 1 < 8 by omega), Bool.and_self, isReg_eq (isLay_reg h (show 1 < 8 by omega)), isReg_eq (isLay_reg h (show 3 < 8 by omega)), isReg_eq (isLay_reg h (show 5 < 8 by omega))]
theorem condR_bd (l : List (List Rect)) : costL (costL nRect) (condR l) ≤ 51200 := by
  unfold condR
  cases isLay l
  · simp [costL]
  · have h := fun bs => canon_len bs
    simp only [cond_true, condB, List.map_cons, List.map_nil, costL, nRect_cost]
    have h1 := h (zipB (fun p q => p && !q) (bits (gd l 0)) (bits (gd l 1)))
    have h2 := h (bits (gd l 1)); have h3 := h (bits (gd l 3)); have h4 := h (bits (gd l 5))
    omega
theorem nRS_er (xs : List (Sl Rect)) : costL nRS xs = costL (costL nRect) (er xs) := by
  induction xs with
  | nil => rfl
  | cons z zs ih => simp only [er, List.map_cons, costL] at ih ⊢; rw [ih]; rfl
theorem l23Conductors_s {v : Value} {xs : List (Sl Rect)} (h1 : Rs G L slT v xs) (hd : RsE G L rectT xs) (h8 : xs.length = 8) (hreg : ∀ i, i < 8 → isReg (gd xs i).xs = true) (k : ∀ v' zs, er zs = condB (er xs) → R v' G (osl 124 slT v' zs :: bagS 4 boolT zs :: L)) : CallT Tryz.prog 83 #[v] G L R := by
  refine CallT.enter (args := _) Tryz.func83 rfl rfl (by kernel_rfl) rfl ?_
  refine WP.seq ?_
  refine WP.region ?_
  refine RG.pv rfl (PV.asg rfl rfl) ?_
  refine RG.nil ?_
  refine WP.seq ?_
  refine WP.region ?_
  refine RG.pv rfl (PV.move (v := v) rfl rfl) ?_
  refine RG.pv rfl (PV.idxS (j := 1) (v := v) rfl Is29 rfl (SlF.r h1) rfl (by omega) (by omega)) ?_
  refine RG.pv rfl (PV.loadE1 rfl Sc56 rfl rfl (El.r h1 (getG (by omega))) rfl) ?_
  refine RG.callF (vs := [_]) rfl rfl En86 rfl (l03Bits_s (Rs.up (hd _ (by omega))) (fun i hi => valid_get (isReg_valid (hreg _ (by omega))) hi) (fun v7 => ?_))
  refine RG.pv rfl (PV.asg (v := v7) rfl rfl) ?_
  refine RG.nil ?_
  refine WP.seq ?_
  refine WP.regionH0 (.q 0 (.q 1 (.q 2 (.q 4 (.q 6 (.q 7 (.q 8 (.q 9 (.q 11 (.q 12 (.q 13 (.l 3 (.l 5 (.l 10 (.l 14 (.l 15 (.q 16 Sch.nil))))))))))))))))) (by kernel_rfl) (by kernel_rfl) (by kernel_rfl) rfl ?_
  refine RH.pv rfl (fun _ _ _ _ h => h) (Gh.le_refl _) PickC.pick rfl (PV.move (v := v) rfl rfl) ?_
  refine RH.pv rfl (fun _ _ _ _ h => h) (Gh.le_refl _) PickC.pick rfl (PV.idxS (j := 0) (v := v) rfl Is29 rfl (SlF.r h1) rfl (by omega) (by omega)) ?_
  refine RH.pv rfl (fun _ _ _ _ h => h) (Gh.le_refl _) PickC.pick rfl (PV.loadE1 rfl Sc56 rfl rfl (El.r h1 (getG (by omega))) rfl) ?_
  refine RH.pv rfl (fun _ _ _ _ h => h) (Gh.le_refl _) PickC.pick rfl (PV.move (v := v7) rfl rfl) ?_
  refine RH.pv rfl (fun _ _ _ _ h => h) (Gh.le_refl _) PickC.pick rfl (PV.move (v := v7) rfl rfl) ?_
  refine RH.pv rfl (fun _ _ _ _ h => h) (Gh.le_refl _) PickC.pick rfl (PV.move (v := v) rfl rfl) ?_
  refine RH.pv rfl (fun _ _ _ _ h => h) (Gh.le_refl _) PickC.pick rfl (PV.idxS (j := 3) (v := v) rfl Is29 rfl (SlF.r h1) rfl (by omega) (by omega)) ?_
  refine RH.pv rfl (fun _ _ _ _ h => h) (Gh.le_refl _) PickC.pick rfl (PV.loadE1 rfl Sc56 rfl rfl (El.r h1 (getG (by omega))) rfl) ?_
  refine RH.pv rfl (fun _ _ _ _ h => h) (Gh.le_refl _) PickC.pick rfl (PV.move (v := v) rfl rfl) ?_
  refine RH.pv rfl (fun _ _ _ _ h => h) (Gh.le_refl _) PickC.pick rfl (PV.idxS (j := 5) (v := v) rfl Is29 rfl (SlF.r h1) rfl (by omega) (by omega)) ?_
  refine RH.pv rfl (fun _ _ _ _ h => h) (Gh.le_refl _) PickC.pick rfl (PV.loadE1 rfl Sc56 rfl rfl (El.r h1 (getG (by omega))) rfl) ?_
  refine RH.ot rfl rfl (OT.callF (vs := [_]) rfl En86 rfl (l03Bits_s (Rs.up (hd _ (by omega))) (fun i hi => valid_get (isReg_valid (hreg _ (by omega))) hi) (fun v11 => ⟨Gh.le_refl _, PickC.pick, ?_⟩)))
  refine RH.ot rfl rfl (OT.callF (vs := [v11, v7]) rfl En132 rfl (l23Minus_s Rs.o Rs.o (bits_length _) (bits_length _) (fun v13 => ⟨Gh.le_refl _, PickC.pick, ?_⟩)))
  refine RH.ot rfl rfl (OT.callF (vs := [_]) rfl En86 rfl (l03Bits_s (Rs.up (hd _ (by omega))) (fun i hi => valid_get (isReg_valid (hreg _ (by omega))) hi) (fun v18 => ⟨Gh.le_refl _, PickC.pick, ?_⟩)))
  refine RH.ot rfl rfl (OT.callF (vs := [_]) rfl En86 rfl (l03Bits_s (Rs.up (hd _ (by omega))) (fun i hi => valid_get (isReg_valid (hreg _ (by omega))) hi) (fun v22 => ⟨Gh.le_refl _, PickC.pick, ?_⟩)))
  refine RH.ot rfl rfl (OT.bslice (F := (slT (α := Bool))) (els := [⟨v13, zipB (fun p q => p && !q) (bits (gd xs 0).xs) (bits (gd xs 1).xs)⟩, ⟨v7, bits (gd xs 1).xs⟩, ⟨v18, bits (gd xs 3).xs⟩, ⟨v22, bits (gd xs 5).xs⟩]) rfl El121 rfl (by decide) rfl (by decide) ⟨rfl, (Cl.s (v := v13) SlF.o), ⟨rfl, (Cl.s (v := v7) SlF.o), ⟨rfl, (Cl.s (v := v18) SlF.o), ⟨rfl, (Cl.s (v := v22) SlF.o), trivial⟩⟩⟩⟩ fun v23 => ⟨Gh.le_refl _, PickC.pick, ?_⟩)
  refine RH.pv rfl (fun _ _ _ _ h => h) (Gh.le_refl _) PickC.pick rfl (PV.asg (v := v23) rfl rfl) ?_
  refine RH.nil ?_
  refine WP.ret ?_
  have e : er [(⟨v13, zipB (fun p q => p && !q) (bits (gd xs 0).xs) (bits (gd xs 1).xs)⟩ : Sl Bool), ⟨v7, bits (gd xs 1).xs⟩, ⟨v18, bits (gd xs 3).xs⟩, ⟨v22, bits (gd xs 5).xs⟩] = condB (er xs) := by
    simp [er, condB, ← er_gd]
  exact ⟨_, _, ResV.one rfl rfl, (Cv.p (C := osl 124 slT v23 [(⟨v13, zipB (fun p q => p && !q) (bits (gd xs 0).xs) (bits (gd xs 1).xs)⟩ : Sl Bool), ⟨v7, bits (gd xs 1).xs⟩, ⟨v18, bits (gd xs 3).xs⟩, ⟨v22, bits (gd xs 5).xs⟩] :: osl 4 boolT v13 (zipB (fun p q => p && !q) (bits (gd xs 0).xs) (bits (gd xs 1).xs)) :: osl 4 boolT v7 (bits (gd xs 1).xs) :: osl 4 boolT v18 (bits (gd xs 3).xs) :: osl 4 boolT v22 (bits (gd xs 5).xs) :: L)).trans (Cv.cons (Cv.toBag (B := [osl 4 boolT v13 (zipB (fun p q => p && !q) (bits (gd xs 0).xs) (bits (gd xs 1).xs)), osl 4 boolT v7 (bits (gd xs 1).xs), osl 4 boolT v18 (bits (gd xs 3).xs), osl 4 boolT v22 (bits (gd xs 5).xs)]))), k v23 _ e⟩
theorem conductors_s {v : Value} {xs : List (Sl Rect)} (h1 : Rs G L slT v xs) (hd : RsE G L rectT xs) (h8 : xs.length = 8) (hbi : ∀ i, i < 8 → (gd xs i).xs.length ≤ 1048576) (k : ∀ v' ys, er ys = [opR (fun p q => p && !q) (gd xs 0).xs (gd xs 1).xs, (gd xs 1).xs, (gd xs 3).xs, (gd xs 5).xs] → R v' G (osl 56 slT v' ys :: bagS 61 rectT ys :: L)) : CallT Tryz.prog 115 #[v] G L R := by
  refine CallT.enter (args := _) Tryz.func115 rfl rfl (by kernel_rfl) rfl ?_
  refine WP.seq ?_
  refine WP.region ?_
  refine RG.pv rfl (PV.asg rfl rfl) ?_
  refine RG.nil ?_
  refine WP.seq ?_
  refine WP.regionH0 (.q 0 (.q 1 (.q 2 (.q 3 (.q 4 (.q 5 (.q 7 (.q 8 (.q 9 (.q 11 (.q 12 (.q 13 (.q 15 (.q 16 (.q 17 (.l 6 (.l 10 (.l 14 (.l 18 (.l 19 (.q 20 Sch.nil))))))))))))))))))))) (by kernel_rfl) (by kernel_rfl) (by kernel_rfl) rfl ?_
  refine RH.pv rfl (fun _ _ _ _ h => h) (Gh.le_refl _) PickC.pick rfl (PV.move (v := v) rfl rfl) ?_
  refine RH.pv rfl (fun _ _ _ _ h => h) (Gh.le_refl _) PickC.pick rfl (PV.idxS (j := 0) (v := v) rfl Is29 rfl (SlF.r h1) rfl (by omega) (by omega)) ?_
  refine RH.pv rfl (fun _ _ _ _ h => h) (Gh.le_refl _) PickC.pick rfl (PV.loadE1 rfl Sc56 rfl rfl (El.r h1 (getG (by omega))) rfl) ?_
  refine RH.pv rfl (fun _ _ _ _ h => h) (Gh.le_refl _) PickC.pick rfl (PV.move (v := v) rfl rfl) ?_
  refine RH.pv rfl (fun _ _ _ _ h => h) (Gh.le_refl _) PickC.pick rfl (PV.idxS (j := 1) (v := v) rfl Is29 rfl (SlF.r h1) rfl (by omega) (by omega)) ?_
  refine RH.pv rfl (fun _ _ _ _ h => h) (Gh.le_refl _) PickC.pick rfl (PV.loadE1 rfl Sc56 rfl rfl (El.r h1 (getG (by omega))) rfl) ?_
  refine RH.pv rfl (fun _ _ _ _ h => h) (Gh.le_refl _) PickC.pick rfl (PV.move (v := v) rfl rfl) ?_
  refine RH.pv rfl (fun _ _ _ _ h => h) (Gh.le_refl _) PickC.pick rfl (PV.idxS (j := 1) (v := v) rfl Is29 rfl (SlF.r h1) rfl (by omega) (by omega)) ?_
  refine RH.pv rfl (fun _ _ _ _ h => h) (Gh.le_refl _) PickC.pick rfl (PV.loadE1 rfl Sc56 rfl rfl (El.r h1 (getG (by omega))) rfl) ?_
  refine RH.pv rfl (fun _ _ _ _ h => h) (Gh.le_refl _) PickC.pick rfl (PV.move (v := v) rfl rfl) ?_
  refine RH.pv rfl (fun _ _ _ _ h => h) (Gh.le_refl _) PickC.pick rfl (PV.idxS (j := 3) (v := v) rfl Is29 rfl (SlF.r h1) rfl (by omega) (by omega)) ?_
  refine RH.pv rfl (fun _ _ _ _ h => h) (Gh.le_refl _) PickC.pick rfl (PV.loadE1 rfl Sc56 rfl rfl (El.r h1 (getG (by omega))) rfl) ?_
  refine RH.pv rfl (fun _ _ _ _ h => h) (Gh.le_refl _) PickC.pick rfl (PV.move (v := v) rfl rfl) ?_
  refine RH.pv rfl (fun _ _ _ _ h => h) (Gh.le_refl _) PickC.pick rfl (PV.idxS (j := 5) (v := v) rfl Is29 rfl (SlF.r h1) rfl (by omega) (by omega)) ?_
  refine RH.pv rfl (fun _ _ _ _ h => h) (Gh.le_refl _) PickC.pick rfl (PV.loadE1 rfl Sc56 rfl rfl (El.r h1 (getG (by omega))) rfl) ?_
  refine RH.ot rfl rfl (OT.callF (vs := [_, _]) rfl En176 rfl (diff_s (Rs.up (hd 0 (by omega))) (Rs.up (hd 1 (by omega))) (fun v9 => ⟨Gh.le_refl _, PickC.pick, ?_⟩)))
  refine RH.ot rfl rfl (OT.callF (vs := [_]) rfl En177 rfl (clone_rects (Rs.up (hd _ (by omega))) (hbi _ (by omega)) (fun v13 => ⟨Gh.le_refl _, PickC.pick, ?_⟩)))
  refine RH.ot rfl rfl (OT.callF (vs := [_]) rfl En177 rfl (clone_rects (Rs.up (hd _ (by omega))) (hbi _ (by omega)) (fun v17 => ⟨Gh.le_refl _, PickC.pick, ?_⟩)))
  refine RH.ot rfl rfl (OT.callF (vs := [_]) rfl En177 rfl (clone_rects (Rs.up (hd _ (by omega))) (hbi _ (by omega)) (fun v21 => ⟨Gh.le_refl _, PickC.pick, ?_⟩)))
  refine RH.ot rfl rfl (OT.bslice (F := (slT (α := Rect))) (els := [⟨v9, opR (fun p q => p && !q) (gd xs 0).xs (gd xs 1).xs⟩, ⟨v13, (gd xs 1).xs⟩, ⟨v17, (gd xs 3).xs⟩, ⟨v21, (gd xs 5).xs⟩]) rfl El29 rfl (by decide) rfl (by decide) ⟨rfl, (Cl.s (v := v9) SlF.o), ⟨rfl, (Cl.s (v := v13) SlF.o), ⟨rfl, (Cl.s (v := v17) SlF.o), ⟨rfl, (Cl.s (v := v21) SlF.o), trivial⟩⟩⟩⟩ fun v22 => ⟨Gh.le_refl _, PickC.pick, ?_⟩)
  refine RH.pv rfl (fun _ _ _ _ h => h) (Gh.le_refl _) PickC.pick rfl (PV.asg (v := v22) rfl rfl) ?_
  refine RH.nil ?_
  refine WP.ret ?_
  exact ⟨_, _, ResV.one rfl rfl, (Cv.p (C := osl 56 slT v22 [(⟨v9, opR (fun p q => p && !q) (gd xs 0).xs (gd xs 1).xs⟩ : Sl Rect), ⟨v13, (gd xs 1).xs⟩, ⟨v17, (gd xs 3).xs⟩, ⟨v21, (gd xs 5).xs⟩] :: osl 61 rectT v9 (opR (fun p q => p && !q) (gd xs 0).xs (gd xs 1).xs) :: osl 61 rectT v13 (gd xs 1).xs :: osl 61 rectT v17 (gd xs 3).xs :: osl 61 rectT v21 (gd xs 5).xs :: L)).trans (Cv.cons (Cv.toBag (B := [osl 61 rectT v9 (opR (fun p q => p && !q) (gd xs 0).xs (gd xs 1).xs), osl 61 rectT v13 (gd xs 1).xs, osl 61 rectT v17 (gd xs 3).xs, osl 61 rectT v21 (gd xs 5).xs]))), k v22 [⟨v9, opR (fun p q => p && !q) (gd xs 0).xs (gd xs 1).xs⟩, ⟨v13, (gd xs 1).xs⟩, ⟨v17, (gd xs 3).xs⟩, ⟨v21, (gd xs 5).xs⟩] rfl⟩
end Go.Proofs.YtmomfgfmnpblpaaGreat
namespace Go.Proofs.YtmomfgfmnpblpaaGreat
set_option linter.unusedVariables false
set_option linter.unusedSimpArgs false
open Go
set_option maxRecDepth 20000
set_option linter.unusedSimpArgs false
variable {G : Gh} {L : List Ch} {R : Value → Gh → List Ch → Prop}
/-- the pieces of the first n conductors: each with its layer -/
noncomputable def pcL (l : List (List Rect)) (n : Nat) : List (Int × List Bool) := ((List.range n).map fun i => (comps (gd (condB l) i)).map fun c => (gd [0, 1, 3, 5] i, c)).flatten
theorem pcL_succ (l : List (List Rect)) (n : Nat) : pcL l (n + 1) = pcL l n ++ (comps (gd (condB l) n)).map fun c => (gd [0, 1, 3, 5] n, c) := by
  simp [pcL, List.range_succ]
theorem comps_len (S : List Bool) : (comps S).length ≤ 6400 := by
  have := firsts_len S 6400
  simpa [comps] using this
theorem pcL_len (l : List (List Rect)) : ∀ n, (pcL l n).length ≤ 6400 * n
  | 0 => by simp [pcL]
  | n + 1 => by
    have h1 := pcL_len l n
    have h2 := comps_len (gd (condB l) n)
    rw [pcL_succ, List.length_append, List.length_map]; omega
def pcR (p : Int × List Bool) : Int × List Rect := (p.1, canon p.2)
theorem regs_append (xs ys : List Piece) : regs (xs ++ ys) = regs xs ++ regs ys := by simp [regs]
theorem drop_gd {α : Type} [Inhabited α] {xs : List α} {i : Nat} (h : i < xs.length) : xs.drop i = gd xs i :: xs.drop (i + 1) := by rw [List.drop_eq_getElem_cons h, gd_eq h]
theorem gd_app_at {α : Type} [Inhabited α] {xs ys : List α} {i : Nat} : gd (xs ++ ys) (xs.length + i) = gd ys i := by simp [gd, List.getElem?_append_right]
/-- a list whose parts lie at the end of a bag -/
theorem RsE.right {α : Type} {G : Gh} {L L' : List Ch} {e : TypeId} {F : FT α} {ws xs : List (Sl α)} [hX : ExBg (ws ++ xs) L e F L'] : RsE G L F xs := fun i hi => by
  have := Rs.inBag (G := G) (L := L) (L' := L') (e := e) (F := F) (xs := ws ++ xs) (ws.length + i) (by simp; omega)
  rwa [gd_app_at] at this
theorem Rs.inRight {α : Type} {G : Gh} {L L' : List Ch} {e : TypeId} {F : FT α} {ws xs : List (Sl α)} (j : Nat) (hj : j < xs.length) [hX : ExBg (ws ++ xs) L e F L'] : Rs G L F (gd xs j).v (gd xs j).xs := RsE.right (L := L) (L' := L') (e := e) (ws := ws) j hj
theorem WP.sl {α : Type} {P : Program} {n : Nat} {c : Code} {Q : Post} {σ : Nat → Value} {G : Gh} {L : List Ch} {F : FT α} {v : Value} {xs : List α} (h : Rs G L F v xs) (k : IsSl v xs.length → WP P n c Q σ G L) : WP P n c Q σ G L := WP.of fun hk _ _ ha hs => (k (h _ hs).1).run hk ha hs
theorem SlF.i {G : Gh} {L : List Ch} {v : Value} {m : Nat} (h : IsSl v m) : SlF G L v m := fun _ _ => h
theorem Cv.pre {L L' : List Ch} (h : Cv L L') : ∀ A : List Ch, Cv (A ++ L) (A ++ L')
  | [] => h
  | _ :: A => Cv.cons (Cv.pre h A)
theorem Cv.bagJoin {α : Type} {e : TypeId} {F : FT α} {xs ys : List (Sl α)} {L : List Ch} : Cv (bagS e F xs :: bagS e F ys :: L) (bagS e F (xs ++ ys) :: L) := by
  unfold bagS
  refine Cv.ofBag.trans ((Cv.pre Cv.ofBag _).trans ?_)
  rw [← List.append_assoc, ← List.map_append]
  exact Cv.toBag
def mkP (n : Int) (s : Sl Rect) : Piece := ⟨n, s⟩
theorem regs_mkP (n : Int) (zs : List (Sl Rect)) : regs (zs.map (mkP n)) = zs := by simp [regs, mkP, Function.comp_def]
theorem pieces_s {v : Value} {xs : List (Sl Rect)} (h1 : Rs G L slT v xs) (hd : RsE G L rectT xs) (hlay : isLay (er xs) = true) (k : ∀ v' ps, erPs ps = (pcL (er xs) 4).map pcR → R v' G (osl 143 pieceT v' ps :: bagS 61 rectT (regs ps) :: L)) : CallT Tryz.prog 144 #[v] G L R := by
  have h8 : xs.length = 8 := by have := isLay_len hlay; rwa [er_len] at this
  have hreg : ∀ i, i < 8 → isReg (gd xs i).xs = true := fun i hi => by rw [← er_gd]; exact isLay_reg hlay hi
  refine CallT.enter (args := _) Tryz.func144 rfl rfl (by kernel_rfl) rfl ?_
  refine WP.seq ?_
  refine WP.region ?_
  refine RG.pv rfl (PV.asg rfl rfl) ?_
  refine RG.nil ?_
  refine WP.seq ?_
  refine WP.region ?_
  refine RG.ot rfl (OT.bslice (F := pieceT) (els := []) rfl El138 rfl (by decide) rfl (by decide) trivial fun v9 => ?_)
  refine RG.ot rfl (OT.bslice (F := intT) (els := [_, _, _, _]) rfl El26 rfl (by decide) rfl (by decide) ⟨rfl, (Cl.c rfl), ⟨rfl, (Cl.c rfl), ⟨rfl, (Cl.c rfl), ⟨rfl, (Cl.c rfl), trivial⟩⟩⟩⟩ fun v10 => ?_)
  refine RG.pv rfl (PV.asg (v := v9) rfl rfl) ?_
  refine RG.pv rfl (PV.asg (v := v10) rfl rfl) ?_
  refine RG.nil ?_
  refine WP.seq ?_
  refine WP.seq ?_
  refine WP.region ?_
  refine RG.pv rfl (PV.move (v := v) rfl rfl) ?_
  refine RG.callF (vs := [v]) rfl rfl En115 rfl (conductors_s (Rs.up h1) hd.up h8 (fun i hi => by have := isReg_len (hreg i hi); omega) (fun v12 ysv12 hev12 => ?_))
  refine RG.pv rfl (PV.len (v := v12) rfl Tryz.underlying29 rfl SlF.o) ?_
  refine RG.pv rfl (PV.mvI (.inl rfl) rfl) ?_
  refine RG.nil ?_
  refine WP.block ?_
  have hcy : er ysv12 = (condB (er xs)).map canon := by
    rw [hev12, ← er_gd, ← er_gd, ← er_gd, ← er_gd, ← condR_eq hlay, condR, hlay]; rfl
  have hy4 : ysv12.length = 4 := by have := congrArg List.length hcy; rw [er_len] at this; exact this
  refine WP.cv ((Cv.p (C := osl 143 pieceT v9 ([] : List Piece) :: osl 2 intT v10 [0, 1, 3, 5] :: osl 56 slT v12 ysv12 :: bagS 61 rectT ysv12 :: L)).trans (Cv.cons (Cv.bag0 (e := 61) (F := rectT) (xs := regs []) rfl))) ?_
  refine WP.loop3 [4, 12, 13] (fun (i : Nat) (ps : List Piece) (q : Value) => i ≤ 4 ∧ erPs ps = (pcL (er xs) i).map pcR) (fun (i : Nat) (ps : List Piece) (q : Value) => [(14, vi i), (3, q)]) (fun (i : Nat) (ps : List Piece) (q : Value) => osl 143 pieceT q ps :: bagS 61 rectT (regs ps) :: osl 2 intT v10 [0, 1, 3, 5] :: osl 56 slT v12 ysv12 :: bagS 61 rectT ysv12 :: L) (fun (i : Nat) (ps : List Piece) (q : Value) => 4 - i) 0 [] v9 ⟨by omega, rfl⟩ ⟨rfl, rfl, trivial⟩ Cv.p ?_
  rintro i ps q τ ⟨hi, hps⟩
  refine WP.seq ?_
  refine WP.region ?_
  refine RG.pv rfl (PV.lss rfl rfl rfl) ?_
  refine RG.nil ?_
  refine WP.seq ?_
  have hpl : ps.length ≤ 6400 * 4 := by
    have := congrArg List.length hps
    have h2 := pcL_len (er xs) i
    rw [erPs_len, List.length_map] at this; omega
  refine WP.cond rfl (fun h2 => ?_) (fun h2 => ?_)
  · have h2 := of_decide_eq_true h2
    have hi4 : i < 4 := by omega
    refine WP.skip ?_
    refine WP.seq ?_
    refine WP.block ?_
    refine WP.seq ?_
    refine WP.region ?_
    refine RG.pv rfl (PV.mvI (.inl rfl) rfl) ?_
    refine RG.pv rfl (PV.idxS (v := v12) rfl Is29 rfl SlF.o rfl rfl (by omega)) ?_
    refine RG.pv rfl (PV.loadE1 rfl Sc56 rfl rfl (El.o (getG (by omega))) rfl) ?_
    refine RG.pv rfl (PV.mvI (.inr rfl) rfl) ?_
    refine RG.pv rfl (PV.asg rfl rfl) ?_
    refine RG.nil ?_
    refine WP.seq ?_
    refine WP.region ?_
    refine RG.pv rfl (PV.move rfl rfl) ?_
    refine RG.callF (vs := [_]) rfl rfl En116 rfl (components_s (Rs.inBag (xs := ysv12) i (by omega)) (fun v20 zs hz => ?_))
    refine RG.pv rfl (PV.len (v := v20) rfl Tryz.underlying29 rfl SlF.o) ?_
    refine RG.pv rfl (PV.mvI (.inl rfl) rfl) ?_
    refine RG.nil ?_
    refine WP.block ?_
    have hzl := parts_len hz
    have hcz : er zs = (comps (gd (condB (er xs)) i)).map canon := by
      rw [hz, ← er_gd, hcy, gd_map _ (by simp [condB]; omega), bits_canon (condB_len _ hi4)]; rfl
    refine WP.cv ((Cv.p (C := bagS 61 rectT (regs ps) :: bagS 61 rectT zs :: osl 143 pieceT q ps :: osl 56 slT v20 zs :: osl 2 intT v10 [0, 1, 3, 5] :: osl 56 slT v12 ysv12 :: bagS 61 rectT ysv12 :: L)).trans (Cv.bagJoin.trans ((Cv.p (C := osl 143 pieceT q ps :: bagS 61 rectT (regs ps ++ zs) :: osl 56 slT v20 zs :: osl 2 intT v10 [0, 1, 3, 5] :: osl 56 slT v12 ysv12 :: bagS 61 rectT ysv12 :: L)).trans (Cv.cast (L' := osl 143 pieceT q (ps ++ (zs.take 0).map (mkP (gd [0, 1, 3, 5] i))) :: bagS 61 rectT (regs ps ++ zs) :: osl 56 slT v20 zs :: osl 2 intT v10 [0, 1, 3, 5] :: osl 56 slT v12 ysv12 :: bagS 61 rectT ysv12 :: L) (by simp))))) ?_
    refine WP.loop2 [4, 5, 12, 13, 14, 20, 21] (fun (j : Nat) (q1 : Value) => j ≤ zs.length) (fun (j : Nat) (q1 : Value) => [(22, vi j), (3, q1)]) (fun (j : Nat) (q1 : Value) => osl 143 pieceT q1 (ps ++ (zs.take j).map (mkP (gd [0, 1, 3, 5] i))) :: bagS 61 rectT (regs ps ++ zs) :: osl 56 slT v20 zs :: osl 2 intT v10 [0, 1, 3, 5] :: osl 56 slT v12 ysv12 :: bagS 61 rectT ysv12 :: L) (fun (j : Nat) (q1 : Value) => zs.length - j) 0 q (by omega) ⟨rfl, rfl, trivial⟩ Cv.p ?_
    rintro j q1 τ1 hj
    refine WP.seq ?_
    refine WP.region ?_
    refine RG.pv rfl (PV.lss rfl rfl rfl) ?_
    refine RG.nil ?_
    refine WP.seq ?_
    have hlt : (ps ++ (zs.take j).map (mkP (gd [0, 1, 3, 5] i))).length = ps.length + j := by simp; omega
    refine WP.cond rfl (fun h3 => ?_) (fun h3 => ?_)
    · have h3 := of_decide_eq_true h3
      have hn4 : ([0, 1, 3, 5] : List Int).length = 4 := rfl
      refine WP.sl (Rs.inRight (ws := regs ps) (xs := zs) j (by omega)) fun hI => ?_
      refine WP.skip ?_
      refine WP.seq ?_
      refine WP.block ?_
      refine WP.seq ?_
      refine WP.region ?_
      refine RG.pv rfl (PV.idxS (v := v20) rfl Is29 rfl SlF.o rfl rfl (by omega)) ?_
      refine RG.pv rfl (PV.loadE1 rfl Sc56 rfl rfl (El.o (getG (by omega))) rfl) ?_
      refine RG.pv rfl (PV.asg rfl rfl) ?_
      refine RG.nil ?_
      refine WP.region ?_
      refine RG.pv rfl (PV.move (v := q1) rfl rfl) ?_
      refine RG.pv rfl (PV.move (v := v10) rfl rfl) ?_
      refine RG.pv rfl (PV.mvI (.inl rfl) rfl) ?_
      refine RG.pv rfl (PV.idxS (v := v10) rfl Is26 rfl SlF.o rfl rfl (by omega)) ?_
      refine RG.pv rfl (PV.loadE1 rfl Sc2 rfl rfl (El.o (getG (by omega))) rfl) ?_
      refine RG.pv rfl (PV.move rfl rfl) ?_
      refine RG.pv rfl (PV.build (vs := [(0, [vi _]), (1, [_])]) (out := [_, _]) rfl Zr143 Pl143 ⟨rfl, (Cl.c rfl), ⟨rfl, (Cl.s (SlF.i hI)), trivial⟩⟩ rfl) ?_
      refine RG.ot rfl (OT.bslice (F := pieceT) (els := [⟨gd [0, 1, 3, 5] i, gd zs j⟩]) rfl El138 rfl (by decide) rfl (by decide) ⟨rfl, (Cl.c rfl), trivial⟩ fun v33 => ?_)
      refine RG.ot rfl (OT.append (v := q1) (u := v33) (F := pieceT) rfl El138 rfl (by decide) rfl rfl Rs.o (OneL.one (OneC.val rfl (OneC.sl (SlF.i hI) OneC.nil))) rfl (by first | omega | (simp <;> omega)) fun v34 => ?_)
      refine RG.pv rfl (PV.asg (v := v34) rfl rfl) ?_
      refine RG.nil ?_
      refine WP.region ?_
      refine RG.pv rfl (PV.add rfl rfl rfl (by omega)) ?_
      refine RG.pv rfl (PV.mvI (.inl rfl) rfl) ?_
      refine RG.nil ?_
      exact ⟨rfl, j + 1, v34, (by omega), ⟨rfl, rfl, trivial⟩, ⟨rfl, rfl, rfl, rfl, rfl, rfl, rfl, trivial⟩, (Cv.p (C := osl 143 pieceT v34 (ps ++ (zs.take j).map (mkP (gd [0, 1, 3, 5] i)) ++ [⟨gd [0, 1, 3, 5] i, gd zs j⟩]) :: bagS 61 rectT (regs ps ++ zs) :: osl 56 slT v20 zs :: osl 2 intT v10 [0, 1, 3, 5] :: osl 56 slT v12 ysv12 :: bagS 61 rectT ysv12 :: L)).trans (Cv.cast (by rw [List.take_add_one, getG (by omega), List.map_append, List.append_assoc]; rfl)), by omega⟩
    · have h3 := of_decide_eq_false h3
      obtain rfl : j = zs.length := by omega
      refine WP.exit ?_
      refine WP.region ?_
      refine RG.pv rfl (PV.add rfl rfl rfl (by omega)) ?_
      refine RG.pv rfl (PV.mvI (.inl rfl) rfl) ?_
      refine RG.nil ?_
      refine ⟨rfl, i + 1, (ps ++ zs.map (mkP (gd [0, 1, 3, 5] i))), q1, ⟨by omega, ?_⟩, ⟨rfl, rfl, trivial⟩, ⟨rfl, rfl, rfl, trivial⟩, (Cv.p (C := osl 143 pieceT q1 (ps ++ (zs.take zs.length).map (mkP (gd [0, 1, 3, 5] i))) :: bagS 61 rectT (regs ps ++ zs) :: osl 2 intT v10 [0, 1, 3, 5] :: osl 56 slT v12 ysv12 :: bagS 61 rectT ysv12 :: L)).trans (Cv.cast (by rw [List.take_length, regs_append, regs_mkP])), by omega⟩
      rw [pcL_succ, List.map_append, ← hps, erPs, List.map_append]
      congr 1
      have e : ∀ zs : List (Sl Rect), (zs.map (mkP (gd [0, 1, 3, 5] i))).map erP = (er zs).map fun r => (gd [0, 1, 3, 5] i, r) := fun zs => by simp [er, erP, mkP, Function.comp_def]
      rw [e, hcz, List.map_map, List.map_map]; rfl
  · have h2 := of_decide_eq_false h2
    obtain rfl : i = 4 := by omega
    refine WP.exit ?_
    refine WP.seq ?_
    refine WP.region ?_
    refine RG.pv rfl (PV.move (v := q) rfl rfl) ?_
    refine RG.pv rfl (PV.asg (v := q) rfl rfl) ?_
    refine RG.nil ?_
    refine WP.ret ?_
    exact ⟨_, _, ResV.one rfl rfl, Cv.p, k q ps hps⟩
def cels (xs : List Part) : List (Sl Bool) := xs.map Part.cells
theorem cels_append (xs ys : List Part) : cels (xs ++ ys) = cels xs ++ cels ys := by simp [cels]
def erC (p : Part) : Int × List Bool := (p.layer, p.cells.xs)
def mkC (n : Int) (s : Sl Bool) : Part := ⟨n, s⟩
theorem cels_mkC (n : Int) (zs : List (Sl Bool)) : cels (zs.map (mkC n)) = zs := by simp [cels, mkC, Function.comp_def]
theorem l23Layers_s (k : ∀ v, R v G (osl 2 intT v [0, 1, 3, 5] :: L)) : CallT Tryz.prog 85 #[] G L R := by
  refine CallT.enter (args := _) Tryz.func85 rfl rfl (by kernel_rfl) rfl ?_
  refine WP.seq ?_
  refine WP.region ?_
  refine RG.pv rfl (PV.asg rfl rfl) ?_
  refine RG.nil ?_
  refine WP.seq ?_
  refine WP.region ?_
  refine RG.ot rfl (OT.bslice (F := intT) (els := [_, _, _, _]) rfl El26 rfl (by decide) rfl (by decide) ⟨rfl, (Cl.c rfl), ⟨rfl, (Cl.c rfl), ⟨rfl, (Cl.c rfl), ⟨rfl, (Cl.c rfl), trivial⟩⟩⟩⟩ fun v1 => ?_)
  refine RG.pv rfl (PV.asg (v := v1) rfl rfl) ?_
  refine RG.nil ?_
  refine WP.ret ?_
  exact ⟨_, _, ResV.one rfl rfl, Cv.p, k v1⟩
theorem l23Parts_s {v : Value} {xs : List (Sl Rect)} (h1 : Rs G L slT v xs) (hd : RsE G L rectT xs) (hlay : isLay (er xs) = true) (k : ∀ v' ps, ps.map erC = pcL (er xs) 4 → R v' G (osl 127 partT v' ps :: bagS 4 boolT (cels ps) :: L)) : CallT Tryz.prog 47 #[v] G L R := by
  have h8 : xs.length = 8 := by have := isLay_len hlay; rwa [er_len] at this
  have hreg : ∀ i, i < 8 → isReg (gd xs i).xs = true := fun i hi => by rw [← er_gd]; exact isLay_reg hlay hi
  refine CallT.enter (args := _) Tryz.func47 rfl rfl (by kernel_rfl) rfl ?_
  refine WP.seq ?_
  refine WP.region ?_
  refine RG.pv rfl (PV.asg rfl rfl) ?_
  refine RG.nil ?_
  refine WP.seq ?_
  refine WP.region ?_
  refine RG.ot rfl (OT.bslice (F := partT) (els := []) rfl El79 rfl (by decide) rfl (by decide) trivial fun v8 => ?_)
  refine RG.pv rfl (PV.asg (v := v8) rfl rfl) ?_
  refine RG.nil ?_
  refine WP.seq ?_
  refine WP.region ?_
  refine RG.pv rfl (PV.move (v := v) rfl rfl) ?_
  refine RG.callF (vs := [v]) rfl rfl En83 rfl (l23Conductors_s (Rs.up h1) hd.up h8 hreg (fun v10 zsv10 hev10 => ?_))
  refine RG.pv rfl (PV.asg (v := v10) rfl rfl) ?_
  refine RG.nil ?_
  refine WP.seq ?_
  refine WP.seq ?_
  refine WP.region ?_
  refine RG.pv rfl (PV.mvI (.inr rfl) rfl) ?_
  refine RG.nil ?_
  refine WP.block ?_
  have hy4 : zsv10.length = 4 := by have := congrArg List.length hev10; rw [er_len] at this; exact this
  refine WP.cv ((Cv.p (C := osl 127 partT v8 ([] : List Part) :: osl 124 slT v10 zsv10 :: bagS 4 boolT zsv10 :: L)).trans (Cv.cons (Cv.bag0 (e := 4) (F := boolT) (xs := cels []) rfl))) ?_
  refine WP.loop3 [4] (fun (i : Nat) (ps : List Part) (q : Value) => i ≤ 4 ∧ ps.map erC = pcL (er xs) i) (fun (i : Nat) (ps : List Part) (q : Value) => [(5, vi i), (3, q)]) (fun (i : Nat) (ps : List Part) (q : Value) => osl 127 partT q ps :: bagS 4 boolT (cels ps) :: osl 124 slT v10 zsv10 :: bagS 4 boolT zsv10 :: L) (fun (i : Nat) (ps : List Part) (q : Value) => 4 - i) 0 [] v8 ⟨by omega, rfl⟩ ⟨rfl, rfl, trivial⟩ Cv.p ?_
  rintro i ps q τ ⟨hi, hps⟩
  refine WP.seq ?_
  refine WP.seq ?_
  refine WP.region ?_
  refine RG.pv rfl (PV.mvI (.inl rfl) rfl) ?_
  refine RG.pv rfl (PV.move (v := v10) rfl rfl) ?_
  refine RG.pv rfl (PV.len (v := v10) rfl Tryz.underlying121 rfl SlF.o) ?_
  refine RG.pv rfl (PV.lss rfl rfl rfl) ?_
  refine RG.nil ?_
  have hpl : ps.length ≤ 6400 * 4 := by
    have := congrArg List.length hps
    have h2 := pcL_len (er xs) i
    rw [List.length_map] at this; omega
  refine WP.cond rfl (fun h2 => ?_) (fun h2 => ?_)
  · have h2 := of_decide_eq_true h2
    have hi4 : i < 4 := by omega
    have hl6 : (gd zsv10 i).xs.length = 6400 := by rw [← er_gd, hev10]; exact condB_len _ hi4
    refine WP.skip ?_
    refine WP.seq ?_
    refine WP.block ?_
    refine WP.seq ?_
    refine WP.region ?_
    refine RG.pv rfl (PV.move (v := v10) rfl rfl) ?_
    refine RG.pv rfl (PV.mvI (.inl rfl) rfl) ?_
    refine RG.pv rfl (PV.idxS (v := v10) rfl Is121 rfl SlF.o rfl rfl (by omega)) ?_
    refine RG.pv rfl (PV.loadE1 rfl Sc124 rfl rfl (El.o (getG (by omega))) rfl) ?_
    refine RG.callF (vs := [_]) rfl rfl En84 rfl (comps_s (Rs.inBag (xs := zsv10) i (by omega)) hl6 (fun v21 zs hz => ?_))
    refine RG.pv rfl (PV.asg (v := v21) rfl rfl) ?_
    refine RG.nil ?_
    refine WP.seq ?_
    refine WP.region ?_
    refine RG.pv rfl (PV.mvI (.inr rfl) rfl) ?_
    refine RG.nil ?_
    refine WP.block ?_
    have hcz : er zs = comps (gd (condB (er xs)) i) := by rw [hz, ← er_gd, hev10]
    have hzl : zs.length ≤ 6400 := by have := congrArg List.length hcz; have h3 := comps_len (gd (condB (er xs)) i); rw [er_len] at this; omega
    refine WP.cv ((Cv.p (C := bagS 4 boolT (cels ps) :: bagS 4 boolT zs :: osl 127 partT q ps :: osl 124 slT v21 zs :: osl 124 slT v10 zsv10 :: bagS 4 boolT zsv10 :: L)).trans (Cv.bagJoin.trans ((Cv.p (C := osl 127 partT q ps :: bagS 4 boolT (cels ps ++ zs) :: osl 124 slT v21 zs :: osl 124 slT v10 zsv10 :: bagS 4 boolT zsv10 :: L)).trans (Cv.cast (L' := osl 127 partT q (ps ++ (zs.take 0).map (mkC (gd [0, 1, 3, 5] i))) :: bagS 4 boolT (cels ps ++ zs) :: osl 124 slT v21 zs :: osl 124 slT v10 zsv10 :: bagS 4 boolT zsv10 :: L) (by simp))))) ?_
    refine WP.loop2 [4, 5, 6] (fun (j : Nat) (q1 : Value) => j ≤ zs.length) (fun (j : Nat) (q1 : Value) => [(7, vi j), (3, q1)]) (fun (j : Nat) (q1 : Value) => osl 127 partT q1 (ps ++ (zs.take j).map (mkC (gd [0, 1, 3, 5] i))) :: bagS 4 boolT (cels ps ++ zs) :: osl 124 slT v21 zs :: osl 124 slT v10 zsv10 :: bagS 4 boolT zsv10 :: L) (fun (j : Nat) (q1 : Value) => zs.length - j) 0 q (by omega) ⟨rfl, rfl, trivial⟩ Cv.p ?_
    rintro j q1 τ1 hj
    refine WP.seq ?_
    refine WP.seq ?_
    refine WP.region ?_
    refine RG.pv rfl (PV.mvI (.inl rfl) rfl) ?_
    refine RG.pv rfl (PV.move (v := v21) rfl rfl) ?_
    refine RG.pv rfl (PV.len (v := v21) rfl Tryz.underlying121 rfl SlF.o) ?_
    refine RG.pv rfl (PV.lss rfl rfl rfl) ?_
    refine RG.nil ?_
    have hlt : (ps ++ (zs.take j).map (mkC (gd [0, 1, 3, 5] i))).length = ps.length + j := by simp; omega
    refine WP.cond rfl (fun h3 => ?_) (fun h3 => ?_)
    · have h3 := of_decide_eq_true h3
      have hn4 : ([0, 1, 3, 5] : List Int).length = 4 := rfl
      refine WP.sl (Rs.inRight (ws := cels ps) (xs := zs) j (by omega)) fun hI => ?_
      refine WP.skip ?_
      refine WP.seq ?_
      refine WP.block ?_
      refine WP.regionHD [.s q1] (.q 0 (.q 2 (.q 5 (.q 6 (.q 7 (.q 8 (.l 1 (.q 3 (.q 4 (.q 9 (.l 10 (.l 11 (.q 12 Sch.nil))))))))))))) (by kernel_rfl) (by kernel_rfl) (by kernel_rfl) rfl ?_
      refine RH.pv rfl (fun _ _ _ _ h => h) (Gh.le_refl _) PickC.pick rfl (PV.move (v := q1) rfl rfl) ?_
      refine RH.pv rfl (fun _ _ _ _ h => h) (Gh.le_refl _) PickC.pick rfl (PV.mvI (.inl rfl) rfl) ?_
      refine RH.pv rfl (fun _ _ _ _ h => h) (Gh.le_refl _) PickC.pick rfl (PV.move (v := v21) rfl rfl) ?_
      refine RH.pv rfl (fun _ _ _ _ h => h) (Gh.le_refl _) PickC.pick rfl (PV.mvI (.inl rfl) rfl) ?_
      refine RH.pv rfl (fun _ _ _ _ h => h) (Gh.le_refl _) PickC.pick rfl (PV.idxS (v := v21) rfl Is121 rfl SlF.o rfl rfl (by omega)) ?_
      refine RH.pv rfl (fun _ _ _ _ h => h) (Gh.le_refl _) PickC.pick rfl (PV.loadE1 rfl Sc124 rfl rfl (El.o (getG (by omega))) rfl) ?_
      refine RH.ot rfl rfl (OT.callF (vs := []) rfl En85 rfl (l23Layers_s (fun v29 => ⟨Gh.le_refl _, PickC.pick, ?_⟩)))
      refine RH.up1 ?_
      refine RH.pv rfl (fun _ _ _ _ h => h) (Gh.le_refl _) PickC.pick rfl (PV.idxS (v := v29) rfl Is26 rfl SlF.o rfl rfl (by omega)) ?_
      refine RH.pv rfl (fun _ _ _ _ h => h) (Gh.le_refl _) PickC.pick rfl (PV.loadE1 rfl Sc2 rfl rfl (El.o (getG (by omega))) rfl) ?_
      refine RH.pv rfl (fun _ _ _ _ h => h) (Gh.le_refl _) PickC.pick rfl (PV.build (vs := [(0, [vi _]), (1, [_])]) (out := [_, _]) rfl Zr127 Pl127 ⟨rfl, (Cl.c rfl), ⟨rfl, (Cl.s (SlF.i hI)), trivial⟩⟩ rfl) ?_
      refine RH.ot rfl rfl (OT.bslice (F := partT) (els := [⟨gd [0, 1, 3, 5] i, gd zs j⟩]) rfl El79 rfl (by decide) rfl (by decide) ⟨rfl, (Cl.c rfl), trivial⟩ fun v38 => ⟨Gh.le_refl _, PickC.pick, ?_⟩)
      refine RH.ot rfl rfl (OT.append (v := q1) (u := v38) (F := partT) rfl El79 rfl (by decide) rfl rfl Rs.o (OneL.one (OneC.val rfl (OneC.sl (SlF.i hI) OneC.nil))) rfl (by first | omega | (simp <;> omega)) fun v39 => ⟨Gh.le_refl _, PickC.pick, ?_⟩)
      refine RH.pv rfl (fun _ _ _ _ h => h) (Gh.le_refl _) PickC.pick rfl (PV.asg (v := v39) rfl rfl) ?_
      refine RH.nil ?_
      refine WP.region ?_
      refine RG.pv rfl (PV.mvI (.inl rfl) rfl) ?_
      refine RG.pv rfl (PV.add rfl rfl rfl (by omega)) ?_
      refine RG.pv rfl (PV.mvI (.inr rfl) rfl) ?_
      refine RG.nil ?_
      exact ⟨rfl, j + 1, v39, (by omega), ⟨rfl, rfl, trivial⟩, ⟨rfl, rfl, rfl, trivial⟩, (Cv.p (C := osl 127 partT v39 (ps ++ (zs.take j).map (mkC (gd [0, 1, 3, 5] i)) ++ [⟨gd [0, 1, 3, 5] i, gd zs j⟩]) :: bagS 4 boolT (cels ps ++ zs) :: osl 124 slT v21 zs :: osl 124 slT v10 zsv10 :: bagS 4 boolT zsv10 :: L)).trans (Cv.cast (by rw [List.take_add_one, getG (by omega), List.map_append, List.append_assoc]; rfl)), by omega⟩
    · have h3 := of_decide_eq_false h3
      obtain rfl : j = zs.length := by omega
      refine WP.exit ?_
      refine WP.region ?_
      refine RG.pv rfl (PV.mvI (.inl rfl) rfl) ?_
      refine RG.pv rfl (PV.add rfl rfl rfl (by omega)) ?_
      refine RG.pv rfl (PV.mvI (.inr rfl) rfl) ?_
      refine RG.nil ?_
      refine ⟨rfl, i + 1, (ps ++ zs.map (mkC (gd [0, 1, 3, 5] i))), q1, ⟨by omega, ?_⟩, ⟨rfl, rfl, trivial⟩, ⟨rfl, trivial⟩, (Cv.p (C := osl 127 partT q1 (ps ++ (zs.take zs.length).map (mkC (gd [0, 1, 3, 5] i))) :: bagS 4 boolT (cels ps ++ zs) :: osl 124 slT v10 zsv10 :: bagS 4 boolT zsv10 :: L)).trans (Cv.cast (by rw [List.take_length, cels_append, cels_mkC])), by omega⟩
      rw [pcL_succ, List.map_append, hps]
      congr 1
      have e : ∀ zs : List (Sl Bool), (zs.map (mkC (gd [0, 1, 3, 5] i))).map erC = (er zs).map fun r => (gd [0, 1, 3, 5] i, r) := fun zs => by simp [er, erC, mkC, Function.comp_def]
      rw [e, hcz]
  · have h2 := of_decide_eq_false h2
    obtain rfl : i = 4 := by omega
    refine WP.exit ?_
    refine WP.seq ?_
    refine WP.region ?_
    refine RG.pv rfl (PV.move (v := q) rfl rfl) ?_
    refine RG.pv rfl (PV.asg (v := q) rfl rfl) ?_
    refine RG.nil ?_
    refine WP.ret ?_
    exact ⟨_, _, ResV.one rfl rfl, Cv.p, k q ps hps⟩
noncomputable def pcE (l : List (List Rect)) : List (Int × List Rect) := bif isLay l then (pcL l 4).map pcR else []
theorem cels_len (xs : List Part) : (cels xs).length = xs.length := by simp [cels]
theorem cels_gd {xs : List Part} {i : Nat} (h : i < xs.length) : gd (cels xs) i = (gd xs i).cells := gd_map _ h
theorem Rs.inCels {G : Gh} {L L' : List Ch} {e : TypeId} {xs : List Part} (i : Nat) (hi : i < xs.length) [hX : ExBg (cels xs) L e boolT L'] : Rs G L boolT (gd xs i).cells.v (gd xs i).cells.xs := by
  have := Rs.inBag (G := G) (L := L) (L' := L') (e := e) (F := boolT) (xs := cels xs) i (by rw [cels_len]; exact hi)
  rwa [cels_gd hi] at this
theorem comps_mem {S : List Bool} {c : List Bool} (h : c ∈ comps S) : c.length = 6400 := by
  obtain ⟨j, _, rfl⟩ := List.mem_map.1 h; exact compB_len _ _
theorem pcL_mem {l : List (List Rect)} {n : Nat} {p : Int × List Bool} (h : p ∈ pcL l n) : p.2.length = 6400 := by
  obtain ⟨m, h1, h2⟩ := List.mem_flatten.1 h
  obtain ⟨i, _, rfl⟩ := List.mem_map.1 h1
  obtain ⟨c, hc, rfl⟩ := List.mem_map.1 h2
  exact comps_mem hc
end Go.Proofs.YtmomfgfmnpblpaaGreat
namespace Go.Proofs.YtmomfgfmnpblpaaGreat
set_option linter.unusedVariables false
set_option linter.unusedSimpArgs false
open Go
set_option linter.unusedSimpArgs false
theorem costL_bd {α : Type} {n : α → Int} {B : Int} : ∀ {xs : List α}, (∀ x ∈ xs, n x ≤ B) → costL n xs ≤ B * xs.length
  | [], _ => by simp [costL]
  | x :: xs, h => by
    have h1 := h x (.head _)
    have h2 := costL_bd (xs := xs) fun y hy => h y (.tail _ hy)
    simp only [costL, List.length_cons]; rw [Int.natCast_succ, Int.mul_add]; omega
def cmn (a b : Rect) : Rect := ⟨max a.x0 b.x0, max a.y0 b.y0, min a.x1 b.x1, min a.y1 b.y1⟩
def ovl (a b : Rect) : Bool := validRect a && validRect b && validRect (cmn a b)
def meetB (a b : List Rect) : Bool := a.any fun x => b.any fun y => ovl x y
def meetIn (a b c : List Rect) : Bool := a.any fun x => b.any fun y => validRect (cmn x y) && meetB [cmn x y] c
theorem validR_iff {r : Rect} : validRect r = true ↔ -40 ≤ r.x0 ∧ r.x0 < r.x1 ∧ r.x1 ≤ 40 ∧ -40 ≤ r.y0 ∧ r.y0 < r.y1 ∧ r.y1 ≤ 40 := by simp [validRect, and_assoc]
theorem inR_iff {r : Rect} {y x : Nat} : inR r y x = true ↔ r.x0 + 40 ≤ x ∧ (x : Int) < r.x1 + 40 ∧ r.y0 + 40 ≤ y ∧ (y : Int) < r.y1 + 40 := by simp [inR, and_assoc]
theorem inR_cmn {a b : Rect} {y x : Nat} : inR (cmn a b) y x = true ↔ inR a y x = true ∧ inR b y x = true := by
  simp only [inR_iff, cmn]; omega
theorem valid_cell {r : Rect} (h : validRect r = true) : ∃ y x, y < 80 ∧ x < 80 ∧ inR r y x = true := by
  rw [validR_iff] at h
  exact ⟨(r.y0 + 40).toNat, (r.x0 + 40).toNat, by omega, by omega, inR_iff.2 (by omega)⟩
theorem inR_lt {r : Rect} (h : validRect r = true) {y x : Nat} (hi : inR r y x = true) : y < 80 ∧ x < 80 := by
  rw [validR_iff] at h; rw [inR_iff] at hi; omega
theorem cmn_valid {a b : Rect} (ha : validRect a = true) (hb : validRect b = true) {y x : Nat} (h1 : inR a y x = true) (h2 : inR b y x = true) : validRect (cmn a b) = true := by
  rw [validR_iff] at *; rw [inR_iff] at h1 h2; simp only [cmn]; omega
theorem ovl_iff {a b : Rect} (ha : validRect a = true) (hb : validRect b = true) : ovl a b = true ↔ ∃ y x, y < 80 ∧ x < 80 ∧ inR a y x = true ∧ inR b y x = true := by
  simp only [ovl, ha, hb, Bool.true_and]
  constructor
  · intro h
    obtain ⟨y, x, h1, h2, h3⟩ := valid_cell h
    exact ⟨y, x, h1, h2, inR_cmn.1 h3⟩
  · rintro ⟨y, x, _, _, h1, h2⟩; exact cmn_valid ha hb h1 h2
theorem valid_mem {xs : List Rect} (h : validRs xs = true) {r : Rect} (hr : r ∈ xs) : validRect r = true := by
  simp only [validRs, Bool.and_eq_true, List.all_eq_true] at h; exact h.2 r hr
theorem gb_bits_iff {rs : List Rect} {y x : Nat} (hy : y < 80) (hx : x < 80) : gb (bits rs) y x = true ↔ ∃ r ∈ rs, inR r y x = true := by
  rw [gb_bits' rs hy hx, List.any_eq_true]
theorem meetB_iff {a b : List Rect} (ha : validRs a = true) (hb : validRs b = true) : meetB a b = true ↔ ∃ y x, y < 80 ∧ x < 80 ∧ gb (bits a) y x = true ∧ gb (bits b) y x = true := by
  simp only [meetB, List.any_eq_true]
  constructor
  · rintro ⟨p, hp, q, hq, h⟩
    obtain ⟨y, x, hy, hx, h1, h2⟩ := (ovl_iff (valid_mem ha hp) (valid_mem hb hq)).1 h
    exact ⟨y, x, hy, hx, (gb_bits_iff hy hx).2 ⟨p, hp, h1⟩, (gb_bits_iff hy hx).2 ⟨q, hq, h2⟩⟩
  · rintro ⟨y, x, hy, hx, h1, h2⟩
    obtain ⟨p, hp, h3⟩ := (gb_bits_iff hy hx).1 h1
    obtain ⟨q, hq, h4⟩ := (gb_bits_iff hy hx).1 h2
    exact ⟨p, hp, q, hq, (ovl_iff (valid_mem ha hp) (valid_mem hb hq)).2 ⟨y, x, hy, hx, h3, h4⟩⟩
/-- three sets have a common cell -/
def mt (A B C : List Bool) : Bool := (List.range 6400).any fun n => gd A n && gd B n && gd C n
theorem mt_iff {A B C : List Bool} : mt A B C = true ↔ ∃ y x, y < 80 ∧ x < 80 ∧ gb A y x = true ∧ gb B y x = true ∧ gb C y x = true := by
  simp only [mt, List.any_eq_true, List.mem_range, Bool.and_eq_true, gb]
  constructor
  · rintro ⟨n, hn, ⟨h1, h2⟩, h3⟩
    have e : n / 80 * 80 + n % 80 = n := by omega
    exact ⟨n / 80, n % 80, by omega, by omega, by rw [e]; exact h1, by rw [e]; exact h2, by rw [e]; exact h3⟩
  · rintro ⟨y, x, hy, hx, h1, h2, h3⟩
    exact ⟨y * 80 + x, by omega, ⟨h1, h2⟩, h3⟩
theorem meetIn_iff {a b c : List Rect} (ha : validRs a = true) (hb : validRs b = true) (hc : validRs c = true) : meetIn a b c = mt (bits a) (bits b) (bits c) := by
  rw [Bool.eq_iff_iff, mt_iff]
  simp only [meetIn, List.any_eq_true, Bool.and_eq_true]
  constructor
  · rintro ⟨p, hp, q, hq, h, h'⟩
    have h1 : validRs [cmn p q] = true := by simp [validRs, h]
    obtain ⟨y, x, hy, hx, h2, h3⟩ := (meetB_iff h1 hc).1 h'
    obtain ⟨r, hr, h4⟩ := (gb_bits_iff hy hx).1 h2
    obtain rfl : r = cmn p q := by simpa using hr
    obtain ⟨h5, h6⟩ := inR_cmn.1 h4
    exact ⟨y, x, hy, hx, (gb_bits_iff hy hx).2 ⟨p, hp, h5⟩, (gb_bits_iff hy hx).2 ⟨q, hq, h6⟩, h3⟩
  · rintro ⟨y, x, hy, hx, h1, h2, h3⟩
    obtain ⟨p, hp, h4⟩ := (gb_bits_iff hy hx).1 h1
    obtain ⟨q, hq, h5⟩ := (gb_bits_iff hy hx).1 h2
    have h := cmn_valid (valid_mem ha hp) (valid_mem hb hq) h4 h5
    have h6 : validRs [cmn p q] = true := by simp [validRs, h]
    exact ⟨p, hp, q, hq, h, (meetB_iff h6 hc).2 ⟨y, x, hy, hx, (gb_bits_iff hy hx).2 ⟨_, .head _, inR_cmn.2 ⟨h4, h5⟩⟩, h3⟩⟩
def jnO (l : List (List Rect)) (p q : Int × List Rect) : Bool := bif decide (q.1 = 3) && decide (p.1 < 3) then meetIn p.2 q.2 (gd l 2) else decide (p.1 = 3) && decide (q.1 = 5) && meetIn p.2 q.2 (gd l 4)
def jnI (l : List (List Rect)) (p q : Int × List Rect) : Bool := bif decide (q.1 < p.1) then jnO l q p else jnO l p q
def jnR (p q : Int × List Bool) (C V : List Bool) : Bool := (List.range 6400).any fun n => gd p.2 n && gd q.2 n && (gd C n && (decide (p.1 = 3) || decide (q.1 = 3)) && !(decide (p.1 = 5) || decide (q.1 = 5)) || gd V n && (decide (p.1 = 3) || decide (q.1 = 3)) && (decide (p.1 = 5) || decide (q.1 = 5)))
theorem jnR_eq (p q : Int × List Bool) (C V : List Bool) : jnR p q C V = ((decide (p.1 = 3) || decide (q.1 = 3)) && !(decide (p.1 = 5) || decide (q.1 = 5)) && mt p.2 q.2 C || (decide (p.1 = 3) || decide (q.1 = 3)) && (decide (p.1 = 5) || decide (q.1 = 5)) && mt p.2 q.2 V) := by
  simp only [jnR, mt]
  cases (decide (p.1 = 3) || decide (q.1 = 3)) <;> cases (decide (p.1 = 5) || decide (q.1 = 5)) <;> simp
def isL (n : Int) : Prop := n = 0 ∨ n = 1 ∨ n = 3 ∨ n = 5
theorem mt_comm (A B C : List Bool) : mt A B C = mt B A C := by
  simp only [mt]; congr 1; funext n; cases gd A n <;> cases gd B n <;> rfl
/-- joined, told by cells -/
def jnL (l : List (List Rect)) (p q : Int × List Bool) : Bool := !decide (p.1 = q.1) && jnR p q (bits (gd l 2)) (bits (gd l 4))
theorem jn_eq {l : List (List Rect)} (hl : isLay l = true) {p q : Int × List Bool} (hp : isL p.1) (hq : isL q.1) (hp2 : p.2.length = 6400) (hq2 : q.2.length = 6400) : jnI l (pcR p) (pcR q) = jnL l p q := by
  have h2 := isReg_valid (isLay_reg hl (i := 2) (by omega))
  have h4 := isReg_valid (isLay_reg hl (i := 4) (by omega))
  have hP := isReg_valid (isReg_canon hp2)
  have hQ := isReg_valid (isReg_canon hq2)
  have a1 := meetIn_iff hP hQ h2; have a2 := meetIn_iff hP hQ h4; have a3 := meetIn_iff hQ hP h2; have a4 := meetIn_iff hQ hP h4
  rw [bits_canon hp2, bits_canon hq2] at a1 a2 a3 a4
  rw [mt_comm] at a3 a4
  simp only [jnL, jnR_eq, jnI, jnO, pcR, a1, a2, a3, a4]
  obtain ⟨x, P⟩ := p; obtain ⟨y, Q⟩ := q
  simp only at hp hq ⊢
  rcases hp with rfl | rfl | rfl | rfl <;> rcases hq with rfl | rfl | rfl | rfl <;> simp
theorem isL_lay {i : Nat} (h : i < 4) : isL (gd [0, 1, 3, 5] i) := by
  rcases (by omega : i = 0 ∨ i = 1 ∨ i = 2 ∨ i = 3) with rfl | rfl | rfl | rfl <;> simp [isL, gd]
theorem pcL_isL {l : List (List Rect)} {p : Int × List Bool} (h : p ∈ pcL l 4) : isL p.1 := by
  obtain ⟨m, h1, h2⟩ := List.mem_flatten.1 h
  obtain ⟨i, hi, rfl⟩ := List.mem_map.1 h1
  obtain ⟨c, hc, rfl⟩ := List.mem_map.1 h2
  exact isL_lay (List.mem_range.1 hi)
def rl (lo hi c : Int) : Int := if c = hi then lo else c
def stepJ (J : Nat → Nat → Bool) (i : Nat) (cls : List Int) (k : Nat) : List Int := if gd cls k = gd cls i ∨ J k i = false then cls else cls.map (rl (min (gd cls k) (gd cls i)) (max (gd cls k) (gd cls i)))
def inJ (J : Nat → Nat → Bool) (i : Nat) (cls : List Int) (k : Nat) : List Int := (List.range k).foldl (stepJ J i) (cls ++ [(i : Int)])
def rootsJ (J : Nat → Nat → Bool) : Nat → List Int
  | 0 => []
  | i + 1 => inJ J i (rootsJ J i) i
theorem inJ_zero (J : Nat → Nat → Bool) (i : Nat) (cls : List Int) : inJ J i cls 0 = cls ++ [(i : Int)] := rfl
theorem inJ_succ (J : Nat → Nat → Bool) (i : Nat) (cls : List Int) (k : Nat) : inJ J i cls (k + 1) = stepJ J i (inJ J i cls k) k := by simp [inJ, List.range_succ]
theorem stepJ_len (J : Nat → Nat → Bool) (i : Nat) (cls : List Int) (k : Nat) : (stepJ J i cls k).length = cls.length := by
  unfold stepJ; split <;> simp
theorem inJ_len (J : Nat → Nat → Bool) (i : Nat) (cls : List Int) : ∀ k, (inJ J i cls k).length = cls.length + 1
  | 0 => by simp [inJ_zero]
  | k + 1 => by rw [inJ_succ, stepJ_len, inJ_len J i cls k]
theorem rootsJ_len (J : Nat → Nat → Bool) : ∀ n, (rootsJ J n).length = n
  | 0 => rfl
  | n + 1 => by rw [rootsJ, inJ_len, rootsJ_len J n]
/-- each class is told by its first member -/
def Rt (cls : List Int) : Prop := ∀ j, j < cls.length → 0 ≤ gd cls j ∧ gd cls j ≤ j ∧ gd cls (gd cls j).toNat = gd cls j
theorem Rt.app {cls : List Int} (h : Rt cls) : Rt (cls ++ [(cls.length : Int)]) := fun j hj => by
  have hj : j < cls.length + 1 := by simpa using hj
  by_cases e : j = cls.length
  · subst e
    rw [gd_app_r]; refine ⟨by omega, by omega, ?_⟩
    rw [Int.toNat_natCast, gd_app_r]
  · have hj : j < cls.length := by omega
    obtain ⟨h1, h2, h3⟩ := h j hj
    rw [gd_app_l hj]
    exact ⟨h1, h2, by rw [gd_app_l (by omega)]; exact h3⟩
theorem Rt.map {cls : List Int} (h : Rt cls) {lo hi : Int} (hl : lo < hi) {k : Nat} (hk : k < cls.length) (hlo : gd cls k = lo) : Rt (cls.map (rl lo hi)) := fun j hj => by
  have hj : j < cls.length := by simpa using hj
  obtain ⟨h1, h2, h3⟩ := h j hj
  obtain ⟨g1, g2, g3⟩ := h k hk
  rw [gd_map _ hj]
  unfold rl
  split
  · rename_i e
    refine ⟨by omega, by omega, ?_⟩
    rw [gd_map _ (by omega), hlo] at *
    rw [g3, if_neg (by omega)]
  · rename_i e
    refine ⟨h1, h2, ?_⟩
    rw [gd_map _ (by omega), h3, if_neg e]
theorem Rt.step {cls : List Int} (h : Rt cls) {J : Nat → Nat → Bool} {i k : Nat} (hi : i < cls.length) (hk : k < cls.length) : Rt (stepJ J i cls k) := by
  unfold stepJ
  split
  · exact h
  · rename_i e
    rw [not_or] at e
    by_cases c : gd cls k < gd cls i
    · exact h.map (by omega) hk (by omega)
    · exact h.map (k := i) (by omega) hi (by omega)
theorem Rt.inJ {J : Nat → Nat → Bool} {cls : List Int} (h : Rt cls) : ∀ k, k ≤ cls.length → Rt (inJ J cls.length cls k)
  | 0, _ => by rw [inJ_zero]; exact h.app
  | k + 1, hk => by
    rw [inJ_succ]
    exact (Rt.inJ h k (by omega)).step (by rw [inJ_len]; omega) (by rw [inJ_len]; omega)
theorem rt_roots (J : Nat → Nat → Bool) : ∀ n, Rt (rootsJ J n)
  | 0 => fun j hj => by simp [rootsJ] at hj
  | n + 1 => by
    have := (rt_roots J n).inJ (J := J) n (by rw [rootsJ_len]; omega)
    rw [rootsJ_len] at this; exact this
def mapTo (f : Int → Int) (d : List Int) (m : Nat) : List Int := (d.take m).map f ++ d.drop m
theorem mapTo_zero (f : Int → Int) (d : List Int) : mapTo f d 0 = d := by simp [mapTo]
theorem mapTo_len (f : Int → Int) (d : List Int) {m : Nat} (h : m ≤ d.length) : (mapTo f d m).length = d.length := by simp [mapTo]; omega
theorem mapTo_gd {f : Int → Int} {d : List Int} {m : Nat} (h : m < d.length) : gd (mapTo f d m) m = gd d m := by
  simp only [gd, mapTo]
  rw [List.getElem?_append_right (by simp; omega)]
  simp only [List.length_map, List.length_take, List.getElem?_drop]
  congr 2; omega
theorem mapTo_set {f : Int → Int} {d : List Int} {m : Nat} (h : m < d.length) : (mapTo f d m).set m (f (gd d m)) = mapTo f d (m + 1) := by
  have hl : ((d.take m).map f).length = m := by simp; omega
  simp only [mapTo]
  rw [List.set_append_right _ _ (by omega), hl, Nat.sub_self, drop_gd h, List.set_cons_zero, List.take_add_one, getG h]
  simp
theorem mapTo_skip {f : Int → Int} {d : List Int} {m : Nat} (h : m < d.length) (e : f (gd d m) = gd d m) : mapTo f d (m + 1) = mapTo f d m := by
  rw [← mapTo_set h, e, ← mapTo_gd (f := f) h]
  exact (set_self (by rw [mapTo_len f d (by omega)]; exact h)).symm
theorem mapTo_all {f : Int → Int} {c z : List Int} : mapTo f (c ++ z) c.length = c.map f ++ z := by simp [mapTo]
def cntR (cls : List Int) (m : Nat) : Nat := ((List.range m).filter fun j => decide (gd cls j = (j : Int))).length
def numR (cls : List Int) (i : Nat) : Nat := cntR cls (gd cls i).toNat
theorem cntR_zero (cls : List Int) : cntR cls 0 = 0 := rfl
theorem cntR_succ (cls : List Int) (m : Nat) : cntR cls (m + 1) = cntR cls m + if gd cls m = (m : Int) then 1 else 0 := by
  unfold cntR
  rw [List.range_succ, List.filter_append, List.length_append]
  congr 1
  split <;> simp [*]
theorem cntR_mono (cls : List Int) {m : Nat} : ∀ {n : Nat}, m ≤ n → cntR cls m ≤ cntR cls n
  | 0, h => by obtain rfl : m = 0 := by omega
               exact Nat.le_refl _
  | n + 1, h => by
    by_cases e : m = n + 1
    · rw [e]; exact Nat.le_refl _
    · have := cntR_mono cls (m := m) (n := n) (by omega)
      rw [cntR_succ]; omega
theorem cntR_le (cls : List Int) (m : Nat) : cntR cls m ≤ m := by
  have := List.length_filter_le (fun j => decide (gd cls j = (j : Int))) (List.range m)
  simpa [cntR] using this
theorem numR_root {cls : List Int} {i : Nat} (h : gd cls i = (i : Int)) : numR cls i = cntR cls i := by rw [numR, h, Int.toNat_natCast]
theorem numR_at {cls : List Int} (h : Rt cls) {i : Nat} (hi : i < cls.length) : numR cls (gd cls i).toNat = numR cls i := by
  rw [numR, (h i hi).2.2, numR]
theorem numR_lt {cls : List Int} (h : Rt cls) {i m : Nat} (hi : i < cls.length) (hm : i < m) : numR cls i < cntR cls m := by
  obtain ⟨h1, h2, h3⟩ := h i hi
  have h4 := cntR_mono cls (m := (gd cls i).toNat + 1) (n := m) (by omega)
  rw [cntR_succ, if_pos (by rw [h3]; omega)] at h4
  rw [numR]; omega
/-- the lists of a partition by numbers, as far as the first i members go -/
def netsP {α : Type} [Inhabited α] (cls : List Int) (xs : List α) (i : Nat) : List (List α) := (List.range (cntR cls i)).map fun k => ((List.range i).filter fun j => decide (numR cls j = k)).map (gd xs)
theorem netsP_len {α : Type} [Inhabited α] (cls : List Int) (xs : List α) (i : Nat) : (netsP cls xs i).length = cntR cls i := by simp [netsP]
theorem netsP_gd {α : Type} [Inhabited α] {cls : List Int} {xs : List α} {i k : Nat} (h : k < cntR cls i) : gd (netsP cls xs i) k = ((List.range i).filter fun j => decide (numR cls j = k)).map (gd xs) := by
  rw [netsP, gd_map _ (by simpa using h)]
  simp [gd, h]
/-- the lists with room for the list of member i -/
def netsE {α : Type} [Inhabited α] (cls : List Int) (xs : List α) (i : Nat) : List (List α) := if gd cls i = (i : Int) then netsP cls xs i ++ [[]] else netsP cls xs i
theorem netsE_len {α : Type} [Inhabited α] (cls : List Int) (xs : List α) (i : Nat) : (netsE cls xs i).length = cntR cls (i + 1) := by
  unfold netsE; rw [cntR_succ]; split <;> simp [netsP_len, *]
theorem numR_ge {cls : List Int} (h : Rt cls) {i j : Nat} (hi : i < cls.length) (hj : j < i) (hr : gd cls i = (i : Int)) : numR cls j ≠ cntR cls i := by
  have := numR_lt h (i := j) (m := i) (by omega) hj; omega
theorem netsE_gd {α : Type} [Inhabited α] {cls : List Int} (h : Rt cls) {xs : List α} {i k : Nat} (hi : i < cls.length) (hk : k < cntR cls (i + 1)) : gd (netsE cls xs i) k = ((List.range i).filter fun j => decide (numR cls j = k)).map (gd xs) := by
  unfold netsE
  rw [cntR_succ] at hk
  split
  · rename_i e
    rw [if_pos e] at hk
    by_cases c : k < cntR cls i
    · rw [gd_app_l (by rw [netsP_len]; exact c), netsP_gd c]
    · obtain rfl : k = cntR cls i := by omega
      have e1 := gd_app_r (xs := netsP cls xs i) (a := ([] : List α))
      rw [netsP_len] at e1
      rw [e1, List.filter_eq_nil_iff.2, List.map_nil]
      intro j hj
      have := numR_ge h hi (List.mem_range.1 hj) e
      simpa using this
  · rename_i e
    rw [if_neg e] at hk
    exact netsP_gd (by omega)
theorem netsP_succ {α : Type} [Inhabited α] {cls : List Int} (h : Rt cls) {xs : List α} {i : Nat} (hi : i < cls.length) : netsP cls xs (i + 1) = (netsE cls xs i).set (numR cls i) (gd (netsE cls xs i) (numR cls i) ++ [gd xs i]) := by
  have hn := numR_lt h hi (Nat.lt_succ_self i)
  apply List.ext_getElem?
  intro k
  by_cases hk : k < cntR cls (i + 1)
  · rw [getG (by rw [netsP_len]; exact hk), netsP_gd hk, List.getElem?_set]
    by_cases c : numR cls i = k
    · subst c
      rw [if_pos rfl, if_pos (by rw [netsE_len]; exact hk), netsE_gd h hi hk, List.range_succ, List.filter_append, List.map_append]
      simp
    · rw [if_neg c, getG (by rw [netsE_len]; exact hk), netsE_gd h hi hk, List.range_succ, List.filter_append, List.map_append]
      simp [c]
  · rw [List.getElem?_eq_none (by rw [netsP_len]; omega), List.getElem?_eq_none (by rw [List.length_set, netsE_len]; omega)]
theorem filter_or_perm {α : Type} {p q : α → Bool} : ∀ {l : List α}, (∀ x ∈ l, ¬ (p x = true ∧ q x = true)) → (l.filter p ++ l.filter q).Perm (l.filter fun x => p x || q x)
  | [], _ => .refl _
  | x :: l, h => by
    have ih := filter_or_perm (l := l) fun y hy => h y (.tail _ hy)
    have hx := h x (.head _)
    cases hp : p x <;> cases hq : q x
    · simpa [hp, hq] using ih
    · simp only [List.filter_cons, hp, hq]
      simp only [Bool.or_true, if_true, Bool.false_eq_true, if_false]
      exact (List.perm_middle).trans (.cons _ ih)
    · simpa [hp, hq] using ih
    · exact absurd ⟨hp, hq⟩ hx
theorem parts_perm (f : Nat → Nat) (l : List Nat) : ∀ c, ((List.range c).flatMap fun k => l.filter fun j => decide (f j = k)).Perm (l.filter fun j => decide (f j < c))
  | 0 => by simp
  | c + 1 => by
    rw [List.range_succ, List.flatMap_append]
    simp only [List.flatMap_cons, List.flatMap_nil, List.append_nil]
    refine ((parts_perm f l c).append_right _).trans ((filter_or_perm fun x _ h => by simp at h; omega).trans ?_)
    refine .of_eq (List.filter_congr fun x _ => ?_)
    rw [Bool.eq_iff_iff]; simp; omega
/-- the lists of a partition, one after the other, are a permutation of the members -/
theorem netsP_perm {α : Type} [Inhabited α] {cls : List Int} (h : Rt cls) (xs : List α) (hl : cls.length = xs.length) : (netsP cls xs xs.length).flatten.Perm xs := by
  have e : (netsP cls xs xs.length).flatten = (((List.range (cntR cls xs.length)).flatMap fun k => (List.range xs.length).filter fun j => decide (numR cls j = k)).map (gd xs)) := by
    rw [netsP, ← List.flatMap_def, List.map_flatMap]
  rw [e]
  refine ((parts_perm (numR cls) (List.range xs.length) (cntR cls xs.length)).map (gd xs)).trans ?_
  refine .of_eq ?_
  rw [List.filter_eq_self.2 fun j hj => ?_]
  · apply List.ext_getElem?
    intro j
    by_cases hj : j < xs.length
    · rw [getG hj]; simp [hj]
    · rw [List.getElem?_eq_none (by simp; omega), List.getElem?_eq_none (by omega)]
  · have hj := List.mem_range.1 hj
    simpa using numR_lt h (by omega) hj
theorem netsP_map {α β : Type} [Inhabited α] [Inhabited β] (f : α → β) (cls : List Int) (xs : List α) {i : Nat} (hi : i ≤ xs.length) : netsP cls (xs.map f) i = (netsP cls xs i).map (List.map f) := by
  simp only [netsP, List.map_map]
  apply List.map_congr_left
  intro k _
  simp only [Function.comp_apply, List.map_map]
  apply List.map_congr_left
  intro j hj
  have := List.mem_range.1 (List.mem_filter.1 hj).1
  simp only [Function.comp_apply]
  exact gd_map _ (by omega)
noncomputable def JL (l : List (List Rect)) (k i : Nat) : Bool := jnL l (gd (pcL l 4) k) (gd (pcL l 4) i)
noncomputable def clsL (l : List (List Rect)) : List Int := rootsJ (JL l) (pcL l 4).length
theorem clsL_len (l : List (List Rect)) : (clsL l).length = (pcL l 4).length := rootsJ_len _ _
theorem clsL_rt (l : List (List Rect)) : Rt (clsL l) := rt_roots _ _
noncomputable def netN (l : List (List Rect)) : Nat := cntR (clsL l) (pcL l 4).length
noncomputable def netL (l : List (List Rect)) : List (List (Int × List Rect)) := netsP (clsL l) ((pcL l 4).map pcR) (pcL l 4).length
theorem netL_len (l : List (List Rect)) : (netL l).length = netN l := netsP_len _ _ _
end Go.Proofs.YtmomfgfmnpblpaaGreat
