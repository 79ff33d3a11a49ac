/-
  Contracts: dice, cells near a region, cells of regions, connected places; the law of joined pieces.
-/
import Derived.Test.YtilccgeldnlgnaaJoin
import Derived.Test.YtilccgeldnlgnaaW30
import Derived.Test.YtilccgeldnlgnaaW25
namespace Go.Proofs.Ytilccgeldnlgnaa
open Go
set_option maxRecDepth 20000
set_option linter.unusedSimpArgs false
variable {G : Gh} {L : List Ch} {R : Value → Gh → List Ch → Prop}
/-! ## bits of numbers -/
def andV (k : IntKind) (a b : Int) : Int := k.wrap (BitVec.ofInt k.bits a &&& BitVec.ofInt k.bits b).toNat
theorem PV.andW {P : Program} {o : Oper} {σ : Nat → Value} {G : Gh} {L : List Ch} {T T' : TypeId} {x y : Operand} {k : IntKind} {a b : Int} (ho : o.op = .binOp .and T x y T') (hx : ev σ x = .int k a) (hy : ev σ y = .int k b) : PV P o σ G L (.int k (andV k a b)) := by
  intro w _
  simp [execOp, ho, hx, hy, eqGuard, binOp, Op.intBits, andV]
theorem andV_bd (a : Int) : 0 ≤ andV .u64 a 16777215 ∧ andV .u64 a 16777215 ≤ 16777215 := by
  have h : (BitVec.ofInt 64 a &&& BitVec.ofInt 64 16777215).toNat ≤ 16777215 := by
    rw [BitVec.toNat_and]
    have e : (BitVec.ofInt 64 16777215).toNat = 16777215 := by decide
    rw [e]; exact Nat.and_le_right
  have e : andV .u64 a 16777215 = ((BitVec.ofInt 64 a &&& BitVec.ofInt 64 16777215).toNat : Int) := by
    show IntKind.u64.wrap _ = _
    exact u64w ⟨by omega, by
      have : ((BitVec.ofInt 64 a &&& BitVec.ofInt 64 16777215).toNat : Int) ≤ 16777215 := by omega
      exact Int.le_trans this (by decide)⟩
  rw [e]; omega
theorem andI (a : Int) : -9223372036854775808 ≤ andV .u64 a 16777215 ∧ andV .u64 a 16777215 ≤ 9223372036854775807 := by
  have := andV_bd a; omega
/-! ## dice -/
/-- the dice in block b over the code cv -/
def dice (b : Nat) (cv : Value) : Ch := fun h => ∃ p : Int × Int, 0 ≤ p.1 ∧ blk b 121 [cv, vi p.1, .int .u64 p.2] h
theorem Cv.dice {b : Nat} {cv : Value} {x y : Int} {L : List Ch} (h : 0 ≤ x) : Cv (blk b 121 [cv, vi x, .int .u64 y] :: L) (dice b cv :: L) := Cv.imp fun _ hc => ⟨(x, y), h, hc⟩
theorem below_s {b : Nat} {n : Int} {cv : Value} {bs : List UInt8} (hcode : SL G byteT cv bs) (hn : 0 < n ∧ n ≤ 1000000) (k : ∀ r, 0 ≤ r ∧ r < n → R (vi r) G (dice b cv :: L)) : CallT Try.prog 103 #[.pointer (some ⟨b, 0, none⟩), vi n] G (dice b cv :: L) R := by
  refine CallT.exi fun ⟨x, y⟩ hx => ?_
  have hbl := hcode.bound
  have hx : 0 ≤ x := hx
  change CallT _ _ _ G (blk b 121 [cv, vi x, .int .u64 y] :: L) R
  refine CallT.enter (args := _) Try.func103 rfl rfl (by kernel_rfl) rfl ?_
  refine WP.seq ?_
  refine WP.region ?_
  refine RG.pv rfl (PV.mvI (.inr rfl) rfl) ?_
  refine RG.nil ?_
  refine WP.seq ?_
  refine WP.region ?_
  refine RG.pv rfl (PV.mvP (.inl rfl) rfl) ?_
  refine RG.pv rfl (PV.mvP (.inl rfl) rfl) ?_
  refine RG.pv rfl (PV.nilc rfl rfl) ?_
  refine RG.pv rfl (PV.field rfl Fo121_2 rfl) ?_
  refine RG.pv rfl (PV.load1 rfl Sc57 rfl (Rd.blk rfl)) ?_
  refine RG.pv rfl (PV.mulW rfl rfl rfl) ?_
  refine RG.pv rfl (PV.addW rfl rfl rfl) ?_
  refine RG.pv rfl (PV.nilc rfl rfl) ?_
  refine RG.pv rfl (PV.field rfl Fo121_2 rfl) ?_
  refine RG.ot rfl (OT.storeB (vs := [.int .u64 _]) (cs' := [_, _, _]) rfl Sz57 rfl rfl (Cl.c rfl) rfl (OneC.c rfl) rfl rfl ?_)
  refine RG.nil ?_
  refine WP.seq ?_
  refine WP.region ?_
  refine RG.pv rfl (PV.mvP (.inl rfl) rfl) ?_
  refine RG.pv rfl (PV.nilc rfl rfl) ?_
  refine RG.pv rfl (PV.field rfl Fo121_2 rfl) ?_
  refine RG.pv rfl (PV.load1 rfl Sc57 rfl (Rd.blk rfl)) ?_
  refine RG.pv rfl (PV.shr rfl rfl rfl (by decide) (by decide)) ?_
  refine RG.pv rfl (PV.andW rfl rfl rfl) ?_
  refine RG.pv rfl (PV.conv rfl ⟨_, Try.underlying57⟩ Try.underlying2 rfl (i64w (by first | exact andI _ | omega))) ?_
  refine RG.pv rfl (PV.mvI (.inr rfl) rfl) ?_
  refine RG.nil ?_
  refine WP.seq ?_
  refine WP.seq ?_
  refine WP.regionQ (by kernel_rfl) (by kernel_rfl) ?_
  refine RQ.pv rfl (PV.mvP (.inl rfl) rfl) ?_
  refine RQ.pv rfl (PV.nilc rfl rfl) ?_
  refine RQ.pv rfl (PV.field rfl Fo121_1 rfl) ?_
  refine RQ.pv rfl (PV.load1 rfl Sc3 rfl (Rd.blk rfl)) ?_
  refine RQ.pv rfl (PV.mvP (.inl rfl) rfl) ?_
  refine RQ.pv rfl (PV.nilc rfl rfl) ?_
  refine RQ.pv rfl (PV.field rfl Fo121_0 rfl) ?_
  refine RQ.pv rfl (PV.load1 rfl Sc34 rfl (Rd.blk rfl)) ?_
  refine RQ.pv rfl (PV.len rfl Try.underlying34 rfl (SlF.r (Rs.g (L := []) hcode))) ?_
  refine RQ.pv rfl (PV.lss rfl rfl rfl) ?_
  refine RQ.nil ?_
  -- STOP: cond
  have hq := andV_bd (IntKind.u64.wrap (IntKind.u64.wrap (y * 6364136223846793005) + 1442695040888963407) / 2 ^ (33 : Int).toNat)
  refine WP.cond rfl (fun h1 => ?_) (fun h1 => ?_)
  · have h1 := of_decide_eq_true h1
    have hc := (gd bs x.toNat).toNat_lt
    refine WP.seq ?_
    refine WP.regionQ (by kernel_rfl) (by kernel_rfl) ?_
    refine RQ.pv rfl (PV.mvI (.inl rfl) rfl) ?_
    refine RQ.pv rfl (PV.mvP (.inl rfl) rfl) ?_
    refine RQ.pv rfl (PV.nilc rfl rfl) ?_
    refine RQ.pv rfl (PV.field rfl Fo121_0 rfl) ?_
    refine RQ.pv rfl (PV.load1 rfl Sc34 rfl (Rd.blk rfl)) ?_
    refine RQ.pv rfl (PV.mvP (.inl rfl) rfl) ?_
    refine RQ.pv rfl (PV.nilc rfl rfl) ?_
    refine RQ.pv rfl (PV.field rfl Fo121_1 rfl) ?_
    refine RQ.pv rfl (PV.load1 rfl Sc3 rfl (Rd.blk rfl)) ?_
    refine RQ.pv rfl (PV.idxS (j := x.toNat) rfl Is34 rfl (SlF.r (Rs.g (L := []) hcode)) rfl (by omega) (by omega)) ?_
    refine RQ.pv rfl (PV.loadE1 rfl Sc5 rfl rfl (El.r (Rs.g (L := []) hcode) (getG (by omega))) rfl) ?_
    refine RQ.pv rfl (PV.conv rfl ⟨_, Try.underlying5⟩ Try.underlying2 rfl (u8i _)) ?_
    refine RQ.pv rfl (PV.add rfl rfl rfl (by first | omega | exact u8add (by omega))) ?_
    refine RQ.pv rfl (PV.mvI (.inr rfl) rfl) ?_
    refine RQ.nil ?_
    refine WP.region ?_
    refine RG.pv rfl (PV.mvP (.inl rfl) rfl) ?_
    refine RG.pv rfl (PV.mvP (.inl rfl) rfl) ?_
    refine RG.pv rfl (PV.nilc rfl rfl) ?_
    refine RG.pv rfl (PV.field rfl Fo121_1 rfl) ?_
    refine RG.pv rfl (PV.load1 rfl Sc3 rfl (Rd.blk rfl)) ?_
    refine RG.pv rfl (PV.add rfl rfl rfl (by first | omega | exact u8add (by omega))) ?_
    refine RG.pv rfl (PV.nilc rfl rfl) ?_
    refine RG.pv rfl (PV.field rfl Fo121_1 rfl) ?_
    refine RG.ot rfl (OT.storeB (vs := [vi _]) (cs' := [_, _, _]) rfl Sz3 rfl rfl (Cl.c rfl) rfl (OneC.c rfl) rfl rfl ?_)
    refine RG.nil ?_
    refine WP.seq ?_
    refine WP.region ?_
    refine RG.pv rfl (PV.mvI (.inl rfl) rfl) ?_
    refine RG.pv rfl (PV.mvI (.inl rfl) rfl) ?_
    refine RG.pv rfl (PV.rem rfl rfl rfl (by omega) (by omega) (by omega)) ?_
    refine RG.pv rfl (PV.mvI (.inr rfl) rfl) ?_
    refine RG.nil ?_
    refine WP.ret ?_
  -- STOP: ret
    exact ⟨_, _, ResV.one rfl rfl, (Cv.dice (by omega)), k _ ⟨Int.emod_nonneg _ (by omega), Int.emod_lt_of_pos _ (by omega)⟩⟩
  · refine WP.skip ?_
    refine WP.seq ?_
    refine WP.region ?_
    refine RG.pv rfl (PV.mvI (.inl rfl) rfl) ?_
    refine RG.pv rfl (PV.mvI (.inl rfl) rfl) ?_
    refine RG.pv rfl (PV.rem rfl rfl rfl (by omega) (by omega) (by omega)) ?_
    refine RG.pv rfl (PV.mvI (.inr rfl) rfl) ?_
    refine RG.nil ?_
    refine WP.ret ?_
  -- STOP: ret
    exact ⟨_, _, ResV.one rfl rfl, (Cv.dice (by omega)), k _ ⟨Int.emod_nonneg _ (by omega), Int.emod_lt_of_pos _ (by omega)⟩⟩
theorem roll_s {s : Int} {cv : Value} {bs : List UInt8} (hcode : SL G byteT cv bs) (k : ∀ b, R (.pointer (some ⟨b, 0, none⟩)) G (dice b cv :: L)) : CallT Try.prog 39 #[cv, .int .u64 s] G L R := by
  have hbl := hcode.bound
  refine CallT.enter (args := _) Try.func39 rfl rfl (by kernel_rfl) rfl ?_
  refine WP.seq ?_
  refine WP.region ?_
  refine RG.pv rfl (PV.asg rfl rfl) ?_
  refine RG.nil ?_
  refine WP.seq ?_
  refine WP.region ?_
  refine RG.pv rfl (PV.move (v := cv) rfl rfl) ?_
  refine RG.pv rfl (PV.mvI (.inl rfl) rfl) ?_
  refine RG.pv rfl (PV.mulW rfl rfl rfl) ?_
  refine RG.pv rfl (PV.move (v := cv) rfl rfl) ?_
  refine RG.pv rfl (PV.len (v := cv) rfl Try.underlying34 rfl (SlF.r (Rs.g (L := []) hcode))) ?_
  refine RG.pv rfl (PV.conv rfl ⟨_, Try.underlying3⟩ Try.underlying57 rfl rfl) ?_
  refine RG.pv rfl (PV.addW rfl rfl rfl) ?_
  refine RG.pv rfl (PV.build (vs := [(0, [cv]), (2, [.int .u64 _])]) (out := [_, _, _]) rfl Zr121 Pl121 ⟨rfl, (Cl.s (SlF.r (Rs.g (L := []) hcode))), ⟨rfl, (Cl.c rfl), trivial⟩⟩ rfl) ?_
  refine RG.ot rfl (OT.box (cs := [cv, vi 0, _]) rfl rfl rfl fun b15 => ?_)
  refine RG.pv rfl (PV.mvP (.inr rfl) rfl) ?_
  refine RG.nil ?_
  refine WP.seq ?_
  refine WP.seq ?_
  refine WP.region ?_
  refine RG.pv rfl (PV.mvI (.inr rfl) rfl) ?_
  refine RG.nil ?_
  refine WP.block ?_
  -- STOP: loop
  refine WP.loop2 [0, 5] (fun (i : Nat) (y : Int) => i ≤ bs.length) (fun (i : Nat) (y : Int) => [(6, vi i)]) (fun (i : Nat) (y : Int) => blk b15 121 [cv, vi 0, .int .u64 y] :: L) (fun (i : Nat) (y : Int) => bs.length - i) 0 (IntKind.u64.wrap (IntKind.u64.wrap (s * 7919) + IntKind.u64.wrap (bs.length : Int))) (by omega) ⟨rfl, trivial⟩ Cv.p ?_
  rintro i y τ hi
  refine WP.seq ?_
  refine WP.seq ?_
  refine WP.region ?_
  refine RG.pv rfl (PV.mvI (.inl rfl) rfl) ?_
  refine RG.pv rfl (PV.move (v := cv) rfl rfl) ?_
  refine RG.pv rfl (PV.len (v := cv) rfl Try.underlying34 rfl (SlF.r (Rs.g (L := []) hcode))) ?_
  refine RG.pv rfl (PV.lss rfl rfl rfl) ?_
  refine RG.nil ?_
  -- STOP: cond
  refine WP.cond rfl (fun h2 => ?_) (fun h2 => ?_)
  · have h2 := of_decide_eq_true h2
    refine WP.skip ?_
    refine WP.seq ?_
    refine WP.block ?_
    refine WP.regionHD [.b b15] (.q 0 (.q 1 (.q 2 (.q 3 (.q 6 (.q 7 (.q 8 (.q 9 (.q 10 (.l 4 (.q 5 (.q 11 (.q 12 (.q 13 (.q 14 (.l 15 Sch.nil)))))))))))))))) (by kernel_rfl) (by kernel_rfl) (by kernel_rfl) rfl ?_
    refine RH.pv rfl (fun _ _ _ _ h => h) (Gh.le_refl _) PickC.pick rfl (PV.mvP (.inl rfl) rfl) ?_
    refine RH.pv rfl (fun _ _ _ _ h => h) (Gh.le_refl _) PickC.pick rfl (PV.mvP (.inl rfl) rfl) ?_
    refine RH.pv rfl (fun _ _ _ _ h => h) (Gh.le_refl _) PickC.pick rfl (PV.nilc rfl rfl) ?_
    refine RH.pv rfl (fun _ _ _ _ h => h) (Gh.le_refl _) PickC.pick rfl (PV.field rfl Fo121_2 rfl) ?_
    refine RH.pv rfl (fun _ _ _ _ h => h) (Gh.le_refl _) PickC.pick rfl (PV.move (v := cv) rfl rfl) ?_
    refine RH.pv rfl (fun _ _ _ _ h => h) (Gh.le_refl _) PickC.pick rfl (PV.mvI (.inl rfl) rfl) ?_
    refine RH.pv rfl (fun _ _ _ _ h => h) (Gh.le_refl _) PickC.pick rfl (PV.idxS (v := cv) rfl Is34 rfl (SlF.r (Rs.g (L := []) hcode)) rfl rfl (by omega)) ?_
    refine RH.pv rfl (fun _ _ _ _ h => h) (Gh.le_refl _) PickC.pick rfl (PV.loadE1 rfl Sc5 rfl rfl (El.r (Rs.g (L := []) hcode) (getG (by omega))) rfl) ?_
    refine RH.pv rfl (fun _ _ _ _ h => h) (Gh.le_refl _) PickC.pick rfl (PV.conv rfl ⟨_, Try.underlying5⟩ Try.underlying57 rfl rfl) ?_
    refine RH.ot rfl rfl (OT.pv (PV.load1 rfl Sc57 rfl (Rd.blk rfl)) ⟨Gh.le_refl _, PickC.pick, ?_⟩)
    refine RH.pv rfl (fun _ _ _ _ h => h) (Gh.le_refl _) PickC.pick rfl (PV.mulW rfl rfl rfl) ?_
    refine RH.pv rfl (fun _ _ _ _ h => h) (Gh.le_refl _) PickC.pick rfl (PV.addW rfl rfl rfl) ?_
    refine RH.pv rfl (fun _ _ _ _ h => h) (Gh.le_refl _) PickC.pick rfl (PV.addW rfl rfl rfl) ?_
    refine RH.pv rfl (fun _ _ _ _ h => h) (Gh.le_refl _) PickC.pick rfl (PV.nilc rfl rfl) ?_
    refine RH.pv rfl (fun _ _ _ _ h => h) (Gh.le_refl _) PickC.pick rfl (PV.field rfl Fo121_2 rfl) ?_
    refine RH.ot rfl rfl (OT.storeB (vs := [.int .u64 _]) (cs' := [_, _, _]) rfl Sz57 rfl rfl (Cl.c rfl) rfl (OneC.c rfl) rfl rfl ⟨Gh.le_refl _, PickC.pick, ?_⟩)
    refine RH.nil ?_
    refine WP.region ?_
    refine RG.pv rfl (PV.mvI (.inl rfl) rfl) ?_
    refine RG.pv rfl (PV.add rfl rfl rfl (by omega)) ?_
    refine RG.pv rfl (PV.mvI (.inr rfl) rfl) ?_
    refine RG.nil ?_
  -- STOP: loopend
    exact ⟨rfl, i + 1, (IntKind.u64.wrap (IntKind.u64.wrap (IntKind.u64.wrap (y * 1099511628211) + IntKind.u64.wrap ((gd bs i).toNat : Int)) + 3)), (by omega), ⟨rfl, trivial⟩, ⟨rfl, rfl, trivial⟩, Cv.p, by omega⟩
  · refine WP.exit ?_
    refine WP.seq ?_
    refine WP.region ?_
    refine RG.pv rfl (PV.mvP (.inl rfl) rfl) ?_
    refine RG.pv rfl (PV.mvP (.inr rfl) rfl) ?_
    refine RG.nil ?_
    refine WP.ret ?_
  -- STOP: ret
    exact ⟨_, _, ResV.one rfl rfl, (Cv.dice (by omega)), k b15⟩
def regHas (xs : List Rect) (x y : Int) : Bool := isReg xs && cellB (bits xs) x y
theorem hasI_cell {D : List Bool} {x y : Int} : hasI D x y = cellB D x y := by
  rw [hasI, cellB]
  congr 1
  rw [Bool.eq_iff_iff]
  simp only [within, Bool.and_eq_true, decide_eq_true_eq]; omega
theorem regHas_s {v : Value} {xs : List Rect} {x y : Int} (h1 : Rs G L rectT v xs) (hr : isReg xs = true) (k : R (.bool (cellB (bits xs) x y)) G L) : CallT Try.prog 44 #[v, vi x, vi y] G L R := by
  rw [← hasI_cell] at k
  refine CallT.enter (args := _) Try.func44 rfl rfl (by kernel_rfl) rfl ?_
  refine WP.seq ?_
  refine WP.region ?_
  refine RG.pv rfl (PV.mvB (.inr rfl) rfl) ?_
  refine RG.nil ?_
  refine WP.seq ?_
  refine WP.region ?_
  refine RG.pv rfl (PV.move (v := v) rfl rfl) ?_
  refine RG.callF (vs := [v]) rfl rfl En83 rfl (l03Ok_s (Rs.up h1) ?_)
  refine RG.pv rfl (PV.mvB (.inl rfl) rfl) ?_
  refine RG.spl (t := 9) rfl (fun g1 => ?_) (fun g1 => ?_)
  -- STOP: split
  · refine RG.take rfl rfl rfl g1 ?_
    refine RG.pv rfl (PV.move (v := v) rfl rfl) ?_
    refine RG.take rfl rfl rfl g1 ?_
    refine RG.callF (vs := [v]) rfl rfl En70 rfl (l03Bits_s (Rs.up h1) (fun i hi => valid_get (isReg_valid (by assumption)) hi) (fun v11 => ?_))
    refine RG.take rfl rfl rfl g1 ?_
    refine RG.pv rfl (PV.mvI (.inl rfl) rfl) ?_
    refine RG.take rfl rfl rfl g1 ?_
    refine RG.pv rfl (PV.mvI (.inl rfl) rfl) ?_
    refine RG.take rfl rfl rfl g1 ?_
    refine RG.callF (vs := [v11, _, _]) rfl rfl En104 rfl (l03Has_s Rs.o (bits_length _) ?_)
    refine RG.pv rfl (PV.pickT rfl rfl g1 rfl) ?_
    refine RG.pv rfl (PV.mvB (.inr rfl) rfl) ?_
    refine RG.nil ?_
    refine WP.ret ?_
  -- STOP: ret
    exact ⟨_, _, ResV.one rfl rfl, Cv.p, k⟩
  · exfalso
    rw [hr] at g1; cases g1
theorem w9Cell_s {b : Nat} {cv v : Value} {xs : List Rect} {bs : List UInt8} (hcode : SL G byteT cv bs) (h1 : Rs G L rectT v xs) (hr : isReg xs = true) (k : ∀ p : Pt, -40 ≤ p.x ∧ p.x ≤ 39 ∧ -40 ≤ p.y ∧ p.y ≤ 39 → R (vpt p) G (dice b cv :: L)) : CallT Try.prog 43 #[.pointer (some ⟨b, 0, none⟩), v] G (dice b cv :: L) R := by
  have hl := isReg_len hr
  have h1 : Rs G (dice b cv :: L) rectT v xs := h1.up
  refine CallT.enter (args := _) Try.func43 rfl rfl (by kernel_rfl) rfl ?_
  refine WP.seq ?_
  refine WP.region ?_
  refine RG.ot rfl (OT.alloc rfl Zr64 fun b4 => ?_)
  refine RG.nil ?_
  refine WP.seq ?_
  refine WP.seq ?_
  refine WP.region ?_
  refine RG.pv rfl (PV.move (v := v) rfl rfl) ?_
  refine RG.pv rfl (PV.len (v := v) rfl Try.underlying24 rfl (SlF.r h1)) ?_
  refine RG.pv rfl (PV.eql rfl rfl rfl) ?_
  refine RG.pv rfl (PV.mvB (.inl rfl) rfl) ?_
  refine RG.spl (t := 9) rfl (fun g1 => ?_) (fun g1 => ?_)
  -- STOP: split
  · refine RG.skip rfl rfl rfl (gneF g1) ?_
    refine RG.skip rfl rfl rfl (gneF g1) ?_
    refine RG.skip rfl rfl rfl (gneF g1) ?_
    refine RG.pv rfl (PV.pickT rfl rfl g1 rfl) ?_
    refine RG.nil ?_
  -- STOP: cond
    refine WP.cond rfl (fun h2 => ?_) (fun h2 => ?_)
    · refine WP.seq ?_
      refine WP.region ?_
      refine RG.pv rfl (PV.move rfl rfl) ?_
      refine RG.callF (vs := [_, _]) rfl rfl En103 rfl (CallT.exC (dice b cv) (below_s hcode (by omega) (fun w15 hw15 => ?_)))
      refine RG.pv rfl (PV.sub rfl rfl rfl (by omega)) ?_
      refine RG.pv rfl (PV.move rfl rfl) ?_
      refine RG.callF (vs := [_, _]) rfl rfl En103 rfl (CallT.exC (dice b cv) (below_s hcode (by omega) (fun w18 hw18 => ?_)))
      refine RG.pv rfl (PV.sub rfl rfl rfl (by omega)) ?_
      refine RG.pv rfl (PV.build (vs := [(0, [vi _]), (1, [vi _])]) (out := [_, _]) rfl Zr64 Pl64 ⟨rfl, (Cl.c rfl), ⟨rfl, (Cl.c rfl), trivial⟩⟩ rfl) ?_
      refine RG.ot rfl (OT.storeW (vs := [vi _, vi _]) rfl Sz64 rfl rfl (Cl.c rfl) rfl rfl (OneC.c rfl) ?_)
      refine RG.nil ?_
      refine WP.ret ?_
  -- STOP: ret
      exact ⟨_, _, ResV.one rfl (RV1.cell rfl Ag64 rfl), Cv.p, k ⟨w15 - 40, w18 - 40⟩ ⟨by simp only; omega, by simp only; omega, by simp only; omega, by simp only; omega⟩⟩
    · skip
      exfalso
      cases h2
  · have g2 := of_decide_eq_false g1
    refine RG.take rfl rfl rfl g1 ?_
    refine RG.pv rfl (PV.move rfl rfl) ?_
    refine RG.take rfl rfl rfl g1 ?_
    refine RG.callF (vs := [_, _]) rfl rfl En103 rfl (CallT.exC (dice b cv) (below_s hcode (by omega) (fun w11 hw11 => ?_)))
    refine RG.take rfl rfl rfl g1 ?_
    refine RG.pv rfl (PV.eql rfl rfl rfl) ?_
    refine RG.pv rfl (PV.pickE rfl rfl g1 rfl) ?_
    refine RG.nil ?_
  -- STOP: cond
    refine WP.cond rfl (fun h2 => ?_) (fun h2 => ?_)
    · refine WP.seq ?_
      refine WP.region ?_
      refine RG.pv rfl (PV.move rfl rfl) ?_
      refine RG.callF (vs := [_, _]) rfl rfl En103 rfl (CallT.exC (dice b cv) (below_s hcode (by omega) (fun w15 hw15 => ?_)))
      refine RG.pv rfl (PV.sub rfl rfl rfl (by omega)) ?_
      refine RG.pv rfl (PV.move rfl rfl) ?_
      refine RG.callF (vs := [_, _]) rfl rfl En103 rfl (CallT.exC (dice b cv) (below_s hcode (by omega) (fun w18 hw18 => ?_)))
      refine RG.pv rfl (PV.sub rfl rfl rfl (by omega)) ?_
      refine RG.pv rfl (PV.build (vs := [(0, [vi _]), (1, [vi _])]) (out := [_, _]) rfl Zr64 Pl64 ⟨rfl, (Cl.c rfl), ⟨rfl, (Cl.c rfl), trivial⟩⟩ rfl) ?_
      refine RG.ot rfl (OT.storeW (vs := [vi _, vi _]) rfl Sz64 rfl rfl (Cl.c rfl) rfl rfl (OneC.c rfl) ?_)
      refine RG.nil ?_
      refine WP.ret ?_
  -- STOP: ret
      exact ⟨_, _, ResV.one rfl (RV1.cell rfl Ag64 rfl), Cv.p, k ⟨w15 - 40, w18 - 40⟩ ⟨by simp only; omega, by simp only; omega, by simp only; omega, by simp only; omega⟩⟩
    · have hvr : ∀ i, i < xs.length → validRect (gd xs i) = true := fun i hi => valid_get (isReg_valid hr) hi
      refine WP.skip ?_
      refine WP.cut2 [0, 4] (fun (i : Nat) (b7 : Nat) => i < xs.length) (fun (i : Nat) (b7 : Nat) => [(5, .pointer (some ⟨b7, 0, none⟩))]) (fun (i : Nat) (b7 : Nat) => blk b7 81 (rectT.enc (gd xs i)) :: blk b4 64 [vi 0, vi 0] :: dice b cv :: L) ?_ ?_
      refine WP.region ?_
      refine RG.pv rfl (PV.move (v := v) rfl rfl) ?_
      refine RG.pv rfl (PV.move rfl rfl) ?_
      refine RG.pv rfl (PV.move (v := v) rfl rfl) ?_
      refine RG.pv rfl (PV.len (v := v) rfl Try.underlying24 rfl (SlF.r h1)) ?_
      refine RG.callF (vs := [_, _]) rfl rfl En103 rfl (CallT.exC (dice b cv) (below_s hcode (by omega) (fun w25 hw25 => ?_)))
      refine RG.pv rfl (PV.idxS (j := w25.toNat) (v := v) rfl Is24 rfl (SlF.r h1) rfl (by omega) (by omega)) ?_
      refine RG.pv rfl (PV.loadE rfl Ag81 rfl rfl (El.r h1 (getG (by omega)))) ?_
      refine RG.ot rfl (OT.alloc rfl Zr81 fun b5 => ?_)
      refine RG.ot rfl (OT.storeW (vs := [vi _, vi _, vi _, vi _]) rfl Sz81 rfl rfl (Cl.c rfl) rfl rfl (OneC.c rfl) ?_)
      refine RG.nil ?_
  -- STOP: cutend
      · exact ⟨rfl, w25.toNat, b5, (by omega), ⟨rfl, trivial⟩, ⟨rfl, rfl, trivial⟩, Cv.p⟩
      rintro i b7 τ1 hi
      obtain ⟨q1, q2, q3, q4, q5, q6⟩ := validR_iff.1 (hvr i hi)
      refine WP.seq ?_
      refine WP.regionHD [.b b4] (.q 0 (.q 1 (.q 2 (.q 3 (.q 4 (.q 5 (.q 6 (.q 7 (.q 8 (.q 14 (.q 15 (.q 16 (.q 17 (.q 18 (.q 19 (.q 20 (.q 21 (.q 22 (.l 9 (.q 10 (.q 11 (.q 12 (.q 13 (.l 23 (.q 24 (.q 25 (.q 26 (.q 27 (.q 28 (.l 29 Sch.nil)))))))))))))))))))))))))))))) (by kernel_rfl) (by kernel_rfl) (by kernel_rfl) rfl ?_
      refine RH.pv rfl (fun _ _ _ _ h => h) (Gh.le_refl _) PickC.pick rfl (PV.field rfl Fo81_0 rfl) ?_
      refine RH.pv rfl (fun _ _ _ _ h => h) (Gh.le_refl _) PickC.pick rfl (PV.load1 rfl Sc2 rfl (Rd.blk rfl)) ?_
      refine RH.pv rfl (fun _ _ _ _ h => h) (Gh.le_refl _) PickC.pick rfl (PV.move rfl rfl) ?_
      refine RH.pv rfl (fun _ _ _ _ h => h) (Gh.le_refl _) PickC.pick rfl (PV.field rfl Fo81_2 rfl) ?_
      refine RH.pv rfl (fun _ _ _ _ h => h) (Gh.le_refl _) PickC.pick rfl (PV.load1 rfl Sc2 rfl (Rd.blk rfl)) ?_
      refine RH.pv rfl (fun _ _ _ _ h => h) (Gh.le_refl _) PickC.pick rfl (PV.field rfl Fo81_0 rfl) ?_
      refine RH.pv rfl (fun _ _ _ _ h => h) (Gh.le_refl _) PickC.pick rfl (PV.load1 rfl Sc2 rfl (Rd.blk rfl)) ?_
      refine RH.pv rfl (fun _ _ _ _ h => h) (Gh.le_refl _) PickC.pick rfl (PV.sub rfl rfl rfl (by omega)) ?_
      refine RH.pv rfl (fun _ _ _ _ h => h) (Gh.le_refl _) PickC.pick rfl (PV.add rfl rfl rfl (by omega)) ?_
      refine RH.pv rfl (fun _ _ _ _ h => h) (Gh.le_refl _) PickC.pick rfl (PV.field rfl Fo81_1 rfl) ?_
      refine RH.pv rfl (fun _ _ _ _ h => h) (Gh.le_refl _) PickC.pick rfl (PV.load1 rfl Sc2 rfl (Rd.blk rfl)) ?_
      refine RH.pv rfl (fun _ _ _ _ h => h) (Gh.le_refl _) PickC.pick rfl (PV.move rfl rfl) ?_
      refine RH.pv rfl (fun _ _ _ _ h => h) (Gh.le_refl _) PickC.pick rfl (PV.field rfl Fo81_3 rfl) ?_
      refine RH.pv rfl (fun _ _ _ _ h => h) (Gh.le_refl _) PickC.pick rfl (PV.load1 rfl Sc2 rfl (Rd.blk rfl)) ?_
      refine RH.pv rfl (fun _ _ _ _ h => h) (Gh.le_refl _) PickC.pick rfl (PV.field rfl Fo81_1 rfl) ?_
      refine RH.pv rfl (fun _ _ _ _ h => h) (Gh.le_refl _) PickC.pick rfl (PV.load1 rfl Sc2 rfl (Rd.blk rfl)) ?_
      refine RH.pv rfl (fun _ _ _ _ h => h) (Gh.le_refl _) PickC.pick rfl (PV.sub rfl rfl rfl (by omega)) ?_
      refine RH.pv rfl (fun _ _ _ _ h => h) (Gh.le_refl _) PickC.pick rfl (PV.add rfl rfl rfl (by omega)) ?_
      refine RH.ot rfl rfl (OT.callF (vs := [_, _]) rfl En103 rfl (CallT.exC (dice b cv) (below_s hcode (by omega) (fun w37 hw37 => ⟨Gh.le_refl _, PickC.pick, ?_⟩))))
      refine RH.pv rfl (fun _ _ _ _ h => h) (Gh.le_refl _) PickC.pick rfl (PV.add rfl rfl rfl (by omega)) ?_
      refine RH.pv rfl (fun _ _ _ _ h => h) (Gh.le_refl _) PickC.pick rfl (PV.sub rfl rfl rfl (by omega)) ?_
      refine RH.pv rfl (fun _ _ _ _ h => h) (Gh.le_refl _) PickC.pick rfl (PV.min2 rfl rfl rfl) ?_
      refine RH.pv rfl (fun _ _ _ _ h => h) (Gh.le_refl _) PickC.pick rfl (PV.max2 rfl rfl rfl) ?_
      refine RH.ot rfl rfl (OT.callF (vs := [_, _]) rfl En103 rfl (CallT.exC (dice b cv) (below_s hcode (by omega) (fun w51 hw51 => ⟨Gh.le_refl _, PickC.pick, ?_⟩))))
      refine RH.pv rfl (fun _ _ _ _ h => h) (Gh.le_refl _) PickC.pick rfl (PV.add rfl rfl rfl (by omega)) ?_
      refine RH.pv rfl (fun _ _ _ _ h => h) (Gh.le_refl _) PickC.pick rfl (PV.sub rfl rfl rfl (by omega)) ?_
      refine RH.pv rfl (fun _ _ _ _ h => h) (Gh.le_refl _) PickC.pick rfl (PV.min2 rfl rfl rfl) ?_
      refine RH.pv rfl (fun _ _ _ _ h => h) (Gh.le_refl _) PickC.pick rfl (PV.max2 rfl rfl rfl) ?_
      refine RH.pv rfl (fun _ _ _ _ h => h) (Gh.le_refl _) PickC.pick rfl (PV.build (vs := [(0, [vi _]), (1, [vi _])]) (out := [_, _]) rfl Zr64 Pl64 ⟨rfl, (Cl.c rfl), ⟨rfl, (Cl.c rfl), trivial⟩⟩ rfl) ?_
      refine RH.ot rfl rfl (OT.storeW (vs := [vi _, vi _]) rfl Sz64 rfl rfl (Cl.c rfl) rfl rfl (OneC.c rfl) ⟨Gh.le_refl _, PickC.pick, ?_⟩)
      refine RH.nil ?_
      refine WP.ret ?_
  -- STOP: ret
      exact ⟨_, _, ResV.one rfl (RV1.cell rfl Ag64 rfl), Cv.p, k ⟨max (-40) (min 39 ((gd xs i).x0 + w37 - 2)), max (-40) (min 39 ((gd xs i).y0 + w51 - 2))⟩ ⟨by simp only; omega, by simp only; omega, by simp only; omega, by simp only; omega⟩⟩
theorem areConn_c {v : Value} {xs : List (Sl Rect)} {n m : Int} {p q : Pt} (h1 : Rs G L slT v xs) (hd : RsE G L rectT xs) (h0 : netE (er xs) = 0) (k : R (.bool (connC (er xs) n p.x p.y m q.x q.y)) G L) : CallT Try.prog 45 #[v, vi n, vpt p, vi m, vpt q] G L R := by
  refine CallT.enter (args := _) Try.func45 rfl rfl (by kernel_rfl) rfl ?_
  refine WP.seq ?_
  refine WP.region ?_
  refine RG.ot rfl (OT.box (cs := ptT.enc p) rfl rfl rfl fun b7 => ?_)
  refine RG.ot rfl (OT.box (cs := ptT.enc q) rfl rfl rfl fun b9 => ?_)
  refine RG.pv rfl (PV.mvB (.inr rfl) rfl) ?_
  refine RG.nil ?_
  refine WP.seq ?_
  refine WP.region ?_
  refine RG.pv rfl (PV.move (v := v) rfl rfl) ?_
  refine RG.callF (vs := [v]) rfl rfl En41 rfl (nets_i (Rs.up h1) hd.up (fun w16 zsw16 hew16 => ?_))
  refine RG.pv rfl (PV.move (v := .tuple _) rfl rfl) ?_
  refine RG.pv rfl (PV.ext (v := w16) rfl rfl rfl) ?_
  refine RG.pv rfl (PV.ext rfl rfl rfl) ?_
  refine RG.pv rfl (PV.asg (v := w16) rfl rfl) ?_
  refine RG.pv rfl (PV.mvI (.inr rfl) rfl) ?_
  refine RG.nil ?_
  refine WP.seq ?_
  refine WP.seq ?_
  refine WP.region ?_
  refine RG.pv rfl (PV.mvI (.inl rfl) rfl) ?_
  refine RG.pv rfl (PV.neq rfl rfl rfl) ?_
  refine RG.nil ?_
  -- STOP: cond
  refine WP.cond rfl (fun h2 => ?_) (fun h2 => ?_)
  · skip
    exfalso
    simp [h0] at h2
  · have e : (er (nps zsw16)).map erPs = netL (er xs) := by rw [hew16, netR, if_pos h0]
    rw [connC, ← netAt_eq, ← netAt_eq, ← e] at k
    refine WP.skip ?_
    refine WP.seq ?_
    refine WP.region ?_
    refine RG.pv rfl (PV.move (v := w16) rfl rfl) ?_
    refine RG.pv rfl (PV.mvI (.inl rfl) rfl) ?_
    refine RG.pv rfl (PV.loadW rfl Ag64 rfl rfl) ?_
    refine RG.callF (vs := [w16, _, _]) rfl rfl En102 rfl (netAt_s Rs.o RsE.o (fun i hi => RsE.flat hi) ?_)
    refine RG.pv rfl (PV.mvI (.inr rfl) rfl) ?_
    refine RG.nil ?_
    refine WP.seq ?_
    refine WP.region ?_
    refine RG.pv rfl (PV.mvI (.inl rfl) rfl) ?_
    refine RG.pv rfl (PV.geq rfl rfl rfl) ?_
    refine RG.pv rfl (PV.mvB (.inl rfl) rfl) ?_
    refine RG.gs rfl rfl rfl (fun hp => (PV.mvI (.inl rfl) rfl)) ?_
    refine RG.gs rfl rfl rfl (fun hp => (PV.move (v := w16) rfl rfl)) ?_
    refine RG.gs rfl rfl rfl (fun hp => (PV.mvI (.inl rfl) rfl)) ?_
    refine RG.gs rfl rfl rfl (fun hp => (PV.loadW rfl Ag64 rfl rfl)) ?_
    refine RG.gsC rfl rfl rfl rfl En102 (fun hp => ⟨_, (acons (gs_t hp) (acons (gs_t hp) (acons (gs_t hp) anil))), netAt_s Rs.o RsE.o (fun i hi => RsE.flat hi) ⟨rfl, rfl, rfl⟩⟩) ?_
    refine RG.gs rfl rfl rfl (fun hp => (PV.eql rfl (gs_t hp) (gs_t hp))) ?_
    refine RG.pv rfl (PV.pickA rfl rfl (fun hq => gs_t (geqT hq)) rfl) ?_
    refine RG.pv rfl (PV.mvB (.inr rfl) rfl) ?_
    refine RG.nil ?_
    refine WP.ret ?_
  -- STOP: ret
    exact ⟨_, _, ResV.one rfl rfl, Cv.p, k⟩
theorem drawn_hd3 {e e' : TypeId} {v0 : Value} {xs ys : List (Sl Rect)} (h : ∀ s ∈ xs, s ∈ ys) : RsE G [osl e' slT v0 ys, bagS e rectT ys] rectT xs := fun _ hi => Rs.memB (h _ (by rw [gd_eq hi]; exact List.getElem_mem _))
theorem law_FnJoined {cv : Value} {bs : List UInt8} (hcode : SL G byteT cv bs) (k : R (.bool true) G L) : CallT Try.prog 7 #[cv] G L R := by
  refine CallT.enter (args := _) Try.func7 rfl rfl (by kernel_rfl) rfl ?_
  refine WP.seq ?_
  refine WP.region ?_
  refine RG.pv rfl (PV.mvB (.inr rfl) rfl) ?_
  refine RG.nil ?_
  refine WP.seq ?_
  refine WP.seq ?_
  refine WP.region ?_
  refine RG.pv rfl (PV.move (v := cv) rfl rfl) ?_
  refine RG.callF (vs := [cv]) rfl rfl En24 rfl (big_s hcode ?_)
  refine RG.nil ?_
  -- STOP: cond
  refine WP.cond rfl (fun h1 => ?_) (fun h1 => ?_)
  · refine WP.seq ?_
    refine WP.region ?_
    refine RG.pv rfl (PV.mvB (.inr rfl) rfl) ?_
    refine RG.nil ?_
    refine WP.ret ?_
  -- STOP: ret
    exact ⟨_, _, ResV.one rfl rfl, Cv.p, k⟩
  · refine WP.skip ?_
    refine WP.seq ?_
    refine WP.region ?_
    refine RG.pv rfl (PV.move (v := cv) rfl rfl) ?_
    refine RG.callF (vs := [cv, _]) rfl rfl En39 rfl (roll_s hcode (fun b => ?_))
    refine RG.pv rfl (PV.asg rfl rfl) ?_
    refine RG.nil ?_
    refine WP.seq ?_
    refine WP.region ?_
    refine RG.pv rfl (PV.move (v := cv) rfl rfl) ?_
    refine RG.callF (vs := [cv]) rfl rfl En40 rfl (drawNets_s hcode (fun v22 v0 xs ys hxs hmem hxl => ?_))
    refine RG.pv rfl (PV.asg (v := v22) rfl rfl) ?_
    refine RG.nil ?_
    refine WP.seq ?_
    refine WP.seq ?_
    refine WP.region ?_
    refine RG.pv rfl (PV.move (v := v22) rfl rfl) ?_
    refine RG.callF (vs := [v22]) rfl rfl En41 rfl (nets_i (Rs.up hxs) (drawn_hd3 (v0 := v0) (e := 81) (e' := 24) hmem).up (fun w25 zsw25 hew25 => ?_))
    refine RG.pv rfl (PV.move (v := .tuple _) rfl rfl) ?_
    refine RG.pv rfl (PV.ext (v := w25) rfl rfl rfl) ?_
    refine RG.pv rfl (PV.ext rfl rfl rfl) ?_
    refine RG.pv rfl (PV.asg (v := w25) rfl rfl) ?_
    refine RG.pv rfl (PV.mvI (.inr rfl) rfl) ?_
    refine RG.nil ?_
    refine WP.seq ?_
    refine WP.region ?_
    refine RG.pv rfl (PV.mvI (.inl rfl) rfl) ?_
    refine RG.pv rfl (PV.neq rfl rfl rfl) ?_
    refine RG.nil ?_
  -- STOP: cond
    refine WP.cond rfl (fun h2 => ?_) (fun h2 => ?_)
    · have h3 : netE (er xs) ≠ 0 := by simpa using h2
      have e : decide (atN (er xs) 3 0 0 = -1) = true := by rw [atN, if_neg h3]; rfl
      rw [← e] at k
      refine WP.seq ?_
      refine WP.region ?_
      refine RG.pv rfl (PV.move (v := v22) rfl rfl) ?_
      refine RG.pv rfl (PV.build (vs := []) (out := [_, _]) rfl Zr64 Pl64 trivial rfl) ?_
      refine RG.callF (vs := [v22, _, _]) rfl rfl En42 rfl (netAt_i (q := ⟨0, 0⟩) (Rs.up hxs) (drawn_hd3 (v0 := v0) (e := 81) (e' := 24) hmem).up ?_)
      refine RG.pv rfl (PV.eql rfl rfl rfl) ?_
      refine RG.pv rfl (PV.mvB (.inr rfl) rfl) ?_
      refine RG.nil ?_
      refine WP.ret ?_
  -- STOP: ret
      exact ⟨_, _, ResV.one rfl rfl, Cv.p, k⟩
    · have h3 : netE (er xs) = 0 := by simpa using h2
      obtain ⟨hlay, -⟩ := netE_ok h3
      have hx8 : xs.length = 8 := by have := isLay_len hlay; rwa [er_len] at this
      have hdx : RsE G [osl 24 slT v0 ys, bagS 81 rectT ys] rectT xs := drawn_hd3 hmem
      have hreg : ∀ j, j < 8 → isReg (gd xs j).xs = true := fun j hj => by rw [← er_gd]; exact isLay_reg hlay hj
      have hJp : ∀ x y, cellB (bits (gd xs 3).xs) x y = true → cellB (bits (gd xs 2).xs) x y = true → cellB (bits (gd xs 1).xs) x y = true → connC (er xs) 3 x y 1 x y = true := fun x y a b c => join_poly (by rw [er_gd]; exact a) (by rw [er_gd]; exact b) (by rw [er_gd]; exact c)
      have hJd : ∀ x y, cellB (bits (gd xs 3).xs) x y = true → cellB (bits (gd xs 2).xs) x y = true → cellB (bits (gd xs 0).xs) x y = true → cellB (bits (gd xs 1).xs) x y = false → connC (er xs) 3 x y 0 x y = true := fun x y a b c d => join_diff (by rw [er_gd]; exact a) (by rw [er_gd]; exact b) (by rw [er_gd]; exact c) (by rw [er_gd]; exact d)
      have hJv : ∀ x y, cellB (bits (gd xs 4).xs) x y = true → cellB (bits (gd xs 3).xs) x y = true → cellB (bits (gd xs 5).xs) x y = true → connC (er xs) 3 x y 5 x y = true := fun x y a b c => join_via (by rw [er_gd]; exact a) (by rw [er_gd]; exact b) (by rw [er_gd]; exact c)
      have hJn : ∀ x y, cellB (bits (gd xs 3).xs) x y = true → cellB (bits (gd xs 3).xs) (x + 1) y = true → connC (er xs) 3 x y 3 (x + 1) y = true := fun x y a b => join_next (by rw [er_gd]; exact a) (by rw [er_gd]; exact b)
      refine WP.skip ?_
      refine WP.seq ?_
      refine WP.seq ?_
      refine WP.region ?_
      refine RG.pv rfl (PV.mvI (.inr rfl) rfl) ?_
      refine RG.nil ?_
      refine WP.block ?_
  -- STOP: loop
      refine WP.loop1 [3, 4] (fun (i : Nat) => i ≤ 6) (fun (i : Nat) => [(7, vi i)]) (fun (i : Nat) => dice b cv :: osl 24 slT v0 ys :: bagS 81 rectT ys :: L) (fun (i : Nat) => 6 - i) 0 (by omega) ⟨rfl, trivial⟩ Cv.p ?_
      rintro i τ hi
      refine WP.seq ?_
      refine WP.seq ?_
      refine WP.region ?_
      refine RG.pv rfl (PV.mvI (.inl rfl) rfl) ?_
      refine RG.pv rfl (PV.lss rfl rfl rfl) ?_
      refine RG.nil ?_
  -- STOP: cond
      refine WP.cond rfl (fun h4 => ?_) (fun h4 => ?_)
      · have h4 := of_decide_eq_true h4
        refine WP.skip ?_
        refine WP.seq ?_
        refine WP.block ?_
        refine WP.seq ?_
        refine WP.region ?_
        refine RG.pv rfl (PV.move rfl rfl) ?_
        refine RG.pv rfl (PV.move (v := v22) rfl rfl) ?_
        refine RG.pv rfl (PV.idxS (j := 2) (v := v22) rfl Is27 rfl (SlF.r hxs) rfl (by omega) (by omega)) ?_
        refine RG.pv rfl (PV.loadE1 rfl Sc24 rfl rfl (El.r hxs (getG (by omega))) rfl) ?_
        refine RG.callF (vs := [_, _]) rfl rfl En43 rfl (CallT.exC (dice b cv) (w9Cell_s hcode (Rs.up (hdx 2 (by omega))) (hreg 2 (by omega)) (fun p hp => ?_)))
        refine RG.ot rfl (OT.alloc rfl Zr64 fun b8 => ?_)
        refine RG.ot rfl (OT.storeW (vs := [vi _, vi _]) rfl Sz64 rfl rfl (Cl.c rfl) rfl rfl (OneC.c rfl) ?_)
        refine RG.nil ?_
        refine WP.seq ?_
        refine WP.region ?_
        refine RG.pv rfl (PV.move rfl rfl) ?_
        refine RG.pv rfl (PV.move (v := v22) rfl rfl) ?_
        refine RG.pv rfl (PV.idxS (j := 4) (v := v22) rfl Is27 rfl (SlF.r hxs) rfl (by omega) (by omega)) ?_
        refine RG.pv rfl (PV.loadE1 rfl Sc24 rfl rfl (El.r hxs (getG (by omega))) rfl) ?_
        refine RG.callF (vs := [_, _]) rfl rfl En43 rfl (CallT.exC (dice b cv) (w9Cell_s hcode (Rs.up (hdx 4 (by omega))) (hreg 4 (by omega)) (fun q hq => ?_)))
        refine RG.ot rfl (OT.alloc rfl Zr64 fun b9 => ?_)
        refine RG.ot rfl (OT.storeW (vs := [vi _, vi _]) rfl Sz64 rfl rfl (Cl.c rfl) rfl rfl (OneC.c rfl) ?_)
        refine RG.nil ?_
        refine WP.seq ?_
        refine WP.regionQ (by kernel_rfl) (by kernel_rfl) ?_
        refine RQ.pv rfl (PV.move (v := v22) rfl rfl) ?_
        refine RQ.pv rfl (PV.idxS (j := 3) (v := v22) rfl Is27 rfl (SlF.r hxs) rfl (by omega) (by omega)) ?_
        refine RQ.pv rfl (PV.loadE1 rfl Sc24 rfl rfl (El.r hxs (getG (by omega))) rfl) ?_
        refine RQ.pv rfl (PV.field rfl Fo64_0 rfl) ?_
        refine RQ.pv rfl (PV.load1 rfl Sc2 rfl (Rd.blk rfl)) ?_
        refine RQ.pv rfl (PV.field rfl Fo64_1 rfl) ?_
        refine RQ.pv rfl (PV.load1 rfl Sc2 rfl (Rd.blk rfl)) ?_
        refine RQ.callF (vs := [_, _, _]) rfl rfl En44 rfl (regHas_s (Rs.up (hdx 3 (by omega))) (hreg 3 (by omega)) ⟨rfl, rfl, rfl⟩) ?_
        refine RQ.pv rfl (PV.mvB (.inl rfl) rfl) ?_
        refine RQ.gs rfl rfl rfl (fun hp => (PV.move (v := v22) rfl rfl)) ?_
        refine RQ.gs rfl rfl rfl (fun hp => (PV.idxS (j := 2) (v := v22) rfl Is27 (gs_t hp) (SlF.r hxs) rfl (by first | omega | (simp at hp; omega)) (by first | omega | (simp at hp; omega)))) ?_
        refine RQ.gs rfl rfl rfl (fun hp => (PV.loadE1 rfl Sc24 (gs_t hp) rfl (El.r hxs (getG (by first | omega | (simp at hp; omega)))) rfl)) ?_
        refine RQ.gs rfl rfl rfl (fun hp => (PV.field rfl Fo64_0 rfl)) ?_
        refine RQ.gs rfl rfl rfl (fun hp => (PV.load1 rfl Sc2 (gs_t hp) (Rd.blk rfl))) ?_
        refine RQ.gs rfl rfl rfl (fun hp => (PV.field rfl Fo64_1 rfl)) ?_
        refine RQ.gs rfl rfl rfl (fun hp => (PV.load1 rfl Sc2 (gs_t hp) (Rd.blk rfl))) ?_
        refine RQ.gsC rfl rfl rfl rfl En44 (fun hp => ⟨_, (acons (gs_t hp) (acons (gs_t hp) (acons (gs_t hp) anil))), regHas_s (Rs.up (hdx 2 (by omega))) (hreg 2 (by omega)) ⟨rfl, rfl, rfl⟩⟩) ?_
        refine RQ.pv rfl (PV.pickA rfl rfl (fun hq => gs_t (geqT hq)) rfl) ?_
        refine RQ.pv rfl (PV.mvB (.inr rfl) rfl) ?_
        refine RQ.nil ?_
        refine WP.seq ?_
        refine WP.regionQ (by kernel_rfl) (by kernel_rfl) ?_
        refine RQ.pv rfl (PV.move (v := v22) rfl rfl) ?_
        refine RQ.pv rfl (PV.idxS (j := 1) (v := v22) rfl Is27 rfl (SlF.r hxs) rfl (by omega) (by omega)) ?_
        refine RQ.pv rfl (PV.loadE1 rfl Sc24 rfl rfl (El.r hxs (getG (by omega))) rfl) ?_
        refine RQ.pv rfl (PV.field rfl Fo64_0 rfl) ?_
        refine RQ.pv rfl (PV.load1 rfl Sc2 rfl (Rd.blk rfl)) ?_
        refine RQ.pv rfl (PV.field rfl Fo64_1 rfl) ?_
        refine RQ.pv rfl (PV.load1 rfl Sc2 rfl (Rd.blk rfl)) ?_
        refine RQ.callF (vs := [_, _, _]) rfl rfl En44 rfl (regHas_s (Rs.up (hdx 1 (by omega))) (hreg 1 (by omega)) ⟨rfl, rfl, rfl⟩) ?_
        refine RQ.pv rfl (PV.mvB (.inr rfl) rfl) ?_
        refine RQ.nil ?_
        refine WP.seq ?_
        refine WP.regionQ (by kernel_rfl) (by kernel_rfl) ?_
        refine RQ.pv rfl (PV.move (v := v22) rfl rfl) ?_
        refine RQ.pv rfl (PV.idxS (j := 0) (v := v22) rfl Is27 rfl (SlF.r hxs) rfl (by omega) (by omega)) ?_
        refine RQ.pv rfl (PV.loadE1 rfl Sc24 rfl rfl (El.r hxs (getG (by omega))) rfl) ?_
        refine RQ.pv rfl (PV.field rfl Fo64_0 rfl) ?_
        refine RQ.pv rfl (PV.load1 rfl Sc2 rfl (Rd.blk rfl)) ?_
        refine RQ.pv rfl (PV.field rfl Fo64_1 rfl) ?_
        refine RQ.pv rfl (PV.load1 rfl Sc2 rfl (Rd.blk rfl)) ?_
        refine RQ.callF (vs := [_, _, _]) rfl rfl En44 rfl (regHas_s (Rs.up (hdx 0 (by omega))) (hreg 0 (by omega)) ⟨rfl, rfl, rfl⟩) ?_
        refine RQ.pv rfl (PV.mvB (.inl rfl) rfl) ?_
        refine RQ.gs rfl rfl rfl (fun hp => (PV.mvB (.inl rfl) rfl)) ?_
        refine RQ.gs rfl rfl rfl (fun hp => (PV.not rfl (gs_t hp))) ?_
        refine RQ.pv rfl (PV.pickA rfl rfl (fun hq => gs_t (geqT hq)) rfl) ?_
        refine RQ.pv rfl (PV.mvB (.inr rfl) rfl) ?_
        refine RQ.nil ?_
        refine WP.seq ?_
        refine WP.seq ?_
        refine WP.region ?_
        refine RG.pv rfl (PV.mvB (.inl rfl) rfl) ?_
        refine RG.pv rfl (PV.mvB (.inl rfl) rfl) ?_
        refine RG.gs rfl rfl rfl (fun hp => (PV.mvB (.inl rfl) rfl)) ?_
        refine RG.pv rfl (PV.pickA rfl rfl (fun hq => gs_t (geqT hq)) rfl) ?_
        refine RG.pv rfl (PV.mvB (.inl rfl) rfl) ?_
        refine RG.gs rfl rfl rfl (fun hp => (PV.move (v := v22) rfl rfl)) ?_
        refine RG.gs rfl rfl rfl (fun hp => (PV.loadW rfl Ag64 rfl rfl)) ?_
        refine RG.gs rfl rfl rfl (fun hp => (PV.loadW rfl Ag64 rfl rfl)) ?_
        refine RG.gsC rfl rfl rfl rfl En45 (fun hp => ⟨_, (acons (gs_t hp) (acons rfl (acons (gs_t hp) (acons rfl (acons (gs_t hp) anil))))), areConn_c (Rs.up hxs) hdx.up h3 ⟨rfl, rfl, rfl⟩⟩) ?_
        refine RG.gs rfl rfl rfl (fun hp => (PV.not rfl (gs_t hp))) ?_
        refine RG.pv rfl (PV.pickA rfl rfl (fun hq => gs_t (geqT hq)) rfl) ?_
        refine RG.pv rfl (PV.mvB (.inl rfl) rfl) ?_
        refine RG.gs rfl rfl rfl (fun hp => (PV.mvB (.inl rfl) rfl)) ?_
        refine RG.gs rfl rfl rfl (fun hp => (PV.mvB (.inl rfl) (gs_t hp))) ?_
        refine RG.gs2 rfl rfl rfl (fun hp => (PV.mvB (.inl rfl) rfl)) ?_
        refine RG.gs rfl rfl rfl (fun hp => (PV.pickA rfl (gs_t hp) (fun hq => gs_t (gandT hp hq)) rfl)) ?_
        refine RG.gs rfl rfl rfl (fun hp => (PV.mvB (.inl rfl) (gs_t hp))) ?_
        refine RG.gs2 rfl rfl rfl (fun hp => (PV.move (v := v22) rfl rfl)) ?_
        refine RG.gs2 rfl rfl rfl (fun hp => (PV.loadW rfl Ag64 rfl rfl)) ?_
        refine RG.gs2 rfl rfl rfl (fun hp => (PV.loadW rfl Ag64 rfl rfl)) ?_
        refine RG.gsC2 rfl rfl rfl rfl En45 (fun hp => ⟨_, (acons (gs_t hp) (acons rfl (acons (gs_t hp) (acons rfl (acons (gs_t hp) anil))))), areConn_c (Rs.up hxs) hdx.up h3 ⟨rfl, rfl, rfl⟩⟩) ?_
        refine RG.gs2 rfl rfl rfl (fun hp => (PV.not rfl (gs_t hp))) ?_
        refine RG.gs rfl rfl rfl (fun hp => (PV.pickA rfl (gs_t hp) (fun hq => gs_t (gandT hp hq)) rfl)) ?_
        refine RG.pv rfl (PV.pickO rfl rfl rfl (fun hq => gs_t (geqF hq))) ?_
        refine RG.nil ?_
  -- STOP: cond
        refine WP.cond rfl (fun h5 => ?_) (fun h5 => ?_)
        · skip
          exfalso
          simp only [Bool.or_eq_true, Bool.and_eq_true, Bool.not_eq_true'] at h5
          rcases h5 with ⟨⟨⟨x3, x2⟩, x1⟩, xc⟩ | ⟨⟨⟨x3, x2⟩, x0, x1⟩, xc⟩
          · rw [hJp _ _ x3 x2 x1] at xc; cases xc
          · rw [hJd _ _ x3 x2 x0 x1] at xc; cases xc
        · skip
          refine WP.skip ?_
          refine WP.seq ?_
          refine WP.regionQ (by kernel_rfl) (by kernel_rfl) ?_
          refine RQ.pv rfl (PV.move (v := v22) rfl rfl) ?_
          refine RQ.pv rfl (PV.idxS (j := 4) (v := v22) rfl Is27 rfl (SlF.r hxs) rfl (by omega) (by omega)) ?_
          refine RQ.pv rfl (PV.loadE1 rfl Sc24 rfl rfl (El.r hxs (getG (by omega))) rfl) ?_
          refine RQ.pv rfl (PV.field rfl Fo64_0 rfl) ?_
          refine RQ.pv rfl (PV.load1 rfl Sc2 rfl (Rd.blk rfl)) ?_
          refine RQ.pv rfl (PV.field rfl Fo64_1 rfl) ?_
          refine RQ.pv rfl (PV.load1 rfl Sc2 rfl (Rd.blk rfl)) ?_
          refine RQ.callF (vs := [_, _, _]) rfl rfl En44 rfl (regHas_s (Rs.up (hdx 4 (by omega))) (hreg 4 (by omega)) ⟨rfl, rfl, rfl⟩) ?_
          refine RQ.pv rfl (PV.mvB (.inl rfl) rfl) ?_
          refine RQ.gs rfl rfl rfl (fun hp => (PV.move (v := v22) rfl rfl)) ?_
          refine RQ.gs rfl rfl rfl (fun hp => (PV.idxS (j := 3) (v := v22) rfl Is27 (gs_t hp) (SlF.r hxs) rfl (by first | omega | (simp at hp; omega)) (by first | omega | (simp at hp; omega)))) ?_
          refine RQ.gs rfl rfl rfl (fun hp => (PV.loadE1 rfl Sc24 (gs_t hp) rfl (El.r hxs (getG (by first | omega | (simp at hp; omega)))) rfl)) ?_
          refine RQ.gs rfl rfl rfl (fun hp => (PV.field rfl Fo64_0 rfl)) ?_
          refine RQ.gs rfl rfl rfl (fun hp => (PV.load1 rfl Sc2 (gs_t hp) (Rd.blk rfl))) ?_
          refine RQ.gs rfl rfl rfl (fun hp => (PV.field rfl Fo64_1 rfl)) ?_
          refine RQ.gs rfl rfl rfl (fun hp => (PV.load1 rfl Sc2 (gs_t hp) (Rd.blk rfl))) ?_
          refine RQ.gsC rfl rfl rfl rfl En44 (fun hp => ⟨_, (acons (gs_t hp) (acons (gs_t hp) (acons (gs_t hp) anil))), regHas_s (Rs.up (hdx 3 (by omega))) (hreg 3 (by omega)) ⟨rfl, rfl, rfl⟩⟩) ?_
          refine RQ.pv rfl (PV.pickA rfl rfl (fun hq => gs_t (geqT hq)) rfl) ?_
          refine RQ.pv rfl (PV.mvB (.inl rfl) rfl) ?_
          refine RQ.gs rfl rfl rfl (fun hp => (PV.move (v := v22) rfl rfl)) ?_
          refine RQ.gs rfl rfl rfl (fun hp => (PV.idxS (j := 5) (v := v22) rfl Is27 (gs_t hp) (SlF.r hxs) rfl (by first | omega | (simp at hp; omega)) (by first | omega | (simp at hp; omega)))) ?_
          refine RQ.gs rfl rfl rfl (fun hp => (PV.loadE1 rfl Sc24 (gs_t hp) rfl (El.r hxs (getG (by first | omega | (simp at hp; omega)))) rfl)) ?_
          refine RQ.gs rfl rfl rfl (fun hp => (PV.field rfl Fo64_0 rfl)) ?_
          refine RQ.gs rfl rfl rfl (fun hp => (PV.load1 rfl Sc2 (gs_t hp) (Rd.blk rfl))) ?_
          refine RQ.gs rfl rfl rfl (fun hp => (PV.field rfl Fo64_1 rfl)) ?_
          refine RQ.gs rfl rfl rfl (fun hp => (PV.load1 rfl Sc2 (gs_t hp) (Rd.blk rfl))) ?_
          refine RQ.gsC rfl rfl rfl rfl En44 (fun hp => ⟨_, (acons (gs_t hp) (acons (gs_t hp) (acons (gs_t hp) anil))), regHas_s (Rs.up (hdx 5 (by omega))) (hreg 5 (by omega)) ⟨rfl, rfl, rfl⟩⟩) ?_
          refine RQ.pv rfl (PV.pickA rfl rfl (fun hq => gs_t (geqT hq)) rfl) ?_
          refine RQ.pv rfl (PV.mvB (.inr rfl) rfl) ?_
          refine RQ.nil ?_
          refine WP.seq ?_
          refine WP.seq ?_
          refine WP.region ?_
          refine RG.pv rfl (PV.mvB (.inl rfl) rfl) ?_
          refine RG.pv rfl (PV.mvB (.inl rfl) rfl) ?_
          refine RG.gs rfl rfl rfl (fun hp => (PV.move (v := v22) rfl rfl)) ?_
          refine RG.gs rfl rfl rfl (fun hp => (PV.loadW rfl Ag64 rfl rfl)) ?_
          refine RG.gs rfl rfl rfl (fun hp => (PV.loadW rfl Ag64 rfl rfl)) ?_
          refine RG.gsC rfl rfl rfl rfl En45 (fun hp => ⟨_, (acons (gs_t hp) (acons rfl (acons (gs_t hp) (acons rfl (acons (gs_t hp) anil))))), areConn_c (Rs.up hxs) hdx.up h3 ⟨rfl, rfl, rfl⟩⟩) ?_
          refine RG.gs rfl rfl rfl (fun hp => (PV.not rfl (gs_t hp))) ?_
          refine RG.pv rfl (PV.pickA rfl rfl (fun hq => gs_t (geqT hq)) rfl) ?_
          refine RG.nil ?_
  -- STOP: cond
          refine WP.cond rfl (fun h6 => ?_) (fun h6 => ?_)
          · skip
            exfalso
            simp only [Bool.or_eq_true, Bool.and_eq_true, Bool.not_eq_true'] at h6
            obtain ⟨⟨⟨x4, x3⟩, x5⟩, xc⟩ := h6
            rw [hJv _ _ x4 x3 x5] at xc; cases xc
          · skip
            refine WP.skip ?_
            refine WP.seq ?_
            refine WP.region ?_
            refine RG.pv rfl (PV.move rfl rfl) ?_
            refine RG.pv rfl (PV.move (v := v22) rfl rfl) ?_
            refine RG.pv rfl (PV.idxS (j := 3) (v := v22) rfl Is27 rfl (SlF.r hxs) rfl (by omega) (by omega)) ?_
            refine RG.pv rfl (PV.loadE1 rfl Sc24 rfl rfl (El.r hxs (getG (by omega))) rfl) ?_
            refine RG.callF (vs := [_, _]) rfl rfl En43 rfl (CallT.exC (dice b cv) (w9Cell_s hcode (Rs.up (hdx 3 (by omega))) (hreg 3 (by omega)) (fun r hr => ?_)))
            refine RG.ot rfl (OT.alloc rfl Zr64 fun b14 => ?_)
            refine RG.ot rfl (OT.storeW (vs := [vi _, vi _]) rfl Sz64 rfl rfl (Cl.c rfl) rfl rfl (OneC.c rfl) ?_)
            refine RG.nil ?_
            refine WP.seq ?_
            refine WP.region ?_
            refine RG.pv rfl (PV.field rfl Fo64_0 rfl) ?_
            refine RG.pv rfl (PV.load1 rfl Sc2 rfl (Rd.blk rfl)) ?_
            refine RG.pv rfl (PV.add rfl rfl rfl (by omega)) ?_
            refine RG.pv rfl (PV.field rfl Fo64_1 rfl) ?_
            refine RG.pv rfl (PV.load1 rfl Sc2 rfl (Rd.blk rfl)) ?_
            refine RG.pv rfl (PV.build (vs := [(0, [vi _]), (1, [vi _])]) (out := [_, _]) rfl Zr64 Pl64 ⟨rfl, (Cl.c rfl), ⟨rfl, (Cl.c rfl), trivial⟩⟩ rfl) ?_
            refine RG.ot rfl (OT.alloc rfl Zr64 fun b15 => ?_)
            refine RG.ot rfl (OT.storeW (vs := [vi _, vi _]) rfl Sz64 rfl rfl (Cl.c rfl) rfl rfl (OneC.c rfl) ?_)
            refine RG.nil ?_
            refine WP.seq ?_
            refine WP.regionQ (by kernel_rfl) (by kernel_rfl) ?_
            refine RQ.pv rfl (PV.move (v := v22) rfl rfl) ?_
            refine RQ.pv rfl (PV.idxS (j := 3) (v := v22) rfl Is27 rfl (SlF.r hxs) rfl (by omega) (by omega)) ?_
            refine RQ.pv rfl (PV.loadE1 rfl Sc24 rfl rfl (El.r hxs (getG (by omega))) rfl) ?_
            refine RQ.pv rfl (PV.field rfl Fo64_0 rfl) ?_
            refine RQ.pv rfl (PV.load1 rfl Sc2 rfl (Rd.blk rfl)) ?_
            refine RQ.pv rfl (PV.field rfl Fo64_1 rfl) ?_
            refine RQ.pv rfl (PV.load1 rfl Sc2 rfl (Rd.blk rfl)) ?_
            refine RQ.callF (vs := [_, _, _]) rfl rfl En44 rfl (regHas_s (Rs.up (hdx 3 (by omega))) (hreg 3 (by omega)) ⟨rfl, rfl, rfl⟩) ?_
            refine RQ.pv rfl (PV.mvB (.inl rfl) rfl) ?_
            refine RQ.gs rfl rfl rfl (fun hp => (PV.move (v := v22) rfl rfl)) ?_
            refine RQ.gs rfl rfl rfl (fun hp => (PV.idxS (j := 3) (v := v22) rfl Is27 (gs_t hp) (SlF.r hxs) rfl (by first | omega | (simp at hp; omega)) (by first | omega | (simp at hp; omega)))) ?_
            refine RQ.gs rfl rfl rfl (fun hp => (PV.loadE1 rfl Sc24 (gs_t hp) rfl (El.r hxs (getG (by first | omega | (simp at hp; omega)))) rfl)) ?_
            refine RQ.gs rfl rfl rfl (fun hp => (PV.field rfl Fo64_0 rfl)) ?_
            refine RQ.gs rfl rfl rfl (fun hp => (PV.load1 rfl Sc2 (gs_t hp) (Rd.blk rfl))) ?_
            refine RQ.gs rfl rfl rfl (fun hp => (PV.field rfl Fo64_1 rfl)) ?_
            refine RQ.gs rfl rfl rfl (fun hp => (PV.load1 rfl Sc2 (gs_t hp) (Rd.blk rfl))) ?_
            refine RQ.gsC rfl rfl rfl rfl En44 (fun hp => ⟨_, (acons (gs_t hp) (acons (gs_t hp) (acons (gs_t hp) anil))), regHas_s (Rs.up (hdx 3 (by omega))) (hreg 3 (by omega)) ⟨rfl, rfl, rfl⟩⟩) ?_
            refine RQ.pv rfl (PV.pickA rfl rfl (fun hq => gs_t (geqT hq)) rfl) ?_
            refine RQ.pv rfl (PV.mvB (.inr rfl) rfl) ?_
            refine RQ.nil ?_
            refine WP.seq ?_
            refine WP.region ?_
            refine RG.pv rfl (PV.mvB (.inl rfl) rfl) ?_
            refine RG.pv rfl (PV.mvB (.inl rfl) rfl) ?_
            refine RG.gs rfl rfl rfl (fun hp => (PV.move (v := v22) rfl rfl)) ?_
            refine RG.gs rfl rfl rfl (fun hp => (PV.loadW rfl Ag64 rfl rfl)) ?_
            refine RG.gs rfl rfl rfl (fun hp => (PV.loadW rfl Ag64 rfl rfl)) ?_
            refine RG.gsC rfl rfl rfl rfl En45 (fun hp => ⟨_, (acons (gs_t hp) (acons rfl (acons (gs_t hp) (acons rfl (acons (gs_t hp) anil))))), areConn_c (q := ⟨r.x + 1, r.y⟩) (Rs.up hxs) hdx.up h3 ⟨rfl, rfl, rfl⟩⟩) ?_
            refine RG.gs rfl rfl rfl (fun hp => (PV.not rfl (gs_t hp))) ?_
            refine RG.pv rfl (PV.pickA rfl rfl (fun hq => gs_t (geqT hq)) rfl) ?_
            refine RG.nil ?_
  -- STOP: cond
            refine WP.cond rfl (fun h7 => ?_) (fun h7 => ?_)
            · skip
              exfalso
              simp only [Bool.or_eq_true, Bool.and_eq_true, Bool.not_eq_true'] at h7
              obtain ⟨⟨x3, x3'⟩, xc⟩ := h7
              rw [hJn _ _ x3 x3'] at xc; cases xc
            · refine WP.skip ?_
              refine WP.region ?_
              refine RG.pv rfl (PV.mvI (.inl rfl) rfl) ?_
              refine RG.pv rfl (PV.add rfl rfl rfl (by omega)) ?_
              refine RG.pv rfl (PV.mvI (.inr rfl) rfl) ?_
              refine RG.nil ?_
  -- STOP: loopend
              exact ⟨rfl, i + 1, (by omega), ⟨rfl, trivial⟩, ⟨rfl, rfl, trivial⟩, Cv.p, by omega⟩
      · refine WP.exit ?_
        refine WP.seq ?_
        refine WP.region ?_
        refine RG.pv rfl (PV.mvB (.inr rfl) rfl) ?_
        refine RG.nil ?_
        refine WP.ret ?_
  -- STOP: ret
        exact ⟨_, _, ResV.one rfl rfl, Cv.p, k⟩
end Go.Proofs.Ytilccgeldnlgnaa
