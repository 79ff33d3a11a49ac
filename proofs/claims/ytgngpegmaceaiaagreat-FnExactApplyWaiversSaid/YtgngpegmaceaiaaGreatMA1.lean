/-
  The law FnExactApplyWaivers: whatever the deck, the violations and the waivers, the law returns true and all read as before.
-/
import Derived.Test.YtgngpegmaceaiaaGreatCB5
import Derived.Laws.BytesArg
import Derived.Test.YtgngpegmaceaiaaGreatRows
namespace Go.Proofs.YtgngpegmaceaiaaGreat
set_option linter.unusedVariables false
set_option linter.unusedSimpArgs false
open Go
/-- the text of some bytes -/
def txt (bs : List UInt8) : ByteArray := ⟨bs.toArray⟩
theorem txt_size (bs : List UInt8) : (txt bs).size = bs.length := by simp [txt, ByteArray.size]
section
variable {P : Program} {σ : Nat → Value} {G : Gh} {L : List Ch} {o : Oper}
theorem PV.convBS {T T' e : TypeId} {x : Operand} {v : Value} {bs : List UInt8} (ho : o.op = .convert T T' x) (hu : P.underlying T = some (.slice e)) (he : P.underlying e = some (.int .u8)) (hd : P.underlying T' = some .string) (hx : ev σ x = v) (h : Rs G L byteT v bs) : PV P o σ G L (.string (txt bs)) := by
  intro w hw
  obtain ⟨⟨c, hc1, hc2, hsl⟩, hg⟩ := h w hw
  rcases hsl with ⟨b, k, rfl⟩ | ⟨⟨a, rfl⟩, h0⟩
  · have hr := run_convert_bytes_arg w T e hu he b k bs.length c (bs.map fun b => (b.toNat : Int)) (by simp) (fun i hi => by
      have := hg i (.int .u8 ((bs.map fun b => (b.toNat : Int)).getD i 0)) (by
        rw [show i = i * byteT.sz + 0 by simp [byteT]]
        refine byteT.flat_get (x := bs[i]) (List.getElem?_eq_getElem hi) ?_
        simp [byteT, hi])
      simpa [sb, so] using this) T' hd
    have e1 : strOfNums (bs.map fun b => (b.toNat : Int)) = txt bs := by
      simp only [strOfNums, txt, List.map_map]
      congr 2
      conv => rhs; rw [← List.map_id bs]
      apply List.map_congr_left
      intro b _
      simp
    simp [execOp, ho, hx, hr, e1]
  · have hb : bs = [] := List.eq_nil_of_length_eq_zero h0
    subst hb
    cases a with
    | none => simp [execOp, ho, hx, run_convert_bytes_nil w T e hu he _ _ T' hd, txt, ByteArray.empty, ByteArray.emptyWithCapacity]; rfl
    | some a =>
      simp only [List.length_nil] at hx
      simp [execOp, ho, hx, run_convert_bytes_string w T T' e _ _ _ hu he hd, Conv.bytesToString, loadCells, loadCellsFrom, txt, ByteArray.empty, ByteArray.emptyWithCapacity]; rfl
end
def mtGo : Nat → Nat → ByteArray → ByteArray
  | 0, _, out => out
  | f + 1, k, out => if k = 0 then out else mtGo f (k / 10) (txt [UInt8.ofNat (48 + k % 10)] ++ out)
theorem mtGo_zero (f : Nat) (out : ByteArray) : mtGo f 0 out = out := by cases f <;> simp [mtGo]
theorem mtGo_step {f k : Nat} {out : ByteArray} (h : 0 < k) : mtGo (f + 1) k out = mtGo f (k / 10) (txt [UInt8.ofNat (48 + k % 10)] ++ out) := by rw [mtGo, if_neg (by omega)]
def mText (k : Int) : ByteArray := if k ≤ 0 then txt [109, 48] else txt [109] ++ mtGo k.toNat k.toNat ByteArray.empty
end Go.Proofs.YtgngpegmaceaiaaGreat
namespace Go.Proofs.YtgngpegmaceaiaaGreat
set_option linter.unusedVariables false
set_option linter.unusedSimpArgs false
open Go
set_option maxRecDepth 20000
set_option linter.unusedSimpArgs false
variable {G : Gh} {L : List Ch} {R : Value → Gh → List Ch → Prop}
theorem u8dig {k : Int} (h : 0 ≤ k) : IntKind.wrap .u8 (48 + k % 10) = ((UInt8.ofNat (48 + k.toNat % 10)).toNat : Int) := by
  have h1 : (48 + k % 10) = ((48 + k.toNat % 10 : Nat) : Int) := by omega
  have h2 : 48 + k.toNat % 10 < 256 := by omega
  rw [h1]
  simp only [IntKind.wrap, UInt8.toNat_ofNat']
  simp [IntKind.signed, IntKind.bits]
theorem markText_s {k0 : Int} (hb : k0 ≤ 4611686018427387904) (k : R (.string (mText k0)) G L) : CallT Tryz.prog 85 #[vi k0] G L R := by
  refine CallT.enter (args := _) Tryz.func85 rfl rfl (by kernel_rfl) rfl ?_
  refine WP.seq ?_
  refine WP.region ?_
  refine RG.pv rfl (PV.mvS (.inr rfl) rfl) ?_
  refine RG.nil ?_
  refine WP.seq ?_
  refine WP.seq ?_
  refine WP.region ?_
  refine RG.pv rfl (PV.mvI (.inl rfl) rfl) ?_
  refine RG.pv rfl (PV.leq rfl rfl rfl) ?_
  refine RG.nil ?_
  refine WP.cond rfl (fun h1 => ?_) (fun h1 => ?_)
  · have h1 := of_decide_eq_true h1
    have e : mText k0 = txt [109, 48] := by rw [mText, if_pos h1]
    rw [e] at k
    refine WP.seq ?_
    refine WP.region ?_
    refine RG.pv rfl (PV.mvS (.inr rfl) rfl) ?_
    refine RG.nil ?_
    refine WP.ret ?_
    exact ⟨_, _, ResV.one rfl rfl, Cv.p, k⟩
  · have h1 := of_decide_eq_false h1
    have e : mText k0 = txt [109] ++ mtGo k0.toNat k0.toNat ByteArray.empty := by rw [mText, if_neg h1]
    rw [e] at k
    refine WP.skip ?_
    refine WP.seq ?_
    refine WP.region ?_
    refine RG.pv rfl (PV.mvS (.inr rfl) rfl) ?_
    refine RG.nil ?_
    refine WP.seq ?_
    refine WP.block ?_
    refine WP.loop3 [] (fun (kk : Int) (f : Nat) (out : ByteArray) => 0 ≤ kk ∧ kk ≤ k0 ∧ kk.toNat ≤ f ∧ out.size + kk ≤ k0 ∧ mtGo f kk.toNat out = mtGo k0.toNat k0.toNat ByteArray.empty) (fun (kk : Int) (f : Nat) (out : ByteArray) => [(0, vi kk), (3, .string out)]) (fun (kk : Int) (f : Nat) (out : ByteArray) => L) (fun (kk : Int) (f : Nat) (out : ByteArray) => kk.toNat) k0 k0.toNat ByteArray.empty ⟨by omega, by omega, by omega, by simp, rfl⟩ ⟨rfl, rfl, trivial⟩ Cv.p ?_
    rintro kk f out τ ⟨hk, hkb, hfk, hs, he⟩
    refine WP.seq ?_
    refine WP.seq ?_
    refine WP.region ?_
    refine RG.pv rfl (PV.mvI (.inl rfl) rfl) ?_
    refine RG.pv rfl (PV.gtr rfl rfl rfl) ?_
    refine RG.nil ?_
    refine WP.cond rfl (fun h2 => ?_) (fun h2 => ?_)
    · have h2 := of_decide_eq_true h2
      refine WP.skip ?_
      refine WP.block ?_
      refine WP.seq ?_
      refine WP.region ?_
      refine RG.pv rfl (PV.mvI (.inl rfl) rfl) ?_
      refine RG.pv rfl (PV.rem rfl rfl rfl (by omega) (by omega) (by omega)) ?_
      refine RG.pv rfl (PV.add rfl rfl rfl (by omega)) ?_
      refine RG.pv rfl (PV.conv rfl ⟨_, Tryz.underlying3⟩ Tryz.underlying5 rfl (by first | exact u8dig (by omega) | rfl)) ?_
      refine RG.ot rfl (OT.bslice (F := byteT) (els := [(UInt8.ofNat (48 + kk.toNat % 10))]) rfl El77 rfl (by decide) rfl (by decide) ⟨rfl, (Cl.c rfl), trivial⟩ fun v12 => ?_)
      refine RG.pv rfl (PV.convBS (v := v12) rfl Tryz.underlying77 Tryz.underlying5 Tryz.underlying9 rfl Rs.o) ?_
      refine RG.pv rfl (PV.mvS (.inl rfl) rfl) ?_
      refine RG.pv rfl (PV.addS rfl rfl rfl (by first | omega | (simp [txt_size] <;> omega) | (have : (ByteArray.mk #[109]).size = 1 := rfl; omega))) ?_
      refine RG.pv rfl (PV.mvS (.inr rfl) rfl) ?_
      refine RG.nil ?_
      refine WP.region ?_
      refine RG.pv rfl (PV.mvI (.inl rfl) rfl) ?_
      refine RG.pv rfl (PV.quo rfl rfl rfl (by omega) (by omega) (by omega)) ?_
      refine RG.pv rfl (PV.mvI (.inr rfl) rfl) ?_
      refine RG.nil ?_
      refine ⟨rfl, (kk / 10), (f - 1), (txt [UInt8.ofNat (48 + kk.toNat % 10)] ++ out), ⟨by omega, by omega, by omega, by rw [ByteArray.size_append, txt_size]; simp only [List.length_cons, List.length_nil]; omega, ?_⟩, ⟨rfl, rfl, trivial⟩, trivial, Cv.p, by omega⟩
      obtain ⟨f', rfl⟩ : ∃ f', f = f' + 1 := ⟨f - 1, by omega⟩
      rw [mtGo_step (by omega)] at he
      rw [← he, show (kk / 10).toNat = kk.toNat / 10 by omega]; rfl
    · have h2 := of_decide_eq_false h2
      obtain rfl : kk = 0 := by omega
      rw [show (0 : Int).toNat = 0 from rfl, mtGo_zero] at he
      rw [← he] at k
      refine WP.exit ?_
      refine WP.seq ?_
      refine WP.region ?_
      refine RG.pv rfl (PV.mvS (.inl rfl) rfl) ?_
      refine RG.pv rfl (PV.addS rfl rfl rfl (by first | omega | (simp [txt_size] <;> omega) | (have : (ByteArray.mk #[109]).size = 1 := rfl; omega))) ?_
      refine RG.pv rfl (PV.mvS (.inr rfl) rfl) ?_
      refine RG.nil ?_
      refine WP.ret ?_
      exact ⟨_, _, ResV.one rfl rfl, Cv.p, k⟩
def mkS (_ : ByteArray) (k : Int) : ByteArray := mText k
def nS (_ : ByteArray) : Int := 1
theorem nS_cost (xs : List ByteArray) : costL nS xs = 1 * xs.length := costL_const 1 xs
theorem mkS_at {xs : List ByteArray} {i : Nat} {k0 kk : Int} (h : i < xs.length) (e : kk = k0 + i) : mkS (gd xs i) (k0 + costL nS (xs.take i)) = mText kk := by
  rw [mkS, nS_cost, List.length_take, Nat.min_eq_left (by omega), e, Int.one_mul]
def mkW (_ : Waiver) (k : Int) : Waiver := ⟨k, mText (k + 1)⟩
def nW (_ : Waiver) : Int := 2
theorem nW_cost (xs : List Waiver) : costL nW xs = 2 * xs.length := costL_const 2 xs
theorem mkW_at {xs : List Waiver} {i : Nat} {k0 kk : Int} (h : i < xs.length) (e : kk = k0 + 2 * i) : mkW (gd xs i) (k0 + costL nW (xs.take i)) = ⟨kk, mText (kk + 1)⟩ := by
  rw [mkW, nW_cost, List.length_take, Nat.min_eq_left (by omega), e]
theorem markWaiverS_s {v : Value} {xs : List Waiver} {k0 : Int} (hk : 0 ≤ k0) (hb : k0 + costL nW xs ≤ 4611686018427387904) (k : R (vi (k0 + costL nW xs)) G (osl 83 waiverT v (markL mkW nW xs k0) :: L)) : CallT Tryz.prog 40 #[v, vi k0] G (osl 83 waiverT v xs :: L) R := by
  have hc := nW_cost xs
  refine CallT.cv (Cv.eqS (markTo_zero (mk := mkW) (n := nW) (k := k0)).symm) ?_
  refine CallT.enter (args := _) Tryz.func40 rfl rfl (by kernel_rfl) rfl ?_
  refine WP.seq ?_
  refine WP.region ?_
  refine RG.pv rfl (PV.mvI (.inr rfl) rfl) ?_
  refine RG.nil ?_
  refine WP.seq ?_
  refine WP.seq ?_
  refine WP.region ?_
  refine RG.pv rfl (PV.mvI (.inr rfl) rfl) ?_
  refine RG.nil ?_
  refine WP.block ?_
  refine WP.loop2 [0] (fun (i : Nat) (kk : Int) => i ≤ xs.length ∧ kk = k0 + 2 * i) (fun (i : Nat) (kk : Int) => [(5, vi i), (1, vi kk)]) (fun (i : Nat) (kk : Int) => osl 83 waiverT v (markTo mkW nW xs k0 i) :: L) (fun (i : Nat) (kk : Int) => xs.length - i) 0 k0 ⟨by omega, by omega⟩ ⟨rfl, rfl, trivial⟩ Cv.p ?_
  rintro i kk τ ⟨hi, hkk⟩
  refine WP.seq ?_
  refine WP.seq ?_
  refine WP.region ?_
  refine RG.pv rfl (PV.mvI (.inl rfl) rfl) ?_
  refine RG.pv rfl (PV.move (v := v) rfl rfl) ?_
  refine RG.pv rfl (PV.len (v := v) rfl Tryz.underlying63 rfl SlF.o) ?_
  refine RG.pv rfl (PV.lss rfl rfl rfl) ?_
  refine RG.nil ?_
  have hml := markTo_len (mk := mkW) (n := nW) (k := k0) hi
  refine WP.cond rfl (fun h1 => ?_) (fun h1 => ?_)
  · have h1 := of_decide_eq_true h1
    have h2 : i < xs.length := by omega
    refine WP.skip ?_
    refine WP.seq ?_
    refine WP.block ?_
    refine WP.seq ?_
    refine WP.region ?_
    refine RG.pv rfl (PV.move (v := v) rfl rfl) ?_
    refine RG.pv rfl (PV.mvI (.inl rfl) rfl) ?_
    refine RG.pv rfl (PV.mvI (.inl rfl) rfl) ?_
    refine RG.pv rfl (PV.idxS (v := v) rfl Is63 rfl SlF.o rfl rfl (by omega)) ?_
    refine RG.pv rfl (PV.field rfl Fo83_0 rfl) ?_
    refine RG.ot rfl (OT.storeF (F := waiverT) (val := vi) (cv := fun u => [vi u]) (st := Waiver.s0) rfl Sz2 rfl rfl rfl (Cl.c rfl) rfl (OneC.c rfl) (by exact set_self (by omega)) (by first | omega | (simp; omega)) rfl (fun _ _ => rfl) ?_)
    refine RG.nil ?_
    refine WP.seq ?_
    refine WP.region ?_
    refine RG.pv rfl (PV.mvI (.inl rfl) rfl) ?_
    refine RG.pv rfl (PV.add rfl rfl rfl (by first | omega | (simp only [List.length_set]; omega))) ?_
    refine RG.pv rfl (PV.mvI (.inr rfl) rfl) ?_
    refine RG.nil ?_
    refine WP.seq ?_
    refine WP.region ?_
    refine RG.pv rfl (PV.move (v := v) rfl rfl) ?_
    refine RG.pv rfl (PV.mvI (.inl rfl) rfl) ?_
    refine RG.pv rfl (PV.mvI (.inl rfl) rfl) ?_
    refine RG.callF (vs := [_]) rfl rfl En85 rfl (markText_s (by omega) ?_)
    refine RG.pv rfl (PV.idxS (v := v) rfl Is63 rfl SlF.o rfl rfl (by first | omega | (simp only [List.length_set]; omega))) ?_
    refine RG.pv rfl (PV.field rfl Fo83_1 rfl) ?_
    refine RG.ot rfl (OT.storeF (F := waiverT) (val := Value.string) (cv := fun u => [.string u]) (st := Waiver.s1) rfl Sz9 rfl rfl rfl (Cl.c rfl) rfl (OneC.c rfl) (by rfl) (by first | omega | (simp; omega)) rfl (fun _ _ => rfl) ?_)
    refine RG.nil ?_
    refine WP.region ?_
    refine RG.pv rfl (PV.mvI (.inl rfl) rfl) ?_
    refine RG.pv rfl (PV.add rfl rfl rfl (by first | omega | (simp only [List.length_set]; omega))) ?_
    refine RG.pv rfl (PV.mvI (.inr rfl) rfl) ?_
    refine RG.nil ?_
    refine WP.region ?_
    refine RG.pv rfl (PV.mvI (.inl rfl) rfl) ?_
    refine RG.pv rfl (PV.add rfl rfl rfl (by first | omega | (simp only [List.length_set]; omega))) ?_
    refine RG.pv rfl (PV.mvI (.inr rfl) rfl) ?_
    refine RG.nil ?_
    exact ⟨rfl, i + 1, _, ⟨by omega, by omega⟩, ⟨rfl, rfl, trivial⟩, ⟨rfl, trivial⟩, (Cv.eqS (by rw [← markTo_set h2, mkW_at h2 hkk])), by omega⟩
  · have h1 := of_decide_eq_false h1
    have e : kk = k0 + costL nW xs := by omega
    rw [← e] at k
    refine WP.exit ?_
    refine WP.seq ?_
    refine WP.region ?_
    refine RG.pv rfl (PV.mvI (.inl rfl) rfl) ?_
    refine RG.pv rfl (PV.mvI (.inr rfl) rfl) ?_
    refine RG.nil ?_
    refine WP.ret ?_
    exact ⟨_, _, ResV.one rfl rfl, (Cv.eqS (markTo_all (by omega))), k⟩
theorem heldWaiverS_s {v : Value} {xs : List Waiver} {k0 : Int} (h0 : Rs G L waiverT v (markL mkW nW xs k0)) (hk : 0 ≤ k0) (hb : k0 + costL nW xs ≤ 4611686018427387904) (k : R (vi (k0 + costL nW xs)) G L) : CallT Tryz.prog 41 #[v, vi k0] G L R := by
  have hc := nW_cost xs
  have hml := markL_len mkW nW xs k0
  refine CallT.enter (args := _) Tryz.func41 rfl rfl (by kernel_rfl) rfl ?_
  refine WP.seq ?_
  refine WP.region ?_
  refine RG.pv rfl (PV.mvI (.inr rfl) rfl) ?_
  refine RG.nil ?_
  refine WP.seq ?_
  refine WP.seq ?_
  refine WP.region ?_
  refine RG.pv rfl (PV.mvI (.inr rfl) rfl) ?_
  refine RG.nil ?_
  refine WP.block ?_
  refine WP.loop2 [0] (fun (i : Nat) (kk : Int) => i ≤ xs.length ∧ kk = k0 + 2 * i) (fun (i : Nat) (kk : Int) => [(5, vi i), (1, vi kk)]) (fun (i : Nat) (kk : Int) => L) (fun (i : Nat) (kk : Int) => xs.length - i) 0 k0 ⟨by omega, by omega⟩ ⟨rfl, rfl, trivial⟩ Cv.p ?_
  rintro i kk τ ⟨hi, hkk⟩
  refine WP.seq ?_
  refine WP.seq ?_
  refine WP.region ?_
  refine RG.pv rfl (PV.mvI (.inl rfl) rfl) ?_
  refine RG.pv rfl (PV.move (v := v) rfl rfl) ?_
  refine RG.pv rfl (PV.len (v := v) rfl Tryz.underlying63 rfl (SlF.r h0)) ?_
  refine RG.pv rfl (PV.lss rfl rfl rfl) ?_
  refine RG.nil ?_
  refine WP.cond rfl (fun h1 => ?_) (fun h1 => ?_)
  · have h1 := of_decide_eq_true h1
    have h2 : i < xs.length := by omega
    have hg : gd (markL mkW nW xs k0) i = ⟨kk, mText (kk + 1)⟩ := by rw [gd_mark h2, mkW_at h2 hkk]
    refine WP.skip ?_
    refine WP.seq ?_
    refine WP.block ?_
    refine WP.seq ?_
    refine WP.seq ?_
    refine WP.region ?_
    refine RG.pv rfl (PV.move (v := v) rfl rfl) ?_
    refine RG.pv rfl (PV.mvI (.inl rfl) rfl) ?_
    refine RG.pv rfl (PV.idxS (v := v) rfl Is63 rfl (SlF.r h0) rfl rfl (by omega)) ?_
    refine RG.pv rfl (PV.field rfl Fo83_0 rfl) ?_
    refine RG.pv rfl (PV.loadF rfl Sc2 rfl rfl (El.r h0 (getG (by omega))) rfl) ?_
    refine RG.pv rfl (PV.mvI (.inl rfl) rfl) ?_
    refine RG.pv rfl (PV.neq rfl rfl rfl) ?_
    refine RG.nil ?_
    refine WP.cond rfl (fun h3 => ?_) (fun h3 => ?_)
    · simp [hg] at h3
    · refine WP.skip ?_
      refine WP.seq ?_
      refine WP.region ?_
      refine RG.pv rfl (PV.mvI (.inl rfl) rfl) ?_
      refine RG.pv rfl (PV.add rfl rfl rfl (by omega)) ?_
      refine RG.pv rfl (PV.mvI (.inr rfl) rfl) ?_
      refine RG.nil ?_
      refine WP.seq ?_
      refine WP.seq ?_
      refine WP.regionQ (by kernel_rfl) (by kernel_rfl) ?_
      refine RQ.pv rfl (PV.move (v := v) rfl rfl) ?_
      refine RQ.pv rfl (PV.mvI (.inl rfl) rfl) ?_
      refine RQ.pv rfl (PV.idxS (v := v) rfl Is63 rfl (SlF.r h0) rfl rfl (by omega)) ?_
      refine RQ.pv rfl (PV.field rfl Fo83_1 rfl) ?_
      refine RQ.pv rfl (PV.loadF rfl Sc9 rfl rfl (El.r h0 (getG (by omega))) rfl) ?_
      refine RQ.pv rfl (PV.mvI (.inl rfl) rfl) ?_
      refine RQ.callF (vs := [_]) rfl rfl En85 rfl (markText_s (by omega) ⟨rfl, rfl, rfl⟩) ?_
      refine RQ.pv rfl (PV.neqS rfl rfl rfl) ?_
      refine RQ.nil ?_
      refine WP.cond rfl (fun h4 => ?_) (fun h4 => ?_)
      · simp [hg] at h4
      · refine WP.skip ?_
        refine WP.region ?_
        refine RG.pv rfl (PV.mvI (.inl rfl) rfl) ?_
        refine RG.pv rfl (PV.add rfl rfl rfl (by omega)) ?_
        refine RG.pv rfl (PV.mvI (.inr rfl) rfl) ?_
        refine RG.nil ?_
        refine WP.region ?_
        refine RG.pv rfl (PV.mvI (.inl rfl) rfl) ?_
        refine RG.pv rfl (PV.add rfl rfl rfl (by omega)) ?_
        refine RG.pv rfl (PV.mvI (.inr rfl) rfl) ?_
        refine RG.nil ?_
        exact ⟨rfl, i + 1, _, ⟨by omega, by omega⟩, ⟨rfl, rfl, trivial⟩, ⟨rfl, trivial⟩, Cv.p, by omega⟩
  · have h1 := of_decide_eq_false h1
    have e : kk = k0 + costL nW xs := by omega
    rw [← e] at k
    refine WP.exit ?_
    refine WP.seq ?_
    refine WP.region ?_
    refine RG.pv rfl (PV.mvI (.inl rfl) rfl) ?_
    refine RG.pv rfl (PV.mvI (.inr rfl) rfl) ?_
    refine RG.nil ?_
    refine WP.ret ?_
    exact ⟨_, _, ResV.one rfl rfl, Cv.p, k⟩
end Go.Proofs.YtgngpegmaceaiaaGreat
namespace Go.Proofs.YtgngpegmaceaiaaGreat
set_option linter.unusedVariables false
set_option linter.unusedSimpArgs false
open Go
set_option maxRecDepth 20000
set_option linter.unusedSimpArgs false
variable {G : Gh} {L : List Ch} {R : Value → Gh → List Ch → Prop}
theorem WP.cut4 {P : Program} {n : Nat} {Q : Post} {σ : Nat → Value} {x y : Code} {A B D E : Type} (keep : List Nat) (J : A → B → D → E → Prop) (S : A → B → D → E → List (Nat × Value)) (C : A → B → D → E → List Ch)
    (h : WP P n x (thenP (fun σ' G' L' => G' = G ∧ ∃ a b d e, J a b d e ∧ HasV σ' (S a b d e) ∧ Keeps σ' σ keep ∧ Cv L' (C a b d e)) Q) σ G L)
    (k : ∀ a b d e τ, J a b d e → WP P n y Q (upds (updk τ σ keep) (S a b d e)) G (C a b d e)) : WP P n (.seq x y) Q σ G L :=
  WP.cut1 keep (A := A × B × D × E) (fun x => J x.1 x.2.1 x.2.2.1 x.2.2.2) (fun x => S x.1 x.2.1 x.2.2.1 x.2.2.2) (fun x => C x.1 x.2.1 x.2.2.1 x.2.2.2) (WP.mono h fun e σ G L hq => by
      cases e with
      | normal => obtain ⟨e, a', b', d', e', h⟩ := hq; exact ⟨e, (a', b', d', e'), h⟩
      | _ => exact hq) fun a τ j => k a.1 a.2.1 a.2.2.1 a.2.2.2 τ j
theorem common_s {a b : Rect} (k : R (vrect (cmn a b)) G L) : CallT Tryz.prog 234 #[vrect a, vrect b] G L R := by
  refine CallT.enter (args := _) Tryz.func234 rfl rfl (by kernel_rfl) rfl ?_
  refine WP.seq ?_
  refine WP.region ?_
  refine RG.ot rfl (OT.box (cs := rectT.enc a) rfl rfl rfl fun b2 => ?_)
  refine RG.ot rfl (OT.box (cs := rectT.enc b) rfl rfl rfl fun b3 => ?_)
  refine RG.ot rfl (OT.alloc rfl Zr101 fun b4 => ?_)
  refine RG.nil ?_
  refine WP.seq ?_
  refine WP.region ?_
  refine RG.pv rfl (PV.field rfl Fo101_0 rfl) ?_
  refine RG.pv rfl (PV.load1 rfl Sc2 rfl (Rd.blk rfl)) ?_
  refine RG.pv rfl (PV.field rfl Fo101_0 rfl) ?_
  refine RG.pv rfl (PV.load1 rfl Sc2 rfl (Rd.blk rfl)) ?_
  refine RG.pv rfl (PV.max2 rfl rfl rfl) ?_
  refine RG.pv rfl (PV.field rfl Fo101_1 rfl) ?_
  refine RG.pv rfl (PV.load1 rfl Sc2 rfl (Rd.blk rfl)) ?_
  refine RG.pv rfl (PV.field rfl Fo101_1 rfl) ?_
  refine RG.pv rfl (PV.load1 rfl Sc2 rfl (Rd.blk rfl)) ?_
  refine RG.pv rfl (PV.max2 rfl rfl rfl) ?_
  refine RG.pv rfl (PV.field rfl Fo101_2 rfl) ?_
  refine RG.pv rfl (PV.load1 rfl Sc2 rfl (Rd.blk rfl)) ?_
  refine RG.pv rfl (PV.field rfl Fo101_2 rfl) ?_
  refine RG.pv rfl (PV.load1 rfl Sc2 rfl (Rd.blk rfl)) ?_
  refine RG.pv rfl (PV.min2 rfl rfl rfl) ?_
  refine RG.pv rfl (PV.field rfl Fo101_3 rfl) ?_
  refine RG.pv rfl (PV.load1 rfl Sc2 rfl (Rd.blk rfl)) ?_
  refine RG.pv rfl (PV.field rfl Fo101_3 rfl) ?_
  refine RG.pv rfl (PV.load1 rfl Sc2 rfl (Rd.blk rfl)) ?_
  refine RG.pv rfl (PV.min2 rfl rfl rfl) ?_
  refine RG.pv rfl (PV.build (vs := [(0, [vi _]), (1, [vi _]), (2, [vi _]), (3, [vi _])]) (out := [_, _, _, _]) rfl Zr101 Pl101 ⟨rfl, (Cl.c rfl), ⟨rfl, (Cl.c rfl), ⟨rfl, (Cl.c rfl), ⟨rfl, (Cl.c rfl), trivial⟩⟩⟩⟩ rfl) ?_
  refine RG.ot rfl (OT.storeW (vs := [vi _, vi _, vi _, vi _]) rfl Sz101 rfl rfl (Cl.c rfl) rfl rfl (OneC.c rfl) ?_)
  refine RG.nil ?_
  refine WP.ret ?_
  exact ⟨_, _, ResV.one rfl (RV1.cell rfl Ag101 rfl), Cv.p, k⟩
theorem ovl_s {a b : Rect} (k : R (.bool (ovl a b)) G L) : CallT Tryz.prog 239 #[vrect a, vrect b] G L R := by
  refine CallT.enter (args := _) Tryz.func239 rfl rfl (by kernel_rfl) rfl ?_
  refine WP.seq ?_
  refine WP.region ?_
  refine RG.ot rfl (OT.box (cs := rectT.enc a) rfl rfl rfl fun b2 => ?_)
  refine RG.ot rfl (OT.box (cs := rectT.enc b) rfl rfl rfl fun b3 => ?_)
  refine RG.pv rfl (PV.mvB (.inr rfl) rfl) ?_
  refine RG.nil ?_
  refine WP.seq ?_
  refine WP.region ?_
  refine RG.pv rfl (PV.loadW rfl Ag101 rfl rfl) ?_
  refine RG.callF (vs := [_]) rfl rfl En191 rfl (validRect_s ?_)
  refine RG.pv rfl (PV.mvB (.inl rfl) rfl) ?_
  refine RG.gs rfl rfl rfl (fun hp => (PV.loadW rfl Ag101 rfl rfl)) ?_
  refine RG.gsC rfl rfl rfl rfl En191 (fun hp => ⟨_, (acons (gs_t hp) anil), validRect_s ⟨rfl, rfl, rfl⟩⟩) ?_
  refine RG.pv rfl (PV.pickA rfl rfl (fun hq => gs_t (geqT hq)) rfl) ?_
  refine RG.pv rfl (PV.mvB (.inl rfl) rfl) ?_
  refine RG.gs rfl rfl rfl (fun hp => (PV.loadW rfl Ag101 rfl rfl)) ?_
  refine RG.gs rfl rfl rfl (fun hp => (PV.loadW rfl Ag101 rfl rfl)) ?_
  refine RG.gsC rfl rfl rfl rfl En234 (fun hp => ⟨_, (acons (gs_t hp) (acons (gs_t hp) anil)), common_s ⟨rfl, rfl, rfl⟩⟩) ?_
  refine RG.gsC rfl rfl rfl rfl En191 (fun hp => ⟨_, (acons (gs_t hp) anil), validRect_s ⟨rfl, rfl, rfl⟩⟩) ?_
  refine RG.pv rfl (PV.pickA rfl rfl (fun hq => gs_t (geqT hq)) rfl) ?_
  refine RG.pv rfl (PV.mvB (.inr rfl) rfl) ?_
  refine RG.nil ?_
  refine WP.ret ?_
  exact ⟨_, _, ResV.one rfl rfl, Cv.p, k⟩
theorem gd_mem {α : Type} [Inhabited α] {xs : List α} {i : Nat} (h : i < xs.length) : gd xs i ∈ xs := by rw [gd_eq h]; exact List.getElem_mem h
theorem any2_false {α : Type} [Inhabited α] {p : α → α → Bool} {xs ys : List α} (h : ∀ i, i < xs.length → ∀ j, j < ys.length → p (gd xs i) (gd ys j) = false) : (xs.any fun x => ys.any fun y => p x y) = false := by
  rw [List.any_eq_false]
  intro x hx
  obtain ⟨i, hi, rfl⟩ := List.getElem_of_mem hx
  rw [Bool.not_eq_true, List.any_eq_false]
  intro y hy
  obtain ⟨j, hj, rfl⟩ := List.getElem_of_mem hy
  have := h i hi j hj
  rw [gd_eq hi, gd_eq hj] at this; simp [this]
theorem any2_true {α : Type} [Inhabited α] {p : α → α → Bool} {xs ys : List α} {i j : Nat} (hi : i < xs.length) (hj : j < ys.length) (h : p (gd xs i) (gd ys j) = true) : (xs.any fun x => ys.any fun y => p x y) = true := by
  simp only [List.any_eq_true]
  exact ⟨gd xs i, gd_mem hi, gd ys j, gd_mem hj, h⟩
theorem row_next {p : Nat → Nat → Bool} {i m : Nat} (h : ∀ a, a < i → ∀ b, b < m → p a b = false) (h2 : ∀ b, b < m → p i b = false) : ∀ a, a < i + 1 → ∀ b, b < m → p a b = false := fun a ha b hb => by
  by_cases e : a = i
  · subst e; exact h2 b hb
  · exact h a (by omega) b hb
theorem col_next {p : Nat → Bool} {j : Nat} (h : ∀ b, b < j → p b = false) (h2 : p j = false) : ∀ b, b < j + 1 → p b = false := fun b hb => by
  by_cases e : b = j
  · subst e; exact h2
  · exact h b (by omega)
theorem meet_s {v u : Value} {xs ys : List Rect} (h1 : Rs G L rectT v xs) (h2 : Rs G L rectT u ys) (k : R (.bool (meetB xs ys)) G L) : CallT Tryz.prog 206 #[v, u] G L R := by
  refine CallT.bd h1 fun hb => ?_
  refine CallT.bd h2 fun hb' => ?_
  refine CallT.enter (args := _) Tryz.func206 rfl rfl (by kernel_rfl) rfl ?_
  refine WP.seq ?_
  refine WP.region ?_
  refine RG.pv rfl (PV.mvB (.inr rfl) rfl) ?_
  refine RG.nil ?_
  refine WP.seq ?_
  refine WP.seq ?_
  refine WP.region ?_
  refine RG.pv rfl (PV.move (v := v) rfl rfl) ?_
  refine RG.pv rfl (PV.len (v := v) rfl Tryz.underlying35 rfl (SlF.r h1)) ?_
  refine RG.pv rfl (PV.mvI (.inl rfl) rfl) ?_
  refine RG.nil ?_
  refine WP.block ?_
  refine WP.loop1 [1, 9, 10] (fun i => i ≤ xs.length ∧ ∀ p, p < i → ∀ q, q < ys.length → ovl (gd xs p) (gd ys q) = false) (fun i => [(11, vi i)]) (fun i => L) (fun i => xs.length - i) 0 ⟨by omega, fun p h => by omega⟩ ⟨rfl, trivial⟩ Cv.p ?_
  rintro i τ ⟨hi, hn⟩
  refine WP.seq ?_
  refine WP.region ?_
  refine RG.pv rfl (PV.lss rfl rfl rfl) ?_
  refine RG.nil ?_
  refine WP.seq ?_
  refine WP.cond rfl (fun h3 => ?_) (fun h3 => ?_)
  · have h3 := of_decide_eq_true h3
    refine WP.skip ?_
    refine WP.seq ?_
    refine WP.block ?_
    refine WP.seq ?_
    refine WP.region ?_
    refine RG.pv rfl (PV.idxS (v := v) rfl Is35 rfl (SlF.r h1) rfl rfl (by omega)) ?_
    refine RG.pv rfl (PV.loadE rfl Ag101 rfl rfl (El.r h1 (getG (by omega)))) ?_
    refine RG.ot rfl (OT.alloc rfl Zr101 fun b6 => ?_)
    refine RG.ot rfl (OT.storeW (vs := [vi _, vi _, vi _, vi _]) rfl Sz101 rfl rfl (Cl.c rfl) rfl rfl (OneC.c rfl) ?_)
    refine RG.nil ?_
    refine WP.seq ?_
    refine WP.region ?_
    refine RG.pv rfl (PV.move (v := u) rfl rfl) ?_
    refine RG.pv rfl (PV.len (v := u) rfl Tryz.underlying35 rfl (SlF.r h2)) ?_
    refine RG.pv rfl (PV.mvI (.inl rfl) rfl) ?_
    refine RG.nil ?_
    refine WP.block ?_
    refine WP.loop1 [1, 6, 9, 10, 11, 15, 16] (fun j => j ≤ ys.length ∧ ∀ q, q < j → ovl (gd xs i) (gd ys q) = false) (fun j => [(17, vi j)]) (fun j => blk b6 101 (rectT.enc (gd xs i)) :: L) (fun j => ys.length - j) 0 ⟨by omega, fun q h => by omega⟩ ⟨rfl, trivial⟩ Cv.p ?_
    rintro j τ1 ⟨hj, hm⟩
    refine WP.seq ?_
    refine WP.region ?_
    refine RG.pv rfl (PV.lss rfl rfl rfl) ?_
    refine RG.nil ?_
    refine WP.seq ?_
    refine WP.cond rfl (fun h4 => ?_) (fun h4 => ?_)
    · have h4 := of_decide_eq_true h4
      refine WP.skip ?_
      refine WP.seq ?_
      refine WP.block ?_
      refine WP.seq ?_
      refine WP.region ?_
      refine RG.pv rfl (PV.idxS (v := u) rfl Is35 rfl (SlF.r h2) rfl rfl (by omega)) ?_
      refine RG.pv rfl (PV.loadE rfl Ag101 rfl rfl (El.r h2 (getG (by omega)))) ?_
      refine RG.ot rfl (OT.alloc rfl Zr101 fun b8 => ?_)
      refine RG.ot rfl (OT.storeW (vs := [vi _, vi _, vi _, vi _]) rfl Sz101 rfl rfl (Cl.c rfl) rfl rfl (OneC.c rfl) ?_)
      refine RG.nil ?_
      refine WP.seq ?_
      refine WP.region ?_
      refine RG.pv rfl (PV.loadW rfl Ag101 rfl rfl) ?_
      refine RG.pv rfl (PV.loadW rfl Ag101 rfl rfl) ?_
      refine RG.callF (vs := [_, _]) rfl rfl En239 rfl (ovl_s ?_)
      refine RG.nil ?_
      refine WP.cond rfl (fun h5 => ?_) (fun h5 => ?_)
      · have e : meetB xs ys = true := any2_true (i := i) (j := j) (by omega) (by omega) h5
        rw [e] at k
        refine WP.seq ?_
        refine WP.region ?_
        refine RG.pv rfl (PV.mvB (.inr rfl) rfl) ?_
        refine RG.nil ?_
        refine WP.ret ?_
        exact ⟨_, _, ResV.one rfl rfl, Cv.p, k⟩
      · refine WP.skip ?_
        refine WP.region ?_
        refine RG.pv rfl (PV.add rfl rfl rfl (by omega)) ?_
        refine RG.pv rfl (PV.mvI (.inl rfl) rfl) ?_
        refine RG.nil ?_
        exact ⟨rfl, j + 1, ⟨by omega, col_next hm h5⟩, ⟨rfl, trivial⟩, ⟨rfl, rfl, rfl, rfl, rfl, rfl, rfl, trivial⟩, Cv.p, by omega⟩
    · have h4 := of_decide_eq_false h4
      obtain rfl : j = ys.length := by omega
      refine WP.exit ?_
      refine WP.region ?_
      refine RG.pv rfl (PV.add rfl rfl rfl (by omega)) ?_
      refine RG.pv rfl (PV.mvI (.inl rfl) rfl) ?_
      refine RG.nil ?_
      exact ⟨rfl, i + 1, ⟨by omega, row_next (p := fun a b => ovl (gd xs a) (gd ys b)) hn hm⟩, ⟨rfl, trivial⟩, ⟨rfl, rfl, rfl, trivial⟩, Cv.p, by omega⟩
  · have h3 := of_decide_eq_false h3
    obtain rfl : i = xs.length := by omega
    have e : meetB xs ys = false := any2_false hn
    rw [e] at k
    refine WP.exit ?_
    refine WP.seq ?_
    refine WP.region ?_
    refine RG.pv rfl (PV.mvB (.inr rfl) rfl) ?_
    refine RG.nil ?_
    refine WP.ret ?_
    exact ⟨_, _, ResV.one rfl rfl, Cv.p, k⟩
end Go.Proofs.YtgngpegmaceaiaaGreat
namespace Go.Proofs.YtgngpegmaceaiaaGreat
set_option linter.unusedVariables false
set_option linter.unusedSimpArgs false
open Go
set_option linter.unusedVariables false
def rLt (a b : Rect) : Bool := bif !decide (a.y0 = b.y0) then decide (a.y0 < b.y0) else bif !decide (a.x0 = b.x0) then decide (a.x0 < b.x0) else bif !decide (a.y1 = b.y1) then decide (a.y1 < b.y1) else decide (a.x1 < b.x1)
theorem rLt_iff {a b : Rect} : rLt a b = true ↔ a.y0 < b.y0 ∨ (a.y0 = b.y0 ∧ (a.x0 < b.x0 ∨ (a.x0 = b.x0 ∧ (a.y1 < b.y1 ∨ (a.y1 = b.y1 ∧ a.x1 < b.x1))))) := by
  unfold rLt
  by_cases h1 : a.y0 = b.y0
  · by_cases h2 : a.x0 = b.x0
    · by_cases h3 : a.y1 = b.y1
      · simp [h1, h2, h3]
      · simp [h1, h2, h3]
    · simp [h1, h2]
  · simp [h1]
theorem rLt_trans {a b c : Rect} (h : rLt a b = true) (k : rLt b c = true) : rLt a c = true := by
  rw [rLt_iff] at *; omega
/-- p comes before q in a report -/
def befV (p q : Int × List Rect) : Bool := bif !decide (p.1 = q.1) then decide (p.1 < q.1) else rLt (gd p.2 0) (gd q.2 0) && !meetB p.2 q.2
/-- one of the last k that has q's rule, all between having it, meets q -/
def blkM (xs : List (Int × List Rect)) (q : Int × List Rect) : Nat → Bool
  | 0 => false
  | k + 1 => if (gd xs k).1 = q.1 then meetB (gd xs k).2 q.2 || blkM xs q k else false
def stepV (xs : List (Int × List Rect)) (i : Nat) : Bool := decide (i = 0) || decide ((gd xs (i - 1)).1 < (gd xs i).1) || (decide ((gd xs (i - 1)).1 = (gd xs i).1) && rLt (gd (gd xs (i - 1)).2 0) (gd (gd xs i).2 0) && !blkM xs (gd xs i) i)
theorem blkM_none {xs : List (Int × List Rect)} {q : Int × List Rect} : ∀ {k : Nat}, (∀ j, j < k → (gd xs j).1 = q.1 → meetB (gd xs j).2 q.2 = false) → blkM xs q k = false
  | 0, _ => rfl
  | k + 1, h => by
    rw [blkM]
    split
    · rename_i e; rw [h k (by omega) e, Bool.false_or]; exact blkM_none fun j hj => h j (by omega)
    · rfl
theorem blkM_at {xs : List (Int × List Rect)} {q : Int × List Rect} : ∀ {k : Nat}, blkM xs q k = false → ∀ j, j < k → (∀ m, j ≤ m → m < k → (gd xs m).1 = q.1) → meetB (gd xs j).2 q.2 = false
  | 0, _, j, hj, _ => by omega
  | k + 1, h, j, hj, hm => by
    rw [blkM, if_pos (hm k (by omega) (by omega)), Bool.or_eq_false_iff] at h
    by_cases e : j = k
    · subst e; exact h.1
    · exact blkM_at h.2 j (by omega) fun m h1 h2 => hm m h1 (by omega)
theorem befV_le {p q : Int × List Rect} (h : befV p q = true) : p.1 ≤ q.1 := by
  unfold befV at h
  by_cases e : p.1 = q.1
  · omega
  · simp [e] at h; omega
theorem befV_same {p q : Int × List Rect} (e : p.1 = q.1) : befV p q = (rLt (gd p.2 0) (gd q.2 0) && !meetB p.2 q.2) := by simp [befV, e]
theorem befV_diff {p q : Int × List Rect} (e : ¬ p.1 = q.1) : befV p q = decide (p.1 < q.1) := by simp [befV, e]
/-- each step is in order exactly if every two are -/
theorem rep_iff (xs : List (Int × List Rect)) : ∀ n, (∀ i, i < n → stepV xs i = true) ↔ (∀ i, i < n → ∀ k, k < i → befV (gd xs k) (gd xs i) = true)
  | 0 => ⟨fun _ i hi => by omega, fun _ i hi => by omega⟩
  | n + 1 => by
    have ih := rep_iff xs n
    constructor
    · intro h
      have h0 := ih.1 fun i hi => h i (by omega)
      intro i hi k hk
      by_cases e : i < n
      · exact h0 i e k hk
      · obtain rfl : i = n := by omega
        obtain ⟨m, rfl⟩ : ∃ m, i = m + 1 := ⟨i - 1, by omega⟩
        have hs := h (m + 1) (by omega)
        have hle : ∀ j, j ≤ m → (gd xs j).1 ≤ (gd xs m).1 := fun j hj => by
          by_cases e : j = m
          · rw [e]; omega
          · exact befV_le (h0 m (by omega) j (by omega))
        simp only [stepV, Nat.add_sub_cancel, Bool.or_eq_true, Bool.and_eq_true, decide_eq_true_eq, Bool.not_eq_true'] at hs
        rcases hs with (hs | hs) | ⟨⟨hs, hl⟩, hb⟩
        · omega
        · rw [befV_diff (by have := hle k (by omega); omega), decide_eq_true_eq]
          have := hle k (by omega); omega
        · by_cases er : (gd xs k).1 = (gd xs (m + 1)).1
          · have hall : ∀ j, k ≤ j → j < m + 1 → (gd xs j).1 = (gd xs (m + 1)).1 := fun j h1 h2 => by
              have a1 := hle j (by omega)
              have a2 : (gd xs k).1 ≤ (gd xs j).1 := by
                by_cases e : k = j
                · rw [e]; omega
                · exact befV_le (h0 j (by omega) k (by omega))
              omega
            have hm := blkM_at hb k (by omega) hall
            rw [befV_same er, hm]
            have hr : rLt (gd (gd xs k).2 0) (gd (gd xs (m + 1)).2 0) = true := by
              by_cases e : k = m
              · rw [e]; exact hl
              · have := h0 m (by omega) k (by omega)
                rw [befV_same (by rw [er, hs]), Bool.and_eq_true] at this
                exact rLt_trans this.1 hl
            rw [hr]; rfl
          · rw [befV_diff er, decide_eq_true_eq]
            have := hle k (by omega); omega
    · intro h i hi
      by_cases e : i < n
      · exact ih.2 (fun i hi => h i (by omega)) i e
      · obtain rfl : i = n := by omega
        simp only [stepV, Bool.or_eq_true, Bool.and_eq_true, decide_eq_true_eq, Bool.not_eq_true']
        by_cases e0 : i = 0
        · exact .inl (.inl e0)
        · have hb := h i (by omega) (i - 1) (by omega)
          by_cases er : (gd xs (i - 1)).1 = (gd xs i).1
          · rw [befV_same er, Bool.and_eq_true] at hb
            refine .inr ⟨⟨er, hb.1⟩, blkM_none fun j hj ej => ?_⟩
            have := h i (by omega) j hj
            rw [befV_same ej, Bool.and_eq_true, Bool.not_eq_true'] at this
            exact this.2
          · rw [befV_diff er, decide_eq_true_eq] at hb
            exact .inl (.inr hb)
end Go.Proofs.YtgngpegmaceaiaaGreat
namespace Go.Proofs.YtgngpegmaceaiaaGreat
set_option linter.unusedVariables false
set_option linter.unusedSimpArgs false
open Go
set_option maxRecDepth 20000
set_option linter.unusedSimpArgs false
section
variable {P : Program} {n : Nat} {ops : Array Oper} {Q : Post} {σ : Nat → Value} {G G0 : Gh} {L C0 : List Ch} {r : Sch} {oi : Oper}
theorem PV.any {P : Program} {o : Oper} {σ : Nat → Value} {G : Gh} {L : List Ch} {v : Value} (h : False) : PV P o σ G L v := h.elim
/-- a loud operation under a guard, in a drawn region -/
theorem RH.otg {i j t : Nat} {want p : Bool} (hi : ops[i]? = some oi) (hn : oi.guard = some (j, want)) (hj : (ops[j]?).bind (·.dst) = some t) (hb : σ t = .bool p) (h1 : p = want → OT P n oi σ G L fun σ' G' L' => Gh.le G0 G' ∧ Pick C0 L' ∧ RH P n ops G0 C0 r Q σ' G' L')
    (h2 : ¬ p = want → Gh.le G0 G ∧ Pick C0 L ∧ RH P n ops G0 C0 r Q (updo σ oi.dst undef) G L) : RH P n ops G0 C0 (.l i r) Q σ G L :=
  RH.of fun q1 q2 ls a w hb' ha hs => by
    simp only [schB, Bool.and_eq_true, beq_iff_eq] at hb'
    refine wpAnyH_all hb'.1 (by simp) fun x hx => ?_
    obtain rfl : x = i := by simpa using hx
    unfold wpOp
    simp only [hi]
    by_cases e : p = want
    · rw [if_pos (by simp only [Region.wanted, hn, yielded_ag ha hj hb]; simp [e])]
      exact .inl (Oper.wp_mono (fun a' w' ⟨σ', G', L', h3, h4, h5, h6, h7⟩ => ⟨h4.weak h6 h5, h7.run q1 q2 hb'.2 h3 h4⟩) (h1 e (tok_of q2 hi) a w ha hs _))
    · rw [if_neg (by simp only [Region.wanted, hn, yielded_ag ha hj hb]; cases p <;> cases want <;> simp_all)]
      obtain ⟨k1, k2, k3⟩ := h2 e
      exact ⟨hs.weak k2 k1, k3.run q1 q2 hb'.2 (ha.put (tok_of q2 hi) undef) hs⟩
end
variable {G : Gh} {L : List Ch} {R : Value → Gh → List Ch → Prop}
theorem rectLess_s {a b : Rect} (k : R (.bool (rLt a b)) G L) : CallT Tryz.prog 235 #[vrect a, vrect b] G L R := by
  unfold rLt at k
  refine CallT.enter (args := _) Tryz.func235 rfl rfl (by kernel_rfl) rfl ?_
  refine WP.seq ?_
  refine WP.region ?_
  refine RG.ot rfl (OT.box (cs := rectT.enc a) rfl rfl rfl fun b2 => ?_)
  refine RG.ot rfl (OT.box (cs := rectT.enc b) rfl rfl rfl fun b3 => ?_)
  refine RG.pv rfl (PV.mvB (.inr rfl) rfl) ?_
  refine RG.nil ?_
  refine WP.seq ?_
  refine WP.seq ?_
  refine WP.region ?_
  refine RG.pv rfl (PV.field rfl Fo101_1 rfl) ?_
  refine RG.pv rfl (PV.load1 rfl Sc2 rfl (Rd.blk rfl)) ?_
  refine RG.pv rfl (PV.field rfl Fo101_1 rfl) ?_
  refine RG.pv rfl (PV.load1 rfl Sc2 rfl (Rd.blk rfl)) ?_
  refine RG.pv rfl (PV.neq rfl rfl rfl) ?_
  refine RG.nil ?_
  refine WP.cond rfl (fun h1 => ?_) (fun h1 => ?_)
  · rw [h1, cond_true] at k
    refine WP.seq ?_
    refine WP.region ?_
    refine RG.pv rfl (PV.field rfl Fo101_1 rfl) ?_
    refine RG.pv rfl (PV.load1 rfl Sc2 rfl (Rd.blk rfl)) ?_
    refine RG.pv rfl (PV.field rfl Fo101_1 rfl) ?_
    refine RG.pv rfl (PV.load1 rfl Sc2 rfl (Rd.blk rfl)) ?_
    refine RG.pv rfl (PV.lss rfl rfl rfl) ?_
    refine RG.pv rfl (PV.mvB (.inr rfl) rfl) ?_
    refine RG.nil ?_
    refine WP.ret ?_
    exact ⟨_, _, ResV.one rfl rfl, Cv.p, k⟩
  · rw [h1, cond_false] at k
    refine WP.skip ?_
    refine WP.seq ?_
    refine WP.seq ?_
    refine WP.region ?_
    refine RG.pv rfl (PV.field rfl Fo101_0 rfl) ?_
    refine RG.pv rfl (PV.load1 rfl Sc2 rfl (Rd.blk rfl)) ?_
    refine RG.pv rfl (PV.field rfl Fo101_0 rfl) ?_
    refine RG.pv rfl (PV.load1 rfl Sc2 rfl (Rd.blk rfl)) ?_
    refine RG.pv rfl (PV.neq rfl rfl rfl) ?_
    refine RG.nil ?_
    refine WP.cond rfl (fun h2 => ?_) (fun h2 => ?_)
    · rw [h2, cond_true] at k
      refine WP.seq ?_
      refine WP.region ?_
      refine RG.pv rfl (PV.field rfl Fo101_0 rfl) ?_
      refine RG.pv rfl (PV.load1 rfl Sc2 rfl (Rd.blk rfl)) ?_
      refine RG.pv rfl (PV.field rfl Fo101_0 rfl) ?_
      refine RG.pv rfl (PV.load1 rfl Sc2 rfl (Rd.blk rfl)) ?_
      refine RG.pv rfl (PV.lss rfl rfl rfl) ?_
      refine RG.pv rfl (PV.mvB (.inr rfl) rfl) ?_
      refine RG.nil ?_
      refine WP.ret ?_
      exact ⟨_, _, ResV.one rfl rfl, Cv.p, k⟩
    · rw [h2, cond_false] at k
      refine WP.skip ?_
      refine WP.seq ?_
      refine WP.seq ?_
      refine WP.region ?_
      refine RG.pv rfl (PV.field rfl Fo101_3 rfl) ?_
      refine RG.pv rfl (PV.load1 rfl Sc2 rfl (Rd.blk rfl)) ?_
      refine RG.pv rfl (PV.field rfl Fo101_3 rfl) ?_
      refine RG.pv rfl (PV.load1 rfl Sc2 rfl (Rd.blk rfl)) ?_
      refine RG.pv rfl (PV.neq rfl rfl rfl) ?_
      refine RG.nil ?_
      refine WP.cond rfl (fun h3 => ?_) (fun h3 => ?_)
      · rw [h3, cond_true] at k
        refine WP.seq ?_
        refine WP.region ?_
        refine RG.pv rfl (PV.field rfl Fo101_3 rfl) ?_
        refine RG.pv rfl (PV.load1 rfl Sc2 rfl (Rd.blk rfl)) ?_
        refine RG.pv rfl (PV.field rfl Fo101_3 rfl) ?_
        refine RG.pv rfl (PV.load1 rfl Sc2 rfl (Rd.blk rfl)) ?_
        refine RG.pv rfl (PV.lss rfl rfl rfl) ?_
        refine RG.pv rfl (PV.mvB (.inr rfl) rfl) ?_
        refine RG.nil ?_
        refine WP.ret ?_
        exact ⟨_, _, ResV.one rfl rfl, Cv.p, k⟩
      · rw [h3, cond_false] at k
        refine WP.skip ?_
        refine WP.seq ?_
        refine WP.region ?_
        refine RG.pv rfl (PV.field rfl Fo101_2 rfl) ?_
        refine RG.pv rfl (PV.load1 rfl Sc2 rfl (Rd.blk rfl)) ?_
        refine RG.pv rfl (PV.field rfl Fo101_2 rfl) ?_
        refine RG.pv rfl (PV.load1 rfl Sc2 rfl (Rd.blk rfl)) ?_
        refine RG.pv rfl (PV.lss rfl rfl rfl) ?_
        refine RG.pv rfl (PV.mvB (.inr rfl) rfl) ?_
        refine RG.nil ?_
        refine WP.ret ?_
        exact ⟨_, _, ResV.one rfl rfl, Cv.p, k⟩
theorem l04Op_s {v u : Value} {xs ys : List Rect} {op : Int} (h1 : Rs G L rectT v xs) (h2 : Rs G L rectT u ys) (hv1 : validRs xs = true) (hv2 : validRs ys = true) (hop : 0 ≤ op ∧ op ≤ 15) (k : ∀ v', R v' G (osl 101 rectT v' (canon (zipB (opF op) (bits xs) (bits ys))) :: L)) : CallT Tryz.prog 161 #[v, u, vi op] G L R := by
  refine CallT.enter (args := _) Tryz.func161 rfl rfl (by kernel_rfl) rfl ?_
  refine WP.seq ?_
  refine WP.region ?_
  refine RG.pv rfl (PV.asg rfl rfl) ?_
  refine RG.nil ?_
  refine WP.seq ?_
  refine WP.region ?_
  refine RG.pv rfl (PV.move (v := v) rfl rfl) ?_
  refine RG.callF (vs := [v]) rfl rfl En134 rfl (l03Bits_s (Rs.up h1) (fun j hj => valid_get hv1 hj) (fun v8 => ?_))
  refine RG.pv rfl (PV.move (v := u) rfl rfl) ?_
  refine RG.callF (vs := [u]) rfl rfl En134 rfl (l03Bits_s (Rs.up h2) (fun j hj => valid_get hv2 hj) (fun v10 => ?_))
  refine RG.pv rfl (PV.mvI (.inl rfl) rfl) ?_
  refine RG.callF (vs := [v8, v10, _]) rfl rfl En212 rfl (l04Combine_s Rs.o Rs.o (bits_length _) (bits_length _) hop (fun v12 => ?_))
  refine RG.callF (vs := [v12]) rfl rfl En133 rfl (l03Canon_s Rs.o (zipB_len (bits_length _) (bits_length _)) (fun v13 => ?_))
  refine RG.pv rfl (PV.asg (v := v13) rfl rfl) ?_
  refine RG.nil ?_
  refine WP.ret ?_
  exact ⟨_, _, ResV.one rfl rfl, Cv.p, k v13⟩
theorem meet_canon {a b : List Rect} (ha : validRs a = true) (hb : validRs b = true) : decide (((canon (zipB (opF 8) (bits a) (bits b))).length : Int) = 0) = !meetB a b := by
  have hl : (zipB (opF 8) (bits a) (bits b)).length = 6400 := zipB_len (bits_length _) (bits_length _)
  have hg : ∀ y x, y < 80 → x < 80 → gb (zipB (opF 8) (bits a) (bits b)) y x = (gb (bits a) y x && gb (bits b) y x) := fun y x hy hx => by
    rw [gb_zip (bits_length _) (bits_length _) hy hx, opF_and]
  rw [Bool.eq_iff_iff, decide_eq_true_iff, Bool.not_eq_true', ← Bool.not_eq_true, meetB_iff ha hb]
  constructor
  · rintro h0 ⟨y, x, hy, hx, h1, h2⟩
    have hb2 : gb (bits (canon (zipB (opF 8) (bits a) (bits b)))) y x = true := by rw [bits_canon hl, hg y x hy hx, h1, h2]; rfl
    obtain ⟨r, hr, _⟩ := (gb_bits_iff hy hx).1 hb2
    have := List.length_pos_of_mem hr
    omega
  · intro hn
    rcases Nat.eq_zero_or_pos (canon (zipB (opF 8) (bits a) (bits b))).length with e | e
    · omega
    · exfalso
      have hm : gd (canon (zipB (opF 8) (bits a) (bits b))) 0 ∈ canon (zipB (opF 8) (bits a) (bits b)) := by rw [gd_eq e]; exact List.getElem_mem _
      obtain ⟨y, x, hy, hx, hi⟩ := valid_cell (valid_mem (isReg_valid (isReg_canon hl)) hm)
      have hb2 := (gb_bits_iff hy hx).2 ⟨_, hm, hi⟩
      rw [bits_canon hl, hg y x hy hx, Bool.and_eq_true] at hb2
      exact hn ⟨y, x, hy, hx, hb2.1, hb2.2⟩
theorem before_s {p q : Viol} (h1 : Rs G L rectT p.marker.v p.marker.xs) (h2 : Rs G L rectT q.marker.v q.marker.xs) (hp : okV (erV p) = true) (hq : okV (erV q) = true) (k : R (.bool (befV (erV p) (erV q))) G L) : CallT Tryz.prog 203 #[vT violT p, vT violT q] G L R := by
  obtain ⟨hp1, hp2, _⟩ := okV_reg hp
  obtain ⟨hq1, hq2, _⟩ := okV_reg hq
  have hp1 : isReg p.marker.xs = true := hp1
  have hq1 : isReg q.marker.xs = true := hq1
  have hp2 : 0 < p.marker.xs.length := hp2
  have hq2 : 0 < q.marker.xs.length := hq2
  have hv1 := isReg_valid hp1
  have hv2 := isReg_valid hq1
  have hmc := meet_canon hv1 hv2
  cases g : rLt (gd p.marker.xs 0) (gd q.marker.xs 0)
  · skip
    refine CallT.enter (args := _) Tryz.func203 rfl rfl (by kernel_rfl) rfl ?_
    refine WP.seq ?_
    refine WP.region ?_
    refine RG.ot rfl (OT.box (cs := violT.enc p) rfl rfl rfl fun b2 => ?_)
    refine RG.ot rfl (OT.box (cs := violT.enc q) rfl rfl rfl fun b3 => ?_)
    refine RG.pv rfl (PV.mvB (.inr rfl) rfl) ?_
    refine RG.nil ?_
    refine WP.seq ?_
    refine WP.seq ?_
    refine WP.region ?_
    refine RG.pv rfl (PV.field rfl Fo37_0 rfl) ?_
    refine RG.pv rfl (PV.load1 rfl Sc2 rfl (Rd.blk rfl)) ?_
    refine RG.pv rfl (PV.field rfl Fo37_0 rfl) ?_
    refine RG.pv rfl (PV.load1 rfl Sc2 rfl (Rd.blk rfl)) ?_
    refine RG.pv rfl (PV.neq rfl rfl rfl) ?_
    refine RG.nil ?_
    refine WP.cond rfl (fun h3 => ?_) (fun h3 => ?_)
    · have e : befV (erV p) (erV q) = decide (p.rule < q.rule) := befV_diff (by simpa [erV] using h3)
      rw [e] at k
      refine WP.seq ?_
      refine WP.region ?_
      refine RG.pv rfl (PV.field rfl Fo37_0 rfl) ?_
      refine RG.pv rfl (PV.load1 rfl Sc2 rfl (Rd.blk rfl)) ?_
      refine RG.pv rfl (PV.field rfl Fo37_0 rfl) ?_
      refine RG.pv rfl (PV.load1 rfl Sc2 rfl (Rd.blk rfl)) ?_
      refine RG.pv rfl (PV.lss rfl rfl rfl) ?_
      refine RG.pv rfl (PV.mvB (.inr rfl) rfl) ?_
      refine RG.nil ?_
      refine WP.ret ?_
      exact ⟨_, _, ResV.one rfl rfl, Cv.p, k⟩
    · have e : befV (erV p) (erV q) = (rLt (gd p.marker.xs 0) (gd q.marker.xs 0) && !meetB p.marker.xs q.marker.xs) := befV_same (by simpa [erV] using h3)
      rw [e] at k
      refine WP.skip ?_
      refine WP.seq ?_
      refine WP.regionH0 (.q 0 (.q 1 (.q 2 (.q 3 (.q 4 (.q 5 (.q 6 (.q 7 (.l 8 (.q 9 (.q 10 (.q 11 (.q 12 (.q 13 (.l 14 (.q 15 (.q 16 (.q 17 (.q 18 Sch.nil))))))))))))))))))) (by kernel_rfl) (by kernel_rfl) (by kernel_rfl) rfl ?_
      refine RH.pv rfl (fun _ _ _ _ h => h) (Gh.le_refl _) PickC.pick rfl (PV.field rfl Fo37_1 rfl) ?_
      refine RH.pv rfl (fun _ _ _ _ h => h) (Gh.le_refl _) PickC.pick rfl (PV.load1 rfl Sc35 rfl (Rd.blk rfl)) ?_
      refine RH.pv rfl (fun _ _ _ _ h => h) (Gh.le_refl _) PickC.pick rfl (PV.idxS (j := 0) rfl Is35 rfl (SlF.r h1) rfl (by omega) (by omega)) ?_
      refine RH.pv rfl (fun _ _ _ _ h => h) (Gh.le_refl _) PickC.pick rfl (PV.loadE rfl Ag101 rfl rfl (El.r h1 (getG (by omega)))) ?_
      refine RH.pv rfl (fun _ _ _ _ h => h) (Gh.le_refl _) PickC.pick rfl (PV.field rfl Fo37_1 rfl) ?_
      refine RH.pv rfl (fun _ _ _ _ h => h) (Gh.le_refl _) PickC.pick rfl (PV.load1 rfl Sc35 rfl (Rd.blk rfl)) ?_
      refine RH.pv rfl (fun _ _ _ _ h => h) (Gh.le_refl _) PickC.pick rfl (PV.idxS (j := 0) rfl Is35 rfl (SlF.r h2) rfl (by omega) (by omega)) ?_
      refine RH.pv rfl (fun _ _ _ _ h => h) (Gh.le_refl _) PickC.pick rfl (PV.loadE rfl Ag101 rfl rfl (El.r h2 (getG (by omega)))) ?_
      refine RH.ot rfl rfl (OT.callF (vs := [_, _]) rfl En235 rfl (rectLess_s ⟨Gh.le_refl _, PickC.pick, ?_⟩))
      refine RH.pv rfl (fun _ _ _ _ h => h) (Gh.le_refl _) PickC.pick rfl (PV.mvB (.inl rfl) rfl) ?_
      refine RH.gs rfl (fun _ _ _ _ h => h) (Gh.le_refl _) PickC.pick rfl rfl rfl (fun hp => (PV.field rfl Fo37_1 rfl)) ?_
      refine RH.gs rfl (fun _ _ _ _ h => h) (Gh.le_refl _) PickC.pick rfl rfl rfl (fun hp => (PV.load1 rfl Sc35 (gs_t hp) (Rd.blk rfl))) ?_
      refine RH.gs rfl (fun _ _ _ _ h => h) (Gh.le_refl _) PickC.pick rfl rfl rfl (fun hp => (PV.field rfl Fo37_1 rfl)) ?_
      refine RH.gs rfl (fun _ _ _ _ h => h) (Gh.le_refl _) PickC.pick rfl rfl rfl (fun hp => (PV.load1 rfl Sc35 (gs_t hp) (Rd.blk rfl))) ?_
      refine RH.otg rfl rfl rfl rfl (fun hh => absurd (hh.symm.trans g) (by decide)) (fun _ => ⟨Gh.le_refl _, PickC.pick, ?_⟩)
      refine RH.gs rfl (fun _ _ _ _ h => h) (Gh.le_refl _) PickC.pick rfl rfl rfl (fun hp => (PV.any (v := vi 0) (absurd (g.symm.trans (beq_iff_eq.1 hp)) (by decide)))) ?_
      refine RH.gs rfl (fun _ _ _ _ h => h) (Gh.le_refl _) PickC.pick rfl rfl rfl (fun hp => (PV.any (v := .bool false) (absurd (g.symm.trans (beq_iff_eq.1 hp)) (by decide)))) ?_
      refine RH.pv rfl (fun _ _ _ _ h => h) (Gh.le_refl _) PickC.pick rfl (PV.pickA rfl rfl (fun hq => gs_t (geqT hq)) rfl) ?_
      refine RH.pv rfl (fun _ _ _ _ h => h) (Gh.le_refl _) PickC.pick rfl (PV.mvB (.inr rfl) rfl) ?_
      refine RH.nil ?_
      refine WP.ret ?_
      rw [show (rLt (gd p.marker.xs 0) (gd q.marker.xs 0) && !meetB p.marker.xs q.marker.xs) = (rLt (gd p.marker.xs 0) (gd q.marker.xs 0) && false) by rw [g]; rfl] at k
      exact ⟨_, _, ResV.one rfl rfl, Cv.p, k⟩
  · skip
    refine CallT.enter (args := _) Tryz.func203 rfl rfl (by kernel_rfl) rfl ?_
    refine WP.seq ?_
    refine WP.region ?_
    refine RG.ot rfl (OT.box (cs := violT.enc p) rfl rfl rfl fun b2 => ?_)
    refine RG.ot rfl (OT.box (cs := violT.enc q) rfl rfl rfl fun b3 => ?_)
    refine RG.pv rfl (PV.mvB (.inr rfl) rfl) ?_
    refine RG.nil ?_
    refine WP.seq ?_
    refine WP.seq ?_
    refine WP.region ?_
    refine RG.pv rfl (PV.field rfl Fo37_0 rfl) ?_
    refine RG.pv rfl (PV.load1 rfl Sc2 rfl (Rd.blk rfl)) ?_
    refine RG.pv rfl (PV.field rfl Fo37_0 rfl) ?_
    refine RG.pv rfl (PV.load1 rfl Sc2 rfl (Rd.blk rfl)) ?_
    refine RG.pv rfl (PV.neq rfl rfl rfl) ?_
    refine RG.nil ?_
    refine WP.cond rfl (fun h3 => ?_) (fun h3 => ?_)
    · have e : befV (erV p) (erV q) = decide (p.rule < q.rule) := befV_diff (by simpa [erV] using h3)
      rw [e] at k
      refine WP.seq ?_
      refine WP.region ?_
      refine RG.pv rfl (PV.field rfl Fo37_0 rfl) ?_
      refine RG.pv rfl (PV.load1 rfl Sc2 rfl (Rd.blk rfl)) ?_
      refine RG.pv rfl (PV.field rfl Fo37_0 rfl) ?_
      refine RG.pv rfl (PV.load1 rfl Sc2 rfl (Rd.blk rfl)) ?_
      refine RG.pv rfl (PV.lss rfl rfl rfl) ?_
      refine RG.pv rfl (PV.mvB (.inr rfl) rfl) ?_
      refine RG.nil ?_
      refine WP.ret ?_
      exact ⟨_, _, ResV.one rfl rfl, Cv.p, k⟩
    · have e : befV (erV p) (erV q) = (rLt (gd p.marker.xs 0) (gd q.marker.xs 0) && !meetB p.marker.xs q.marker.xs) := befV_same (by simpa [erV] using h3)
      rw [e] at k
      refine WP.skip ?_
      refine WP.seq ?_
      refine WP.regionH0 (.q 0 (.q 1 (.q 2 (.q 3 (.q 4 (.q 5 (.q 6 (.q 7 (.l 8 (.q 9 (.q 10 (.q 11 (.q 12 (.q 13 (.l 14 (.q 15 (.q 16 (.q 17 (.q 18 Sch.nil))))))))))))))))))) (by kernel_rfl) (by kernel_rfl) (by kernel_rfl) rfl ?_
      refine RH.pv rfl (fun _ _ _ _ h => h) (Gh.le_refl _) PickC.pick rfl (PV.field rfl Fo37_1 rfl) ?_
      refine RH.pv rfl (fun _ _ _ _ h => h) (Gh.le_refl _) PickC.pick rfl (PV.load1 rfl Sc35 rfl (Rd.blk rfl)) ?_
      refine RH.pv rfl (fun _ _ _ _ h => h) (Gh.le_refl _) PickC.pick rfl (PV.idxS (j := 0) rfl Is35 rfl (SlF.r h1) rfl (by omega) (by omega)) ?_
      refine RH.pv rfl (fun _ _ _ _ h => h) (Gh.le_refl _) PickC.pick rfl (PV.loadE rfl Ag101 rfl rfl (El.r h1 (getG (by omega)))) ?_
      refine RH.pv rfl (fun _ _ _ _ h => h) (Gh.le_refl _) PickC.pick rfl (PV.field rfl Fo37_1 rfl) ?_
      refine RH.pv rfl (fun _ _ _ _ h => h) (Gh.le_refl _) PickC.pick rfl (PV.load1 rfl Sc35 rfl (Rd.blk rfl)) ?_
      refine RH.pv rfl (fun _ _ _ _ h => h) (Gh.le_refl _) PickC.pick rfl (PV.idxS (j := 0) rfl Is35 rfl (SlF.r h2) rfl (by omega) (by omega)) ?_
      refine RH.pv rfl (fun _ _ _ _ h => h) (Gh.le_refl _) PickC.pick rfl (PV.loadE rfl Ag101 rfl rfl (El.r h2 (getG (by omega)))) ?_
      refine RH.ot rfl rfl (OT.callF (vs := [_, _]) rfl En235 rfl (rectLess_s ⟨Gh.le_refl _, PickC.pick, ?_⟩))
      refine RH.pv rfl (fun _ _ _ _ h => h) (Gh.le_refl _) PickC.pick rfl (PV.mvB (.inl rfl) rfl) ?_
      refine RH.gs rfl (fun _ _ _ _ h => h) (Gh.le_refl _) PickC.pick rfl rfl rfl (fun hp => (PV.field rfl Fo37_1 rfl)) ?_
      refine RH.gs rfl (fun _ _ _ _ h => h) (Gh.le_refl _) PickC.pick rfl rfl rfl (fun hp => (PV.load1 rfl Sc35 (gs_t hp) (Rd.blk rfl))) ?_
      refine RH.gs rfl (fun _ _ _ _ h => h) (Gh.le_refl _) PickC.pick rfl rfl rfl (fun hp => (PV.field rfl Fo37_1 rfl)) ?_
      refine RH.gs rfl (fun _ _ _ _ h => h) (Gh.le_refl _) PickC.pick rfl rfl rfl (fun hp => (PV.load1 rfl Sc35 (gs_t hp) (Rd.blk rfl))) ?_
      refine RH.otg rfl rfl rfl rfl (fun hh => have hp := beq_iff_eq.2 hh; OT.callF (vs := [_, _, _]) rfl En161 (acons (gs_t hp) (acons (gs_t hp) (acons rfl anil))) (l04Op_s h1.up h2.up hv1 hv2 (by omega) (fun v29 => ⟨Gh.le_refl _, PickC.pick, ?_⟩))) (fun hh => absurd g hh)
      refine RH.up1 ?_
      refine RH.gs rfl (fun _ _ _ _ h => h) (Gh.le_refl _) PickC.pick rfl rfl rfl (fun hp => (PV.len (v := v29) rfl Tryz.underlying35 rfl SlF.o)) ?_
      refine RH.gs rfl (fun _ _ _ _ h => h) (Gh.le_refl _) PickC.pick rfl rfl rfl (fun hp => (PV.eql rfl (gs_t hp) rfl)) ?_
      refine RH.pv rfl (fun _ _ _ _ h => h) (Gh.le_refl _) PickC.pick rfl (PV.pickA rfl rfl (fun hq => gs_t (geqT hq)) rfl) ?_
      refine RH.pv rfl (fun _ _ _ _ h => h) (Gh.le_refl _) PickC.pick rfl (PV.mvB (.inr rfl) rfl) ?_
      refine RH.nil ?_
      refine WP.ret ?_
      rw [← hmc] at k
      exact ⟨_, _, ResV.one rfl rfl, Cv.p, k⟩
end Go.Proofs.YtgngpegmaceaiaaGreat
namespace Go.Proofs.YtgngpegmaceaiaaGreat
set_option linter.unusedVariables false
set_option linter.unusedSimpArgs false
open Go
set_option maxRecDepth 20000
set_option linter.unusedSimpArgs false
variable {G : Gh} {L : List Ch} {R : Value → Gh → List Ch → Prop}
theorem cmpR_ge (a b : Rect) : decide (0 ≤ cmpR a b) = !rLt a b := by
  rw [Bool.eq_iff_iff, decide_eq_true_iff, Bool.not_eq_true', ← Bool.not_eq_true, rLt_iff]
  simp only [cmpR, orI, cmpI]
  repeat' split
  all_goals omega
noncomputable def repAt (E : List (Int × List Rect)) (i : Nat) : Bool := okV (gd E i) && stepV E i
noncomputable def repOk (E : List (Int × List Rect)) : Bool := decide (E.length ≤ 256) && decide (∀ i, i < E.length → repAt E i = true)
theorem rep_false {E : List (Int × List Rect)} {i : Nat} (h : i < E.length) (e : repAt E i = false) : repOk E = false := by
  simp only [repOk, Bool.and_eq_false_iff, decide_eq_false_iff_not]
  exact .inr fun hh => by rw [hh i h] at e; cases e
theorem rep_all {E : List (Int × List Rect)} (hl : E.length ≤ 256) (h : ∀ i, i < E.length → repAt E i = true) : repOk E = true := by
  simp only [repOk, decide_eq_true h, Bool.and_true, decide_eq_true_eq]; exact hl
theorem rep_okV {E : List (Int × List Rect)} (h : repOk E = true) {i : Nat} (hi : i < E.length) : okV (gd E i) = true := by
  simp only [repOk, Bool.and_eq_true, decide_eq_true_eq] at h
  have := h.2 i hi; simp only [repAt, Bool.and_eq_true] at this; exact this.1
theorem rep_len {E : List (Int × List Rect)} (h : repOk E = true) : E.length ≤ 256 := by
  simp only [repOk, Bool.and_eq_true, decide_eq_true_eq] at h; exact h.1
theorem rep_pairs {E : List (Int × List Rect)} (hl : E.length ≤ 256) (h : ∀ i, i < E.length → okV (gd E i) = true ∧ ∀ j, j < i → befV (gd E j) (gd E i) = true) : repOk E = true := by
  have := (rep_iff E E.length).2 fun i hi => (h i hi).2
  exact rep_all hl fun i hi => by rw [repAt, (h i hi).1, this i hi]; rfl
theorem rep_pair_false {E : List (Int × List Rect)} {i j : Nat} (hi : i < E.length) (hj : j < i) (e : befV (gd E j) (gd E i) = false) : repOk E = false := by
  cases h : repOk E with
  | false => rfl
  | true =>
    simp only [repOk, Bool.and_eq_true, decide_eq_true_eq] at h
    have := (rep_iff E E.length).1 (fun i hi => by have := h.2 i hi; simp only [repAt, Bool.and_eq_true] at this; exact this.2) i hi j hj
    rw [e] at this; cases this
theorem report_r {v : Value} {xs : List Viol} (h1 : Rs G L violT v xs) (hd : RsE G L rectT (mks xs)) (k : R (.bool (repOk (erVs xs))) G L) : CallT Tryz.prog 146 #[v] G L R := by
  refine CallT.bd h1 fun hb => ?_
  have hel := erVs_len xs
  refine CallT.enter (args := _) Tryz.func146 rfl rfl (by kernel_rfl) rfl ?_
  refine WP.seq ?_
  refine WP.region ?_
  refine RG.pv rfl (PV.mvB (.inr rfl) rfl) ?_
  refine RG.nil ?_
  refine WP.seq ?_
  refine WP.seq ?_
  refine WP.region ?_
  refine RG.pv rfl (PV.move (v := v) rfl rfl) ?_
  refine RG.pv rfl (PV.len (v := v) rfl Tryz.underlying66 rfl (SlF.r h1)) ?_
  refine RG.pv rfl (PV.gtr rfl rfl rfl) ?_
  refine RG.nil ?_
  refine WP.cond rfl (fun h2 => ?_) (fun h2 => ?_)
  · have h2 := of_decide_eq_true h2
    have e : repOk (erVs xs) = false := by
      have : ¬ (erVs xs).length ≤ 256 := by omega
      simp [repOk, this]
    rw [e] at k
    refine WP.seq ?_
    refine WP.region ?_
    refine RG.pv rfl (PV.mvB (.inr rfl) rfl) ?_
    refine RG.nil ?_
    refine WP.ret ?_
    exact ⟨_, _, ResV.one rfl rfl, Cv.p, k⟩
  · have h2 := of_decide_eq_false h2
    refine WP.skip ?_
    refine WP.seq ?_
    refine WP.seq ?_
    refine WP.region ?_
    refine RG.pv rfl (PV.mvI (.inr rfl) rfl) ?_
    refine RG.nil ?_
    refine WP.block ?_
    refine WP.loop1 [0] (fun i => i ≤ xs.length ∧ ∀ j, j < i → okV (gd (erVs xs) j) = true ∧ ∀ m, m < j → befV (gd (erVs xs) m) (gd (erVs xs) j) = true) (fun i => [(3, vi i)]) (fun i => L) (fun i => xs.length - i) 0 ⟨by omega, fun j h => by omega⟩ ⟨rfl, trivial⟩ Cv.p ?_
    rintro i τ ⟨hi, hj⟩
    refine WP.seq ?_
    refine WP.seq ?_
    refine WP.region ?_
    refine RG.pv rfl (PV.mvI (.inl rfl) rfl) ?_
    refine RG.pv rfl (PV.move (v := v) rfl rfl) ?_
    refine RG.pv rfl (PV.len (v := v) rfl Tryz.underlying66 rfl (SlF.r h1)) ?_
    refine RG.pv rfl (PV.lss rfl rfl rfl) ?_
    refine RG.nil ?_
    refine WP.cond rfl (fun h3 => ?_) (fun h3 => ?_)
    · have h3 := of_decide_eq_true h3
      have hei := erVs_gd (xs := xs) (i := i) (by omega)
      refine WP.skip ?_
      refine WP.seq ?_
      refine WP.block ?_
      refine WP.seq ?_
      refine WP.seq ?_
      refine WP.region ?_
      refine RG.pv rfl (PV.move (v := v) rfl rfl) ?_
      refine RG.pv rfl (PV.mvI (.inl rfl) rfl) ?_
      refine RG.pv rfl (PV.idxS (v := v) rfl Is66 rfl (SlF.r h1) rfl rfl (by omega)) ?_
      refine RG.pv rfl (PV.loadE rfl Ag37 rfl rfl (El.r h1 (getG (by omega)))) ?_
      refine RG.callF (vs := [_]) rfl rfl En61 rfl (okV_r (hd.marker (by omega)).up ?_)
      refine RG.pv rfl (PV.not rfl rfl) ?_
      refine RG.nil ?_
      refine WP.cond rfl (fun h4 => ?_) (fun h4 => ?_)
      · have e : repAt (erVs xs) i = false := by
          have : okV (erV (gd xs i)) = false := by simpa using h4
          rw [repAt, hei, this]; rfl
        rw [rep_false (by omega) e] at k
        refine WP.seq ?_
        refine WP.region ?_
        refine RG.pv rfl (PV.mvB (.inr rfl) rfl) ?_
        refine RG.nil ?_
        refine WP.ret ?_
        exact ⟨_, _, ResV.one rfl rfl, Cv.p, k⟩
      · have hok : okV (gd (erVs xs) i) = true := by rw [hei]; simpa using h4
        have hokj : ∀ j, j < i → okV (gd (erVs xs) j) = true := fun j h => (hj j h).1
        refine WP.skip ?_
        refine WP.seq ?_
        refine WP.region ?_
        refine RG.pv rfl (PV.mvI (.inr rfl) rfl) ?_
        refine RG.nil ?_
        refine WP.block ?_
        refine WP.loop1 [0, 3] (fun j => j ≤ i ∧ ∀ m, m < j → befV (gd (erVs xs) m) (gd (erVs xs) i) = true) (fun j => [(4, vi j)]) (fun j => L) (fun j => i - j) 0 ⟨by omega, fun m h => by omega⟩ ⟨rfl, trivial⟩ Cv.p ?_
        rintro j τ1 ⟨hji, hjb⟩
        refine WP.seq ?_
        refine WP.seq ?_
        refine WP.region ?_
        refine RG.pv rfl (PV.mvI (.inl rfl) rfl) ?_
        refine RG.pv rfl (PV.mvI (.inl rfl) rfl) ?_
        refine RG.pv rfl (PV.lss rfl rfl rfl) ?_
        refine RG.nil ?_
        refine WP.cond rfl (fun h5 => ?_) (fun h5 => ?_)
        · have h5 := of_decide_eq_true h5
          have hej := erVs_gd (xs := xs) (i := j) (by omega)
          refine WP.skip ?_
          refine WP.seq ?_
          refine WP.block ?_
          refine WP.seq ?_
          refine WP.regionQ (by kernel_rfl) (by kernel_rfl) ?_
          refine RQ.pv rfl (PV.move (v := v) rfl rfl) ?_
          refine RQ.pv rfl (PV.mvI (.inl rfl) rfl) ?_
          refine RQ.pv rfl (PV.idxS (v := v) rfl Is66 rfl (SlF.r h1) rfl rfl (by omega)) ?_
          refine RQ.pv rfl (PV.loadE rfl Ag37 rfl rfl (El.r h1 (getG (by omega)))) ?_
          refine RQ.pv rfl (PV.move (v := v) rfl rfl) ?_
          refine RQ.pv rfl (PV.mvI (.inl rfl) rfl) ?_
          refine RQ.pv rfl (PV.idxS (v := v) rfl Is66 rfl (SlF.r h1) rfl rfl (by omega)) ?_
          refine RQ.pv rfl (PV.loadE rfl Ag37 rfl rfl (El.r h1 (getG (by omega)))) ?_
          refine RQ.callF (vs := [_, _]) rfl rfl En203 rfl (before_s (hd.marker (by omega)).up (hd.marker (by omega)).up (by have := hokj j (by omega); rwa [erVs_gd (by omega)] at this) (by rw [erVs_gd (by omega)] at hok; exact hok) ⟨rfl, rfl, rfl⟩) ?_
          refine RQ.pv rfl (PV.not rfl rfl) ?_
          refine RQ.nil ?_
          refine WP.cond rfl (fun h6 => ?_) (fun h6 => ?_)
          · have e : befV (gd (erVs xs) j) (gd (erVs xs) i) = false := by rw [hei, hej]; simpa using h6
            rw [rep_pair_false (by omega) (by omega) e] at k
            refine WP.seq ?_
            refine WP.region ?_
            refine RG.pv rfl (PV.mvB (.inr rfl) rfl) ?_
            refine RG.nil ?_
            refine WP.ret ?_
            exact ⟨_, _, ResV.one rfl rfl, Cv.p, k⟩
          · have hjb' : ∀ m, m < j + 1 → befV (gd (erVs xs) m) (gd (erVs xs) i) = true := fun m h => by
              by_cases c : m = j
              · rw [c, hei, hej]; simpa using h6
              · exact hjb m (by omega)
            refine WP.skip ?_
            refine WP.region ?_
            refine RG.pv rfl (PV.mvI (.inl rfl) rfl) ?_
            refine RG.pv rfl (PV.add rfl rfl rfl (by omega)) ?_
            refine RG.pv rfl (PV.mvI (.inr rfl) rfl) ?_
            refine RG.nil ?_
            exact ⟨rfl, j + 1, ⟨by omega, hjb'⟩, ⟨rfl, trivial⟩, ⟨rfl, rfl, trivial⟩, Cv.p, by omega⟩
        · have h5 := of_decide_eq_false h5
          have hj' : ∀ j, j < i + 1 → okV (gd (erVs xs) j) = true ∧ ∀ m, m < j → befV (gd (erVs xs) m) (gd (erVs xs) j) = true := fun m h => by
            by_cases c : m = i
            · rw [c]; exact ⟨hok, fun q hq => hjb q (by omega)⟩
            · exact hj m (by omega)
          refine WP.exit ?_
          refine WP.region ?_
          refine RG.pv rfl (PV.mvI (.inl rfl) rfl) ?_
          refine RG.pv rfl (PV.add rfl rfl rfl (by omega)) ?_
          refine RG.pv rfl (PV.mvI (.inr rfl) rfl) ?_
          refine RG.nil ?_
          exact ⟨rfl, i + 1, ⟨by omega, hj'⟩, ⟨rfl, trivial⟩, ⟨rfl, trivial⟩, Cv.p, by omega⟩
    · have h3 := of_decide_eq_false h3
      rw [rep_pairs (by omega) (fun i hi => hj i (by omega))] at k
      refine WP.exit ?_
      refine WP.seq ?_
      refine WP.region ?_
      refine RG.pv rfl (PV.mvB (.inr rfl) rfl) ?_
      refine RG.nil ?_
      refine WP.ret ?_
      exact ⟨_, _, ResV.one rfl rfl, Cv.p, k⟩
theorem blkM_stop {E : List (Int × List Rect)} {q : Int × List Rect} {k : Nat} (h : ¬ (gd E k).1 = q.1) : blkM E q (k + 1) = false := by rw [blkM, if_neg h]
theorem blkM_go {E : List (Int × List Rect)} {q : Int × List Rect} {k : Nat} (h : (gd E k).1 = q.1) : blkM E q (k + 1) = (meetB (gd E k).2 q.2 || blkM E q k) := by rw [blkM, if_pos h]
theorem report_i {v : Value} {xs : List Viol} (h1 : Rs G L violT v xs) (hd : RsE G L rectT (mks xs)) (k : R (.bool (repOk (erVs xs))) G L) : CallT Tryz.prog 148 #[v] G L R := by
  refine CallT.bd h1 fun hb => ?_
  have hel := erVs_len xs
  refine CallT.enter (args := _) Tryz.func148 rfl rfl (by kernel_rfl) rfl ?_
  refine WP.seq ?_
  refine WP.region ?_
  refine RG.pv rfl (PV.mvB (.inr rfl) rfl) ?_
  refine RG.nil ?_
  refine WP.seq ?_
  refine WP.seq ?_
  refine WP.region ?_
  refine RG.pv rfl (PV.move (v := v) rfl rfl) ?_
  refine RG.pv rfl (PV.len (v := v) rfl Tryz.underlying66 rfl (SlF.r h1)) ?_
  refine RG.pv rfl (PV.gtr rfl rfl rfl) ?_
  refine RG.nil ?_
  refine WP.cond rfl (fun h2 => ?_) (fun h2 => ?_)
  · have h2 := of_decide_eq_true h2
    have e : repOk (erVs xs) = false := by
      have : ¬ (erVs xs).length ≤ 256 := by omega
      simp [repOk, this]
    rw [e] at k
    refine WP.seq ?_
    refine WP.region ?_
    refine RG.pv rfl (PV.mvB (.inr rfl) rfl) ?_
    refine RG.nil ?_
    refine WP.ret ?_
    exact ⟨_, _, ResV.one rfl rfl, Cv.p, k⟩
  · have h2 := of_decide_eq_false h2
    refine WP.skip ?_
    refine WP.seq ?_
    refine WP.seq ?_
    refine WP.region ?_
    refine RG.pv rfl (PV.move (v := v) rfl rfl) ?_
    refine RG.pv rfl (PV.len (v := v) rfl Tryz.underlying66 rfl (SlF.r h1)) ?_
    refine RG.pv rfl (PV.mvI (.inl rfl) rfl) ?_
    refine RG.nil ?_
    refine WP.block ?_
    refine WP.loop1 [0, 9, 10] (fun i => i ≤ xs.length ∧ ∀ j, j < i → repAt (erVs xs) j = true) (fun i => [(11, vi i)]) (fun i => L) (fun i => xs.length - i) 0 ⟨by omega, fun j h => by omega⟩ ⟨rfl, trivial⟩ Cv.p ?_
    rintro i τ ⟨hi, hj⟩
    refine WP.seq ?_
    refine WP.region ?_
    refine RG.pv rfl (PV.lss rfl rfl rfl) ?_
    refine RG.nil ?_
    refine WP.seq ?_
    refine WP.cond rfl (fun h3 => ?_) (fun h3 => ?_)
    · have h3 := of_decide_eq_true h3
      have hpr : Rs G L rectT (gd xs i).marker.v (gd xs i).marker.xs := hd.marker (by omega)
      have hei := erVs_gd (xs := xs) (i := i) (by omega)
      refine WP.skip ?_
      refine WP.seq ?_
      refine WP.block ?_
      refine WP.seq ?_
      refine WP.region ?_
      refine RG.pv rfl (PV.mvI (.inl rfl) rfl) ?_
      refine RG.pv rfl (PV.idxS (v := v) rfl Is66 rfl (SlF.r h1) rfl rfl (by omega)) ?_
      refine RG.pv rfl (PV.loadE rfl Ag37 rfl rfl (El.r h1 (getG (by omega)))) ?_
      refine RG.ot rfl (OT.alloc rfl Zr37 fun b4 => ?_)
      refine RG.pv rfl (PV.mvI (.inr rfl) rfl) ?_
      refine RG.ot rfl (OT.storeW (vs := [vi _, _]) rfl Sz37 rfl rfl (Cl.c rfl) rfl rfl (OneC.val rfl (OneC.sl (SlF.r hpr) OneC.nil)) ?_)
      refine RG.nil ?_
      refine WP.seq ?_
      refine WP.seq ?_
      refine WP.region ?_
      refine RG.pv rfl (PV.loadW rfl Ag37 rfl rfl) ?_
      refine RG.callF (vs := [_]) rfl rfl En65 rfl (okV_i (hd.marker (by omega)).up ?_)
      refine RG.pv rfl (PV.not rfl rfl) ?_
      refine RG.nil ?_
      refine WP.cond rfl (fun h4 => ?_) (fun h4 => ?_)
      · have e : repAt (erVs xs) i = false := by
          have : okV (erV (gd xs i)) = false := by simpa using h4
          rw [repAt, hei, this]; rfl
        rw [rep_false (by omega) e] at k
        refine WP.seq ?_
        refine WP.region ?_
        refine RG.pv rfl (PV.mvB (.inr rfl) rfl) ?_
        refine RG.nil ?_
        refine WP.ret ?_
        exact ⟨_, _, ResV.one rfl rfl, Cv.p, k⟩
      · have hok : okV (gd (erVs xs) i) = true := by rw [hei]; simpa using h4
        obtain ⟨hr0, hn0, _⟩ := okV_reg hok
        rw [hei] at hr0 hn0
        have hn0 : 0 < (gd xs i).marker.xs.length := hn0
        have hnext : stepV (erVs xs) i = true → ∀ j, j < i + 1 → repAt (erVs xs) j = true := fun hs j h => by
          by_cases c : j = i
          · rw [c, repAt, hok, hs]; rfl
          · exact hj j (by omega)
        have hstep : 0 < i → stepV (erVs xs) i = (decide ((gd xs (i - 1)).rule < (gd xs i).rule) || (decide ((gd xs (i - 1)).rule = (gd xs i).rule) && rLt (gd (gd xs (i - 1)).marker.xs 0) (gd (gd xs i).marker.xs 0) && !blkM (erVs xs) (erV (gd xs i)) i)) := fun h0 => by
          rw [stepV, hei, erVs_gd (show i - 1 < xs.length by omega), decide_eq_false (show ¬ i = 0 by omega), Bool.false_or]; rfl
        refine WP.skip ?_
        refine WP.seq ?_
        refine WP.seq ?_
        refine WP.regionQ (by kernel_rfl) (by kernel_rfl) ?_
        refine RQ.pv rfl (PV.mvI (.inl rfl) rfl) ?_
        refine RQ.pv rfl (PV.eql rfl rfl rfl) ?_
        refine RQ.pv rfl (PV.mvB (.inl rfl) rfl) ?_
        refine RQ.gs rfl rfl rfl (fun hp => (PV.move (v := v) rfl rfl)) ?_
        refine RQ.gs rfl rfl rfl (fun hp => (PV.mvI (.inl rfl) rfl)) ?_
        refine RQ.gs rfl rfl rfl (fun hp => (PV.sub rfl (gs_t hp) rfl (by first | omega | (simp at hp; omega)))) ?_
        refine RQ.gs rfl rfl rfl (fun hp => (PV.idxS (j := i - 1) (v := v) rfl Is66 (gs_t hp) (SlF.r h1) (gs_t hp) (by first | omega | (simp at hp; omega)) (by first | omega | (simp at hp; omega)))) ?_
        refine RQ.gs rfl rfl rfl (fun hp => (PV.field rfl Fo37_0 (gs_t hp))) ?_
        refine RQ.gs rfl rfl rfl (fun hp => (PV.loadF rfl Sc2 (gs_t hp) rfl (El.r h1 (getG (by first | omega | (simp at hp; omega)))) rfl)) ?_
        refine RQ.gs rfl rfl rfl (fun hp => (PV.field rfl Fo37_0 rfl)) ?_
        refine RQ.gs rfl rfl rfl (fun hp => (PV.load1 rfl Sc2 (gs_t hp) (Rd.blk rfl))) ?_
        refine RQ.gs rfl rfl rfl (fun hp => (PV.lss rfl (gs_t hp) (gs_t hp))) ?_
        refine RQ.pv rfl (PV.pickO rfl rfl rfl (fun hq => gs_t (geqF hq))) ?_
        refine RQ.nil ?_
        refine WP.cond rfl (fun h5 => ?_) (fun h5 => ?_)
        · have hs : stepV (erVs xs) i = true := by
            by_cases c : i = 0
            · simp [stepV, c]
            · rw [hstep (by omega)]
              have : (gd xs (i - 1)).rule < (gd xs i).rule := by
                simp [c] at h5; exact h5
              simp [this]
          refine WP.exit ?_
          refine WP.region ?_
          refine RG.pv rfl (PV.add rfl rfl rfl (by omega)) ?_
          refine RG.pv rfl (PV.mvI (.inl rfl) rfl) ?_
          refine RG.nil ?_
          exact ⟨rfl, i + 1, ⟨by omega, hnext hs⟩, ⟨rfl, trivial⟩, ⟨rfl, rfl, rfl, trivial⟩, Cv.p, by omega⟩
        · have hi0 : 0 < i := by
            rcases Nat.eq_zero_or_pos i with c | c
            · subst c; simp at h5
            · exact c
          have hge : (gd xs i).rule ≤ (gd xs (i - 1)).rule := by
            have c : ¬ i = 0 := by omega
            simp [c] at h5; exact h5
          have hn1 : 0 < (gd xs (i - 1)).marker.xs.length := by
            have := hj (i - 1) (by omega)
            rw [repAt, Bool.and_eq_true, erVs_gd (by omega)] at this
            exact (okV_reg this.1).2.1
          refine WP.skip ?_
          refine WP.seq ?_
          refine WP.seq ?_
          refine WP.regionQ (by kernel_rfl) (by kernel_rfl) ?_
          refine RQ.pv rfl (PV.move (v := v) rfl rfl) ?_
          refine RQ.pv rfl (PV.mvI (.inl rfl) rfl) ?_
          refine RQ.pv rfl (PV.sub rfl rfl rfl (by omega)) ?_
          refine RQ.pv rfl (PV.idxS (j := i - 1) (v := v) rfl Is66 rfl (SlF.r h1) rfl (by omega) (by omega)) ?_
          refine RQ.pv rfl (PV.field rfl Fo37_0 rfl) ?_
          refine RQ.pv rfl (PV.loadF rfl Sc2 rfl rfl (El.r h1 (getG (by omega))) rfl) ?_
          refine RQ.pv rfl (PV.field rfl Fo37_0 rfl) ?_
          refine RQ.pv rfl (PV.load1 rfl Sc2 rfl (Rd.blk rfl)) ?_
          refine RQ.pv rfl (PV.gtr rfl rfl rfl) ?_
          refine RQ.pv rfl (PV.mvB (.inl rfl) rfl) ?_
          refine RQ.gs rfl rfl rfl (fun hp => (PV.move (v := v) rfl rfl)) ?_
          refine RQ.gs rfl rfl rfl (fun hp => (PV.mvI (.inl rfl) rfl)) ?_
          refine RQ.gs rfl rfl rfl (fun hp => (PV.sub rfl (gs_t hp) rfl (by first | omega | (simp at hp; omega)))) ?_
          refine RQ.gs rfl rfl rfl (fun hp => (PV.idxS (j := i - 1) (v := v) rfl Is66 (gs_t hp) (SlF.r h1) (gs_t hp) (by first | omega | (simp at hp; omega)) (by first | omega | (simp at hp; omega)))) ?_
          refine RQ.gs rfl rfl rfl (fun hp => (PV.field rfl Fo37_1 (gs_t hp))) ?_
          refine RQ.gs rfl rfl rfl (fun hp => (PV.loadF rfl Sc35 (gs_t hp) rfl (El.r h1 (getG (by first | omega | (simp at hp; omega)))) rfl)) ?_
          refine RQ.gs rfl rfl rfl (fun hp => (PV.idxS (j := 0) rfl Is35 (gs_t hp) (SlF.r (hd.marker (by omega))) rfl (by first | omega | (simp at hp; omega)) (by first | omega | (simp at hp; omega)))) ?_
          refine RQ.gs rfl rfl rfl (fun hp => (PV.loadE rfl Ag101 (gs_t hp) rfl (El.r (hd.marker (by omega)) (getG (by first | omega | (simp at hp; omega)))))) ?_
          refine RQ.gs rfl rfl rfl (fun hp => (PV.field rfl Fo37_1 rfl)) ?_
          refine RQ.gs rfl rfl rfl (fun hp => (PV.load1 rfl Sc35 (gs_t hp) (Rd.blk rfl))) ?_
          refine RQ.gs rfl rfl rfl (fun hp => (PV.idxS (j := 0) rfl Is35 (gs_t hp) (SlF.r hpr) rfl (by first | omega | (simp at hp; omega)) (by first | omega | (simp at hp; omega)))) ?_
          refine RQ.gs rfl rfl rfl (fun hp => (PV.loadE rfl Ag101 (gs_t hp) rfl (El.r hpr (getG (by first | omega | (simp at hp; omega)))))) ?_
          refine RQ.gsC rfl rfl rfl rfl En205 (fun hp => ⟨_, (acons (gs_t hp) (acons (gs_t hp) anil)), compareRects_s ⟨rfl, rfl, rfl⟩⟩) ?_
          refine RQ.gs rfl rfl rfl (fun hp => (PV.geq rfl (gs_t hp) rfl)) ?_
          refine RQ.pv rfl (PV.pickO rfl rfl rfl (fun hq => gs_t (geqF hq))) ?_
          refine RQ.nil ?_
          refine WP.cond rfl (fun h6 => ?_) (fun h6 => ?_)
          · have hs : stepV (erVs xs) i = false := by
              rw [hstep hi0, decide_eq_false (show ¬ (gd xs (i - 1)).rule < (gd xs i).rule by omega), Bool.false_or]
              by_cases c : (gd xs (i - 1)).rule = (gd xs i).rule
              · have hl : rLt (gd (gd xs (i - 1)).marker.xs 0) (gd (gd xs i).marker.xs 0) = false := by
                  have hc := cmpR_ge (gd (gd xs (i - 1)).marker.xs 0) (gd (gd xs i).marker.xs 0)
                  simp only [Bool.or_eq_true, decide_eq_true_eq] at h6
                  rcases h6 with h6 | h6
                  · omega
                  · rw [decide_eq_true h6] at hc; simpa using hc.symm
                rw [hl]; simp
              · simp [c]
            have e : repAt (erVs xs) i = false := by rw [repAt, hs, Bool.and_false]
            rw [rep_false (by omega) e] at k
            refine WP.seq ?_
            refine WP.region ?_
            refine RG.pv rfl (PV.mvB (.inr rfl) rfl) ?_
            refine RG.nil ?_
            refine WP.ret ?_
            exact ⟨_, _, ResV.one rfl rfl, Cv.p, k⟩
          · have hge2 : (gd xs (i - 1)).rule = (gd xs i).rule := by
              simp only [Bool.or_eq_false_iff, decide_eq_false_iff_not] at h6; omega
            have hl : rLt (gd (gd xs (i - 1)).marker.xs 0) (gd (gd xs i).marker.xs 0) = true := by
              have hc := cmpR_ge (gd (gd xs (i - 1)).marker.xs 0) (gd (gd xs i).marker.xs 0)
              simp only [Bool.or_eq_false_iff] at h6
              rw [h6.2] at hc; simpa using hc.symm
            have hstep2 : stepV (erVs xs) i = !blkM (erVs xs) (erV (gd xs i)) i := by
              rw [hstep hi0, decide_eq_false (show ¬ (gd xs (i - 1)).rule < (gd xs i).rule by omega), Bool.false_or, hl, decide_eq_true hge2]; rfl
            refine WP.skip ?_
            refine WP.seq ?_
            refine WP.region ?_
            refine RG.pv rfl (PV.mvI (.inl rfl) rfl) ?_
            refine RG.pv rfl (PV.sub rfl rfl rfl (by omega)) ?_
            refine RG.pv rfl (PV.mvI (.inr rfl) rfl) ?_
            refine RG.nil ?_
            refine WP.block ?_
            refine WP.loop1 [0, 4, 9, 10, 11] (fun (m : Int) => 0 ≤ m ∧ m ≤ i ∧ blkM (erVs xs) (erV (gd xs i)) i = blkM (erVs xs) (erV (gd xs i)) m.toNat) (fun (m : Int) => [(5, vi (m - 1))]) (fun (m : Int) => blk b4 37 (violT.enc (gd xs i)) :: L) (fun (m : Int) => m.toNat) (i : Int) ⟨by omega, by omega, by rw [Int.toNat_natCast]⟩ ⟨rfl, trivial⟩ Cv.p ?_
            rintro m τ1 ⟨hm0, hm, hmb⟩
            refine WP.seq ?_
            refine WP.seq ?_
            refine WP.regionQ (by kernel_rfl) (by kernel_rfl) ?_
            refine RQ.pv rfl (PV.mvI (.inl rfl) rfl) ?_
            refine RQ.pv rfl (PV.geq rfl rfl rfl) ?_
            refine RQ.pv rfl (PV.mvB (.inl rfl) rfl) ?_
            refine RQ.gs rfl rfl rfl (fun hp => (PV.move (v := v) rfl rfl)) ?_
            refine RQ.gs rfl rfl rfl (fun hp => (PV.mvI (.inl rfl) rfl)) ?_
            refine RQ.gs rfl rfl rfl (fun hp => (PV.idxS (j := (m - 1).toNat) (v := v) rfl Is66 (gs_t hp) (SlF.r h1) (gs_t hp) (by first | omega | (simp at hp; omega)) (by first | omega | (simp at hp; omega)))) ?_
            refine RQ.gs rfl rfl rfl (fun hp => (PV.field rfl Fo37_0 (gs_t hp))) ?_
            refine RQ.gs rfl rfl rfl (fun hp => (PV.loadF rfl Sc2 (gs_t hp) rfl (El.r h1 (getG (by first | omega | (simp at hp; omega)))) rfl)) ?_
            refine RQ.gs rfl rfl rfl (fun hp => (PV.field rfl Fo37_0 rfl)) ?_
            refine RQ.gs rfl rfl rfl (fun hp => (PV.load1 rfl Sc2 (gs_t hp) (Rd.blk rfl))) ?_
            refine RQ.gs rfl rfl rfl (fun hp => (PV.eql rfl (gs_t hp) (gs_t hp))) ?_
            refine RQ.pv rfl (PV.pickA rfl rfl (fun hq => gs_t (geqT hq)) rfl) ?_
            refine RQ.nil ?_
            refine WP.cond rfl (fun h7 => ?_) (fun h7 => ?_)
            · have h8 : 1 ≤ m ∧ (gd xs (m - 1).toNat).rule = (gd xs i).rule := by
                simp only [Bool.and_eq_true, decide_eq_true_eq] at h7; exact ⟨by omega, h7.2⟩
              have hem := erVs_gd (xs := xs) (i := (m - 1).toNat) (by omega)
              have hbg : blkM (erVs xs) (erV (gd xs i)) m.toNat = (meetB (gd xs (m - 1).toNat).marker.xs (gd xs i).marker.xs || blkM (erVs xs) (erV (gd xs i)) (m - 1).toNat) := by
                rw [show m.toNat = (m - 1).toNat + 1 by omega, blkM_go (by rw [hem]; exact h8.2), hem]; rfl
              refine WP.skip ?_
              refine WP.seq ?_
              refine WP.block ?_
              refine WP.seq ?_
              refine WP.regionQ (by kernel_rfl) (by kernel_rfl) ?_
              refine RQ.pv rfl (PV.move (v := v) rfl rfl) ?_
              refine RQ.pv rfl (PV.mvI (.inl rfl) rfl) ?_
              refine RQ.pv rfl (PV.idxS (j := (m - 1).toNat) (v := v) rfl Is66 rfl (SlF.r h1) rfl (by omega) (by omega)) ?_
              refine RQ.pv rfl (PV.field rfl Fo37_1 rfl) ?_
              refine RQ.pv rfl (PV.loadF rfl Sc35 rfl rfl (El.r h1 (getG (by omega))) rfl) ?_
              refine RQ.pv rfl (PV.field rfl Fo37_1 rfl) ?_
              refine RQ.pv rfl (PV.load1 rfl Sc35 rfl (Rd.blk rfl)) ?_
              refine RQ.callF (vs := [_, _]) rfl rfl En206 rfl (meet_s (hd.marker (by omega)).up (hd.marker (by omega)).up ⟨rfl, rfl, rfl⟩) ?_
              refine RQ.nil ?_
              refine WP.cond rfl (fun h9 => ?_) (fun h9 => ?_)
              · have hs : stepV (erVs xs) i = false := by rw [hstep2, hmb, hbg, h9]; rfl
                have e : repAt (erVs xs) i = false := by rw [repAt, hs, Bool.and_false]
                rw [rep_false (by omega) e] at k
                refine WP.seq ?_
                refine WP.region ?_
                refine RG.pv rfl (PV.mvB (.inr rfl) rfl) ?_
                refine RG.nil ?_
                refine WP.ret ?_
                exact ⟨_, _, ResV.one rfl rfl, Cv.p, k⟩
              · rw [h9, Bool.false_or] at hbg
                refine WP.skip ?_
                refine WP.region ?_
                refine RG.pv rfl (PV.mvI (.inl rfl) rfl) ?_
                refine RG.pv rfl (PV.sub rfl rfl rfl (by omega)) ?_
                refine RG.pv rfl (PV.mvI (.inr rfl) rfl) ?_
                refine RG.nil ?_
                exact ⟨rfl, (m - 1), ⟨by omega, by omega, by rw [hmb, hbg]⟩, ⟨rfl, trivial⟩, ⟨rfl, rfl, rfl, rfl, rfl, trivial⟩, Cv.p, by omega⟩
            · have hs : stepV (erVs xs) i = true := by
                rw [hstep2, hmb]
                rcases (by omega : m = 0 ∨ 1 ≤ m) with c | c
                · subst c; rfl
                · rw [show m.toNat = (m - 1).toNat + 1 by omega, blkM_stop]
                  · rfl
                  · rw [erVs_gd (by omega)]
                    intro e
                    have : (gd xs (m - 1).toNat).rule = (gd xs i).rule := e
                    simp only [this, decide_true, Bool.and_true, decide_eq_false_iff_not] at h7; omega
              refine WP.exit ?_
              refine WP.region ?_
              refine RG.pv rfl (PV.add rfl rfl rfl (by omega)) ?_
              refine RG.pv rfl (PV.mvI (.inl rfl) rfl) ?_
              refine RG.nil ?_
              exact ⟨rfl, i + 1, ⟨by omega, hnext hs⟩, ⟨rfl, trivial⟩, ⟨rfl, rfl, rfl, trivial⟩, Cv.p, by omega⟩
    · have h3 := of_decide_eq_false h3
      rw [rep_all (by omega) (fun i hi => hj i (by omega))] at k
      refine WP.exit ?_
      refine WP.seq ?_
      refine WP.region ?_
      refine RG.pv rfl (PV.mvB (.inr rfl) rfl) ?_
      refine RG.nil ?_
      refine WP.ret ?_
      exact ⟨_, _, ResV.one rfl rfl, Cv.p, k⟩
end Go.Proofs.YtgngpegmaceaiaaGreat
namespace Go.Proofs.YtgngpegmaceaiaaGreat
set_option linter.unusedVariables false
set_option linter.unusedSimpArgs false
open Go
set_option maxRecDepth 20000
set_option linter.unusedSimpArgs false
variable {G : Gh} {L : List Ch} {R : Value → Gh → List Ch → Prop}
noncomputable def wcBad (rs : List Rule) (E : List (Int × List Rect)) (ws : List Waiver) : Bool := !deckOk rs || !repOk E || !isWL ws
def wcFar (rs : List Rule) (E : List (Int × List Rect)) : Bool := E.any fun v => decide ((rs.length : Int) ≤ v.1)
noncomputable def wCode (rs : List Rule) (E : List (Int × List Rect)) (ws : List Waiver) : Int := bif wcBad rs E ws then 1 else bif wcFar rs E then 5 else 0
theorem wCode_zero {rs : List Rule} {E : List (Int × List Rect)} {ws : List Waiver} (h : wCode rs E ws = 0) : deckOk rs = true ∧ repOk E = true ∧ isWL ws = true ∧ ∀ i, i < E.length → (gd E i).1 < rs.length := by
  unfold wCode at h
  cases hb : wcBad rs E ws with
  | true => rw [hb] at h; cases h
  | false =>
    rw [hb, cond_false] at h
    cases hf : wcFar rs E with
    | true => rw [hf] at h; cases h
    | false =>
      simp only [wcBad, Bool.or_eq_false_iff, Bool.not_eq_false'] at hb
      refine ⟨hb.1.1, hb.1.2, hb.2, fun i hi => ?_⟩
      rw [wcFar, List.any_eq_false] at hf
      have := hf (gd E i) (by rw [gd_eq hi]; exact List.getElem_mem _)
      simp only [decide_eq_true_eq] at this; omega
theorem wcFar_er (rs : List Rule) (xs : List Viol) : (xs.any fun v => decide ((rs.length : Int) ≤ v.rule)) = wcFar rs (erVs xs) := by
  rw [wcFar, erVs, List.any_map]; rfl
theorem wcode1_s {d : Deck} {v : Viol} {b : Nat} (h1 : Rs G L ruleT d.rules.v d.rules.xs) (hc : RdN G L b (deckT.enc d)) (k : R (.bool (decide ((d.rules.xs.length : Int) ≤ v.rule))) G L) : CallT Tryz.prog 149 #[vT violT v, .pointer (some ⟨b, 0, none⟩)] G L R := by
  refine CallT.enter (args := _) Tryz.func149 rfl rfl (by kernel_rfl) rfl ?_
  refine WP.seq ?_
  refine WP.region ?_
  refine RG.ot rfl (OT.box (cs := violT.enc v) rfl rfl rfl fun b2 => ?_)
  refine RG.pv rfl (PV.mvB (.inr rfl) rfl) ?_
  refine RG.nil ?_
  refine WP.seq ?_
  refine WP.region ?_
  refine RG.pv rfl (PV.field rfl Fo37_0 rfl) ?_
  refine RG.pv rfl (PV.load1 rfl Sc2 rfl (Rd.blk rfl)) ?_
  refine RG.pv rfl (PV.field rfl Fo33_0 rfl) ?_
  refine RG.pv rfl (PV.load1 rfl Sc31 rfl ((RdN.up hc) 0 _ rfl)) ?_
  refine RG.pv rfl (PV.len rfl Tryz.underlying31 rfl (SlF.r h1)) ?_
  refine RG.pv rfl (PV.geq rfl rfl rfl) ?_
  refine RG.pv rfl (PV.mvB (.inr rfl) rfl) ?_
  refine RG.nil ?_
  refine WP.ret ?_
  exact ⟨_, _, ResV.one rfl rfl, Cv.p, k⟩
theorem indexF_viol {v fv : Value} {xs : List (Viol)} {p : (Viol) → Bool} (h1 : Rs G L violT v xs) (hf : ∀ i, i < xs.length → CB Tryz.prog G L fv [vT violT (gd xs i)] (.bool (p (gd xs i)))) (k : R (vi (idxI p xs)) G L) : CallT Tryz.prog 150 #[v, fv] G L R := by
  refine CallT.bd h1 fun hb => ?_
  refine CallT.enter (args := _) Tryz.func150 rfl rfl (by kernel_rfl) rfl ?_
  refine WP.seq ?_
  refine WP.region ?_
  refine RG.pv rfl (PV.mvI (.inr rfl) rfl) ?_
  refine RG.nil ?_
  refine WP.seq ?_
  refine WP.seq ?_
  refine WP.region ?_
  refine RG.pv rfl (PV.move (v := v) rfl rfl) ?_
  refine RG.pv rfl (PV.len (v := v) rfl Tryz.underlying66 rfl (SlF.r h1)) ?_
  refine RG.pv rfl (PV.mvI (.inl rfl) rfl) ?_
  refine RG.nil ?_
  refine WP.block ?_
  refine WP.loop1 [0, 1, 7] (fun i => i ≤ xs.length ∧ ∀ j, j < i → p (gd xs j) = false) (fun i => [(8, vi i)]) (fun i => L) (fun i => xs.length - i) 0 ⟨by omega, fun j h => by omega⟩ ⟨rfl, trivial⟩ Cv.p ?_
  rintro i τ ⟨hi, hj⟩
  refine WP.seq ?_
  refine WP.region ?_
  refine RG.pv rfl (PV.lss rfl rfl rfl) ?_
  refine RG.nil ?_
  refine WP.seq ?_
  refine WP.cond rfl (fun h2 => ?_) (fun h2 => ?_)
  · have h2 := of_decide_eq_true h2
    refine WP.skip ?_
    refine WP.seq ?_
    refine WP.block ?_
    refine WP.seq ?_
    refine WP.region ?_
    refine RG.pv rfl (PV.mvI (.inl rfl) rfl) ?_
    refine RG.pv rfl (PV.mvI (.inr rfl) rfl) ?_
    refine RG.nil ?_
    refine WP.seq ?_
    refine WP.region ?_
    refine RG.pv rfl (PV.move (v := fv) rfl rfl) ?_
    refine RG.pv rfl (PV.move (v := v) rfl rfl) ?_
    refine RG.pv rfl (PV.mvI (.inl rfl) rfl) ?_
    refine RG.pv rfl (PV.idxS (v := v) rfl Is66 rfl (SlF.r h1) rfl rfl (by omega)) ?_
    refine RG.pv rfl (PV.loadE rfl Ag37 rfl rfl (El.r h1 (getG (by omega)))) ?_
    refine RG.callB (vs := [_]) rfl rfl rfl rfl (CB.up (hf i (by omega))) ?_
    refine RG.nil ?_
    refine WP.cond rfl (fun h3 => ?_) (fun h3 => ?_)
    · rw [idxI_at (by omega) h3 hj] at k
      refine WP.seq ?_
      refine WP.region ?_
      refine RG.pv rfl (PV.mvI (.inl rfl) rfl) ?_
      refine RG.pv rfl (PV.mvI (.inr rfl) rfl) ?_
      refine RG.nil ?_
      refine WP.ret ?_
      exact ⟨_, _, ResV.one rfl rfl, Cv.p, k⟩
    · have hj' : ∀ j, j < i + 1 → p (gd xs j) = false := fun j h => by
        by_cases c : j = i
        · rw [c]; exact h3
        · exact hj j (by omega)
      refine WP.skip ?_
      refine WP.region ?_
      refine RG.pv rfl (PV.add rfl rfl rfl (by omega)) ?_
      refine RG.pv rfl (PV.mvI (.inl rfl) rfl) ?_
      refine RG.nil ?_
      exact ⟨rfl, i + 1, ⟨by omega, hj'⟩, ⟨rfl, trivial⟩, ⟨rfl, rfl, rfl, trivial⟩, Cv.p, by omega⟩
  · have h2 := of_decide_eq_false h2
    rw [idxI_none (fun j h => hj j (by omega))] at k
    refine WP.exit ?_
    refine WP.seq ?_
    refine WP.region ?_
    refine RG.pv rfl (PV.mvI (.inr rfl) rfl) ?_
    refine RG.nil ?_
    refine WP.ret ?_
    exact ⟨_, _, ResV.one rfl rfl, Cv.p, k⟩
theorem containsF_viol {v fv : Value} {xs : List (Viol)} {p : (Viol) → Bool} (h1 : Rs G L violT v xs) (hf : ∀ i, i < xs.length → CB Tryz.prog G L fv [vT violT (gd xs i)] (.bool (p (gd xs i)))) (k : R (.bool (xs.any p)) G L) : CallT Tryz.prog 81 #[v, fv] G L R := by
  rw [← idxI_any] at k
  refine CallT.enter (args := _) Tryz.func81 rfl rfl (by kernel_rfl) rfl ?_
  refine WP.seq ?_
  refine WP.region ?_
  refine RG.pv rfl (PV.mvB (.inr rfl) rfl) ?_
  refine RG.nil ?_
  refine WP.seq ?_
  refine WP.region ?_
  refine RG.pv rfl (PV.move (v := v) rfl rfl) ?_
  refine RG.pv rfl (PV.move (v := fv) rfl rfl) ?_
  refine RG.callF (vs := [v, fv]) rfl rfl En150 rfl (indexF_viol (Rs.up h1) (fun i hi => (hf i hi).up) ?_)
  refine RG.pv rfl (PV.geq rfl rfl rfl) ?_
  refine RG.pv rfl (PV.mvB (.inr rfl) rfl) ?_
  refine RG.nil ?_
  refine WP.ret ?_
  exact ⟨_, _, ResV.one rfl rfl, Cv.p, k⟩
theorem wcode_i {d : Deck} {u w : Value} {xs : List Viol} {ws : List Waiver} (h1 : Rs G L ruleT d.rules.v d.rules.xs) (h2 : Rs G L violT u xs) (hd : RsE G L rectT (mks xs)) (h3 : Rs G L waiverT w ws) (hlen : ∀ i, i < ws.length → (gd ws i).reason.size ≤ 9223372036854775807)
    (k : R (vi (wCode d.rules.xs (erVs xs) ws)) G L) : CallT Tryz.prog 80 #[vT deckT d, u, w] G L R := by
  refine CallT.enter (args := _) Tryz.func80 rfl rfl (by kernel_rfl) rfl ?_
  refine WP.seq ?_
  refine WP.region ?_
  refine RG.ot rfl (OT.box (cs := deckT.enc d) rfl rfl rfl fun b3 => ?_)
  refine RG.pv rfl (PV.mvI (.inr rfl) rfl) ?_
  refine RG.nil ?_
  refine WP.seq ?_
  refine WP.block ?_
  refine WP.seq ?_
  refine WP.region ?_
  refine RG.pv rfl (PV.loadW rfl Ag33 rfl rfl) ?_
  refine RG.callF (vs := [_]) rfl rfl En64 rfl (deck_i h1.up ?_)
  refine RG.pv rfl (PV.not rfl rfl) ?_
  refine RG.pv rfl (PV.mvB (.inl rfl) rfl) ?_
  refine RG.gs rfl rfl rfl (fun hp => (PV.move (v := u) rfl rfl)) ?_
  refine RG.gsC rfl rfl rfl rfl En148 (fun hp => ⟨_, (acons (gs_t hp) anil), report_i h2.up hd.up ⟨rfl, rfl, rfl⟩⟩) ?_
  refine RG.gs rfl rfl rfl (fun hp => (PV.not rfl (gs_t hp))) ?_
  refine RG.pv rfl (PV.pickO rfl rfl rfl (fun hq => gs_t (geqF hq))) ?_
  refine RG.pv rfl (PV.mvB (.inl rfl) rfl) ?_
  refine RG.gs rfl rfl rfl (fun hp => (PV.move (v := w) rfl rfl)) ?_
  refine RG.gsC rfl rfl rfl rfl En97 (fun hp => ⟨_, (acons (gs_t hp) anil), isWL_s h3.up hlen ⟨rfl, rfl, rfl⟩⟩) ?_
  refine RG.gs rfl rfl rfl (fun hp => (PV.not rfl (gs_t hp))) ?_
  refine RG.pv rfl (PV.pickO rfl rfl rfl (fun hq => gs_t (geqF hq))) ?_
  refine RG.pv rfl (PV.mvB (.inr rfl) rfl) ?_
  refine RG.nil ?_
  refine WP.cond rfl (fun h4 => ?_) (fun h4 => ?_)
  · have e : wCode d.rules.xs (erVs xs) ws = 1 := by
      have : wcBad d.rules.xs (erVs xs) ws = true := h4
      rw [wCode, this]; rfl
    rw [e] at k
    refine WP.seq ?_
    refine WP.region ?_
    refine RG.pv rfl (PV.mvI (.inr rfl) rfl) ?_
    refine RG.nil ?_
    refine WP.ret ?_
    exact ⟨_, _, ResV.one rfl rfl, Cv.p, k⟩
  · have hb : wcBad d.rules.xs (erVs xs) ws = false := h4
    refine WP.seq ?_
    refine WP.region ?_
    refine RG.pv rfl (PV.move (v := u) rfl rfl) ?_
    refine RG.pv rfl (PV.mkf1 rfl rfl) ?_
    refine RG.callF (vs := [u, _]) rfl rfl En81 rfl (containsF_viol (Rs.up h2) (p := fun v => decide ((d.rules.xs.length : Int) ≤ v.rule)) (fun i hi => CB.mk1 En149 fun L' R c k => wcode1_s (Rs.cv c h1.up) (RdN.cv RdN.blk c) k) ?_)
    refine RG.pv rfl (PV.mvB (.inr rfl) rfl) ?_
    refine RG.nil ?_
    refine WP.cond rfl (fun h5 => ?_) (fun h5 => ?_)
    · have e : wCode d.rules.xs (erVs xs) ws = 5 := by rw [wCode, hb, cond_false, ← wcFar_er, h5]; rfl
      rw [e] at k
      refine WP.seq ?_
      refine WP.region ?_
      refine RG.pv rfl (PV.mvI (.inr rfl) rfl) ?_
      refine RG.nil ?_
      refine WP.ret ?_
      exact ⟨_, _, ResV.one rfl rfl, Cv.p, k⟩
    · have e : wCode d.rules.xs (erVs xs) ws = 0 := by rw [wCode, hb, cond_false, ← wcFar_er, h5]; rfl
      rw [e] at k
      refine WP.skip ?_
      refine WP.seq ?_
      refine WP.region ?_
      refine RG.pv rfl (PV.mvI (.inr rfl) rfl) ?_
      refine RG.nil ?_
      refine WP.ret ?_
      exact ⟨_, _, ResV.one rfl rfl, Cv.p, k⟩
theorem wcode_r {d : Deck} {u w : Value} {xs : List Viol} {ws : List Waiver} (h1 : Rs G L ruleT d.rules.v d.rules.xs) (h2 : Rs G L violT u xs) (hd : RsE G L rectT (mks xs)) (h3 : Rs G L waiverT w ws) (hlen : ∀ i, i < ws.length → (gd ws i).reason.size ≤ 9223372036854775807)
    (k : R (vi (wCode d.rules.xs (erVs xs) ws)) G L) : CallT Tryz.prog 78 #[vT deckT d, u, w] G L R := by
  refine CallT.bd h2 fun hb0 => ?_
  refine CallT.enter (args := _) Tryz.func78 rfl rfl (by kernel_rfl) rfl ?_
  refine WP.seq ?_
  refine WP.region ?_
  refine RG.ot rfl (OT.box (cs := deckT.enc d) rfl rfl rfl fun b3 => ?_)
  refine RG.pv rfl (PV.mvI (.inr rfl) rfl) ?_
  refine RG.nil ?_
  refine WP.seq ?_
  refine WP.seq ?_
  refine WP.region ?_
  refine RG.pv rfl (PV.loadW rfl Ag33 rfl rfl) ?_
  refine RG.callF (vs := [_]) rfl rfl En60 rfl (deck_r h1.up ?_)
  refine RG.pv rfl (PV.not rfl rfl) ?_
  refine RG.pv rfl (PV.mvB (.inl rfl) rfl) ?_
  refine RG.gs rfl rfl rfl (fun hp => (PV.move (v := u) rfl rfl)) ?_
  refine RG.gsC rfl rfl rfl rfl En146 (fun hp => ⟨_, (acons (gs_t hp) anil), report_r h2.up hd.up ⟨rfl, rfl, rfl⟩⟩) ?_
  refine RG.gs rfl rfl rfl (fun hp => (PV.not rfl (gs_t hp))) ?_
  refine RG.pv rfl (PV.pickO rfl rfl rfl (fun hq => gs_t (geqF hq))) ?_
  refine RG.pv rfl (PV.mvB (.inl rfl) rfl) ?_
  refine RG.gs rfl rfl rfl (fun hp => (PV.move (v := w) rfl rfl)) ?_
  refine RG.gsC rfl rfl rfl rfl En147 (fun hp => ⟨_, (acons (gs_t hp) anil), isWL_s' h3.up hlen ⟨rfl, rfl, rfl⟩⟩) ?_
  refine RG.gs rfl rfl rfl (fun hp => (PV.not rfl (gs_t hp))) ?_
  refine RG.pv rfl (PV.pickO rfl rfl rfl (fun hq => gs_t (geqF hq))) ?_
  refine RG.nil ?_
  refine WP.cond rfl (fun h4 => ?_) (fun h4 => ?_)
  · have e : wCode d.rules.xs (erVs xs) ws = 1 := by
      have : wcBad d.rules.xs (erVs xs) ws = true := h4
      rw [wCode, this]; rfl
    rw [e] at k
    refine WP.seq ?_
    refine WP.region ?_
    refine RG.pv rfl (PV.mvI (.inr rfl) rfl) ?_
    refine RG.nil ?_
    refine WP.ret ?_
    exact ⟨_, _, ResV.one rfl rfl, Cv.p, k⟩
  · have hb : wcBad d.rules.xs (erVs xs) ws = false := h4
    refine WP.skip ?_
    refine WP.seq ?_
    refine WP.seq ?_
    refine WP.region ?_
    refine RG.pv rfl (PV.mvI (.inr rfl) rfl) ?_
    refine RG.nil ?_
    refine WP.block ?_
    refine WP.loop1 [1, 3] (fun i => i ≤ xs.length ∧ ∀ j, j < i → decide ((d.rules.xs.length : Int) ≤ (gd xs j).rule) = false) (fun i => [(7, vi i)]) (fun i => blk b3 33 (deckT.enc d) :: L) (fun i => xs.length - i) 0 ⟨by omega, fun j h => by omega⟩ ⟨rfl, trivial⟩ Cv.p ?_
    rintro i τ ⟨hi, hj⟩
    refine WP.seq ?_
    refine WP.seq ?_
    refine WP.region ?_
    refine RG.pv rfl (PV.mvI (.inl rfl) rfl) ?_
    refine RG.pv rfl (PV.move (v := u) rfl rfl) ?_
    refine RG.pv rfl (PV.len (v := u) rfl Tryz.underlying66 rfl (SlF.r h2)) ?_
    refine RG.pv rfl (PV.lss rfl rfl rfl) ?_
    refine RG.nil ?_
    refine WP.cond rfl (fun h5 => ?_) (fun h5 => ?_)
    · have h5 := of_decide_eq_true h5
      refine WP.skip ?_
      refine WP.seq ?_
      refine WP.block ?_
      refine WP.seq ?_
      refine WP.regionQ (by kernel_rfl) (by kernel_rfl) ?_
      refine RQ.pv rfl (PV.move (v := u) rfl rfl) ?_
      refine RQ.pv rfl (PV.mvI (.inl rfl) rfl) ?_
      refine RQ.pv rfl (PV.idxS (v := u) rfl Is66 rfl (SlF.r h2) rfl rfl (by omega)) ?_
      refine RQ.pv rfl (PV.field rfl Fo37_0 rfl) ?_
      refine RQ.pv rfl (PV.loadF rfl Sc2 rfl rfl (El.r h2 (getG (by omega))) rfl) ?_
      refine RQ.pv rfl (PV.field rfl Fo33_0 rfl) ?_
      refine RQ.pv rfl (PV.load1 rfl Sc31 rfl (Rd.blk rfl)) ?_
      refine RQ.pv rfl (PV.len rfl Tryz.underlying31 rfl (SlF.r h1)) ?_
      refine RQ.pv rfl (PV.geq rfl rfl rfl) ?_
      refine RQ.nil ?_
      refine WP.cond rfl (fun h6 => ?_) (fun h6 => ?_)
      · have e : wCode d.rules.xs (erVs xs) ws = 5 := by
          have : (xs.any fun v => decide ((d.rules.xs.length : Int) ≤ v.rule)) = true := List.any_eq_true.2 ⟨gd xs i, by rw [gd_eq (by omega)]; exact List.getElem_mem _, h6⟩
          rw [wCode, hb, cond_false, ← wcFar_er, this]; rfl
        rw [e] at k
        refine WP.seq ?_
        refine WP.region ?_
        refine RG.pv rfl (PV.mvI (.inr rfl) rfl) ?_
        refine RG.nil ?_
        refine WP.ret ?_
        exact ⟨_, _, ResV.one rfl rfl, Cv.p, k⟩
      · have hj' : ∀ j, j < i + 1 → decide ((d.rules.xs.length : Int) ≤ (gd xs j).rule) = false := fun j h => by
          by_cases c : j = i
          · rw [c]; exact h6
          · exact hj j (by omega)
        refine WP.skip ?_
        refine WP.region ?_
        refine RG.pv rfl (PV.mvI (.inl rfl) rfl) ?_
        refine RG.pv rfl (PV.add rfl rfl rfl (by omega)) ?_
        refine RG.pv rfl (PV.mvI (.inr rfl) rfl) ?_
        refine RG.nil ?_
        exact ⟨rfl, i + 1, ⟨by omega, hj'⟩, ⟨rfl, trivial⟩, ⟨rfl, rfl, trivial⟩, Cv.p, by omega⟩
    · have h5 := of_decide_eq_false h5
      have e : wCode d.rules.xs (erVs xs) ws = 0 := by
        have : (xs.any fun v => decide ((d.rules.xs.length : Int) ≤ v.rule)) = false := by
          rw [List.any_eq_false]
          intro r hr
          obtain ⟨j, hj2, rfl⟩ := List.getElem_of_mem hr
          have := hj j (by omega)
          rw [gd_eq hj2] at this
          simpa using this
        rw [wCode, hb, cond_false, ← wcFar_er, this]; rfl
      rw [e] at k
      refine WP.exit ?_
      refine WP.seq ?_
      refine WP.region ?_
      refine RG.pv rfl (PV.mvI (.inr rfl) rfl) ?_
      refine RG.nil ?_
      refine WP.ret ?_
      exact ⟨_, _, ResV.one rfl rfl, Cv.p, k⟩
def sigA (rs : List Rule) (v : Int × List Rect) : Int := sigR (gd rs v.1.toNat) v.2
def usedW (rs : List Rule) (E : List (Int × List Rect)) (w : Waiver) : Bool := E.any fun v => decide (sigA rs v = w.sig)
noncomputable def unusedR (rs : List Rule) (E : List (Int × List Rect)) (ws : List Waiver) : List Waiver := if wCode rs E ws = 0 then ws.filter (fun w => !usedW rs E w) else []
theorem unusedR_len (rs : List Rule) (E : List (Int × List Rect)) (ws : List Waiver) : (unusedR rs E ws).length ≤ ws.length := by
  unfold unusedR; split
  · exact List.length_filter_le _ _
  · simp
theorem filter_step {α : Type} [Inhabited α] (p : α → Bool) {xs : List α} {i : Nat} (h : i < xs.length) : (xs.take (i + 1)).filter p = (xs.take i).filter p ++ (if p (gd xs i) then [gd xs i] else []) := by
  rw [List.take_add_one, getG h, List.filter_append]
  cases hp : p (gd xs i) <;> simp [hp]
/-- what a report gives for each of its violations -/
theorem rep_facts {rs : List Rule} {xs : List Viol} {ws : List Waiver} (h : wCode rs (erVs xs) ws = 0) {i : Nat} (hi : i < xs.length) : (0 ≤ (gd xs i).rule ∧ (gd xs i).rule < rs.length) ∧ validRule (gd rs (gd xs i).rule.toNat) = true ∧ isReg (gd xs i).marker.xs = true ∧ 0 < (gd xs i).marker.xs.length := by
  obtain ⟨q1, q2, q3, q4⟩ := wCode_zero h
  have hl := erVs_len xs
  have h1 := rep_okV q2 (i := i) (by omega)
  have h2 := q4 i (by omega)
  rw [erVs_gd hi] at h1 h2
  obtain ⟨a1, a2, a3, _⟩ := okV_reg h1
  have h2 : (gd xs i).rule < rs.length := h2
  have a3 : 0 ≤ (gd xs i).rule := a3
  exact ⟨⟨a3, h2⟩, deck_rule q1 (by omega), a1, a2⟩
theorem unused1_s {d : Deck} {v : Viol} {w : Waiver} {b c : Nat} (h1 : Rs G L ruleT d.rules.v d.rules.xs) (h2 : Rs G L rectT v.marker.v v.marker.xs) (hv : 0 ≤ v.rule ∧ v.rule < d.rules.xs.length) (hr : validRule (gd d.rules.xs v.rule.toNat) = true) (hreg : isReg v.marker.xs = true) (hne : 0 < v.marker.xs.length) (hb : RdN G L b (deckT.enc d)) (hc : RdN G L c (waiverT.enc w))
    (k : R (.bool (decide (sigA d.rules.xs (erV v) = w.sig))) G L) : CallT Tryz.prog 82 #[vT violT v, .pointer (some ⟨b, 0, none⟩), .pointer (some ⟨c, 0, none⟩)] G L R := by
  refine CallT.enter (args := _) Tryz.func82 rfl rfl (by kernel_rfl) rfl ?_
  refine WP.seq ?_
  refine WP.region ?_
  refine RG.ot rfl (OT.box (cs := violT.enc v) rfl rfl rfl fun b3 => ?_)
  refine RG.pv rfl (PV.mvB (.inr rfl) rfl) ?_
  refine RG.nil ?_
  refine WP.seq ?_
  refine WP.regionQ (by kernel_rfl) (by kernel_rfl) ?_
  refine RQ.pv rfl (PV.loadA rfl Ag33 rfl rfl (RdN.up hb)) ?_
  refine RQ.pv rfl (PV.loadW rfl Ag37 rfl rfl) ?_
  refine RQ.callF (vs := [_, _]) rfl rfl En66 rfl (sigV_i h1.up h2.up hv hr hreg hne ⟨rfl, rfl, rfl⟩) ?_
  refine RQ.pv rfl (PV.field rfl Fo83_0 rfl) ?_
  refine RQ.pv rfl (PV.load1 rfl Sc2 rfl ((RdN.up hc) 0 _ rfl)) ?_
  refine RQ.pv rfl (PV.eql rfl rfl rfl) ?_
  refine RQ.pv rfl (PV.mvB (.inr rfl) rfl) ?_
  refine RQ.nil ?_
  refine WP.ret ?_
  exact ⟨_, _, ResV.one rfl rfl, Cv.p, k⟩
theorem usedW_er (rs : List Rule) (xs : List Viol) (w : Waiver) : (xs.any fun v => decide (sigA rs (erV v) = w.sig)) = usedW rs (erVs xs) w := by
  rw [usedW, erVs, List.any_map]; rfl
theorem unused_i {d : Deck} {u w : Value} {xs : List Viol} {ws : List Waiver} (h1 : Rs G L ruleT d.rules.v d.rules.xs) (h2 : Rs G L violT u xs) (hd : RsE G L rectT (mks xs)) (h3 : Rs G L waiverT w ws) (hlen : ∀ i, i < ws.length → (gd ws i).reason.size ≤ 9223372036854775807)
    (k : ∀ v', R (.tuple #[v', vi (wCode d.rules.xs (erVs xs) ws)]) G (osl 83 waiverT v' (unusedR d.rules.xs (erVs xs) ws) :: L)) : CallT Tryz.prog 35 #[vT deckT d, u, w] G L R := by
  refine CallT.bd h3 fun hb0 => ?_
  refine CallT.enter (args := _) Tryz.func35 rfl rfl (by kernel_rfl) rfl ?_
  refine WP.seq ?_
  refine WP.region ?_
  refine RG.ot rfl (OT.box (cs := deckT.enc d) rfl rfl rfl fun b3 => ?_)
  refine RG.pv rfl (PV.asg rfl rfl) ?_
  refine RG.pv rfl (PV.mvI (.inr rfl) rfl) ?_
  refine RG.nil ?_
  refine WP.seq ?_
  refine WP.seq ?_
  refine WP.region ?_
  refine RG.pv rfl (PV.loadW rfl Ag33 rfl rfl) ?_
  refine RG.pv rfl (PV.move (v := u) rfl rfl) ?_
  refine RG.pv rfl (PV.move (v := w) rfl rfl) ?_
  refine RG.callF (vs := [_, u, w]) rfl rfl En80 rfl (wcode_i h1.up h2.up hd.up h3.up hlen ?_)
  refine RG.pv rfl (PV.mvI (.inr rfl) rfl) ?_
  refine RG.nil ?_
  refine WP.seq ?_
  refine WP.region ?_
  refine RG.pv rfl (PV.mvI (.inl rfl) rfl) ?_
  refine RG.pv rfl (PV.neq rfl rfl rfl) ?_
  refine RG.nil ?_
  refine WP.cond rfl (fun h4 => ?_) (fun h4 => ?_)
  · have hz : wCode d.rules.xs (erVs xs) ws ≠ 0 := by simpa using h4
    have e : unusedR d.rules.xs (erVs xs) ws = [] := by rw [unusedR, if_neg hz]
    rw [e] at k
    refine WP.seq ?_
    refine WP.region ?_
    refine RG.pv rfl (PV.mvI (.inl rfl) rfl) ?_
    refine RG.pv rfl (PV.asg rfl rfl) ?_
    refine RG.pv rfl (PV.mvI (.inr rfl) rfl) ?_
    refine RG.nil ?_
    refine WP.ret ?_
    exact ⟨_, _, ResV.two rfl rfl rfl, Cv.nilP, k _⟩
  · have hz : wCode d.rules.xs (erVs xs) ws = 0 := by simpa using h4
    have e : unusedR d.rules.xs (erVs xs) ws = ws.filter (fun w => !usedW d.rules.xs (erVs xs) w) := by rw [unusedR, if_pos hz]
    rw [e, hz] at k
    have hwl : ws.length ≤ 16 := by
      have := (wCode_zero hz).2.2.1
      simp only [isWL, Bool.and_eq_true, decide_eq_true_eq] at this; exact this.1
    refine WP.skip ?_
    refine WP.seq ?_
    refine WP.region ?_
    refine RG.ot rfl (OT.bslice (F := waiverT) (els := []) rfl El63 rfl (by decide) rfl (by decide) trivial fun v19 => ?_)
    refine RG.pv rfl (PV.asg (v := v19) rfl rfl) ?_
    refine RG.nil ?_
    refine WP.seq ?_
    refine WP.seq ?_
    refine WP.region ?_
    refine RG.pv rfl (PV.move (v := w) rfl rfl) ?_
    refine RG.pv rfl (PV.len (v := w) rfl Tryz.underlying63 rfl (SlF.r h3)) ?_
    refine RG.pv rfl (PV.mvI (.inl rfl) rfl) ?_
    refine RG.nil ?_
    refine WP.block ?_
    refine WP.loop3 [1, 3, 20, 21] (fun (i : Nat) (os : List Waiver) (q : Value) => i ≤ ws.length ∧ os = (ws.take i).filter (fun w => !usedW d.rules.xs (erVs xs) w)) (fun (i : Nat) (os : List Waiver) (q : Value) => [(22, vi i), (9, q)]) (fun (i : Nat) (os : List Waiver) (q : Value) => osl 83 waiverT q os :: blk b3 33 (deckT.enc d) :: L) (fun (i : Nat) (os : List Waiver) (q : Value) => ws.length - i) 0 [] v19 ⟨by omega, rfl⟩ ⟨rfl, rfl, trivial⟩ Cv.p ?_
    rintro i os q τ ⟨hi, hos⟩
    refine WP.seq ?_
    refine WP.region ?_
    refine RG.pv rfl (PV.lss rfl rfl rfl) ?_
    refine RG.nil ?_
    refine WP.seq ?_
    have hol : os.length ≤ 16 := by
      have h6 := List.length_filter_le (fun w => !usedW d.rules.xs (erVs xs) w) (ws.take i)
      rw [List.length_take] at h6
      rw [hos]; omega
    refine WP.cond rfl (fun h5 => ?_) (fun h5 => ?_)
    · have h5 := of_decide_eq_true h5
      have hft := filter_step (fun w => !usedW d.rules.xs (erVs xs) w) (xs := ws) (i := i) (by omega)
      have hue := usedW_er d.rules.xs xs (gd ws i)
      refine WP.skip ?_
      refine WP.seq ?_
      refine WP.block ?_
      refine WP.seq ?_
      refine WP.region ?_
      refine RG.pv rfl (PV.idxS (v := w) rfl Is63 rfl (SlF.r h3) rfl rfl (by omega)) ?_
      refine RG.pv rfl (PV.loadE rfl Ag83 rfl rfl (El.r h3 (getG (by omega)))) ?_
      refine RG.ot rfl (OT.alloc rfl Zr83 fun b11 => ?_)
      refine RG.ot rfl (OT.storeW (vs := [vi _, .string _]) rfl Sz83 rfl rfl (Cl.c rfl) rfl rfl (OneC.c rfl) ?_)
      refine RG.nil ?_
      refine WP.seq ?_
      refine WP.region ?_
      refine RG.pv rfl (PV.move (v := u) rfl rfl) ?_
      refine RG.pv rfl (PV.mkf2 rfl rfl rfl) ?_
      refine RG.callF (vs := [u, _]) rfl rfl En81 rfl (containsF_viol (Rs.up h2) (p := fun v => decide (sigA d.rules.xs (erV v) = (gd ws i).sig)) (fun j hj => CB.mk2 En82 fun L' R c k => unused1_s (Rs.cv c h1.up) (Rs.cv c (hd.marker hj).up) (rep_facts hz hj).1 (rep_facts hz hj).2.1 (rep_facts hz hj).2.2.1 (rep_facts hz hj).2.2.2 (RdN.cv RdN.blk c) (RdN.cv RdN.blk c) k) ?_)
      refine RG.pv rfl (PV.not rfl rfl) ?_
      refine RG.nil ?_
      refine WP.cond rfl (fun h6 => ?_) (fun h6 => ?_)
      · have h7 : (!usedW d.rules.xs (erVs xs) (gd ws i)) = true := by rw [← hue]; exact h6
        rw [h7, if_pos rfl] at hft
        refine WP.region ?_
        refine RG.pv rfl (PV.move (v := q) rfl rfl) ?_
        refine RG.pv rfl (PV.loadW rfl Ag83 rfl rfl) ?_
        refine RG.ot rfl (OT.bslice (F := waiverT) (els := [_]) rfl El63 rfl (by decide) rfl (by decide) ⟨rfl, (Cl.c rfl), trivial⟩ fun v32 => ?_)
        refine RG.ot rfl (OT.append (v := q) (u := v32) (F := waiverT) rfl El63 rfl (by decide) rfl rfl Rs.o (OneL.c (fun _ => rfl)) rfl (by first | omega | (simp <;> omega)) fun v33 => ?_)
        refine RG.pv rfl (PV.asg (v := v33) rfl rfl) ?_
        refine RG.nil ?_
        refine WP.region ?_
        refine RG.pv rfl (PV.add rfl rfl rfl (by omega)) ?_
        refine RG.pv rfl (PV.mvI (.inl rfl) rfl) ?_
        refine RG.nil ?_
        exact ⟨rfl, i + 1, (os ++ [gd ws i]), v33, ⟨by omega, by rw [hft, ← hos]⟩, ⟨rfl, rfl, trivial⟩, ⟨rfl, rfl, rfl, rfl, trivial⟩, Cv.p, by omega⟩
      · have h7 : (!usedW d.rules.xs (erVs xs) (gd ws i)) = false := by rw [← hue]; exact h6
        rw [h7, if_neg (by decide), List.append_nil] at hft
        refine WP.skip ?_
        refine WP.region ?_
        refine RG.pv rfl (PV.add rfl rfl rfl (by omega)) ?_
        refine RG.pv rfl (PV.mvI (.inl rfl) rfl) ?_
        refine RG.nil ?_
        exact ⟨rfl, i + 1, os, q, ⟨by omega, by rw [hft]; exact hos⟩, ⟨rfl, rfl, trivial⟩, ⟨rfl, rfl, rfl, rfl, trivial⟩, Cv.p, by omega⟩
    · have h5 := of_decide_eq_false h5
      rw [List.take_of_length_le (by omega)] at hos
      rw [← hos] at k
      refine WP.exit ?_
      refine WP.seq ?_
      refine WP.region ?_
      refine RG.pv rfl (PV.move (v := q) rfl rfl) ?_
      refine RG.pv rfl (PV.asg (v := q) rfl rfl) ?_
      refine RG.pv rfl (PV.mvI (.inr rfl) rfl) ?_
      refine RG.nil ?_
      refine WP.ret ?_
      exact ⟨_, _, ResV.two rfl rfl rfl, Cv.p, k q⟩
theorem unused_r {d : Deck} {u w : Value} {xs : List Viol} {ws : List Waiver} (h1 : Rs G L ruleT d.rules.v d.rules.xs) (h2 : Rs G L violT u xs) (hd : RsE G L rectT (mks xs)) (h3 : Rs G L waiverT w ws) (hlen : ∀ i, i < ws.length → (gd ws i).reason.size ≤ 9223372036854775807)
    (k : ∀ v', R (.tuple #[v', vi (wCode d.rules.xs (erVs xs) ws)]) G (osl 83 waiverT v' (unusedR d.rules.xs (erVs xs) ws) :: L)) : CallT Tryz.prog 32 #[vT deckT d, u, w] G L R := by
  refine CallT.bd h3 fun hb0 => ?_
  refine CallT.bd h2 fun hb1 => ?_
  refine CallT.enter (args := _) Tryz.func32 rfl rfl (by kernel_rfl) rfl ?_
  refine WP.seq ?_
  refine WP.region ?_
  refine RG.ot rfl (OT.box (cs := deckT.enc d) rfl rfl rfl fun b3 => ?_)
  refine RG.pv rfl (PV.asg rfl rfl) ?_
  refine RG.pv rfl (PV.mvI (.inr rfl) rfl) ?_
  refine RG.nil ?_
  refine WP.seq ?_
  refine WP.region ?_
  refine RG.pv rfl (PV.loadW rfl Ag33 rfl rfl) ?_
  refine RG.pv rfl (PV.move (v := u) rfl rfl) ?_
  refine RG.pv rfl (PV.move (v := w) rfl rfl) ?_
  refine RG.callF (vs := [_, u, w]) rfl rfl En78 rfl (wcode_r h1.up h2.up hd.up h3.up hlen ?_)
  refine RG.pv rfl (PV.mvI (.inr rfl) rfl) ?_
  refine RG.nil ?_
  refine WP.seq ?_
  refine WP.seq ?_
  refine WP.region ?_
  refine RG.pv rfl (PV.mvI (.inl rfl) rfl) ?_
  refine RG.pv rfl (PV.neq rfl rfl rfl) ?_
  refine RG.nil ?_
  refine WP.cond rfl (fun h4 => ?_) (fun h4 => ?_)
  · have hz : wCode d.rules.xs (erVs xs) ws ≠ 0 := by simpa using h4
    have e : unusedR d.rules.xs (erVs xs) ws = [] := by rw [unusedR, if_neg hz]
    rw [e] at k
    refine WP.seq ?_
    refine WP.region ?_
    refine RG.pv rfl (PV.mvI (.inl rfl) rfl) ?_
    refine RG.pv rfl (PV.asg rfl rfl) ?_
    refine RG.pv rfl (PV.mvI (.inr rfl) rfl) ?_
    refine RG.nil ?_
    refine WP.ret ?_
    exact ⟨_, _, ResV.two rfl rfl rfl, Cv.nilP, k _⟩
  · have hz : wCode d.rules.xs (erVs xs) ws = 0 := by simpa using h4
    have e : unusedR d.rules.xs (erVs xs) ws = ws.filter (fun w => !usedW d.rules.xs (erVs xs) w) := by rw [unusedR, if_pos hz]
    rw [e, hz] at k
    have hwl : ws.length ≤ 16 := by
      have := (wCode_zero hz).2.2.1
      simp only [isWL, Bool.and_eq_true, decide_eq_true_eq] at this; exact this.1
    refine WP.skip ?_
    refine WP.seq ?_
    refine WP.region ?_
    refine RG.ot rfl (OT.bslice (F := waiverT) (els := []) rfl El63 rfl (by decide) rfl (by decide) trivial fun v20 => ?_)
    refine RG.pv rfl (PV.asg (v := v20) rfl rfl) ?_
    refine RG.nil ?_
    refine WP.seq ?_
    refine WP.seq ?_
    refine WP.region ?_
    refine RG.pv rfl (PV.mvI (.inr rfl) rfl) ?_
    refine RG.nil ?_
    refine WP.block ?_
    refine WP.loop3 [1, 2, 3] (fun (i : Nat) (os : List Waiver) (q : Value) => i ≤ ws.length ∧ os = (ws.take i).filter (fun w => !usedW d.rules.xs (erVs xs) w)) (fun (i : Nat) (os : List Waiver) (q : Value) => [(10, vi i), (9, q)]) (fun (i : Nat) (os : List Waiver) (q : Value) => osl 83 waiverT q os :: blk b3 33 (deckT.enc d) :: L) (fun (i : Nat) (os : List Waiver) (q : Value) => ws.length - i) 0 [] v20 ⟨by omega, rfl⟩ ⟨rfl, rfl, trivial⟩ Cv.p ?_
    rintro i os q τ ⟨hi, hos⟩
    refine WP.seq ?_
    refine WP.seq ?_
    refine WP.region ?_
    refine RG.pv rfl (PV.mvI (.inl rfl) rfl) ?_
    refine RG.pv rfl (PV.move (v := w) rfl rfl) ?_
    refine RG.pv rfl (PV.len (v := w) rfl Tryz.underlying63 rfl (SlF.r h3)) ?_
    refine RG.pv rfl (PV.lss rfl rfl rfl) ?_
    refine RG.nil ?_
    have hol : os.length ≤ 16 := by
      have h6 := List.length_filter_le (fun w => !usedW d.rules.xs (erVs xs) w) (ws.take i)
      rw [List.length_take] at h6
      rw [hos]; omega
    refine WP.cond rfl (fun h5 => ?_) (fun h5 => ?_)
    · have h5 := of_decide_eq_true h5
      have hft := filter_step (fun w => !usedW d.rules.xs (erVs xs) w) (xs := ws) (i := i) (by omega)
      refine WP.skip ?_
      refine WP.seq ?_
      refine WP.block ?_
      refine WP.seq ?_
      refine WP.region ?_
      refine RG.pv rfl (PV.mvB (.inr rfl) rfl) ?_
      refine RG.nil ?_
      refine WP.seq ?_
      refine WP.seq ?_
      refine WP.region ?_
      refine RG.pv rfl (PV.mvI (.inr rfl) rfl) ?_
      refine RG.nil ?_
      refine WP.block ?_
      refine WP.loop2 [1, 2, 3, 9, 10] (fun (j : Nat) (fl : Bool) => j ≤ xs.length ∧ fl = usedW d.rules.xs ((erVs xs).take j) (gd ws i)) (fun (j : Nat) (fl : Bool) => [(12, vi j), (11, .bool fl)]) (fun (j : Nat) (fl : Bool) => osl 83 waiverT q os :: blk b3 33 (deckT.enc d) :: L) (fun (j : Nat) (fl : Bool) => xs.length - j) 0 false ⟨by omega, rfl⟩ ⟨rfl, rfl, trivial⟩ Cv.p ?_
      rintro j fl τ1 ⟨hj, hfl⟩
      refine WP.seq ?_
      refine WP.seq ?_
      refine WP.region ?_
      refine RG.pv rfl (PV.mvI (.inl rfl) rfl) ?_
      refine RG.pv rfl (PV.move (v := u) rfl rfl) ?_
      refine RG.pv rfl (PV.len (v := u) rfl Tryz.underlying66 rfl (SlF.r h2)) ?_
      refine RG.pv rfl (PV.lss rfl rfl rfl) ?_
      refine RG.nil ?_
      have hel := erVs_len xs
      refine WP.cond rfl (fun h6 => ?_) (fun h6 => ?_)
      · have h6 := of_decide_eq_true h6
        have hut : usedW d.rules.xs ((erVs xs).take (j + 1)) (gd ws i) = (usedW d.rules.xs ((erVs xs).take j) (gd ws i) || decide (sigR (gd d.rules.xs (gd xs j).rule.toNat) (gd xs j).marker.xs = (gd ws i).sig)) := by
          rw [usedW, List.take_add_one, getG (by omega), List.any_append, erVs_gd (by omega)]
          simp only [Option.toList_some, List.any_cons, List.any_nil, Bool.or_false]
          rfl
        have hrf := (rep_facts hz (i := j) (by omega)).1
        refine WP.skip ?_
        refine WP.seq ?_
        refine WP.block ?_
        refine WP.regionQ (by kernel_rfl) (by kernel_rfl) ?_
        refine RQ.pv rfl (PV.mvB (.inl rfl) rfl) ?_
        refine RQ.pv rfl (PV.mvB (.inl rfl) rfl) ?_
        refine RQ.gs rfl rfl rfl (fun hp => (PV.field rfl Fo33_0 rfl)) ?_
        refine RQ.gs rfl rfl rfl (fun hp => (PV.load1 rfl Sc31 (gs_t hp) (Rd.blk rfl))) ?_
        refine RQ.gs rfl rfl rfl (fun hp => (PV.move (v := u) rfl rfl)) ?_
        refine RQ.gs rfl rfl rfl (fun hp => (PV.mvI (.inl rfl) rfl)) ?_
        refine RQ.gs rfl rfl rfl (fun hp => (PV.idxS (v := u) rfl Is66 (gs_t hp) (SlF.r h2) (gs_t hp) rfl (by first | omega | (simp at hp; omega)))) ?_
        refine RQ.gs rfl rfl rfl (fun hp => (PV.field rfl Fo37_0 (gs_t hp))) ?_
        refine RQ.gs rfl rfl rfl (fun hp => (PV.loadF rfl Sc2 (gs_t hp) rfl (El.r h2 (getG (by first | omega | (simp at hp; omega)))) rfl)) ?_
        refine RQ.gs rfl rfl rfl (fun hp => (PV.idxS (j := (gd xs j).rule.toNat) rfl Is31 (gs_t hp) (SlF.r h1) (gs_t hp) (by first | omega | (simp at hp; omega)) (by first | omega | (simp at hp; omega)))) ?_
        refine RQ.gs rfl rfl rfl (fun hp => (PV.loadE rfl Ag52 (gs_t hp) rfl (El.r h1 (getG (by first | omega | (simp at hp; omega)))))) ?_
        refine RQ.gs rfl rfl rfl (fun hp => (PV.move (v := u) rfl rfl)) ?_
        refine RQ.gs rfl rfl rfl (fun hp => (PV.mvI (.inl rfl) rfl)) ?_
        refine RQ.gs rfl rfl rfl (fun hp => (PV.idxS (v := u) rfl Is66 (gs_t hp) (SlF.r h2) (gs_t hp) rfl (by first | omega | (simp at hp; omega)))) ?_
        refine RQ.gs rfl rfl rfl (fun hp => (PV.field rfl Fo37_1 (gs_t hp))) ?_
        refine RQ.gs rfl rfl rfl (fun hp => (PV.loadF rfl Sc35 (gs_t hp) rfl (El.r h2 (getG (by first | omega | (simp at hp; omega)))) rfl)) ?_
        refine RQ.gsC rfl rfl rfl rfl En62 (fun hp => ⟨_, (acons (gs_t hp) (acons (gs_t hp) anil)), l22Sig_s (hd.marker (by omega)).up (rep_facts hz (by omega)).2.1 (rep_facts hz (by omega)).2.2.1 (rep_facts hz (by omega)).2.2.2 ⟨rfl, rfl, rfl⟩⟩) ?_
        refine RQ.gs rfl rfl rfl (fun hp => (PV.move (v := w) rfl rfl)) ?_
        refine RQ.gs rfl rfl rfl (fun hp => (PV.mvI (.inl rfl) rfl)) ?_
        refine RQ.gs rfl rfl rfl (fun hp => (PV.idxS (v := w) rfl Is63 (gs_t hp) (SlF.r h3) (gs_t hp) rfl (by first | omega | (simp at hp; omega)))) ?_
        refine RQ.gs rfl rfl rfl (fun hp => (PV.field rfl Fo83_0 (gs_t hp))) ?_
        refine RQ.gs rfl rfl rfl (fun hp => (PV.loadF rfl Sc2 (gs_t hp) rfl (El.r h3 (getG (by first | omega | (simp at hp; omega)))) rfl)) ?_
        refine RQ.gs rfl rfl rfl (fun hp => (PV.eql rfl (gs_t hp) (gs_t hp))) ?_
        refine RQ.pv rfl (PV.pickO rfl rfl rfl (fun hq => gs_t (geqF hq))) ?_
        refine RQ.pv rfl (PV.mvB (.inr rfl) rfl) ?_
        refine RQ.nil ?_
        refine WP.region ?_
        refine RG.pv rfl (PV.mvI (.inl rfl) rfl) ?_
        refine RG.pv rfl (PV.add rfl rfl rfl (by omega)) ?_
        refine RG.pv rfl (PV.mvI (.inr rfl) rfl) ?_
        refine RG.nil ?_
        exact ⟨rfl, j + 1, (fl || decide (sigR (gd d.rules.xs (gd xs j).rule.toNat) (gd xs j).marker.xs = (gd ws i).sig)), ⟨by omega, by rw [hut, ← hfl]⟩, ⟨rfl, rfl, trivial⟩, ⟨rfl, rfl, rfl, rfl, rfl, trivial⟩, Cv.p, by omega⟩
      · have h6 := of_decide_eq_false h6
        rw [List.take_of_length_le (by omega)] at hfl
        refine WP.exit ?_
        refine WP.seq ?_
        refine WP.region ?_
        refine RG.pv rfl (PV.mvB (.inl rfl) rfl) ?_
        refine RG.pv rfl (PV.not rfl rfl) ?_
        refine RG.nil ?_
        refine WP.cond rfl (fun h7 => ?_) (fun h7 => ?_)
        · have h8 : (!usedW d.rules.xs (erVs xs) (gd ws i)) = true := by rw [← hfl]; exact h7
          rw [h8, if_pos rfl] at hft
          refine WP.region ?_
          refine RG.pv rfl (PV.move (v := q) rfl rfl) ?_
          refine RG.pv rfl (PV.move (v := w) rfl rfl) ?_
          refine RG.pv rfl (PV.mvI (.inl rfl) rfl) ?_
          refine RG.pv rfl (PV.idxS (v := w) rfl Is63 rfl (SlF.r h3) rfl rfl (by omega)) ?_
          refine RG.pv rfl (PV.loadE rfl Ag83 rfl rfl (El.r h3 (getG (by omega)))) ?_
          refine RG.ot rfl (OT.bslice (F := waiverT) (els := [_]) rfl El63 rfl (by decide) rfl (by decide) ⟨rfl, (Cl.c rfl), trivial⟩ fun v64 => ?_)
          refine RG.ot rfl (OT.append (v := q) (u := v64) (F := waiverT) rfl El63 rfl (by decide) rfl rfl Rs.o (OneL.c (fun _ => rfl)) rfl (by first | omega | (simp <;> omega)) fun v65 => ?_)
          refine RG.pv rfl (PV.asg (v := v65) rfl rfl) ?_
          refine RG.nil ?_
          refine WP.region ?_
          refine RG.pv rfl (PV.mvI (.inl rfl) rfl) ?_
          refine RG.pv rfl (PV.add rfl rfl rfl (by omega)) ?_
          refine RG.pv rfl (PV.mvI (.inr rfl) rfl) ?_
          refine RG.nil ?_
          exact ⟨rfl, i + 1, (os ++ [gd ws i]), v65, ⟨by omega, by rw [hft, ← hos]⟩, ⟨rfl, rfl, trivial⟩, ⟨rfl, rfl, rfl, trivial⟩, Cv.p, by omega⟩
        · have h8 : (!usedW d.rules.xs (erVs xs) (gd ws i)) = false := by rw [← hfl]; exact h7
          rw [h8, if_neg (by decide), List.append_nil] at hft
          refine WP.skip ?_
          refine WP.region ?_
          refine RG.pv rfl (PV.mvI (.inl rfl) rfl) ?_
          refine RG.pv rfl (PV.add rfl rfl rfl (by omega)) ?_
          refine RG.pv rfl (PV.mvI (.inr rfl) rfl) ?_
          refine RG.nil ?_
          exact ⟨rfl, i + 1, os, q, ⟨by omega, by rw [hft]; exact hos⟩, ⟨rfl, rfl, trivial⟩, ⟨rfl, rfl, rfl, trivial⟩, Cv.p, by omega⟩
    · have h5 := of_decide_eq_false h5
      rw [List.take_of_length_le (by omega)] at hos
      rw [← hos] at k
      refine WP.exit ?_
      refine WP.seq ?_
      refine WP.region ?_
      refine RG.pv rfl (PV.move (v := q) rfl rfl) ?_
      refine RG.pv rfl (PV.asg (v := q) rfl rfl) ?_
      refine RG.pv rfl (PV.mvI (.inr rfl) rfl) ?_
      refine RG.nil ?_
      refine WP.ret ?_
      exact ⟨_, _, ResV.two rfl rfl rfl, Cv.p, k q⟩
end Go.Proofs.YtgngpegmaceaiaaGreat
namespace Go.Proofs.YtgngpegmaceaiaaGreat
set_option linter.unusedVariables false
set_option linter.unusedSimpArgs false
open Go
set_option maxRecDepth 20000
set_option linter.unusedSimpArgs false
variable {G : Gh} {L : List Ch} {R : Value → Gh → List Ch → Prop}
theorem markDeck_s {d : Deck} {k0 : Int} (hk : 0 ≤ k0) (hb : k0 + costL nRu d.rules.xs ≤ 4611686018427387904) (k : R (vi (k0 + costL nRu d.rules.xs)) G (osl 52 ruleT d.rules.v (markL mkRu nRu d.rules.xs k0) :: L)) :
    CallT Tryz.prog 38 #[vT deckT d, vi k0] G (osl 52 ruleT d.rules.v d.rules.xs :: L) R := by
  refine CallT.enter (args := _) Tryz.func38 rfl rfl (by kernel_rfl) rfl ?_
  refine WP.seq ?_
  refine WP.region ?_
  refine RG.ot rfl (OT.box (cs := deckT.enc d) rfl rfl rfl fun b2 => ?_)
  refine RG.pv rfl (PV.mvI (.inr rfl) rfl) ?_
  refine RG.nil ?_
  refine WP.seq ?_
  refine WP.region ?_
  refine RG.pv rfl (PV.field rfl Fo33_0 rfl) ?_
  refine RG.pv rfl (PV.load1 rfl Sc31 rfl (Rd.blk rfl)) ?_
  refine RG.pv rfl (PV.mvI (.inl rfl) rfl) ?_
  refine RG.callF (vs := [_, _]) rfl rfl En84 rfl (CallT.exS d.rules.v (markRuleS_s (v := d.rules.v) (by omega) (by omega) ?_))
  refine RG.pv rfl (PV.mvI (.inr rfl) rfl) ?_
  refine RG.nil ?_
  refine WP.seq ?_
  refine WP.region ?_
  refine RG.pv rfl (PV.mvI (.inl rfl) rfl) ?_
  refine RG.pv rfl (PV.mvI (.inr rfl) rfl) ?_
  refine RG.nil ?_
  refine WP.ret ?_
  exact ⟨_, _, ResV.one rfl rfl, Cv.p, k⟩
theorem nVi_cost : ∀ xs : List Viol, costL nVi xs = xs.length + 4 * costL lenS (mks xs)
  | [] => by simp [costL, mks]
  | z :: zs => by
    have ih := nVi_cost zs
    have e : mks (z :: zs) = z.marker :: mks zs := rfl
    have e2 : nVi z = 1 + 4 * (z.marker.xs.length : Int) := by rw [nVi, nRS, nSl, nRect_cost]
    rw [e, costL, costL, ih, e2, lenS, List.length_cons]; omega
theorem law_UnusedWaivers {d : Deck} {u w : Value} {xs : List Viol} {ws : List Waiver} (h1 : Rs G L ruleT d.rules.v d.rules.xs) (h2 : Rs G L violT u xs) (hd : RsE G L rectT (mks xs)) (h3 : Rs G L waiverT w ws) (hlen : ∀ i, i < ws.length → (gd ws i).reason.size ≤ 9223372036854775807) (k : R (.bool true) G L) :
    CallT Tryz.prog 5 #[vT deckT d, u, w] G L R := by
  refine CallT.enter (args := _) Tryz.func5 rfl rfl (by kernel_rfl) rfl ?_
  refine WP.seq ?_
  refine WP.region ?_
  refine RG.ot rfl (OT.box (cs := deckT.enc d) rfl rfl rfl fun b3 => ?_)
  refine RG.pv rfl (PV.mvB (.inr rfl) rfl) ?_
  refine RG.nil ?_
  refine WP.seq ?_
  refine WP.region ?_
  refine RG.pv rfl (PV.mvI (.inr rfl) rfl) ?_
  refine RG.nil ?_
  refine WP.seq ?_
  refine WP.region ?_
  refine RG.pv rfl (PV.loadW rfl Ag24 rfl rfl) ?_
  refine RG.pv rfl (PV.mvI (.inl rfl) rfl) ?_
  refine RG.callF (vs := [_, _]) rfl rfl En10 rfl (szDeck_s (Rs.up h1) (by omega) (by omega) (fun r hr hr' => ?_))
  refine RG.pv rfl (PV.mvI (.inr rfl) rfl) ?_
  refine RG.nil ?_
  refine WP.seq ?_
  refine WP.seq ?_
  refine WP.region ?_
  refine RG.pv rfl (PV.mvI (.inl rfl) rfl) ?_
  refine RG.pv rfl (PV.lss rfl rfl rfl) ?_
  refine RG.nil ?_
  refine WP.cond rfl (fun h4 => ?_) (fun h4 => ?_)
  · refine WP.seq ?_
    refine WP.region ?_
    refine RG.pv rfl (PV.mvB (.inr rfl) rfl) ?_
    refine RG.nil ?_
    refine WP.ret ?_
    exact ⟨_, _, ResV.one rfl rfl, Cv.p, k⟩
  · have h4 := of_decide_eq_false h4
    have hr1 := hr' (by omega)
    have hb1 : d.rules.xs.length ≤ 1048576 := by omega
    refine WP.skip ?_
    refine WP.seq ?_
    refine WP.region ?_
    refine RG.pv rfl (PV.move (v := u) rfl rfl) ?_
    refine RG.pv rfl (PV.mvI (.inl rfl) rfl) ?_
    refine RG.callF (vs := [u, _]) rfl rfl En30 rfl (szViolS_s (Rs.up h2) hd.up (by omega) (by omega) (fun r2 hq hq' => ?_))
    refine RG.pv rfl (PV.mvI (.inr rfl) rfl) ?_
    refine RG.nil ?_
    refine WP.seq ?_
    refine WP.seq ?_
    refine WP.region ?_
    refine RG.pv rfl (PV.mvI (.inl rfl) rfl) ?_
    refine RG.pv rfl (PV.lss rfl rfl rfl) ?_
    refine RG.nil ?_
    refine WP.cond rfl (fun h5 => ?_) (fun h5 => ?_)
    · refine WP.seq ?_
      refine WP.region ?_
      refine RG.pv rfl (PV.mvB (.inr rfl) rfl) ?_
      refine RG.nil ?_
      refine WP.ret ?_
      exact ⟨_, _, ResV.one rfl rfl, Cv.p, k⟩
    · have h5 := of_decide_eq_false h5
      have hq1 := hq' (by omega)
      have hc0 : 0 ≤ costL lenS (mks xs) := costL_nonneg lenS_nn _
      have hml := mks_len xs
      have hsz : szOf (mks xs) ≤ 1048576 := by omega
      have hb2 : xs.length ≤ 1048576 := by simp only [szOf] at hsz; omega
      have hbi : ∀ i, i < xs.length → (gd xs i).marker.xs.length ≤ 1048576 := fun i hi => by
        have := costL_mem lenS_nn (xs := mks xs) (i := i) (by omega)
        rw [mks_gd hi] at this
        simp only [lenS, szOf] at *; omega
      have hcv := nVi_cost xs
      refine WP.skip ?_
      refine WP.seq ?_
      refine WP.region ?_
      refine RG.pv rfl (PV.move (v := w) rfl rfl) ?_
      refine RG.pv rfl (PV.mvI (.inl rfl) rfl) ?_
      refine RG.callF (vs := [w, _]) rfl rfl En31 rfl (szWaiverS_s (Rs.up h3) (by omega) (by omega) hlen ?_)
      refine RG.pv rfl (PV.mvI (.inr rfl) rfl) ?_
      refine RG.nil ?_
      refine WP.seq ?_
      refine WP.seq ?_
      refine WP.region ?_
      refine RG.pv rfl (PV.mvI (.inl rfl) rfl) ?_
      refine RG.pv rfl (PV.lss rfl rfl rfl) ?_
      refine RG.nil ?_
      refine WP.cond rfl (fun h6 => ?_) (fun h6 => ?_)
      · refine WP.seq ?_
        refine WP.region ?_
        refine RG.pv rfl (PV.mvB (.inr rfl) rfl) ?_
        refine RG.nil ?_
        refine WP.ret ?_
        exact ⟨_, _, ResV.one rfl rfl, Cv.p, k⟩
      · have h6 := of_decide_eq_false h6
        have hb3 : ws.length ≤ 1048576 := by have := szWS_len (xs := ws) (n := r2) (by omega); omega
        have hul := unusedR_len d.rules.xs (erVs xs) ws
        refine WP.skip ?_
        refine WP.seq ?_
        refine WP.region ?_
        refine RG.pv rfl (PV.loadW rfl Ag24 rfl rfl) ?_
        refine RG.callF (vs := [_]) rfl rfl En13 rfl (toDeck_s (Rs.up h1) hb1 (fun w37 => ?_))
        refine RG.pv rfl (PV.move (v := u) rfl rfl) ?_
        refine RG.callF (vs := [u]) rfl rfl En33 rfl (toViolS_s (Rs.up h2) hd.up hb2 hbi (fun v39 ysv39 hev39 => ?_))
        refine RG.pv rfl (PV.move (v := w) rfl rfl) ?_
        refine RG.callF (vs := [w]) rfl rfl En34 rfl (toWaiverS_s (Rs.up h3) hb3 (fun v41 => ?_))
        refine RG.callF (vs := [_, v39, v41]) rfl rfl En32 rfl (unused_r Rs.o Rs.o RsE.o Rs.o hlen (fun w42 => ?_))
        refine RG.pv rfl (PV.move (v := .tuple _) rfl rfl) ?_
        refine RG.pv rfl (PV.ext (v := w42) rfl rfl rfl) ?_
        refine RG.pv rfl (PV.ext rfl rfl rfl) ?_
        refine RG.pv rfl (PV.asg (v := w42) rfl rfl) ?_
        refine RG.pv rfl (PV.mvI (.inr rfl) rfl) ?_
        refine RG.nil ?_
        refine WP.seq ?_
        refine WP.region ?_
        refine RG.pv rfl (PV.loadW rfl Ag24 rfl rfl) ?_
        refine RG.callF (vs := [_]) rfl rfl En13 rfl (toDeck_s (Rs.up h1) hb1 (fun w46 => ?_))
        refine RG.ot rfl (OT.alloc rfl Zr33 fun b10 => ?_)
        refine RG.ot rfl (OT.storeW (vs := [_]) rfl Sz33 rfl rfl (Cl.c rfl) rfl rfl (OneC.sl SlF.o OneC.nil) ?_)
        refine RG.nil ?_
        refine WP.seq ?_
        refine WP.region ?_
        refine RG.pv rfl (PV.move (v := u) rfl rfl) ?_
        refine RG.callF (vs := [u]) rfl rfl En33 rfl (toViolS_s (Rs.up h2) hd.up hb2 hbi (fun v48 ysv48 hev48 => ?_))
        refine RG.pv rfl (PV.asg (v := v48) rfl rfl) ?_
        refine RG.nil ?_
        refine WP.seq ?_
        refine WP.region ?_
        refine RG.pv rfl (PV.move (v := w) rfl rfl) ?_
        refine RG.callF (vs := [w]) rfl rfl En34 rfl (toWaiverS_s (Rs.up h3) hb3 (fun v50 => ?_))
        refine RG.pv rfl (PV.asg (v := v50) rfl rfl) ?_
        refine RG.nil ?_
        refine WP.seq ?_
        refine WP.region ?_
        refine RG.pv rfl (PV.loadW rfl Ag33 rfl rfl) ?_
        refine RG.pv rfl (PV.move (v := v48) rfl rfl) ?_
        refine RG.pv rfl (PV.move (v := v50) rfl rfl) ?_
        refine RG.callF (vs := [_, v48, v50]) rfl rfl En35 rfl (unused_i Rs.o Rs.o RsE.o Rs.o hlen (fun w55 => ?_))
        refine RG.pv rfl (PV.move (v := .tuple _) rfl rfl) ?_
        refine RG.pv rfl (PV.ext (v := w55) rfl rfl rfl) ?_
        refine RG.pv rfl (PV.ext rfl rfl rfl) ?_
        refine RG.pv rfl (PV.asg (v := w55) rfl rfl) ?_
        refine RG.pv rfl (PV.mvI (.inr rfl) rfl) ?_
        refine RG.nil ?_
        refine WP.seq ?_
        refine WP.seq ?_
        refine WP.region ?_
        refine RG.pv rfl (PV.move (v := w55) rfl rfl) ?_
        refine RG.pv rfl (PV.move (v := w42) rfl rfl) ?_
        refine RG.callF (vs := [w55, w42]) rfl rfl En36 rfl (eqWaiverS_s Rs.o Rs.o ?_)
        refine RG.pv rfl (PV.not rfl rfl) ?_
        refine RG.pv rfl (PV.mvB (.inl rfl) rfl) ?_
        refine RG.gs rfl rfl rfl (fun hp => (PV.mvI (.inl rfl) rfl)) ?_
        refine RG.gs rfl rfl rfl (fun hp => (PV.mvI (.inl rfl) rfl)) ?_
        refine RG.gs rfl rfl rfl (fun hp => (PV.neq rfl (gs_t hp) (gs_t hp))) ?_
        refine RG.pv rfl (PV.pickO rfl rfl rfl (fun hq => gs_t (geqF hq))) ?_
        refine RG.nil ?_
        refine WP.cond rfl (fun h7 => ?_) (fun h7 => ?_)
        · simp [*] at h7
        · refine WP.skip ?_
          refine WP.seq ?_
          refine WP.seq ?_
          refine WP.regionH0 (.q 0 (.q 1 (.l 2 (.l 3 (.q 4 Sch.nil))))) (by kernel_rfl) (by kernel_rfl) (by kernel_rfl) rfl ?_
          refine RH.pv rfl (fun _ _ _ _ h => h) (Gh.le_refl _) PickC.pick rfl (PV.loadW rfl Ag33 rfl rfl) ?_
          refine RH.pv rfl (fun _ _ _ _ h => h) (Gh.le_refl _) PickC.pick rfl (PV.loadW rfl Ag24 rfl rfl) ?_
          refine RH.ot rfl rfl (OT.callF (vs := [_]) rfl En13 rfl (toDeck_s (Rs.up h1) hb1 (fun w69 => ⟨Gh.le_refl _, PickC.pick, ?_⟩)))
          refine RH.ot rfl rfl (OT.callF (vs := [_, _]) rfl En16 rfl (eqDeck_s Rs.o Rs.o ⟨Gh.le_refl _, PickC.pick, ?_⟩))
          refine RH.pv rfl (fun _ _ _ _ h => h) (Gh.le_refl _) PickC.pick rfl (PV.not rfl rfl) ?_
          refine RH.nil ?_
          refine WP.cond rfl (fun h8 => ?_) (fun h8 => ?_)
          · simp at h8
          · refine WP.skip ?_
            refine WP.seq ?_
            refine WP.seq ?_
            refine WP.region ?_
            refine RG.pv rfl (PV.move (v := v48) rfl rfl) ?_
            refine RG.pv rfl (PV.move (v := u) rfl rfl) ?_
            refine RG.callF (vs := [u]) rfl rfl En33 rfl (toViolS_s (Rs.up h2) hd.up hb2 hbi (fun v74 ysv74 hev74 => ?_))
            refine RG.callF (vs := [v48, v74]) rfl rfl En37 rfl (eqViolS_s Rs.o RsE.o Rs.o RsE.o ?_)
            refine RG.pv rfl (PV.not rfl rfl) ?_
            refine RG.nil ?_
            refine WP.cond rfl (fun h9 => ?_) (fun h9 => ?_)
            · simp [*] at h9
            · refine WP.skip ?_
              refine WP.seq ?_
              refine WP.seq ?_
              refine WP.region ?_
              refine RG.pv rfl (PV.move (v := v50) rfl rfl) ?_
              refine RG.pv rfl (PV.move (v := w) rfl rfl) ?_
              refine RG.callF (vs := [w]) rfl rfl En34 rfl (toWaiverS_s (Rs.up h3) hb3 (fun v79 => ?_))
              refine RG.callF (vs := [v50, v79]) rfl rfl En36 rfl (eqWaiverS_s Rs.o Rs.o ?_)
              refine RG.pv rfl (PV.not rfl rfl) ?_
              refine RG.nil ?_
              refine WP.cond rfl (fun ha => ?_) (fun ha => ?_)
              · simp at ha
              · have hm1 : costL nVi ysv48 ≤ 5242880 := by rw [nVi_er, hev48, ← nVi_er, hcv]; simp only [szOf] at hsz; omega
                have hm2 : 0 ≤ costL nVi ysv48 := costL_nonneg nVi_nn _
                have hm3 : costL nRu d.rules.xs = 5 * d.rules.xs.length := nRu_cost _
                have hm4 : costL nW ws = 2 * ws.length := nW_cost _
                have hm5 : costL nW (unusedR d.rules.xs (erVs ysv48) ws) = 2 * (unusedR d.rules.xs (erVs xs) ws).length := by rw [hev48]; exact nW_cost _
                refine WP.skip ?_
                refine WP.seq ?_
                refine WP.region ?_
                refine RG.pv rfl (PV.mvI (.inr rfl) rfl) ?_
                refine RG.nil ?_
                refine WP.seq ?_
                refine WP.region ?_
                refine RG.pv rfl (PV.loadW rfl Ag33 rfl rfl) ?_
                refine RG.pv rfl (PV.mvI (.inl rfl) rfl) ?_
                refine RG.callF (vs := [_, _]) rfl rfl En38 rfl (CallT.exS w46 (markDeck_s (d := ⟨⟨w46, d.rules.xs⟩⟩) (by omega) (by simp only; omega) ?_))
                refine RG.pv rfl (PV.mvI (.inr rfl) rfl) ?_
                refine RG.nil ?_
                refine WP.seq ?_
                refine WP.region ?_
                refine RG.pv rfl (PV.move (v := v48) rfl rfl) ?_
                refine RG.pv rfl (PV.mvI (.inl rfl) rfl) ?_
                refine RG.callF (vs := [v48, _]) rfl rfl En39 rfl (CallT.exBg (mks ysv48) (CallT.exS v48 (markViolS_s (by simp only; omega) (by simp only; omega) ?_)))
                refine RG.pv rfl (PV.mvI (.inr rfl) rfl) ?_
                refine RG.nil ?_
                refine WP.seq ?_
                refine WP.region ?_
                refine RG.pv rfl (PV.move (v := v50) rfl rfl) ?_
                refine RG.pv rfl (PV.mvI (.inl rfl) rfl) ?_
                refine RG.callF (vs := [v50, _]) rfl rfl En40 rfl (CallT.exS v50 (markWaiverS_s (by simp only; omega) (by simp only; omega) ?_))
                refine RG.pv rfl (PV.mvI (.inr rfl) rfl) ?_
                refine RG.nil ?_
                refine WP.seq ?_
                refine WP.seq ?_
                refine WP.region ?_
                refine RG.pv rfl (PV.mvI (.inl rfl) rfl) ?_
                refine RG.pv rfl (PV.lss rfl rfl rfl) ?_
                refine RG.pv rfl (PV.mvB (.inl rfl) rfl) ?_
                refine RG.gs rfl rfl rfl (fun hp => (PV.move (v := w55) rfl rfl)) ?_
                refine RG.gs rfl rfl rfl (fun hp => (PV.move (v := w42) rfl rfl)) ?_
                refine RG.gsC rfl rfl rfl rfl En36 (fun hp => ⟨_, (acons (gs_t hp) (acons (gs_t hp) anil)), eqWaiverS_s Rs.o Rs.o ⟨rfl, rfl, rfl⟩⟩) ?_
                refine RG.gs rfl rfl rfl (fun hp => (PV.not rfl (gs_t hp))) ?_
                refine RG.pv rfl (PV.pickO rfl rfl rfl (fun hq => gs_t (geqF hq))) ?_
                refine RG.pv rfl (PV.mvB (.inl rfl) rfl) ?_
                refine RG.gs rfl rfl rfl (fun hp => (PV.mvI (.inl rfl) rfl)) ?_
                refine RG.gs rfl rfl rfl (fun hp => (PV.mvI (.inl rfl) rfl)) ?_
                refine RG.gs rfl rfl rfl (fun hp => (PV.neq rfl (gs_t hp) (gs_t hp))) ?_
                refine RG.pv rfl (PV.pickO rfl rfl rfl (fun hq => gs_t (geqF hq))) ?_
                refine RG.nil ?_
                refine WP.cond rfl (fun hb => ?_) (fun hb => ?_)
                · simp [*] at hb <;> omega
                · skip
                  refine WP.skip ?_
                  refine WP.seq ?_
                  refine WP.region ?_
                  refine RG.pv rfl (PV.mvI (.inr rfl) rfl) ?_
                  refine RG.nil ?_
                  refine WP.seq ?_
                  refine WP.region ?_
                  refine RG.pv rfl (PV.move (v := w55) rfl rfl) ?_
                  refine RG.pv rfl (PV.mvI (.inl rfl) rfl) ?_
                  refine RG.callF (vs := [w55, _]) rfl rfl En40 rfl (CallT.exS w55 (markWaiverS_s (by omega) (by simp only; omega) ?_))
                  refine RG.pv rfl (PV.mvI (.inr rfl) rfl) ?_
                  refine RG.nil ?_
                  refine WP.seq ?_
                  refine WP.region ?_
                  refine RG.pv rfl (PV.mvI (.inr rfl) rfl) ?_
                  refine RG.nil ?_
                  refine WP.seq ?_
                  refine WP.region ?_
                  refine RG.pv rfl (PV.move (v := w55) rfl rfl) ?_
                  refine RG.pv rfl (PV.mvI (.inl rfl) rfl) ?_
                  refine RG.callF (vs := [w55, _]) rfl rfl En41 rfl (heldWaiverS_s Rs.o (by omega) (by simp only; omega) ?_)
                  refine RG.pv rfl (PV.mvI (.inr rfl) rfl) ?_
                  refine RG.nil ?_
                  refine WP.seq ?_
                  refine WP.seq ?_
                  refine WP.region ?_
                  refine RG.pv rfl (PV.mvI (.inl rfl) rfl) ?_
                  refine RG.pv rfl (PV.lss rfl rfl rfl) ?_
                  refine RG.nil ?_
                  refine WP.cond rfl (fun hc => ?_) (fun hc => ?_)
                  · simp at hc; omega
                  · refine WP.skip ?_
                    refine WP.seq ?_
                    refine WP.seq ?_
                    refine WP.region ?_
                    refine RG.pv rfl (PV.mvI (.inl rfl) rfl) ?_
                    refine RG.pv rfl (PV.mvI (.inl rfl) rfl) ?_
                    refine RG.pv rfl (PV.neq rfl rfl rfl) ?_
                    refine RG.nil ?_
                    refine WP.cond rfl (fun he => ?_) (fun he => ?_)
                    · simp at he
                    · refine WP.skip ?_
                      refine WP.seq ?_
                      refine WP.region ?_
                      refine RG.pv rfl (PV.loadW rfl Ag24 rfl rfl) ?_
                      refine RG.callF (vs := [_]) rfl rfl En13 rfl (toDeck_s (Rs.up h1) hb1 (fun w117 => ?_))
                      refine RG.pv rfl (PV.move (v := u) rfl rfl) ?_
                      refine RG.callF (vs := [u]) rfl rfl En33 rfl (toViolS_s (Rs.up h2) hd.up hb2 hbi (fun v119 ysv119 hev119 => ?_))
                      refine RG.pv rfl (PV.move (v := w) rfl rfl) ?_
                      refine RG.callF (vs := [w]) rfl rfl En34 rfl (toWaiverS_s (Rs.up h3) hb3 (fun v121 => ?_))
                      refine RG.callF (vs := [_, v119, v121]) rfl rfl En35 rfl (unused_i Rs.o Rs.o RsE.o Rs.o hlen (fun w122 => ?_))
                      refine RG.pv rfl (PV.move (v := .tuple _) rfl rfl) ?_
                      refine RG.pv rfl (PV.ext (v := w122) rfl rfl rfl) ?_
                      refine RG.pv rfl (PV.ext rfl rfl rfl) ?_
                      refine RG.pv rfl (PV.asg (v := w122) rfl rfl) ?_
                      refine RG.pv rfl (PV.mvI (.inr rfl) rfl) ?_
                      refine RG.nil ?_
                      refine WP.seq ?_
                      refine WP.seq ?_
                      refine WP.region ?_
                      refine RG.pv rfl (PV.move (v := w122) rfl rfl) ?_
                      refine RG.pv rfl (PV.move (v := w42) rfl rfl) ?_
                      refine RG.callF (vs := [w122, w42]) rfl rfl En36 rfl (eqWaiverS_s Rs.o Rs.o ?_)
                      refine RG.pv rfl (PV.not rfl rfl) ?_
                      refine RG.pv rfl (PV.mvB (.inl rfl) rfl) ?_
                      refine RG.gs rfl rfl rfl (fun hp => (PV.mvI (.inl rfl) rfl)) ?_
                      refine RG.gs rfl rfl rfl (fun hp => (PV.mvI (.inl rfl) rfl)) ?_
                      refine RG.gs rfl rfl rfl (fun hp => (PV.neq rfl (gs_t hp) (gs_t hp))) ?_
                      refine RG.pv rfl (PV.pickO rfl rfl rfl (fun hq => gs_t (geqF hq))) ?_
                      refine RG.nil ?_
                      refine WP.cond rfl (fun hf => ?_) (fun hf => ?_)
                      · simp [*] at hf
                      · skip
                        refine WP.skip ?_
                        refine WP.seq ?_
                        refine WP.region ?_
                        refine RG.pv rfl (PV.mvI (.inr rfl) rfl) ?_
                        refine RG.nil ?_
                        refine WP.seq ?_
                        refine WP.region ?_
                        refine RG.pv rfl (PV.move (v := w55) rfl rfl) ?_
                        refine RG.pv rfl (PV.mvI (.inl rfl) rfl) ?_
                        refine RG.callF (vs := [w55, _]) rfl rfl En41 rfl (heldWaiverS_s Rs.o (by omega) (by simp only; omega) ?_)
                        refine RG.pv rfl (PV.mvI (.inr rfl) rfl) ?_
                        refine RG.nil ?_
                        refine WP.seq ?_
                        refine WP.seq ?_
                        refine WP.region ?_
                        refine RG.pv rfl (PV.mvI (.inl rfl) rfl) ?_
                        refine RG.pv rfl (PV.lss rfl rfl rfl) ?_
                        refine RG.nil ?_
                        refine WP.cond rfl (fun hg => ?_) (fun hg => ?_)
                        · simp at hg; omega
                        · refine WP.skip ?_
                          refine WP.seq ?_
                          refine WP.seq ?_
                          refine WP.region ?_
                          refine RG.pv rfl (PV.mvI (.inl rfl) rfl) ?_
                          refine RG.pv rfl (PV.mvI (.inl rfl) rfl) ?_
                          refine RG.pv rfl (PV.neq rfl rfl rfl) ?_
                          refine RG.nil ?_
                          refine WP.cond rfl (fun hh => ?_) (fun hh => ?_)
                          · simp at hh
                          · refine WP.skip ?_
                            refine WP.seq ?_
                            refine WP.region ?_
                            refine RG.pv rfl (PV.mvB (.inr rfl) rfl) ?_
                            refine RG.nil ?_
                            refine WP.ret ?_
                            exact ⟨_, _, ResV.one rfl rfl, Cv.p, k⟩
end Go.Proofs.YtgngpegmaceaiaaGreat
namespace Go.Proofs.YtgngpegmaceaiaaGreat
set_option linter.unusedVariables false
set_option linter.unusedSimpArgs false
open Go
set_option maxRecDepth 20000
set_option linter.unusedSimpArgs false
variable {G : Gh} {L : List Ch} {R : Value → Gh → List Ch → Prop}
theorem copyV_i {v : Viol} (h1 : Rs G L rectT v.marker.v v.marker.xs) (hb : v.marker.xs.length ≤ 1048576) (k : ∀ v', R (vT violT ⟨v.rule, ⟨v', v.marker.xs⟩⟩) G (osl 101 rectT v' v.marker.xs :: L)) : CallT Tryz.prog 89 #[vT violT v] G L R := by
  refine CallT.enter (args := _) Tryz.func89 rfl rfl (by kernel_rfl) rfl ?_
  refine WP.seq ?_
  refine WP.region ?_
  refine RG.ot rfl (OT.box (cs := violT.enc v) rfl rfl rfl fun b1 => ?_)
  refine RG.ot rfl (OT.alloc rfl Zr37 fun b2 => ?_)
  refine RG.nil ?_
  refine WP.seq ?_
  refine WP.regionHD [.b b2] (.q 0 (.q 1 (.q 2 (.q 3 (.l 4 (.q 5 (.l 6 Sch.nil))))))) (by kernel_rfl) (by kernel_rfl) (by kernel_rfl) rfl ?_
  refine RH.pv rfl (fun _ _ _ _ h => h) (Gh.le_refl _) PickC.pick rfl (PV.field rfl Fo37_0 rfl) ?_
  refine RH.pv rfl (fun _ _ _ _ h => h) (Gh.le_refl _) PickC.pick rfl (PV.load1 rfl Sc2 rfl (Rd.blk rfl)) ?_
  refine RH.pv rfl (fun _ _ _ _ h => h) (Gh.le_refl _) PickC.pick rfl (PV.field rfl Fo37_1 rfl) ?_
  refine RH.pv rfl (fun _ _ _ _ h => h) (Gh.le_refl _) PickC.pick rfl (PV.load1 rfl Sc35 rfl (Rd.blk rfl)) ?_
  refine RH.ot rfl rfl (OT.callF (vs := [_]) rfl En153 rfl (clone_rects (Rs.up h1) hb (fun v7 => ⟨Gh.le_refl _, PickC.pick, ?_⟩)))
  refine RH.up1 ?_
  refine RH.pv rfl (fun _ _ _ _ h => h) (Gh.le_refl _) PickC.pick rfl (PV.build (vs := [(0, [vi _]), (1, [v7])]) (out := [_, _]) rfl Zr37 Pl37 ⟨rfl, (Cl.c rfl), ⟨rfl, (Cl.s (v := v7) SlF.o), trivial⟩⟩ rfl) ?_
  refine RH.ot rfl rfl (OT.storeW (vs := [vi _, _]) rfl Sz37 rfl rfl (Cl.c rfl) rfl rfl (OneC.val rfl (OneC.sl SlF.o OneC.nil)) ⟨Gh.le_refl _, PickC.pick, ?_⟩)
  refine RH.nil ?_
  refine WP.ret ?_
  exact ⟨_, _, ResV.one rfl (RV1.cell rfl Ag37 rfl), Cv.p, k v7⟩
theorem copyV_r {v : Viol} (h1 : Rs G L rectT v.marker.v v.marker.xs) (hb : v.marker.xs.length ≤ 1048576) (k : ∀ v', R (vT violT ⟨v.rule, ⟨v', v.marker.xs⟩⟩) G (osl 101 rectT v' v.marker.xs :: L)) : CallT Tryz.prog 87 #[vT violT v] G L R := by
  refine CallT.enter (args := _) Tryz.func87 rfl rfl (by kernel_rfl) rfl ?_
  refine WP.seq ?_
  refine WP.region ?_
  refine RG.ot rfl (OT.box (cs := violT.enc v) rfl rfl rfl fun b1 => ?_)
  refine RG.ot rfl (OT.alloc rfl Zr37 fun b2 => ?_)
  refine RG.nil ?_
  refine WP.seq ?_
  refine WP.regionHD [.b b2] (.q 0 (.q 1 (.q 3 (.q 4 (.l 2 (.l 5 (.q 6 (.l 7 Sch.nil)))))))) (by kernel_rfl) (by kernel_rfl) (by kernel_rfl) rfl ?_
  refine RH.pv rfl (fun _ _ _ _ h => h) (Gh.le_refl _) PickC.pick rfl (PV.field rfl Fo37_0 rfl) ?_
  refine RH.pv rfl (fun _ _ _ _ h => h) (Gh.le_refl _) PickC.pick rfl (PV.load1 rfl Sc2 rfl (Rd.blk rfl)) ?_
  refine RH.pv rfl (fun _ _ _ _ h => h) (Gh.le_refl _) PickC.pick rfl (PV.field rfl Fo37_1 rfl) ?_
  refine RH.pv rfl (fun _ _ _ _ h => h) (Gh.le_refl _) PickC.pick rfl (PV.load1 rfl Sc35 rfl (Rd.blk rfl)) ?_
  refine RH.ot rfl rfl (OT.bslice (F := rectT) (els := []) rfl El35 rfl (by decide) rfl (by decide) trivial fun v5 => ⟨Gh.le_refl _, PickC.pick, ?_⟩)
  refine RH.ot rfl rfl (OT.append (v := v5) (F := rectT) rfl El35 rfl (by decide) rfl rfl (Rs.up h1) (OneL.c (fun _ => rfl)) rfl (by first | omega | (simp <;> omega)) fun v8 => ⟨Gh.le_refl _, PickC.pick, ?_⟩)
  refine RH.up1 ?_
  refine RH.pv rfl (fun _ _ _ _ h => h) (Gh.le_refl _) PickC.pick rfl (PV.build (vs := [(0, [vi _]), (1, [v8])]) (out := [_, _]) rfl Zr37 Pl37 ⟨rfl, (Cl.c rfl), ⟨rfl, (Cl.s (v := v8) SlF.o), trivial⟩⟩ rfl) ?_
  refine RH.ot rfl rfl (OT.storeW (vs := [vi _, _]) rfl Sz37 rfl rfl (Cl.c rfl) rfl rfl (OneC.val rfl (OneC.sl SlF.o OneC.nil)) ⟨Gh.le_refl _, PickC.pick, ?_⟩)
  refine RH.nil ?_
  refine WP.ret ?_
  exact ⟨_, _, ResV.one rfl (RV1.cell rfl Ag37 rfl), ((Cv.p (C := osl 101 rectT v8 ([] ++ v.marker.xs) :: L)).trans (Cv.eqS (List.nil_append _))), k v8⟩
def hasW (ws : List Waiver) (n : Int) : Bool := ws.any fun w => decide (w.sig = n)
theorem waives1_s {w : Waiver} {b : Nat} {n : Int} (hc : Rd G L b 0 (vi n)) (k : R (.bool (decide (w.sig = n))) G L) : CallT Tryz.prog 152 #[vwaiver w, .pointer (some ⟨b, 0, none⟩)] G L R := by
  refine CallT.enter (args := _) Tryz.func152 rfl rfl (by kernel_rfl) rfl ?_
  refine WP.seq ?_
  refine WP.region ?_
  refine RG.ot rfl (OT.box (cs := waiverT.enc w) rfl rfl rfl fun b2 => ?_)
  refine RG.pv rfl (PV.mvB (.inr rfl) rfl) ?_
  refine RG.nil ?_
  refine WP.seq ?_
  refine WP.region ?_
  refine RG.pv rfl (PV.field rfl Fo83_0 rfl) ?_
  refine RG.pv rfl (PV.load1 rfl Sc2 rfl (Rd.blk rfl)) ?_
  refine RG.pv rfl (PV.load1 rfl Sc2 rfl (Rd.up hc)) ?_
  refine RG.pv rfl (PV.eql rfl rfl rfl) ?_
  refine RG.pv rfl (PV.mvB (.inr rfl) rfl) ?_
  refine RG.nil ?_
  refine WP.ret ?_
  exact ⟨_, _, ResV.one rfl rfl, Cv.p, k⟩
theorem indexF_waiver {v fv : Value} {xs : List (Waiver)} {p : (Waiver) → Bool} (h1 : Rs G L waiverT v xs) (hf : ∀ i, i < xs.length → CB Tryz.prog G L fv [vwaiver (gd xs i)] (.bool (p (gd xs i)))) (k : R (vi (idxI p xs)) G L) : CallT Tryz.prog 207 #[v, fv] G L R := by
  refine CallT.bd h1 fun hb => ?_
  refine CallT.enter (args := _) Tryz.func207 rfl rfl (by kernel_rfl) rfl ?_
  refine WP.seq ?_
  refine WP.region ?_
  refine RG.pv rfl (PV.mvI (.inr rfl) rfl) ?_
  refine RG.nil ?_
  refine WP.seq ?_
  refine WP.seq ?_
  refine WP.region ?_
  refine RG.pv rfl (PV.move (v := v) rfl rfl) ?_
  refine RG.pv rfl (PV.len (v := v) rfl Tryz.underlying63 rfl (SlF.r h1)) ?_
  refine RG.pv rfl (PV.mvI (.inl rfl) rfl) ?_
  refine RG.nil ?_
  refine WP.block ?_
  refine WP.loop1 [0, 1, 7] (fun i => i ≤ xs.length ∧ ∀ j, j < i → p (gd xs j) = false) (fun i => [(8, vi i)]) (fun i => L) (fun i => xs.length - i) 0 ⟨by omega, fun j h => by omega⟩ ⟨rfl, trivial⟩ Cv.p ?_
  rintro i τ ⟨hi, hj⟩
  refine WP.seq ?_
  refine WP.region ?_
  refine RG.pv rfl (PV.lss rfl rfl rfl) ?_
  refine RG.nil ?_
  refine WP.seq ?_
  refine WP.cond rfl (fun h2 => ?_) (fun h2 => ?_)
  · have h2 := of_decide_eq_true h2
    refine WP.skip ?_
    refine WP.seq ?_
    refine WP.block ?_
    refine WP.seq ?_
    refine WP.region ?_
    refine RG.pv rfl (PV.mvI (.inl rfl) rfl) ?_
    refine RG.pv rfl (PV.mvI (.inr rfl) rfl) ?_
    refine RG.nil ?_
    refine WP.seq ?_
    refine WP.region ?_
    refine RG.pv rfl (PV.move (v := fv) rfl rfl) ?_
    refine RG.pv rfl (PV.move (v := v) rfl rfl) ?_
    refine RG.pv rfl (PV.mvI (.inl rfl) rfl) ?_
    refine RG.pv rfl (PV.idxS (v := v) rfl Is63 rfl (SlF.r h1) rfl rfl (by omega)) ?_
    refine RG.pv rfl (PV.loadE rfl Ag83 rfl rfl (El.r h1 (getG (by omega)))) ?_
    refine RG.callB (vs := [_]) rfl rfl rfl rfl (CB.up (hf i (by omega))) ?_
    refine RG.nil ?_
    refine WP.cond rfl (fun h3 => ?_) (fun h3 => ?_)
    · rw [idxI_at (by omega) h3 hj] at k
      refine WP.seq ?_
      refine WP.region ?_
      refine RG.pv rfl (PV.mvI (.inl rfl) rfl) ?_
      refine RG.pv rfl (PV.mvI (.inr rfl) rfl) ?_
      refine RG.nil ?_
      refine WP.ret ?_
      exact ⟨_, _, ResV.one rfl rfl, Cv.p, k⟩
    · have hj' : ∀ j, j < i + 1 → p (gd xs j) = false := fun j h => by
        by_cases c : j = i
        · rw [c]; exact h3
        · exact hj j (by omega)
      refine WP.skip ?_
      refine WP.region ?_
      refine RG.pv rfl (PV.add rfl rfl rfl (by omega)) ?_
      refine RG.pv rfl (PV.mvI (.inl rfl) rfl) ?_
      refine RG.nil ?_
      exact ⟨rfl, i + 1, ⟨by omega, hj'⟩, ⟨rfl, trivial⟩, ⟨rfl, rfl, rfl, trivial⟩, Cv.p, by omega⟩
  · have h2 := of_decide_eq_false h2
    rw [idxI_none (fun j h => hj j (by omega))] at k
    refine WP.exit ?_
    refine WP.seq ?_
    refine WP.region ?_
    refine RG.pv rfl (PV.mvI (.inr rfl) rfl) ?_
    refine RG.nil ?_
    refine WP.ret ?_
    exact ⟨_, _, ResV.one rfl rfl, Cv.p, k⟩
theorem containsF_waiver {v fv : Value} {xs : List (Waiver)} {p : (Waiver) → Bool} (h1 : Rs G L waiverT v xs) (hf : ∀ i, i < xs.length → CB Tryz.prog G L fv [vwaiver (gd xs i)] (.bool (p (gd xs i)))) (k : R (.bool (xs.any p)) G L) : CallT Tryz.prog 151 #[v, fv] G L R := by
  rw [← idxI_any] at k
  refine CallT.enter (args := _) Tryz.func151 rfl rfl (by kernel_rfl) rfl ?_
  refine WP.seq ?_
  refine WP.region ?_
  refine RG.pv rfl (PV.mvB (.inr rfl) rfl) ?_
  refine RG.nil ?_
  refine WP.seq ?_
  refine WP.region ?_
  refine RG.pv rfl (PV.move (v := v) rfl rfl) ?_
  refine RG.pv rfl (PV.move (v := fv) rfl rfl) ?_
  refine RG.callF (vs := [v, fv]) rfl rfl En207 rfl (indexF_waiver (Rs.up h1) (fun i hi => (hf i hi).up) ?_)
  refine RG.pv rfl (PV.geq rfl rfl rfl) ?_
  refine RG.pv rfl (PV.mvB (.inr rfl) rfl) ?_
  refine RG.nil ?_
  refine WP.ret ?_
  exact ⟨_, _, ResV.one rfl rfl, Cv.p, k⟩
theorem waives_s {v : Value} {ws : List Waiver} {n : Int} (h1 : Rs G L waiverT v ws) (k : R (.bool (hasW ws n)) G L) : CallT Tryz.prog 88 #[v, vi n] G L R := by
  refine CallT.enter (args := _) Tryz.func88 rfl rfl (by kernel_rfl) rfl ?_
  refine WP.seq ?_
  refine WP.region ?_
  refine RG.ot rfl (OT.box rfl rfl rfl fun b3 => ?_)
  refine RG.pv rfl (PV.mvB (.inr rfl) rfl) ?_
  refine RG.nil ?_
  refine WP.seq ?_
  refine WP.region ?_
  refine RG.pv rfl (PV.move (v := v) rfl rfl) ?_
  refine RG.pv rfl (PV.mkf1 rfl rfl) ?_
  refine RG.callF (vs := [v, _]) rfl rfl En151 rfl (containsF_waiver (Rs.up h1) (p := fun w => decide (w.sig = n)) (fun i hi => CB.mk1 En152 fun L' R c k => waives1_s (Rd.cv (Rd.blk rfl) c) k) ?_)
  refine RG.pv rfl (PV.mvB (.inr rfl) rfl) ?_
  refine RG.nil ?_
  refine WP.ret ?_
  exact ⟨_, _, ResV.one rfl rfl, Cv.p, k⟩
theorem l22Has_s {v : Value} {ws : List Waiver} {n : Int} (h1 : Rs G L waiverT v ws) (k : R (.bool (hasW ws n)) G L) : CallT Tryz.prog 86 #[v, vi n] G L R := by
  refine CallT.bd h1 fun hb => ?_
  refine CallT.enter (args := _) Tryz.func86 rfl rfl (by kernel_rfl) rfl ?_
  refine WP.seq ?_
  refine WP.region ?_
  refine RG.pv rfl (PV.mvB (.inr rfl) rfl) ?_
  refine RG.nil ?_
  refine WP.seq ?_
  refine WP.seq ?_
  refine WP.region ?_
  refine RG.pv rfl (PV.mvI (.inr rfl) rfl) ?_
  refine RG.nil ?_
  refine WP.block ?_
  refine WP.loop1 [0, 1] (fun i => i ≤ ws.length ∧ ∀ j, j < i → decide ((gd ws j).sig = n) = false) (fun i => [(5, vi i)]) (fun i => L) (fun i => ws.length - i) 0 ⟨by omega, fun j h => by omega⟩ ⟨rfl, trivial⟩ Cv.p ?_
  rintro i τ ⟨hi, hj⟩
  refine WP.seq ?_
  refine WP.seq ?_
  refine WP.region ?_
  refine RG.pv rfl (PV.mvI (.inl rfl) rfl) ?_
  refine RG.pv rfl (PV.move (v := v) rfl rfl) ?_
  refine RG.pv rfl (PV.len (v := v) rfl Tryz.underlying63 rfl (SlF.r h1)) ?_
  refine RG.pv rfl (PV.lss rfl rfl rfl) ?_
  refine RG.nil ?_
  refine WP.cond rfl (fun h2 => ?_) (fun h2 => ?_)
  · have h2 := of_decide_eq_true h2
    refine WP.skip ?_
    refine WP.seq ?_
    refine WP.block ?_
    refine WP.seq ?_
    refine WP.region ?_
    refine RG.pv rfl (PV.move (v := v) rfl rfl) ?_
    refine RG.pv rfl (PV.mvI (.inl rfl) rfl) ?_
    refine RG.pv rfl (PV.idxS (v := v) rfl Is63 rfl (SlF.r h1) rfl rfl (by omega)) ?_
    refine RG.pv rfl (PV.field rfl Fo83_0 rfl) ?_
    refine RG.pv rfl (PV.loadF rfl Sc2 rfl rfl (El.r h1 (getG (by omega))) rfl) ?_
    refine RG.pv rfl (PV.mvI (.inl rfl) rfl) ?_
    refine RG.pv rfl (PV.eql rfl rfl rfl) ?_
    refine RG.nil ?_
    refine WP.cond rfl (fun h3 => ?_) (fun h3 => ?_)
    · have e : hasW ws n = true := List.any_eq_true.2 ⟨gd ws i, by rw [gd_eq (by omega)]; exact List.getElem_mem _, h3⟩
      rw [e] at k
      refine WP.seq ?_
      refine WP.region ?_
      refine RG.pv rfl (PV.mvB (.inr rfl) rfl) ?_
      refine RG.nil ?_
      refine WP.ret ?_
      exact ⟨_, _, ResV.one rfl rfl, Cv.p, k⟩
    · have hj' : ∀ j, j < i + 1 → decide ((gd ws j).sig = n) = false := fun j h => by
        by_cases c : j = i
        · rw [c]; exact h3
        · exact hj j (by omega)
      refine WP.skip ?_
      refine WP.region ?_
      refine RG.pv rfl (PV.mvI (.inl rfl) rfl) ?_
      refine RG.pv rfl (PV.add rfl rfl rfl (by omega)) ?_
      refine RG.pv rfl (PV.mvI (.inr rfl) rfl) ?_
      refine RG.nil ?_
      exact ⟨rfl, i + 1, ⟨by omega, hj'⟩, ⟨rfl, trivial⟩, ⟨rfl, rfl, trivial⟩, Cv.p, by omega⟩
  · have h2 := of_decide_eq_false h2
    have e : hasW ws n = false := by
      rw [hasW, List.any_eq_false]
      intro r hr
      obtain ⟨j, hj2, rfl⟩ := List.getElem_of_mem hr
      have := hj j (by omega)
      rw [gd_eq hj2] at this
      simpa using this
    rw [e] at k
    refine WP.exit ?_
    refine WP.seq ?_
    refine WP.region ?_
    refine RG.pv rfl (PV.mvB (.inr rfl) rfl) ?_
    refine RG.nil ?_
    refine WP.ret ?_
    exact ⟨_, _, ResV.one rfl rfl, Cv.p, k⟩
def isWv (rs : List Rule) (ws : List Waiver) (v : Int × List Rect) : Bool := hasW ws (sigA rs v)
noncomputable def keptR (rs : List Rule) (E : List (Int × List Rect)) (ws : List Waiver) : List (Int × List Rect) := if wCode rs E ws = 0 then E.filter (fun v => !isWv rs ws v) else []
noncomputable def waivR (rs : List Rule) (E : List (Int × List Rect)) (ws : List Waiver) : List (Int × List Rect) := if wCode rs E ws = 0 then E.filter (isWv rs ws) else []
theorem mks_app (xs ys : List Viol) : mks (xs ++ ys) = mks xs ++ mks ys := by simp [mks]
theorem erVs_app (xs ys : List Viol) : erVs (xs ++ ys) = erVs xs ++ erVs ys := by simp [erVs]
theorem apply_i {d : Deck} {u w : Value} {xs : List Viol} {ws : List Waiver} (h1 : Rs G L ruleT d.rules.v d.rules.xs) (h2 : Rs G L violT u xs) (hd : RsE G L rectT (mks xs)) (h3 : Rs G L waiverT w ws) (hlen : ∀ i, i < ws.length → (gd ws i).reason.size ≤ 9223372036854775807)
    (k : ∀ v' u' ks us, erVs ks = keptR d.rules.xs (erVs xs) ws → erVs us = waivR d.rules.xs (erVs xs) ws → R (.tuple #[v', u', vi (wCode d.rules.xs (erVs xs) ws)]) G (osl 37 violT v' ks :: bagS 101 rectT (mks ks) :: osl 37 violT u' us :: bagS 101 rectT (mks us) :: L)) :
    CallT Tryz.prog 43 #[vT deckT d, u, w] G L R := by
  refine CallT.bd h3 fun hb0 => ?_
  refine CallT.bd h2 fun hb1 => ?_
  refine CallT.enter (args := _) Tryz.func43 rfl rfl (by kernel_rfl) rfl ?_
  refine WP.seq ?_
  refine WP.region ?_
  refine RG.ot rfl (OT.box (cs := deckT.enc d) rfl rfl rfl fun b3 => ?_)
  refine RG.pv rfl (PV.asg rfl rfl) ?_
  refine RG.pv rfl (PV.asg rfl rfl) ?_
  refine RG.pv rfl (PV.mvI (.inr rfl) rfl) ?_
  refine RG.nil ?_
  refine WP.seq ?_
  refine WP.seq ?_
  refine WP.region ?_
  refine RG.pv rfl (PV.loadW rfl Ag33 rfl rfl) ?_
  refine RG.pv rfl (PV.move (v := u) rfl rfl) ?_
  refine RG.pv rfl (PV.move (v := w) rfl rfl) ?_
  refine RG.callF (vs := [_, u, w]) rfl rfl En80 rfl (wcode_i h1.up h2.up hd.up h3.up hlen ?_)
  refine RG.pv rfl (PV.mvI (.inr rfl) rfl) ?_
  refine RG.nil ?_
  refine WP.seq ?_
  refine WP.region ?_
  refine RG.pv rfl (PV.mvI (.inl rfl) rfl) ?_
  refine RG.pv rfl (PV.neq rfl rfl rfl) ?_
  refine RG.nil ?_
  refine WP.cond rfl (fun h4 => ?_) (fun h4 => ?_)
  · have hz : wCode d.rules.xs (erVs xs) ws ≠ 0 := by simpa using h4
    have e : keptR d.rules.xs (erVs xs) ws = [] := by rw [keptR, if_neg hz]
    have e2 : waivR d.rules.xs (erVs xs) ws = [] := by rw [waivR, if_neg hz]
    rw [e, e2] at k
    refine WP.seq ?_
    refine WP.region ?_
    refine RG.pv rfl (PV.mvI (.inl rfl) rfl) ?_
    refine RG.pv rfl (PV.asg rfl rfl) ?_
    refine RG.pv rfl (PV.asg rfl rfl) ?_
    refine RG.pv rfl (PV.mvI (.inr rfl) rfl) ?_
    refine RG.nil ?_
    refine WP.ret ?_
    exact ⟨_, _, ResV.three rfl rfl rfl rfl, ((Cv.p (C := L)).trans ((Cv.bag0 (e := 101) (F := rectT) (xs := mks []) rfl).trans ((Cv.nilS (e := 37) (F := violT)).trans ((Cv.bag0 (e := 101) (F := rectT) (xs := mks []) rfl).trans (Cv.nilS (e := 37) (F := violT)))))), k (.slice none 0 0) (.slice none 0 0) [] [] rfl rfl⟩
  · have hz : wCode d.rules.xs (erVs xs) ws = 0 := by simpa using h4
    have e : keptR d.rules.xs (erVs xs) ws = (erVs xs).filter (fun v => !isWv d.rules.xs ws v) := by rw [keptR, if_pos hz]
    have e2 : waivR d.rules.xs (erVs xs) ws = (erVs xs).filter (isWv d.rules.xs ws) := by rw [waivR, if_pos hz]
    rw [e, e2, hz] at k
    have hel := erVs_len xs
    have hrl : xs.length ≤ 256 := by rw [← hel]; exact rep_len (wCode_zero hz).2.1
    refine WP.skip ?_
    refine WP.seq ?_
    refine WP.region ?_
    refine RG.ot rfl (OT.bslice (F := violT) (els := []) rfl El66 rfl (by decide) rfl (by decide) trivial fun v21 => ?_)
    refine RG.ot rfl (OT.bslice (F := violT) (els := []) rfl El66 rfl (by decide) rfl (by decide) trivial fun v22 => ?_)
    refine RG.pv rfl (PV.asg (v := v21) rfl rfl) ?_
    refine RG.pv rfl (PV.asg (v := v22) rfl rfl) ?_
    refine RG.nil ?_
    refine WP.seq ?_
    refine WP.seq ?_
    refine WP.region ?_
    refine RG.pv rfl (PV.move (v := u) rfl rfl) ?_
    refine RG.pv rfl (PV.len (v := u) rfl Tryz.underlying66 rfl (SlF.r h2)) ?_
    refine RG.pv rfl (PV.mvI (.inl rfl) rfl) ?_
    refine RG.nil ?_
    refine WP.block ?_
    refine WP.cv ((Cv.p (C := osl 37 violT v21 ([] : List Viol) :: osl 37 violT v22 ([] : List Viol) :: blk b3 33 (deckT.enc d) :: L)).trans ((Cv.bag0 (e := 101) (F := rectT) (xs := mks []) rfl).trans ((Cv.bag0 (e := 101) (F := rectT) (xs := mks []) rfl).trans (Cv.pick (.cons (.tail _ (.tail _ (.head _ _))) (.cons (.head _ _) (.cons (.tail _ (.head _ _)) (.cons (.head _ _) (.refl _))))))))) ?_
    refine WP.loop5 [2, 3, 23, 24] (fun (i : Nat) (ks us : List Viol) (q p : Value) => i ≤ xs.length ∧ erVs ks = ((erVs xs).take i).filter (fun v => !isWv d.rules.xs ws v) ∧ erVs us = ((erVs xs).take i).filter (isWv d.rules.xs ws)) (fun (i : Nat) (ks us : List Viol) (q p : Value) => [(25, vi i), (10, q), (11, p)]) (fun (i : Nat) (ks us : List Viol) (q p : Value) => osl 37 violT q ks :: bagS 101 rectT (mks ks) :: osl 37 violT p us :: bagS 101 rectT (mks us) :: blk b3 33 (deckT.enc d) :: L) (fun (i : Nat) (ks us : List Viol) (q p : Value) => xs.length - i) 0 [] [] v21 v22 ⟨by omega, rfl, rfl⟩ ⟨rfl, rfl, rfl, trivial⟩ Cv.p ?_
    rintro i ks us q p τ ⟨hi, hks, hus⟩
    refine WP.seq ?_
    refine WP.region ?_
    refine RG.pv rfl (PV.lss rfl rfl rfl) ?_
    refine RG.nil ?_
    refine WP.seq ?_
    have hkl : ks.length ≤ 256 := by
      have h6 := List.length_filter_le (fun v => !isWv d.rules.xs ws v) ((erVs xs).take i)
      rw [← hks, erVs_len, List.length_take] at h6; omega
    have hul : us.length ≤ 256 := by
      have h6 := List.length_filter_le (isWv d.rules.xs ws) ((erVs xs).take i)
      rw [← hus, erVs_len, List.length_take] at h6; omega
    refine WP.cond rfl (fun h5 => ?_) (fun h5 => ?_)
    · have h5 := of_decide_eq_true h5
      have hpr : Rs G L rectT (gd xs i).marker.v (gd xs i).marker.xs := hd.marker (by omega)
      have hrf := rep_facts hz (i := i) (by omega)
      have hrg := isReg_len hrf.2.2.1
      have f1 := filter_step (fun v => !isWv d.rules.xs ws v) (xs := erVs xs) (i := i) (by omega)
      have f2 := filter_step (isWv d.rules.xs ws) (xs := erVs xs) (i := i) (by omega)
      rw [erVs_gd (by omega)] at f1 f2
      refine WP.skip ?_
      refine WP.seq ?_
      refine WP.block ?_
      refine WP.seq ?_
      refine WP.region ?_
      refine RG.pv rfl (PV.idxS (v := u) rfl Is66 rfl (SlF.r h2) rfl rfl (by omega)) ?_
      refine RG.pv rfl (PV.loadE rfl Ag37 rfl rfl (El.r h2 (getG (by omega)))) ?_
      refine RG.ot rfl (OT.alloc rfl Zr37 fun b13 => ?_)
      refine RG.ot rfl (OT.storeW (vs := [vi _, _]) rfl Sz37 rfl rfl (Cl.c rfl) rfl rfl (OneC.val rfl (OneC.sl (SlF.r hpr) OneC.nil)) ?_)
      refine RG.nil ?_
      refine WP.seq ?_
      refine WP.region ?_
      refine RG.pv rfl (PV.move (v := w) rfl rfl) ?_
      refine RG.pv rfl (PV.loadW rfl Ag33 rfl rfl) ?_
      refine RG.pv rfl (PV.loadW rfl Ag37 rfl rfl) ?_
      refine RG.callF (vs := [_, _]) rfl rfl En66 rfl (sigV_i h1.up hpr.up hrf.1 hrf.2.1 hrf.2.2.1 hrf.2.2.2 ?_)
      refine RG.callF (vs := [w, _]) rfl rfl En88 rfl (waives_s (Rs.up h3) ?_)
      refine RG.nil ?_
      refine WP.cond rfl (fun h6 => ?_) (fun h6 => ?_)
      · have h7 : isWv d.rules.xs ws (erV (gd xs i)) = true := h6
        rw [h7] at f1 f2
        refine WP.region ?_
        refine RG.pv rfl (PV.move (v := p) rfl rfl) ?_
        refine RG.pv rfl (PV.loadW rfl Ag37 rfl rfl) ?_
        refine RG.callF (vs := [_]) rfl rfl En89 rfl (copyV_i hpr.up (by omega) (fun w36 => ?_))
        refine RG.ot rfl (OT.bslice (F := violT) (els := [⟨(gd xs i).rule, ⟨w36, (gd xs i).marker.xs⟩⟩]) rfl El66 rfl (by decide) rfl (by decide) ⟨rfl, (Cl.c rfl), trivial⟩ fun v37 => ?_)
        refine RG.ot rfl (OT.append (v := p) (u := v37) (F := violT) rfl El66 rfl (by decide) rfl rfl Rs.o (OneL.one (OneC.val rfl (OneC.sl SlF.o OneC.nil))) rfl (by first | omega | (simp <;> omega)) fun v38 => ?_)
        refine RG.pv rfl (PV.asg (v := v38) rfl rfl) ?_
        refine RG.nil ?_
        refine WP.region ?_
        refine RG.pv rfl (PV.add rfl rfl rfl (by omega)) ?_
        refine RG.pv rfl (PV.mvI (.inl rfl) rfl) ?_
        refine RG.nil ?_
        exact ⟨rfl, i + 1, ks, (us ++ [⟨(gd xs i).rule, ⟨w36, (gd xs i).marker.xs⟩⟩]), q, v38, ⟨by omega, by rw [f1]; simpa using hks, by rw [f2, erVs_app, hus]; rfl⟩, ⟨rfl, rfl, rfl, trivial⟩, ⟨rfl, rfl, rfl, rfl, trivial⟩, ((Cv.p (C := osl 101 rectT w36 (gd xs i).marker.xs :: bagS 101 rectT (mks us) :: osl 37 violT q ks :: bagS 101 rectT (mks ks) :: osl 37 violT v38 (us ++ [⟨(gd xs i).rule, ⟨w36, (gd xs i).marker.xs⟩⟩]) :: blk b3 33 (deckT.enc d) :: L)).trans ((Cv.grow (ys' := mks (us ++ [⟨(gd xs i).rule, ⟨w36, (gd xs i).marker.xs⟩⟩])) (by rw [mks_app]; rfl)).trans Cv.p)), by omega⟩
      · have h7 : isWv d.rules.xs ws (erV (gd xs i)) = false := h6
        rw [h7] at f1 f2
        refine WP.region ?_
        refine RG.pv rfl (PV.move (v := q) rfl rfl) ?_
        refine RG.pv rfl (PV.loadW rfl Ag37 rfl rfl) ?_
        refine RG.callF (vs := [_]) rfl rfl En89 rfl (copyV_i hpr.up (by omega) (fun w41 => ?_))
        refine RG.ot rfl (OT.bslice (F := violT) (els := [⟨(gd xs i).rule, ⟨w41, (gd xs i).marker.xs⟩⟩]) rfl El66 rfl (by decide) rfl (by decide) ⟨rfl, (Cl.c rfl), trivial⟩ fun v42 => ?_)
        refine RG.ot rfl (OT.append (v := q) (u := v42) (F := violT) rfl El66 rfl (by decide) rfl rfl Rs.o (OneL.one (OneC.val rfl (OneC.sl SlF.o OneC.nil))) rfl (by first | omega | (simp <;> omega)) fun v43 => ?_)
        refine RG.pv rfl (PV.asg (v := v43) rfl rfl) ?_
        refine RG.nil ?_
        refine WP.region ?_
        refine RG.pv rfl (PV.add rfl rfl rfl (by omega)) ?_
        refine RG.pv rfl (PV.mvI (.inl rfl) rfl) ?_
        refine RG.nil ?_
        exact ⟨rfl, i + 1, (ks ++ [⟨(gd xs i).rule, ⟨w41, (gd xs i).marker.xs⟩⟩]), us, v43, p, ⟨by omega, by rw [f1, erVs_app, hks]; rfl, by rw [f2]; simpa using hus⟩, ⟨rfl, rfl, rfl, trivial⟩, ⟨rfl, rfl, rfl, rfl, trivial⟩, ((Cv.p (C := osl 101 rectT w41 (gd xs i).marker.xs :: bagS 101 rectT (mks ks) :: osl 37 violT p us :: bagS 101 rectT (mks us) :: osl 37 violT v43 (ks ++ [⟨(gd xs i).rule, ⟨w41, (gd xs i).marker.xs⟩⟩]) :: blk b3 33 (deckT.enc d) :: L)).trans ((Cv.grow (ys' := mks (ks ++ [⟨(gd xs i).rule, ⟨w41, (gd xs i).marker.xs⟩⟩])) (by rw [mks_app]; rfl)).trans Cv.p)), by omega⟩
    · have h5 := of_decide_eq_false h5
      rw [List.take_of_length_le (by omega)] at hks hus
      refine WP.exit ?_
      refine WP.seq ?_
      refine WP.region ?_
      refine RG.pv rfl (PV.move (v := q) rfl rfl) ?_
      refine RG.pv rfl (PV.move (v := p) rfl rfl) ?_
      refine RG.pv rfl (PV.asg (v := q) rfl rfl) ?_
      refine RG.pv rfl (PV.asg (v := p) rfl rfl) ?_
      refine RG.pv rfl (PV.mvI (.inr rfl) rfl) ?_
      refine RG.nil ?_
      refine WP.ret ?_
      exact ⟨_, _, ResV.three rfl rfl rfl rfl, Cv.p, k q p ks us hks hus⟩
theorem apply_r {d : Deck} {u w : Value} {xs : List Viol} {ws : List Waiver} (h1 : Rs G L ruleT d.rules.v d.rules.xs) (h2 : Rs G L violT u xs) (hd : RsE G L rectT (mks xs)) (h3 : Rs G L waiverT w ws) (hlen : ∀ i, i < ws.length → (gd ws i).reason.size ≤ 9223372036854775807)
    (k : ∀ v' u' ks us, erVs ks = keptR d.rules.xs (erVs xs) ws → erVs us = waivR d.rules.xs (erVs xs) ws → R (.tuple #[v', u', vi (wCode d.rules.xs (erVs xs) ws)]) G (osl 37 violT v' ks :: bagS 101 rectT (mks ks) :: osl 37 violT u' us :: bagS 101 rectT (mks us) :: L)) :
    CallT Tryz.prog 42 #[vT deckT d, u, w] G L R := by
  refine CallT.bd h3 fun hb0 => ?_
  refine CallT.bd h2 fun hb1 => ?_
  refine CallT.enter (args := _) Tryz.func42 rfl rfl (by kernel_rfl) rfl ?_
  refine WP.seq ?_
  refine WP.region ?_
  refine RG.ot rfl (OT.box (cs := deckT.enc d) rfl rfl rfl fun b3 => ?_)
  refine RG.pv rfl (PV.asg rfl rfl) ?_
  refine RG.pv rfl (PV.asg rfl rfl) ?_
  refine RG.pv rfl (PV.mvI (.inr rfl) rfl) ?_
  refine RG.nil ?_
  refine WP.seq ?_
  refine WP.region ?_
  refine RG.pv rfl (PV.loadW rfl Ag33 rfl rfl) ?_
  refine RG.pv rfl (PV.move (v := u) rfl rfl) ?_
  refine RG.pv rfl (PV.move (v := w) rfl rfl) ?_
  refine RG.callF (vs := [_, u, w]) rfl rfl En78 rfl (wcode_r h1.up h2.up hd.up h3.up hlen ?_)
  refine RG.pv rfl (PV.mvI (.inr rfl) rfl) ?_
  refine RG.nil ?_
  refine WP.seq ?_
  refine WP.seq ?_
  refine WP.region ?_
  refine RG.pv rfl (PV.mvI (.inl rfl) rfl) ?_
  refine RG.pv rfl (PV.neq rfl rfl rfl) ?_
  refine RG.nil ?_
  refine WP.cond rfl (fun h4 => ?_) (fun h4 => ?_)
  · have hz : wCode d.rules.xs (erVs xs) ws ≠ 0 := by simpa using h4
    have e : keptR d.rules.xs (erVs xs) ws = [] := by rw [keptR, if_neg hz]
    have e2 : waivR d.rules.xs (erVs xs) ws = [] := by rw [waivR, if_neg hz]
    rw [e, e2] at k
    refine WP.seq ?_
    refine WP.region ?_
    refine RG.pv rfl (PV.mvI (.inl rfl) rfl) ?_
    refine RG.pv rfl (PV.asg rfl rfl) ?_
    refine RG.pv rfl (PV.asg rfl rfl) ?_
    refine RG.pv rfl (PV.mvI (.inr rfl) rfl) ?_
    refine RG.nil ?_
    refine WP.ret ?_
    exact ⟨_, _, ResV.three rfl rfl rfl rfl, ((Cv.p (C := L)).trans ((Cv.bag0 (e := 101) (F := rectT) (xs := mks []) rfl).trans ((Cv.nilS (e := 37) (F := violT)).trans ((Cv.bag0 (e := 101) (F := rectT) (xs := mks []) rfl).trans (Cv.nilS (e := 37) (F := violT)))))), k (.slice none 0 0) (.slice none 0 0) [] [] rfl rfl⟩
  · have hz : wCode d.rules.xs (erVs xs) ws = 0 := by simpa using h4
    have e : keptR d.rules.xs (erVs xs) ws = (erVs xs).filter (fun v => !isWv d.rules.xs ws v) := by rw [keptR, if_pos hz]
    have e2 : waivR d.rules.xs (erVs xs) ws = (erVs xs).filter (isWv d.rules.xs ws) := by rw [waivR, if_pos hz]
    rw [e, e2, hz] at k
    have hel := erVs_len xs
    have hrl : xs.length ≤ 256 := by rw [← hel]; exact rep_len (wCode_zero hz).2.1
    refine WP.skip ?_
    refine WP.seq ?_
    refine WP.region ?_
    refine RG.ot rfl (OT.bslice (F := violT) (els := []) rfl El66 rfl (by decide) rfl (by decide) trivial fun v20 => ?_)
    refine RG.pv rfl (PV.asg (v := v20) rfl rfl) ?_
    refine RG.nil ?_
    refine WP.seq ?_
    refine WP.region ?_
    refine RG.ot rfl (OT.bslice (F := violT) (els := []) rfl El66 rfl (by decide) rfl (by decide) trivial fun v21 => ?_)
    refine RG.pv rfl (PV.asg (v := v21) rfl rfl) ?_
    refine RG.nil ?_
    refine WP.seq ?_
    refine WP.seq ?_
    refine WP.region ?_
    refine RG.pv rfl (PV.mvI (.inr rfl) rfl) ?_
    refine RG.nil ?_
    refine WP.block ?_
    refine WP.cv ((Cv.p (C := osl 37 violT v20 ([] : List Viol) :: osl 37 violT v21 ([] : List Viol) :: blk b3 33 (deckT.enc d) :: L)).trans ((Cv.bag0 (e := 101) (F := rectT) (xs := mks []) rfl).trans ((Cv.bag0 (e := 101) (F := rectT) (xs := mks []) rfl).trans (Cv.pick (.cons (.tail _ (.tail _ (.head _ _))) (.cons (.head _ _) (.cons (.tail _ (.head _ _)) (.cons (.head _ _) (.refl _))))))))) ?_
    refine WP.loop5 [1, 2, 3] (fun (i : Nat) (ks us : List Viol) (q p : Value) => i ≤ xs.length ∧ erVs ks = ((erVs xs).take i).filter (fun v => !isWv d.rules.xs ws v) ∧ erVs us = ((erVs xs).take i).filter (isWv d.rules.xs ws)) (fun (i : Nat) (ks us : List Viol) (q p : Value) => [(12, vi i), (10, q), (11, p)]) (fun (i : Nat) (ks us : List Viol) (q p : Value) => osl 37 violT q ks :: bagS 101 rectT (mks ks) :: osl 37 violT p us :: bagS 101 rectT (mks us) :: blk b3 33 (deckT.enc d) :: L) (fun (i : Nat) (ks us : List Viol) (q p : Value) => xs.length - i) 0 [] [] v20 v21 ⟨by omega, rfl, rfl⟩ ⟨rfl, rfl, rfl, trivial⟩ Cv.p ?_
    rintro i ks us q p τ ⟨hi, hks, hus⟩
    refine WP.seq ?_
    refine WP.seq ?_
    refine WP.region ?_
    refine RG.pv rfl (PV.mvI (.inl rfl) rfl) ?_
    refine RG.pv rfl (PV.move (v := u) rfl rfl) ?_
    refine RG.pv rfl (PV.len (v := u) rfl Tryz.underlying66 rfl (SlF.r h2)) ?_
    refine RG.pv rfl (PV.lss rfl rfl rfl) ?_
    refine RG.nil ?_
    have hkl : ks.length ≤ 256 := by
      have h6 := List.length_filter_le (fun v => !isWv d.rules.xs ws v) ((erVs xs).take i)
      rw [← hks, erVs_len, List.length_take] at h6; omega
    have hul : us.length ≤ 256 := by
      have h6 := List.length_filter_le (isWv d.rules.xs ws) ((erVs xs).take i)
      rw [← hus, erVs_len, List.length_take] at h6; omega
    refine WP.cond rfl (fun h5 => ?_) (fun h5 => ?_)
    · have h5 := of_decide_eq_true h5
      have hpr : Rs G L rectT (gd xs i).marker.v (gd xs i).marker.xs := hd.marker (by omega)
      have hrf := rep_facts hz (i := i) (by omega)
      have hrg := isReg_len hrf.2.2.1
      have f1 := filter_step (fun v => !isWv d.rules.xs ws v) (xs := erVs xs) (i := i) (by omega)
      have f2 := filter_step (isWv d.rules.xs ws) (xs := erVs xs) (i := i) (by omega)
      rw [erVs_gd (by omega)] at f1 f2
      have hrf1 := hrf.1
      refine WP.skip ?_
      refine WP.seq ?_
      refine WP.block ?_
      refine WP.seq ?_
      refine WP.regionQ (by kernel_rfl) (by kernel_rfl) ?_
      refine RQ.pv rfl (PV.move (v := w) rfl rfl) ?_
      refine RQ.pv rfl (PV.field rfl Fo33_0 rfl) ?_
      refine RQ.pv rfl (PV.load1 rfl Sc31 rfl (Rd.blk rfl)) ?_
      refine RQ.pv rfl (PV.move (v := u) rfl rfl) ?_
      refine RQ.pv rfl (PV.mvI (.inl rfl) rfl) ?_
      refine RQ.pv rfl (PV.idxS (v := u) rfl Is66 rfl (SlF.r h2) rfl rfl (by omega)) ?_
      refine RQ.pv rfl (PV.field rfl Fo37_0 rfl) ?_
      refine RQ.pv rfl (PV.loadF rfl Sc2 rfl rfl (El.r h2 (getG (by omega))) rfl) ?_
      refine RQ.pv rfl (PV.idxS (j := (gd xs i).rule.toNat) rfl Is31 rfl (SlF.r h1) rfl (by omega) (by omega)) ?_
      refine RQ.pv rfl (PV.loadE rfl Ag52 rfl rfl (El.r h1 (getG (by omega)))) ?_
      refine RQ.pv rfl (PV.move (v := u) rfl rfl) ?_
      refine RQ.pv rfl (PV.mvI (.inl rfl) rfl) ?_
      refine RQ.pv rfl (PV.idxS (v := u) rfl Is66 rfl (SlF.r h2) rfl rfl (by omega)) ?_
      refine RQ.pv rfl (PV.field rfl Fo37_1 rfl) ?_
      refine RQ.pv rfl (PV.loadF rfl Sc35 rfl rfl (El.r h2 (getG (by omega))) rfl) ?_
      refine RQ.callF (vs := [_, _]) rfl rfl En62 rfl (l22Sig_s hpr.up hrf.2.1 hrf.2.2.1 hrf.2.2.2 ⟨rfl, rfl, rfl⟩) ?_
      refine RQ.callF (vs := [w, _]) rfl rfl En86 rfl (l22Has_s (Rs.up h3) ⟨rfl, rfl, rfl⟩) ?_
      refine RQ.nil ?_
      refine WP.cond rfl (fun h6 => ?_) (fun h6 => ?_)
      · have h7 : isWv d.rules.xs ws (erV (gd xs i)) = true := h6
        rw [h7] at f1 f2
        refine WP.region ?_
        refine RG.pv rfl (PV.move (v := p) rfl rfl) ?_
        refine RG.pv rfl (PV.move (v := u) rfl rfl) ?_
        refine RG.pv rfl (PV.mvI (.inl rfl) rfl) ?_
        refine RG.pv rfl (PV.idxS (v := u) rfl Is66 rfl (SlF.r h2) rfl rfl (by omega)) ?_
        refine RG.pv rfl (PV.loadE rfl Ag37 rfl rfl (El.r h2 (getG (by omega)))) ?_
        refine RG.callF (vs := [_]) rfl rfl En87 rfl (copyV_r hpr.up (by omega) (fun w50 => ?_))
        refine RG.ot rfl (OT.bslice (F := violT) (els := [⟨(gd xs i).rule, ⟨w50, (gd xs i).marker.xs⟩⟩]) rfl El66 rfl (by decide) rfl (by decide) ⟨rfl, (Cl.c rfl), trivial⟩ fun v51 => ?_)
        refine RG.ot rfl (OT.append (v := p) (u := v51) (F := violT) rfl El66 rfl (by decide) rfl rfl Rs.o (OneL.one (OneC.val rfl (OneC.sl SlF.o OneC.nil))) rfl (by first | omega | (simp <;> omega)) fun v52 => ?_)
        refine RG.pv rfl (PV.asg (v := v52) rfl rfl) ?_
        refine RG.nil ?_
        refine WP.region ?_
        refine RG.pv rfl (PV.mvI (.inl rfl) rfl) ?_
        refine RG.pv rfl (PV.add rfl rfl rfl (by omega)) ?_
        refine RG.pv rfl (PV.mvI (.inr rfl) rfl) ?_
        refine RG.nil ?_
        exact ⟨rfl, i + 1, ks, (us ++ [⟨(gd xs i).rule, ⟨w50, (gd xs i).marker.xs⟩⟩]), q, v52, ⟨by omega, by rw [f1]; simpa using hks, by rw [f2, erVs_app, hus]; rfl⟩, ⟨rfl, rfl, rfl, trivial⟩, ⟨rfl, rfl, rfl, trivial⟩, ((Cv.p (C := osl 101 rectT w50 (gd xs i).marker.xs :: bagS 101 rectT (mks us) :: osl 37 violT q ks :: bagS 101 rectT (mks ks) :: osl 37 violT v52 (us ++ [⟨(gd xs i).rule, ⟨w50, (gd xs i).marker.xs⟩⟩]) :: blk b3 33 (deckT.enc d) :: L)).trans ((Cv.grow (ys' := mks (us ++ [⟨(gd xs i).rule, ⟨w50, (gd xs i).marker.xs⟩⟩])) (by rw [mks_app]; rfl)).trans Cv.p)), by omega⟩
      · have h7 : isWv d.rules.xs ws (erV (gd xs i)) = false := h6
        rw [h7] at f1 f2
        refine WP.region ?_
        refine RG.pv rfl (PV.move (v := q) rfl rfl) ?_
        refine RG.pv rfl (PV.move (v := u) rfl rfl) ?_
        refine RG.pv rfl (PV.mvI (.inl rfl) rfl) ?_
        refine RG.pv rfl (PV.idxS (v := u) rfl Is66 rfl (SlF.r h2) rfl rfl (by omega)) ?_
        refine RG.pv rfl (PV.loadE rfl Ag37 rfl rfl (El.r h2 (getG (by omega)))) ?_
        refine RG.callF (vs := [_]) rfl rfl En87 rfl (copyV_r hpr.up (by omega) (fun w58 => ?_))
        refine RG.ot rfl (OT.bslice (F := violT) (els := [⟨(gd xs i).rule, ⟨w58, (gd xs i).marker.xs⟩⟩]) rfl El66 rfl (by decide) rfl (by decide) ⟨rfl, (Cl.c rfl), trivial⟩ fun v59 => ?_)
        refine RG.ot rfl (OT.append (v := q) (u := v59) (F := violT) rfl El66 rfl (by decide) rfl rfl Rs.o (OneL.one (OneC.val rfl (OneC.sl SlF.o OneC.nil))) rfl (by first | omega | (simp <;> omega)) fun v60 => ?_)
        refine RG.pv rfl (PV.asg (v := v60) rfl rfl) ?_
        refine RG.nil ?_
        refine WP.region ?_
        refine RG.pv rfl (PV.mvI (.inl rfl) rfl) ?_
        refine RG.pv rfl (PV.add rfl rfl rfl (by omega)) ?_
        refine RG.pv rfl (PV.mvI (.inr rfl) rfl) ?_
        refine RG.nil ?_
        exact ⟨rfl, i + 1, (ks ++ [⟨(gd xs i).rule, ⟨w58, (gd xs i).marker.xs⟩⟩]), us, v60, p, ⟨by omega, by rw [f1, erVs_app, hks]; rfl, by rw [f2]; simpa using hus⟩, ⟨rfl, rfl, rfl, trivial⟩, ⟨rfl, rfl, rfl, trivial⟩, ((Cv.p (C := osl 101 rectT w58 (gd xs i).marker.xs :: bagS 101 rectT (mks ks) :: osl 37 violT p us :: bagS 101 rectT (mks us) :: osl 37 violT v60 (ks ++ [⟨(gd xs i).rule, ⟨w58, (gd xs i).marker.xs⟩⟩]) :: blk b3 33 (deckT.enc d) :: L)).trans ((Cv.grow (ys' := mks (ks ++ [⟨(gd xs i).rule, ⟨w58, (gd xs i).marker.xs⟩⟩])) (by rw [mks_app]; rfl)).trans Cv.p)), by omega⟩
    · have h5 := of_decide_eq_false h5
      rw [List.take_of_length_le (by omega)] at hks hus
      refine WP.exit ?_
      refine WP.seq ?_
      refine WP.region ?_
      refine RG.pv rfl (PV.move (v := q) rfl rfl) ?_
      refine RG.pv rfl (PV.move (v := p) rfl rfl) ?_
      refine RG.pv rfl (PV.asg (v := q) rfl rfl) ?_
      refine RG.pv rfl (PV.asg (v := p) rfl rfl) ?_
      refine RG.pv rfl (PV.mvI (.inr rfl) rfl) ?_
      refine RG.nil ?_
      refine WP.ret ?_
      exact ⟨_, _, ResV.three rfl rfl rfl rfl, Cv.p, k q p ks us hks hus⟩
end Go.Proofs.YtgngpegmaceaiaaGreat
namespace Go.Proofs.YtgngpegmaceaiaaGreat
set_option linter.unusedVariables false
set_option linter.unusedSimpArgs false
open Go
set_option maxRecDepth 20000
set_option linter.unusedSimpArgs false
variable {G : Gh} {L : List Ch} {R : Value → Gh → List Ch → Prop}
theorem costL_filter_le {α : Type} {f : α → Int} (h : ∀ a, 0 ≤ f a) (p : α → Bool) : ∀ xs : List α, costL f (xs.filter p) ≤ costL f xs
  | [] => Int.le_refl _
  | x :: xs => by
    have ih := costL_filter_le h p xs
    have := h x
    rw [List.filter_cons]
    split
    · rw [costL, costL]; omega
    · rw [costL]; omega
theorem nVe_nn (v : Int × List Rect) : 0 ≤ nVe v := by simp only [nVe]; omega
theorem keptR_cost (rs : List Rule) (E : List (Int × List Rect)) (ws : List Waiver) : costL nVe (keptR rs E ws) ≤ costL nVe E := by
  unfold keptR; split
  · exact costL_filter_le nVe_nn _ _
  · exact costL_nonneg nVe_nn _
theorem waivR_cost (rs : List Rule) (E : List (Int × List Rect)) (ws : List Waiver) : costL nVe (waivR rs E ws) ≤ costL nVe E := by
  unfold waivR; split
  · exact costL_filter_le nVe_nn _ _
  · exact costL_nonneg nVe_nn _
theorem law_ApplyWaivers {d : Deck} {u w : Value} {xs : List Viol} {ws : List Waiver} (h1 : Rs G L ruleT d.rules.v d.rules.xs) (h2 : Rs G L violT u xs) (hd : RsE G L rectT (mks xs)) (h3 : Rs G L waiverT w ws) (hlen : ∀ i, i < ws.length → (gd ws i).reason.size ≤ 9223372036854775807) (k : R (.bool true) G L) :
    CallT Tryz.prog 6 #[vT deckT d, u, w] G L R := by
  refine CallT.enter (args := _) Tryz.func6 rfl rfl (by kernel_rfl) rfl ?_
  refine WP.seq ?_
  refine WP.region ?_
  refine RG.ot rfl (OT.box (cs := deckT.enc d) rfl rfl rfl fun b3 => ?_)
  refine RG.pv rfl (PV.mvB (.inr rfl) rfl) ?_
  refine RG.nil ?_
  refine WP.seq ?_
  refine WP.region ?_
  refine RG.pv rfl (PV.mvI (.inr rfl) rfl) ?_
  refine RG.nil ?_
  refine WP.seq ?_
  refine WP.region ?_
  refine RG.pv rfl (PV.loadW rfl Ag24 rfl rfl) ?_
  refine RG.pv rfl (PV.mvI (.inl rfl) rfl) ?_
  refine RG.callF (vs := [_, _]) rfl rfl En10 rfl (szDeck_s (Rs.up h1) (by omega) (by omega) (fun r hr hr' => ?_))
  refine RG.pv rfl (PV.mvI (.inr rfl) rfl) ?_
  refine RG.nil ?_
  refine WP.seq ?_
  refine WP.seq ?_
  refine WP.region ?_
  refine RG.pv rfl (PV.mvI (.inl rfl) rfl) ?_
  refine RG.pv rfl (PV.lss rfl rfl rfl) ?_
  refine RG.nil ?_
  refine WP.cond rfl (fun h4 => ?_) (fun h4 => ?_)
  · refine WP.seq ?_
    refine WP.region ?_
    refine RG.pv rfl (PV.mvB (.inr rfl) rfl) ?_
    refine RG.nil ?_
    refine WP.ret ?_
    exact ⟨_, _, ResV.one rfl rfl, Cv.p, k⟩
  · have h4 := of_decide_eq_false h4
    have hr1 := hr' (by omega)
    have hb1 : d.rules.xs.length ≤ 1048576 := by omega
    refine WP.skip ?_
    refine WP.seq ?_
    refine WP.region ?_
    refine RG.pv rfl (PV.move (v := u) rfl rfl) ?_
    refine RG.pv rfl (PV.mvI (.inl rfl) rfl) ?_
    refine RG.callF (vs := [u, _]) rfl rfl En30 rfl (szViolS_s (Rs.up h2) hd.up (by omega) (by omega) (fun r2 hq hq' => ?_))
    refine RG.pv rfl (PV.mvI (.inr rfl) rfl) ?_
    refine RG.nil ?_
    refine WP.seq ?_
    refine WP.seq ?_
    refine WP.region ?_
    refine RG.pv rfl (PV.mvI (.inl rfl) rfl) ?_
    refine RG.pv rfl (PV.lss rfl rfl rfl) ?_
    refine RG.nil ?_
    refine WP.cond rfl (fun h5 => ?_) (fun h5 => ?_)
    · refine WP.seq ?_
      refine WP.region ?_
      refine RG.pv rfl (PV.mvB (.inr rfl) rfl) ?_
      refine RG.nil ?_
      refine WP.ret ?_
      exact ⟨_, _, ResV.one rfl rfl, Cv.p, k⟩
    · have h5 := of_decide_eq_false h5
      have hq1 := hq' (by omega)
      have hc0 : 0 ≤ costL lenS (mks xs) := costL_nonneg lenS_nn _
      have hml := mks_len xs
      have hsz : szOf (mks xs) ≤ 1048576 := by omega
      have hb2 : xs.length ≤ 1048576 := by simp only [szOf] at hsz; omega
      have hbi : ∀ i, i < xs.length → (gd xs i).marker.xs.length ≤ 1048576 := fun i hi => by
        have := costL_mem lenS_nn (xs := mks xs) (i := i) (by omega)
        rw [mks_gd hi] at this
        simp only [lenS, szOf] at *; omega
      have hcv := nVi_cost xs
      refine WP.skip ?_
      refine WP.seq ?_
      refine WP.region ?_
      refine RG.pv rfl (PV.move (v := w) rfl rfl) ?_
      refine RG.pv rfl (PV.mvI (.inl rfl) rfl) ?_
      refine RG.callF (vs := [w, _]) rfl rfl En31 rfl (szWaiverS_s (Rs.up h3) (by omega) (by omega) hlen ?_)
      refine RG.pv rfl (PV.mvI (.inr rfl) rfl) ?_
      refine RG.nil ?_
      refine WP.seq ?_
      refine WP.seq ?_
      refine WP.region ?_
      refine RG.pv rfl (PV.mvI (.inl rfl) rfl) ?_
      refine RG.pv rfl (PV.lss rfl rfl rfl) ?_
      refine RG.nil ?_
      refine WP.cond rfl (fun h6 => ?_) (fun h6 => ?_)
      · refine WP.seq ?_
        refine WP.region ?_
        refine RG.pv rfl (PV.mvB (.inr rfl) rfl) ?_
        refine RG.nil ?_
        refine WP.ret ?_
        exact ⟨_, _, ResV.one rfl rfl, Cv.p, k⟩
      · have h6 := of_decide_eq_false h6
        have hb3 : ws.length ≤ 1048576 := by have := szWS_len (xs := ws) (n := r2) (by omega); omega
        have hkc := keptR_cost d.rules.xs (erVs xs) ws
        have huc := waivR_cost d.rules.xs (erVs xs) ws
        rw [← nVi_er] at hkc huc
        refine WP.skip ?_
        refine WP.seq ?_
        refine WP.region ?_
        refine RG.pv rfl (PV.loadW rfl Ag24 rfl rfl) ?_
        refine RG.callF (vs := [_]) rfl rfl En13 rfl (toDeck_s (Rs.up h1) hb1 (fun w40 => ?_))
        refine RG.pv rfl (PV.move (v := u) rfl rfl) ?_
        refine RG.callF (vs := [u]) rfl rfl En33 rfl (toViolS_s (Rs.up h2) hd.up hb2 hbi (fun v42 ysv42 hev42 => ?_))
        refine RG.pv rfl (PV.move (v := w) rfl rfl) ?_
        refine RG.callF (vs := [w]) rfl rfl En34 rfl (toWaiverS_s (Rs.up h3) hb3 (fun v44 => ?_))
        refine RG.callF (vs := [_, v42, v44]) rfl rfl En42 rfl (apply_r Rs.o Rs.o RsE.o Rs.o hlen (fun w45 w45u ksw45 usw45 hkw45 huw45 => ?_))
        refine RG.pv rfl (PV.move (v := .tuple _) rfl rfl) ?_
        refine RG.pv rfl (PV.ext (v := w45) rfl rfl rfl) ?_
        refine RG.pv rfl (PV.ext (v := w45u) rfl rfl rfl) ?_
        refine RG.pv rfl (PV.ext rfl rfl rfl) ?_
        refine RG.pv rfl (PV.asg (v := w45) rfl rfl) ?_
        refine RG.pv rfl (PV.asg (v := w45u) rfl rfl) ?_
        refine RG.pv rfl (PV.mvI (.inr rfl) rfl) ?_
        refine RG.nil ?_
        refine WP.seq ?_
        refine WP.region ?_
        refine RG.pv rfl (PV.loadW rfl Ag24 rfl rfl) ?_
        refine RG.callF (vs := [_]) rfl rfl En13 rfl (toDeck_s (Rs.up h1) hb1 (fun w50 => ?_))
        refine RG.ot rfl (OT.alloc rfl Zr33 fun b11 => ?_)
        refine RG.ot rfl (OT.storeW (vs := [_]) rfl Sz33 rfl rfl (Cl.c rfl) rfl rfl (OneC.sl SlF.o OneC.nil) ?_)
        refine RG.nil ?_
        refine WP.seq ?_
        refine WP.region ?_
        refine RG.pv rfl (PV.move (v := u) rfl rfl) ?_
        refine RG.callF (vs := [u]) rfl rfl En33 rfl (toViolS_s (Rs.up h2) hd.up hb2 hbi (fun v52 ysv52 hev52 => ?_))
        refine RG.pv rfl (PV.asg (v := v52) rfl rfl) ?_
        refine RG.nil ?_
        refine WP.seq ?_
        refine WP.region ?_
        refine RG.pv rfl (PV.move (v := w) rfl rfl) ?_
        refine RG.callF (vs := [w]) rfl rfl En34 rfl (toWaiverS_s (Rs.up h3) hb3 (fun v54 => ?_))
        refine RG.pv rfl (PV.asg (v := v54) rfl rfl) ?_
        refine RG.nil ?_
        refine WP.seq ?_
        refine WP.region ?_
        refine RG.pv rfl (PV.loadW rfl Ag33 rfl rfl) ?_
        refine RG.pv rfl (PV.move (v := v52) rfl rfl) ?_
        refine RG.pv rfl (PV.move (v := v54) rfl rfl) ?_
        refine RG.callF (vs := [_, v52, v54]) rfl rfl En43 rfl (apply_i Rs.o Rs.o RsE.o Rs.o hlen (fun w59 w59u ksw59 usw59 hkw59 huw59 => ?_))
        refine RG.pv rfl (PV.move (v := .tuple _) rfl rfl) ?_
        refine RG.pv rfl (PV.ext (v := w59) rfl rfl rfl) ?_
        refine RG.pv rfl (PV.ext (v := w59u) rfl rfl rfl) ?_
        refine RG.pv rfl (PV.ext rfl rfl rfl) ?_
        refine RG.pv rfl (PV.asg (v := w59) rfl rfl) ?_
        refine RG.pv rfl (PV.asg (v := w59u) rfl rfl) ?_
        refine RG.pv rfl (PV.mvI (.inr rfl) rfl) ?_
        refine RG.nil ?_
        refine WP.seq ?_
        refine WP.seq ?_
        refine WP.region ?_
        refine RG.pv rfl (PV.move (v := w59) rfl rfl) ?_
        refine RG.pv rfl (PV.move (v := w45) rfl rfl) ?_
        refine RG.callF (vs := [w59, w45]) rfl rfl En37 rfl (eqViolS_s Rs.o RsE.o Rs.o RsE.o ?_)
        refine RG.pv rfl (PV.not rfl rfl) ?_
        refine RG.pv rfl (PV.mvB (.inl rfl) rfl) ?_
        refine RG.gs rfl rfl rfl (fun hp => (PV.move (v := w59u) rfl rfl)) ?_
        refine RG.gs rfl rfl rfl (fun hp => (PV.move (v := w45u) rfl rfl)) ?_
        refine RG.gsC rfl rfl rfl rfl En37 (fun hp => ⟨_, (acons (gs_t hp) (acons (gs_t hp) anil)), eqViolS_s Rs.o RsE.o Rs.o RsE.o ⟨rfl, rfl, rfl⟩⟩) ?_
        refine RG.gs rfl rfl rfl (fun hp => (PV.not rfl (gs_t hp))) ?_
        refine RG.pv rfl (PV.pickO rfl rfl rfl (fun hq => gs_t (geqF hq))) ?_
        refine RG.pv rfl (PV.mvB (.inl rfl) rfl) ?_
        refine RG.gs rfl rfl rfl (fun hp => (PV.mvI (.inl rfl) rfl)) ?_
        refine RG.gs rfl rfl rfl (fun hp => (PV.mvI (.inl rfl) rfl)) ?_
        refine RG.gs rfl rfl rfl (fun hp => (PV.neq rfl (gs_t hp) (gs_t hp))) ?_
        refine RG.pv rfl (PV.pickO rfl rfl rfl (fun hq => gs_t (geqF hq))) ?_
        refine RG.nil ?_
        refine WP.cond rfl (fun h7 => ?_) (fun h7 => ?_)
        · simp [*] at h7
        · refine WP.skip ?_
          refine WP.seq ?_
          refine WP.seq ?_
          refine WP.regionH0 (.q 0 (.q 1 (.l 2 (.l 3 (.q 4 Sch.nil))))) (by kernel_rfl) (by kernel_rfl) (by kernel_rfl) rfl ?_
          refine RH.pv rfl (fun _ _ _ _ h => h) (Gh.le_refl _) PickC.pick rfl (PV.loadW rfl Ag33 rfl rfl) ?_
          refine RH.pv rfl (fun _ _ _ _ h => h) (Gh.le_refl _) PickC.pick rfl (PV.loadW rfl Ag24 rfl rfl) ?_
          refine RH.ot rfl rfl (OT.callF (vs := [_]) rfl En13 rfl (toDeck_s (Rs.up h1) hb1 (fun w80 => ⟨Gh.le_refl _, PickC.pick, ?_⟩)))
          refine RH.ot rfl rfl (OT.callF (vs := [_, _]) rfl En16 rfl (eqDeck_s Rs.o Rs.o ⟨Gh.le_refl _, PickC.pick, ?_⟩))
          refine RH.pv rfl (fun _ _ _ _ h => h) (Gh.le_refl _) PickC.pick rfl (PV.not rfl rfl) ?_
          refine RH.nil ?_
          refine WP.cond rfl (fun h8 => ?_) (fun h8 => ?_)
          · simp at h8
          · refine WP.skip ?_
            refine WP.seq ?_
            refine WP.seq ?_
            refine WP.region ?_
            refine RG.pv rfl (PV.move (v := v52) rfl rfl) ?_
            refine RG.pv rfl (PV.move (v := u) rfl rfl) ?_
            refine RG.callF (vs := [u]) rfl rfl En33 rfl (toViolS_s (Rs.up h2) hd.up hb2 hbi (fun v85 ysv85 hev85 => ?_))
            refine RG.callF (vs := [v52, v85]) rfl rfl En37 rfl (eqViolS_s Rs.o RsE.o Rs.o RsE.o ?_)
            refine RG.pv rfl (PV.not rfl rfl) ?_
            refine RG.nil ?_
            refine WP.cond rfl (fun h9 => ?_) (fun h9 => ?_)
            · simp [*] at h9
            · refine WP.skip ?_
              refine WP.seq ?_
              refine WP.seq ?_
              refine WP.region ?_
              refine RG.pv rfl (PV.move (v := v54) rfl rfl) ?_
              refine RG.pv rfl (PV.move (v := w) rfl rfl) ?_
              refine RG.callF (vs := [w]) rfl rfl En34 rfl (toWaiverS_s (Rs.up h3) hb3 (fun v90 => ?_))
              refine RG.callF (vs := [v54, v90]) rfl rfl En36 rfl (eqWaiverS_s Rs.o Rs.o ?_)
              refine RG.pv rfl (PV.not rfl rfl) ?_
              refine RG.nil ?_
              refine WP.cond rfl (fun ha => ?_) (fun ha => ?_)
              · simp at ha
              · have hm1 : costL nVi ysv52 ≤ 5242880 := by rw [nVi_er, hev52, ← nVi_er, hcv]; simp only [szOf] at hsz; omega
                have hm2 : 0 ≤ costL nVi ysv52 := costL_nonneg nVi_nn _
                have hm3 : costL nRu d.rules.xs = 5 * d.rules.xs.length := nRu_cost _
                have hm4 : costL nW ws = 2 * ws.length := nW_cost _
                have hm5 : costL nVi ksw59 ≤ 5242880 := by rw [nVi_er, hkw59, hev52]; simp only [szOf] at hsz; exact Int.le_trans hkc (by omega)
                have hm6 : costL nVi usw59 ≤ 5242880 := by rw [nVi_er, huw59, hev52]; simp only [szOf] at hsz; exact Int.le_trans huc (by omega)
                have hm7 : 0 ≤ costL nVi ksw59 := costL_nonneg nVi_nn _
                have hm8 : 0 ≤ costL nVi usw59 := costL_nonneg nVi_nn _
                refine WP.skip ?_
                refine WP.seq ?_
                refine WP.region ?_
                refine RG.pv rfl (PV.mvI (.inr rfl) rfl) ?_
                refine RG.nil ?_
                refine WP.seq ?_
                refine WP.region ?_
                refine RG.pv rfl (PV.loadW rfl Ag33 rfl rfl) ?_
                refine RG.pv rfl (PV.mvI (.inl rfl) rfl) ?_
                refine RG.callF (vs := [_, _]) rfl rfl En38 rfl (CallT.exS w50 (markDeck_s (d := ⟨⟨w50, d.rules.xs⟩⟩) (by omega) (by simp only; omega) ?_))
                refine RG.pv rfl (PV.mvI (.inr rfl) rfl) ?_
                refine RG.nil ?_
                refine WP.seq ?_
                refine WP.region ?_
                refine RG.pv rfl (PV.move (v := v52) rfl rfl) ?_
                refine RG.pv rfl (PV.mvI (.inl rfl) rfl) ?_
                refine RG.callF (vs := [v52, _]) rfl rfl En39 rfl (CallT.exBg (mks ysv52) (CallT.exS v52 (markViolS_s (by simp only; omega) (by simp only; omega) ?_)))
                refine RG.pv rfl (PV.mvI (.inr rfl) rfl) ?_
                refine RG.nil ?_
                refine WP.seq ?_
                refine WP.region ?_
                refine RG.pv rfl (PV.move (v := v54) rfl rfl) ?_
                refine RG.pv rfl (PV.mvI (.inl rfl) rfl) ?_
                refine RG.callF (vs := [v54, _]) rfl rfl En40 rfl (CallT.exS v54 (markWaiverS_s (by simp only; omega) (by simp only; omega) ?_))
                refine RG.pv rfl (PV.mvI (.inr rfl) rfl) ?_
                refine RG.nil ?_
                refine WP.seq ?_
                refine WP.seq ?_
                refine WP.region ?_
                refine RG.pv rfl (PV.mvI (.inl rfl) rfl) ?_
                refine RG.pv rfl (PV.lss rfl rfl rfl) ?_
                refine RG.pv rfl (PV.mvB (.inl rfl) rfl) ?_
                refine RG.gs rfl rfl rfl (fun hp => (PV.move (v := w59) rfl rfl)) ?_
                refine RG.gs rfl rfl rfl (fun hp => (PV.move (v := w45) rfl rfl)) ?_
                refine RG.gsC rfl rfl rfl rfl En37 (fun hp => ⟨_, (acons (gs_t hp) (acons (gs_t hp) anil)), eqViolS_s Rs.o RsE.o Rs.o RsE.o ⟨rfl, rfl, rfl⟩⟩) ?_
                refine RG.gs rfl rfl rfl (fun hp => (PV.not rfl (gs_t hp))) ?_
                refine RG.pv rfl (PV.pickO rfl rfl rfl (fun hq => gs_t (geqF hq))) ?_
                refine RG.pv rfl (PV.mvB (.inl rfl) rfl) ?_
                refine RG.gs rfl rfl rfl (fun hp => (PV.move (v := w59u) rfl rfl)) ?_
                refine RG.gs rfl rfl rfl (fun hp => (PV.move (v := w45u) rfl rfl)) ?_
                refine RG.gsC rfl rfl rfl rfl En37 (fun hp => ⟨_, (acons (gs_t hp) (acons (gs_t hp) anil)), eqViolS_s Rs.o RsE.o Rs.o RsE.o ⟨rfl, rfl, rfl⟩⟩) ?_
                refine RG.gs rfl rfl rfl (fun hp => (PV.not rfl (gs_t hp))) ?_
                refine RG.pv rfl (PV.pickO rfl rfl rfl (fun hq => gs_t (geqF hq))) ?_
                refine RG.pv rfl (PV.mvB (.inl rfl) rfl) ?_
                refine RG.gs rfl rfl rfl (fun hp => (PV.mvI (.inl rfl) rfl)) ?_
                refine RG.gs rfl rfl rfl (fun hp => (PV.mvI (.inl rfl) rfl)) ?_
                refine RG.gs rfl rfl rfl (fun hp => (PV.neq rfl (gs_t hp) (gs_t hp))) ?_
                refine RG.pv rfl (PV.pickO rfl rfl rfl (fun hq => gs_t (geqF hq))) ?_
                refine RG.nil ?_
                refine WP.cond rfl (fun hb => ?_) (fun hb => ?_)
                · simp [*] at hb <;> omega
                · skip
                  refine WP.skip ?_
                  refine WP.seq ?_
                  refine WP.region ?_
                  refine RG.pv rfl (PV.mvI (.inr rfl) rfl) ?_
                  refine RG.nil ?_
                  refine WP.seq ?_
                  refine WP.region ?_
                  refine RG.pv rfl (PV.move (v := w59) rfl rfl) ?_
                  refine RG.pv rfl (PV.mvI (.inl rfl) rfl) ?_
                  refine RG.callF (vs := [w59, _]) rfl rfl En39 rfl (CallT.exBg (mks ksw59) (CallT.exS w59 (markViolS_s (by omega) (by omega) ?_)))
                  refine RG.pv rfl (PV.mvI (.inr rfl) rfl) ?_
                  refine RG.nil ?_
                  refine WP.seq ?_
                  refine WP.region ?_
                  refine RG.pv rfl (PV.move (v := w59u) rfl rfl) ?_
                  refine RG.pv rfl (PV.mvI (.inl rfl) rfl) ?_
                  refine RG.callF (vs := [w59u, _]) rfl rfl En39 rfl (CallT.exBg (mks usw59) (CallT.exS w59u (markViolS_s (by omega) (by omega) ?_)))
                  refine RG.pv rfl (PV.mvI (.inr rfl) rfl) ?_
                  refine RG.nil ?_
                  refine WP.seq ?_
                  refine WP.region ?_
                  refine RG.pv rfl (PV.mvI (.inr rfl) rfl) ?_
                  refine RG.nil ?_
                  refine WP.seq ?_
                  refine WP.region ?_
                  refine RG.pv rfl (PV.move (v := w59) rfl rfl) ?_
                  refine RG.pv rfl (PV.mvI (.inl rfl) rfl) ?_
                  refine RG.callF (vs := [w59, _]) rfl rfl En44 rfl (heldViolS_s Rs.o RsE.o (by omega) (by omega) ?_)
                  refine RG.pv rfl (PV.mvI (.inr rfl) rfl) ?_
                  refine RG.nil ?_
                  refine WP.seq ?_
                  refine WP.seq ?_
                  refine WP.region ?_
                  refine RG.pv rfl (PV.mvI (.inl rfl) rfl) ?_
                  refine RG.pv rfl (PV.lss rfl rfl rfl) ?_
                  refine RG.nil ?_
                  refine WP.cond rfl (fun hc => ?_) (fun hc => ?_)
                  · simp at hc; omega
                  · skip
                    refine WP.skip ?_
                    refine WP.seq ?_
                    refine WP.region ?_
                    refine RG.pv rfl (PV.move (v := w59u) rfl rfl) ?_
                    refine RG.pv rfl (PV.mvI (.inl rfl) rfl) ?_
                    refine RG.callF (vs := [w59u, _]) rfl rfl En44 rfl (heldViolS_s Rs.o RsE.o (by omega) (by omega) ?_)
                    refine RG.pv rfl (PV.mvI (.inr rfl) rfl) ?_
                    refine RG.nil ?_
                    refine WP.seq ?_
                    refine WP.seq ?_
                    refine WP.region ?_
                    refine RG.pv rfl (PV.mvI (.inl rfl) rfl) ?_
                    refine RG.pv rfl (PV.lss rfl rfl rfl) ?_
                    refine RG.nil ?_
                    refine WP.cond rfl (fun he => ?_) (fun he => ?_)
                    · simp at he; omega
                    · refine WP.skip ?_
                      refine WP.seq ?_
                      refine WP.seq ?_
                      refine WP.region ?_
                      refine RG.pv rfl (PV.mvI (.inl rfl) rfl) ?_
                      refine RG.pv rfl (PV.mvI (.inl rfl) rfl) ?_
                      refine RG.pv rfl (PV.neq rfl rfl rfl) ?_
                      refine RG.nil ?_
                      refine WP.cond rfl (fun hf => ?_) (fun hf => ?_)
                      · simp at hf
                      · refine WP.skip ?_
                        refine WP.seq ?_
                        refine WP.region ?_
                        refine RG.pv rfl (PV.loadW rfl Ag24 rfl rfl) ?_
                        refine RG.callF (vs := [_]) rfl rfl En13 rfl (toDeck_s (Rs.up h1) hb1 (fun w142 => ?_))
                        refine RG.pv rfl (PV.move (v := u) rfl rfl) ?_
                        refine RG.callF (vs := [u]) rfl rfl En33 rfl (toViolS_s (Rs.up h2) hd.up hb2 hbi (fun v144 ysv144 hev144 => ?_))
                        refine RG.pv rfl (PV.move (v := w) rfl rfl) ?_
                        refine RG.callF (vs := [w]) rfl rfl En34 rfl (toWaiverS_s (Rs.up h3) hb3 (fun v146 => ?_))
                        refine RG.callF (vs := [_, v144, v146]) rfl rfl En43 rfl (apply_i Rs.o Rs.o RsE.o Rs.o hlen (fun w147 w147u ksw147 usw147 hkw147 huw147 => ?_))
                        refine RG.pv rfl (PV.move (v := .tuple _) rfl rfl) ?_
                        refine RG.pv rfl (PV.ext (v := w147) rfl rfl rfl) ?_
                        refine RG.pv rfl (PV.ext (v := w147u) rfl rfl rfl) ?_
                        refine RG.pv rfl (PV.ext rfl rfl rfl) ?_
                        refine RG.pv rfl (PV.asg (v := w147) rfl rfl) ?_
                        refine RG.pv rfl (PV.asg (v := w147u) rfl rfl) ?_
                        refine RG.pv rfl (PV.mvI (.inr rfl) rfl) ?_
                        refine RG.nil ?_
                        refine WP.seq ?_
                        refine WP.seq ?_
                        refine WP.region ?_
                        refine RG.pv rfl (PV.move (v := w147) rfl rfl) ?_
                        refine RG.pv rfl (PV.move (v := w45) rfl rfl) ?_
                        refine RG.callF (vs := [w147, w45]) rfl rfl En37 rfl (eqViolS_s Rs.o RsE.o Rs.o RsE.o ?_)
                        refine RG.pv rfl (PV.not rfl rfl) ?_
                        refine RG.pv rfl (PV.mvB (.inl rfl) rfl) ?_
                        refine RG.gs rfl rfl rfl (fun hp => (PV.move (v := w147u) rfl rfl)) ?_
                        refine RG.gs rfl rfl rfl (fun hp => (PV.move (v := w45u) rfl rfl)) ?_
                        refine RG.gsC rfl rfl rfl rfl En37 (fun hp => ⟨_, (acons (gs_t hp) (acons (gs_t hp) anil)), eqViolS_s Rs.o RsE.o Rs.o RsE.o ⟨rfl, rfl, rfl⟩⟩) ?_
                        refine RG.gs rfl rfl rfl (fun hp => (PV.not rfl (gs_t hp))) ?_
                        refine RG.pv rfl (PV.pickO rfl rfl rfl (fun hq => gs_t (geqF hq))) ?_
                        refine RG.pv rfl (PV.mvB (.inl rfl) rfl) ?_
                        refine RG.gs rfl rfl rfl (fun hp => (PV.mvI (.inl rfl) rfl)) ?_
                        refine RG.gs rfl rfl rfl (fun hp => (PV.mvI (.inl rfl) rfl)) ?_
                        refine RG.gs rfl rfl rfl (fun hp => (PV.neq rfl (gs_t hp) (gs_t hp))) ?_
                        refine RG.pv rfl (PV.pickO rfl rfl rfl (fun hq => gs_t (geqF hq))) ?_
                        refine RG.nil ?_
                        refine WP.cond rfl (fun hg => ?_) (fun hg => ?_)
                        · simp [*] at hg
                        · skip
                          refine WP.skip ?_
                          refine WP.seq ?_
                          refine WP.region ?_
                          refine RG.pv rfl (PV.mvI (.inr rfl) rfl) ?_
                          refine RG.nil ?_
                          refine WP.seq ?_
                          refine WP.region ?_
                          refine RG.pv rfl (PV.move (v := w59) rfl rfl) ?_
                          refine RG.pv rfl (PV.mvI (.inl rfl) rfl) ?_
                          refine RG.callF (vs := [w59, _]) rfl rfl En44 rfl (heldViolS_s Rs.o RsE.o (by omega) (by omega) ?_)
                          refine RG.pv rfl (PV.mvI (.inr rfl) rfl) ?_
                          refine RG.nil ?_
                          refine WP.seq ?_
                          refine WP.seq ?_
                          refine WP.region ?_
                          refine RG.pv rfl (PV.mvI (.inl rfl) rfl) ?_
                          refine RG.pv rfl (PV.lss rfl rfl rfl) ?_
                          refine RG.nil ?_
                          refine WP.cond rfl (fun hh => ?_) (fun hh => ?_)
                          · simp at hh; omega
                          · skip
                            refine WP.skip ?_
                            refine WP.seq ?_
                            refine WP.region ?_
                            refine RG.pv rfl (PV.move (v := w59u) rfl rfl) ?_
                            refine RG.pv rfl (PV.mvI (.inl rfl) rfl) ?_
                            refine RG.callF (vs := [w59u, _]) rfl rfl En44 rfl (heldViolS_s Rs.o RsE.o (by omega) (by omega) ?_)
                            refine RG.pv rfl (PV.mvI (.inr rfl) rfl) ?_
                            refine RG.nil ?_
                            refine WP.seq ?_
                            refine WP.seq ?_
                            refine WP.region ?_
                            refine RG.pv rfl (PV.mvI (.inl rfl) rfl) ?_
                            refine RG.pv rfl (PV.lss rfl rfl rfl) ?_
                            refine RG.nil ?_
                            refine WP.cond rfl (fun hi => ?_) (fun hi => ?_)
                            · simp at hi; omega
                            · refine WP.skip ?_
                              refine WP.seq ?_
                              refine WP.seq ?_
                              refine WP.region ?_
                              refine RG.pv rfl (PV.mvI (.inl rfl) rfl) ?_
                              refine RG.pv rfl (PV.mvI (.inl rfl) rfl) ?_
                              refine RG.pv rfl (PV.neq rfl rfl rfl) ?_
                              refine RG.nil ?_
                              refine WP.cond rfl (fun hj => ?_) (fun hj => ?_)
                              · simp at hj
                              · refine WP.skip ?_
                                refine WP.seq ?_
                                refine WP.region ?_
                                refine RG.pv rfl (PV.mvB (.inr rfl) rfl) ?_
                                refine RG.nil ?_
                                refine WP.ret ?_
                                exact ⟨_, _, ResV.one rfl rfl, Cv.p, k⟩
end Go.Proofs.YtgngpegmaceaiaaGreat
namespace Go.Proofs.YtgngpegmaceaiaaGreat
set_option linter.unusedVariables false
set_option linter.unusedSimpArgs false
open Go Go.ChangeShapes Go.WideShapes Go.ChangeAt Go.RowKit
set_option linter.unusedSimpArgs false
set_option maxRecDepth 100000
theorem Tryz.own : ownKnob Tryz.prog.godebug = none := by kernel_rfl
theorem Tryz.laidOut : laidOutB Tryz.prog = true := by kernel_rfl
def okrectT (G : Gh) (a : Rect) : Prop := okI G a.x0 ∧ okI G a.y0 ∧ okI G a.x1 ∧ okI G a.y1
theorem opn103 : Opn Tryz.prog 103 rectT okrectT := fun {H enc w fuel cs x} h => by
  obtain ⟨xs, n, _, _, hl, hx, hf⟩ := DataW.trod_struct Tryz.underlying103 h
  rw [show Tryz.prog.cellsOf 103 = 4 by kernel_rfl] at hl
  obtain ⟨c0, c1, c2, c3, rfl⟩ : ∃ c0 c1 c2 c3, cs = [c0, c1, c2, c3] := by
    match cs, hl with
    | [c0, c1, c2, c3], _ => exact ⟨c0, c1, c2, c3, rfl⟩
  have g0 := hf 0 _ rfl
  simp only [List.getElem_toArray, List.getElem_cons_zero, List.getElem_cons_succ] at g0
  rw [show Tryz.prog.cellsOf 2 = 1 by kernel_rfl] at g0
  obtain ⟨x0, y0⟩ : ∃ x, xs[0]? = some x := ⟨_, List.getElem?_eq_getElem (by rw [hx]; decide)⟩
  rw [y0] at g0
  obtain ⟨a0, e0, o0⟩ := (opnI Tryz.underlying2) g0
  have g1 := hf 1 _ rfl
  simp only [List.getElem_toArray, List.getElem_cons_zero, List.getElem_cons_succ] at g1
  rw [show Tryz.prog.cellsOf 2 = 1 by kernel_rfl] at g1
  obtain ⟨x1, y1⟩ : ∃ x, xs[1]? = some x := ⟨_, List.getElem?_eq_getElem (by rw [hx]; decide)⟩
  rw [y1] at g1
  obtain ⟨a1, e1, o1⟩ := (opnI Tryz.underlying2) g1
  have g2 := hf 2 _ rfl
  simp only [List.getElem_toArray, List.getElem_cons_zero, List.getElem_cons_succ] at g2
  rw [show Tryz.prog.cellsOf 2 = 1 by kernel_rfl] at g2
  obtain ⟨x2, y2⟩ : ∃ x, xs[2]? = some x := ⟨_, List.getElem?_eq_getElem (by rw [hx]; decide)⟩
  rw [y2] at g2
  obtain ⟨a2, e2, o2⟩ := (opnI Tryz.underlying2) g2
  have g3 := hf 3 _ rfl
  simp only [List.getElem_toArray, List.getElem_cons_zero, List.getElem_cons_succ] at g3
  rw [show Tryz.prog.cellsOf 2 = 1 by kernel_rfl] at g3
  obtain ⟨x3, y3⟩ : ∃ x, xs[3]? = some x := ⟨_, List.getElem?_eq_getElem (by rw [hx]; decide)⟩
  rw [y3] at g3
  obtain ⟨a3, e3, o3⟩ := (opnI Tryz.underlying2) g3
  clear hf hx hl
  refine ⟨⟨a0, a1, a2, a3⟩, ?_, o0, o1, o2, o3⟩
  simp [intT] at e0 e1 e2 e3
  simp [intT, rectT, e0, e1, e2, e3]
def okruleT (G : Gh) (a : Rule) : Prop := okI G a.kind ∧ okI G a.layer ∧ okI G a.other ∧ okI G a.value ∧ okI G a.percent
theorem opn44 : Opn Tryz.prog 44 ruleT okruleT := fun {H enc w fuel cs x} h => by
  obtain ⟨xs, n, _, _, hl, hx, hf⟩ := DataW.trod_struct Tryz.underlying44 h
  rw [show Tryz.prog.cellsOf 44 = 5 by kernel_rfl] at hl
  obtain ⟨c0, c1, c2, c3, c4, rfl⟩ : ∃ c0 c1 c2 c3 c4, cs = [c0, c1, c2, c3, c4] := by
    match cs, hl with
    | [c0, c1, c2, c3, c4], _ => exact ⟨c0, c1, c2, c3, c4, rfl⟩
  have g0 := hf 0 _ rfl
  simp only [List.getElem_toArray, List.getElem_cons_zero, List.getElem_cons_succ] at g0
  rw [show Tryz.prog.cellsOf 2 = 1 by kernel_rfl] at g0
  obtain ⟨x0, y0⟩ : ∃ x, xs[0]? = some x := ⟨_, List.getElem?_eq_getElem (by rw [hx]; decide)⟩
  rw [y0] at g0
  obtain ⟨a0, e0, o0⟩ := (opnI Tryz.underlying2) g0
  have g1 := hf 1 _ rfl
  simp only [List.getElem_toArray, List.getElem_cons_zero, List.getElem_cons_succ] at g1
  rw [show Tryz.prog.cellsOf 2 = 1 by kernel_rfl] at g1
  obtain ⟨x1, y1⟩ : ∃ x, xs[1]? = some x := ⟨_, List.getElem?_eq_getElem (by rw [hx]; decide)⟩
  rw [y1] at g1
  obtain ⟨a1, e1, o1⟩ := (opnI Tryz.underlying2) g1
  have g2 := hf 2 _ rfl
  simp only [List.getElem_toArray, List.getElem_cons_zero, List.getElem_cons_succ] at g2
  rw [show Tryz.prog.cellsOf 2 = 1 by kernel_rfl] at g2
  obtain ⟨x2, y2⟩ : ∃ x, xs[2]? = some x := ⟨_, List.getElem?_eq_getElem (by rw [hx]; decide)⟩
  rw [y2] at g2
  obtain ⟨a2, e2, o2⟩ := (opnI Tryz.underlying2) g2
  have g3 := hf 3 _ rfl
  simp only [List.getElem_toArray, List.getElem_cons_zero, List.getElem_cons_succ] at g3
  rw [show Tryz.prog.cellsOf 2 = 1 by kernel_rfl] at g3
  obtain ⟨x3, y3⟩ : ∃ x, xs[3]? = some x := ⟨_, List.getElem?_eq_getElem (by rw [hx]; decide)⟩
  rw [y3] at g3
  obtain ⟨a3, e3, o3⟩ := (opnI Tryz.underlying2) g3
  have g4 := hf 4 _ rfl
  simp only [List.getElem_toArray, List.getElem_cons_zero, List.getElem_cons_succ] at g4
  rw [show Tryz.prog.cellsOf 2 = 1 by kernel_rfl] at g4
  obtain ⟨x4, y4⟩ : ∃ x, xs[4]? = some x := ⟨_, List.getElem?_eq_getElem (by rw [hx]; decide)⟩
  rw [y4] at g4
  obtain ⟨a4, e4, o4⟩ := (opnI Tryz.underlying2) g4
  clear hf hx hl
  refine ⟨⟨a0, a1, a2, a3, a4⟩, ?_, o0, o1, o2, o3, o4⟩
  simp [intT] at e0 e1 e2 e3 e4
  simp [intT, ruleT, e0, e1, e2, e3, e4]
def okdeckT (G : Gh) (a : Deck) : Prop := (okSl ruleT okruleT) G a.rules
theorem opn24 : Opn Tryz.prog 24 deckT okdeckT := fun {H enc w fuel cs x} h => by
  obtain ⟨xs, n, _, _, hl, hx, hf⟩ := DataW.trod_struct Tryz.underlying24 h
  rw [show Tryz.prog.cellsOf 24 = 1 by kernel_rfl] at hl
  obtain ⟨c0, rfl⟩ : ∃ c0, cs = [c0] := by
    match cs, hl with
    | [c0], _ => exact ⟨c0, rfl⟩
  have g0 := hf 0 _ rfl
  simp only [List.getElem_toArray, List.getElem_cons_zero, List.getElem_cons_succ] at g0
  rw [show Tryz.prog.cellsOf 22 = 1 by kernel_rfl] at g0
  obtain ⟨x0, y0⟩ : ∃ x, xs[0]? = some x := ⟨_, List.getElem?_eq_getElem (by rw [hx]; decide)⟩
  rw [y0] at g0
  obtain ⟨a0, e0, o0⟩ := (opnSl Tryz.underlying22 opn44 (by kernel_rfl) (by decide)) g0
  clear hf hx hl
  refine ⟨⟨a0⟩, ?_, o0⟩
  simp [slT] at e0
  simp [deckT, slT, e0]
def okviolT (G : Gh) (a : Viol) : Prop := okI G a.rule ∧ (okSl rectT okrectT) G a.marker
theorem opn27 : Opn Tryz.prog 27 violT okviolT := fun {H enc w fuel cs x} h => by
  obtain ⟨xs, n, _, _, hl, hx, hf⟩ := DataW.trod_struct Tryz.underlying27 h
  rw [show Tryz.prog.cellsOf 27 = 2 by kernel_rfl] at hl
  obtain ⟨c0, c1, rfl⟩ : ∃ c0 c1, cs = [c0, c1] := by
    match cs, hl with
    | [c0, c1], _ => exact ⟨c0, c1, rfl⟩
  have g0 := hf 0 _ rfl
  simp only [List.getElem_toArray, List.getElem_cons_zero, List.getElem_cons_succ] at g0
  rw [show Tryz.prog.cellsOf 2 = 1 by kernel_rfl] at g0
  obtain ⟨x0, y0⟩ : ∃ x, xs[0]? = some x := ⟨_, List.getElem?_eq_getElem (by rw [hx]; decide)⟩
  rw [y0] at g0
  obtain ⟨a0, e0, o0⟩ := (opnI Tryz.underlying2) g0
  have g1 := hf 1 _ rfl
  simp only [List.getElem_toArray, List.getElem_cons_zero, List.getElem_cons_succ] at g1
  rw [show Tryz.prog.cellsOf 25 = 1 by kernel_rfl] at g1
  obtain ⟨x1, y1⟩ : ∃ x, xs[1]? = some x := ⟨_, List.getElem?_eq_getElem (by rw [hx]; decide)⟩
  rw [y1] at g1
  obtain ⟨a1, e1, o1⟩ := (opnSl Tryz.underlying25 opn103 (by kernel_rfl) (by decide)) g1
  clear hf hx hl
  refine ⟨⟨a0, a1⟩, ?_, o0, o1⟩
  simp [intT, slT] at e0 e1
  simp [intT, slT, violT, e0, e1]
def okwaiverT (G : Gh) (a : Waiver) : Prop := okI G a.sig ∧ okS G a.reason
theorem opn106 : Opn Tryz.prog 106 waiverT okwaiverT := fun {H enc w fuel cs x} h => by
  obtain ⟨xs, n, _, _, hl, hx, hf⟩ := DataW.trod_struct Tryz.underlying106 h
  rw [show Tryz.prog.cellsOf 106 = 2 by kernel_rfl] at hl
  obtain ⟨c0, c1, rfl⟩ : ∃ c0 c1, cs = [c0, c1] := by
    match cs, hl with
    | [c0, c1], _ => exact ⟨c0, c1, rfl⟩
  have g0 := hf 0 _ rfl
  simp only [List.getElem_toArray, List.getElem_cons_zero, List.getElem_cons_succ] at g0
  rw [show Tryz.prog.cellsOf 2 = 1 by kernel_rfl] at g0
  obtain ⟨x0, y0⟩ : ∃ x, xs[0]? = some x := ⟨_, List.getElem?_eq_getElem (by rw [hx]; decide)⟩
  rw [y0] at g0
  obtain ⟨a0, e0, o0⟩ := (opnI Tryz.underlying2) g0
  have g1 := hf 1 _ rfl
  simp only [List.getElem_toArray, List.getElem_cons_zero, List.getElem_cons_succ] at g1
  rw [show Tryz.prog.cellsOf 9 = 1 by kernel_rfl] at g1
  obtain ⟨x1, y1⟩ : ∃ x, xs[1]? = some x := ⟨_, List.getElem?_eq_getElem (by rw [hx]; decide)⟩
  rw [y1] at g1
  obtain ⟨a1, e1, o1⟩ := (opnS Tryz.underlying9) g1
  clear hf hx hl
  refine ⟨⟨a0, a1⟩, ?_, o0, o1⟩
  simp [intT, strT] at e0 e1
  simp [intT, strT, waiverT, e0, e1]
theorem applyWaivers_lifted (os : Os) (started : os.Started) (H : Type) (enc : TypeId × Value → H) :
    ReturnsInHanded {} Tryz.checked os 6 .any (Rows.fnExactApplyWaiversSpec.pre6 enc Tryz.prog Tryz.f6 [] false) (Rows.fnExactApplyWaiversSpec.post enc Tryz.prog Tryz.f6 false true false false) := by
  refine law_lifted (C := Tryz.checked) Tryz.own started (by kernel_rfl) Tryz.func6 Tryz.laidOut rfl (by kernel_rfl) rfl Tryz.underlying4 (fun ds h => ?_)
    (ChangeSpec.witness6 (enc := enc) (C := Tryz.checked) false ⟨#[], #[.agg #[.slice none 0 0], .slice none 0 0, .slice none 0 0], []⟩ 8 (by kernel_rfl) (by kernel_rfl) (by kernel_rfl) (by kernel_rfl)) ?_
  · match ds, h with
    | [d, e, f], _ => rfl
  · intro W base args ds ps hval hA
    have hA : DataW.TrodAll enc Tryz.prog W 0 (fun _ => true) true Tryz.f6.params.toList args.toList ds ps := hA
    have hval : ∀ (j : Nat) t v, Tryz.f6.params[j]? = some t → args[j]? = some v → Value.okWide Tryz.prog W .any base t v := hval
    rw [Tryz.params6] at hA hval
    obtain ⟨v0, v1, v2, d0, d1, d2, p0, p1, p2, rfl, rfl, rfl, h0, h1, h2⟩ := trodAll_three hA
    obtain ⟨d, rfl, q1⟩ := argT Tryz.underlying24 opn24 (hval 0 _ v0 rfl rfl) h0
    obtain ⟨xs, q2, q3⟩ := argL Tryz.underlying59 (opnL Tryz.underlying59 opn27 (by kernel_rfl) (by decide)) (hval 1 _ v1 rfl rfl) h1
    obtain ⟨ws, q4, q5⟩ := argL Tryz.underlying60 (opnL Tryz.underlying60 opn106 (by kernel_rfl) (by decide)) (hval 2 _ v2 rfl rfl) h2
    exact law_ApplyWaivers (Rs.g q1.1) (Rs.g q2) (fun i hi => by
      rw [mks_len] at hi
      rw [mks_gd hi]; exact Rs.g (q3 i hi).2.1) (Rs.g q4) (fun i hi => (q5 i hi).2) ⟨rfl, Gh.le_refl _⟩
theorem applyWaivers_holds : Rows.FnExactApplyWaiversSaid :=
  OpenClaim.holds_of_wide 6 Tryz.f6 rfl rfl rfl rfl rfl rfl rfl ⟨rfl, rfl, rfl, rfl, rfl⟩ rfl rfl rfl rfl rfl (by kernel_rfl) Tryz.func6 (by kernel_rfl)
    (of_decide_eq_true (by kernel_rfl)) (by unfold Func.isWrapper; first | (rw [if_pos (by decide +kernel)]; kernel_rfl) | (rw [if_neg (by decide +kernel)]; exact ⟨rfl, rfl⟩))
    (fun os started H enc _ => applyWaivers_lifted os started H enc)
end Go.Proofs.YtgngpegmaceaiaaGreat
