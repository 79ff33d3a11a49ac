/-
  The law FnExactLabelNets: whatever the layout and the labels, the law returns true and both read as before.
-/
import Derived.Test.YtmomfgfmnpblpaaGreatCA5
import Derived.Laws.BytesArg
import Derived.Test.YtmomfgfmnpblpaaGreatRows
namespace Go.Proofs.YtmomfgfmnpblpaaGreat
set_option linter.unusedVariables false
set_option linter.unusedSimpArgs false
open Go
/-- the text of some bytes -/
def txt (bs : List UInt8) : ByteArray := ⟨bs.toArray⟩
theorem txt_size (bs : List UInt8) : (txt bs).size = bs.length := by simp [txt, ByteArray.size]
section
variable {P : Program} {σ : Nat → Value} {G : Gh} {L : List Ch} {o : Oper}
theorem PV.convBS {T T' e : TypeId} {x : Operand} {v : Value} {bs : List UInt8} (ho : o.op = .convert T T' x) (hu : P.underlying T = some (.slice e)) (he : P.underlying e = some (.int .u8)) (hd : P.underlying T' = some .string) (hx : ev σ x = v) (h : Rs G L byteT v bs) : PV P o σ G L (.string (txt bs)) := by
  intro w hw
  obtain ⟨⟨c, hc1, hc2, hsl⟩, hg⟩ := h w hw
  rcases hsl with ⟨b, k, rfl⟩ | ⟨⟨a, rfl⟩, h0⟩
  · have hr := run_convert_bytes_arg w T e hu he b k bs.length c (bs.map fun b => (b.toNat : Int)) (by simp) (fun i hi => by
      have := hg i (.int .u8 ((bs.map fun b => (b.toNat : Int)).getD i 0)) (by
        rw [show i = i * byteT.sz + 0 by simp [byteT]]
        refine byteT.flat_get (x := bs[i]) (List.getElem?_eq_getElem hi) ?_
        simp [byteT, hi])
      simpa [sb, so] using this) T' hd
    have e1 : strOfNums (bs.map fun b => (b.toNat : Int)) = txt bs := by
      simp only [strOfNums, txt, List.map_map]
      congr 2
      conv => rhs; rw [← List.map_id bs]
      apply List.map_congr_left
      intro b _
      simp
    simp [execOp, ho, hx, hr, e1]
  · have hb : bs = [] := List.eq_nil_of_length_eq_zero h0
    subst hb
    cases a with
    | none => simp [execOp, ho, hx, run_convert_bytes_nil w T e hu he _ _ T' hd, txt, ByteArray.empty, ByteArray.emptyWithCapacity]; rfl
    | some a =>
      simp only [List.length_nil] at hx
      simp [execOp, ho, hx, run_convert_bytes_string w T T' e _ _ _ hu he hd, Conv.bytesToString, loadCells, loadCellsFrom, txt, ByteArray.empty, ByteArray.emptyWithCapacity]; rfl
end
def mtGo : Nat → Nat → ByteArray → ByteArray
  | 0, _, out => out
  | f + 1, k, out => if k = 0 then out else mtGo f (k / 10) (txt [UInt8.ofNat (48 + k % 10)] ++ out)
theorem mtGo_zero (f : Nat) (out : ByteArray) : mtGo f 0 out = out := by cases f <;> simp [mtGo]
theorem mtGo_step {f k : Nat} {out : ByteArray} (h : 0 < k) : mtGo (f + 1) k out = mtGo f (k / 10) (txt [UInt8.ofNat (48 + k % 10)] ++ out) := by rw [mtGo, if_neg (by omega)]
def mText (k : Int) : ByteArray := if k ≤ 0 then txt [109, 48] else txt [109] ++ mtGo k.toNat k.toNat ByteArray.empty
end Go.Proofs.YtmomfgfmnpblpaaGreat
namespace Go.Proofs.YtmomfgfmnpblpaaGreat
set_option linter.unusedVariables false
set_option linter.unusedSimpArgs false
open Go
set_option maxRecDepth 20000
set_option linter.unusedSimpArgs false
variable {G : Gh} {L : List Ch} {R : Value → Gh → List Ch → Prop}
theorem u8dig {k : Int} (h : 0 ≤ k) : IntKind.wrap .u8 (48 + k % 10) = ((UInt8.ofNat (48 + k.toNat % 10)).toNat : Int) := by
  have h1 : (48 + k % 10) = ((48 + k.toNat % 10 : Nat) : Int) := by omega
  have h2 : 48 + k.toNat % 10 < 256 := by omega
  rw [h1]
  simp only [IntKind.wrap, UInt8.toNat_ofNat']
  simp [IntKind.signed, IntKind.bits]
theorem markText_s {k0 : Int} (hb : k0 ≤ 4611686018427387904) (k : R (.string (mText k0)) G L) : CallT Tryz.prog 60 #[vi k0] G L R := by
  refine CallT.enter (args := _) Tryz.func60 rfl rfl (by kernel_rfl) rfl ?_
  refine WP.seq ?_
  refine WP.region ?_
  refine RG.pv rfl (PV.mvS (.inr rfl) rfl) ?_
  refine RG.nil ?_
  refine WP.seq ?_
  refine WP.seq ?_
  refine WP.region ?_
  refine RG.pv rfl (PV.mvI (.inl rfl) rfl) ?_
  refine RG.pv rfl (PV.leq rfl rfl rfl) ?_
  refine RG.nil ?_
  refine WP.cond rfl (fun h1 => ?_) (fun h1 => ?_)
  · have h1 := of_decide_eq_true h1
    have e : mText k0 = txt [109, 48] := by rw [mText, if_pos h1]
    rw [e] at k
    refine WP.seq ?_
    refine WP.region ?_
    refine RG.pv rfl (PV.mvS (.inr rfl) rfl) ?_
    refine RG.nil ?_
    refine WP.ret ?_
    exact ⟨_, _, ResV.one rfl rfl, Cv.p, k⟩
  · have h1 := of_decide_eq_false h1
    have e : mText k0 = txt [109] ++ mtGo k0.toNat k0.toNat ByteArray.empty := by rw [mText, if_neg h1]
    rw [e] at k
    refine WP.skip ?_
    refine WP.seq ?_
    refine WP.region ?_
    refine RG.pv rfl (PV.mvS (.inr rfl) rfl) ?_
    refine RG.nil ?_
    refine WP.seq ?_
    refine WP.block ?_
    refine WP.loop3 [] (fun (kk : Int) (f : Nat) (out : ByteArray) => 0 ≤ kk ∧ kk ≤ k0 ∧ kk.toNat ≤ f ∧ out.size + kk ≤ k0 ∧ mtGo f kk.toNat out = mtGo k0.toNat k0.toNat ByteArray.empty) (fun (kk : Int) (f : Nat) (out : ByteArray) => [(0, vi kk), (3, .string out)]) (fun (kk : Int) (f : Nat) (out : ByteArray) => L) (fun (kk : Int) (f : Nat) (out : ByteArray) => kk.toNat) k0 k0.toNat ByteArray.empty ⟨by omega, by omega, by omega, by simp, rfl⟩ ⟨rfl, rfl, trivial⟩ Cv.p ?_
    rintro kk f out τ ⟨hk, hkb, hfk, hs, he⟩
    refine WP.seq ?_
    refine WP.seq ?_
    refine WP.region ?_
    refine RG.pv rfl (PV.mvI (.inl rfl) rfl) ?_
    refine RG.pv rfl (PV.gtr rfl rfl rfl) ?_
    refine RG.nil ?_
    refine WP.cond rfl (fun h2 => ?_) (fun h2 => ?_)
    · have h2 := of_decide_eq_true h2
      refine WP.skip ?_
      refine WP.block ?_
      refine WP.seq ?_
      refine WP.region ?_
      refine RG.pv rfl (PV.mvI (.inl rfl) rfl) ?_
      refine RG.pv rfl (PV.rem rfl rfl rfl (by omega) (by omega) (by omega)) ?_
      refine RG.pv rfl (PV.add rfl rfl rfl (by omega)) ?_
      refine RG.pv rfl (PV.conv rfl ⟨_, Tryz.underlying3⟩ Tryz.underlying5 rfl (by first | exact u8dig (by omega) | rfl)) ?_
      refine RG.ot rfl (OT.bslice (F := byteT) (els := [(UInt8.ofNat (48 + kk.toNat % 10))]) rfl El40 rfl (by decide) rfl (by decide) ⟨rfl, (Cl.c rfl), trivial⟩ fun v12 => ?_)
      refine RG.pv rfl (PV.convBS (v := v12) rfl Tryz.underlying40 Tryz.underlying5 Tryz.underlying9 rfl Rs.o) ?_
      refine RG.pv rfl (PV.mvS (.inl rfl) rfl) ?_
      refine RG.pv rfl (PV.addS rfl rfl rfl (by first | omega | (simp [txt_size] <;> omega) | (have : (ByteArray.mk #[109]).size = 1 := rfl; omega))) ?_
      refine RG.pv rfl (PV.mvS (.inr rfl) rfl) ?_
      refine RG.nil ?_
      refine WP.region ?_
      refine RG.pv rfl (PV.mvI (.inl rfl) rfl) ?_
      refine RG.pv rfl (PV.quo rfl rfl rfl (by omega) (by omega) (by omega)) ?_
      refine RG.pv rfl (PV.mvI (.inr rfl) rfl) ?_
      refine RG.nil ?_
      refine ⟨rfl, (kk / 10), (f - 1), (txt [UInt8.ofNat (48 + kk.toNat % 10)] ++ out), ⟨by omega, by omega, by omega, by rw [ByteArray.size_append, txt_size]; simp only [List.length_cons, List.length_nil]; omega, ?_⟩, ⟨rfl, rfl, trivial⟩, trivial, Cv.p, by omega⟩
      obtain ⟨f', rfl⟩ : ∃ f', f = f' + 1 := ⟨f - 1, by omega⟩
      rw [mtGo_step (by omega)] at he
      rw [← he, show (kk / 10).toNat = kk.toNat / 10 by omega]; rfl
    · have h2 := of_decide_eq_false h2
      obtain rfl : kk = 0 := by omega
      rw [show (0 : Int).toNat = 0 from rfl, mtGo_zero] at he
      rw [← he] at k
      refine WP.exit ?_
      refine WP.seq ?_
      refine WP.region ?_
      refine RG.pv rfl (PV.mvS (.inl rfl) rfl) ?_
      refine RG.pv rfl (PV.addS rfl rfl rfl (by first | omega | (simp [txt_size] <;> omega) | (have : (ByteArray.mk #[109]).size = 1 := rfl; omega))) ?_
      refine RG.pv rfl (PV.mvS (.inr rfl) rfl) ?_
      refine RG.nil ?_
      refine WP.ret ?_
      exact ⟨_, _, ResV.one rfl rfl, Cv.p, k⟩
def mkS (_ : ByteArray) (k : Int) : ByteArray := mText k
def nS (_ : ByteArray) : Int := 1
theorem nS_cost (xs : List ByteArray) : costL nS xs = 1 * xs.length := costL_const 1 xs
theorem mkS_at {xs : List ByteArray} {i : Nat} {k0 kk : Int} (h : i < xs.length) (e : kk = k0 + i) : mkS (gd xs i) (k0 + costL nS (xs.take i)) = mText kk := by
  rw [mkS, nS_cost, List.length_take, Nat.min_eq_left (by omega), e, Int.one_mul]
theorem markStringS_s {v : Value} {xs : List ByteArray} {k0 : Int} (hk : 0 ≤ k0) (hb : k0 + costL nS xs ≤ 4611686018427387904) (k : R (vi (k0 + costL nS xs)) G (osl 9 strT v (markL mkS nS xs k0) :: L)) : CallT Tryz.prog 41 #[v, vi k0] G (osl 9 strT v xs :: L) R := by
  have hc := nS_cost xs
  refine CallT.cv (Cv.eqS (markTo_zero (mk := mkS) (n := nS) (k := k0)).symm) ?_
  refine CallT.enter (args := _) Tryz.func41 rfl rfl (by kernel_rfl) rfl ?_
  refine WP.seq ?_
  refine WP.region ?_
  refine RG.pv rfl (PV.mvI (.inr rfl) rfl) ?_
  refine RG.nil ?_
  refine WP.seq ?_
  refine WP.seq ?_
  refine WP.region ?_
  refine RG.pv rfl (PV.mvI (.inr rfl) rfl) ?_
  refine RG.nil ?_
  refine WP.block ?_
  refine WP.loop2 [0] (fun (i : Nat) (kk : Int) => i ≤ xs.length ∧ kk = k0 + i) (fun (i : Nat) (kk : Int) => [(5, vi i), (1, vi kk)]) (fun (i : Nat) (kk : Int) => osl 9 strT v (markTo mkS nS xs k0 i) :: L) (fun (i : Nat) (kk : Int) => xs.length - i) 0 k0 ⟨by omega, by omega⟩ ⟨rfl, rfl, trivial⟩ Cv.p ?_
  rintro i kk τ ⟨hi, hkk⟩
  refine WP.seq ?_
  refine WP.seq ?_
  refine WP.region ?_
  refine RG.pv rfl (PV.mvI (.inl rfl) rfl) ?_
  refine RG.pv rfl (PV.move (v := v) rfl rfl) ?_
  refine RG.pv rfl (PV.len (v := v) rfl Tryz.underlying45 rfl SlF.o) ?_
  refine RG.pv rfl (PV.lss rfl rfl rfl) ?_
  refine RG.nil ?_
  have hml := markTo_len (mk := mkS) (n := nS) (k := k0) hi
  refine WP.cond rfl (fun h1 => ?_) (fun h1 => ?_)
  · have h1 := of_decide_eq_true h1
    have h2 : i < xs.length := by omega
    refine WP.skip ?_
    refine WP.seq ?_
    refine WP.block ?_
    refine WP.seq ?_
    refine WP.region ?_
    refine RG.pv rfl (PV.move (v := v) rfl rfl) ?_
    refine RG.pv rfl (PV.mvI (.inl rfl) rfl) ?_
    refine RG.pv rfl (PV.mvI (.inl rfl) rfl) ?_
    refine RG.callF (vs := [_]) rfl rfl En60 rfl (markText_s (by omega) ?_)
    refine RG.pv rfl (PV.idxS (v := v) rfl Is45 rfl SlF.o rfl rfl (by omega)) ?_
    refine RG.ot rfl (OT.storeE (F := strT) rfl Sz9 rfl rfl rfl (Cl.c rfl) (OneC.c rfl) (by omega) ?_)
    refine RG.nil ?_
    refine WP.region ?_
    refine RG.pv rfl (PV.mvI (.inl rfl) rfl) ?_
    refine RG.pv rfl (PV.add rfl rfl rfl (by omega)) ?_
    refine RG.pv rfl (PV.mvI (.inr rfl) rfl) ?_
    refine RG.nil ?_
    refine WP.region ?_
    refine RG.pv rfl (PV.mvI (.inl rfl) rfl) ?_
    refine RG.pv rfl (PV.add rfl rfl rfl (by omega)) ?_
    refine RG.pv rfl (PV.mvI (.inr rfl) rfl) ?_
    refine RG.nil ?_
    exact ⟨rfl, i + 1, _, ⟨by omega, by omega⟩, ⟨rfl, rfl, trivial⟩, ⟨rfl, trivial⟩, (Cv.eqS (by rw [← markTo_set h2, mkS_at h2 hkk])), by omega⟩
  · have h1 := of_decide_eq_false h1
    have e : kk = k0 + costL nS xs := by omega
    rw [← e] at k
    refine WP.exit ?_
    refine WP.seq ?_
    refine WP.region ?_
    refine RG.pv rfl (PV.mvI (.inl rfl) rfl) ?_
    refine RG.pv rfl (PV.mvI (.inr rfl) rfl) ?_
    refine RG.nil ?_
    refine WP.ret ?_
    exact ⟨_, _, ResV.one rfl rfl, (Cv.eqS (markTo_all (by omega))), k⟩
theorem heldStringS_s {v : Value} {xs : List ByteArray} {k0 : Int} (h0 : Rs G L strT v (markL mkS nS xs k0)) (hk : 0 ≤ k0) (hb : k0 + costL nS xs ≤ 4611686018427387904) (k : R (vi (k0 + costL nS xs)) G L) : CallT Tryz.prog 42 #[v, vi k0] G L R := by
  have hc := nS_cost xs
  have hml := markL_len mkS nS xs k0
  refine CallT.enter (args := _) Tryz.func42 rfl rfl (by kernel_rfl) rfl ?_
  refine WP.seq ?_
  refine WP.region ?_
  refine RG.pv rfl (PV.mvI (.inr rfl) rfl) ?_
  refine RG.nil ?_
  refine WP.seq ?_
  refine WP.seq ?_
  refine WP.region ?_
  refine RG.pv rfl (PV.mvI (.inr rfl) rfl) ?_
  refine RG.nil ?_
  refine WP.block ?_
  refine WP.loop2 [0] (fun (i : Nat) (kk : Int) => i ≤ xs.length ∧ kk = k0 + i) (fun (i : Nat) (kk : Int) => [(5, vi i), (1, vi kk)]) (fun (i : Nat) (kk : Int) => L) (fun (i : Nat) (kk : Int) => xs.length - i) 0 k0 ⟨by omega, by omega⟩ ⟨rfl, rfl, trivial⟩ Cv.p ?_
  rintro i kk τ ⟨hi, hkk⟩
  refine WP.seq ?_
  refine WP.seq ?_
  refine WP.region ?_
  refine RG.pv rfl (PV.mvI (.inl rfl) rfl) ?_
  refine RG.pv rfl (PV.move (v := v) rfl rfl) ?_
  refine RG.pv rfl (PV.len (v := v) rfl Tryz.underlying45 rfl (SlF.r h0)) ?_
  refine RG.pv rfl (PV.lss rfl rfl rfl) ?_
  refine RG.nil ?_
  refine WP.cond rfl (fun h1 => ?_) (fun h1 => ?_)
  · have h1 := of_decide_eq_true h1
    have h2 : i < xs.length := by omega
    have hg : gd (markL mkS nS xs k0) i = mText kk := by rw [gd_mark h2, mkS_at h2 hkk]
    refine WP.skip ?_
    refine WP.seq ?_
    refine WP.block ?_
    refine WP.seq ?_
    refine WP.seq ?_
    refine WP.regionQ (by kernel_rfl) (by kernel_rfl) ?_
    refine RQ.pv rfl (PV.move (v := v) rfl rfl) ?_
    refine RQ.pv rfl (PV.mvI (.inl rfl) rfl) ?_
    refine RQ.pv rfl (PV.idxS (v := v) rfl Is45 rfl (SlF.r h0) rfl rfl (by omega)) ?_
    refine RQ.pv rfl (PV.loadE1 rfl Sc9 rfl rfl (El.r h0 (getG (by omega))) rfl) ?_
    refine RQ.pv rfl (PV.mvI (.inl rfl) rfl) ?_
    refine RQ.callF (vs := [_]) rfl rfl En60 rfl (markText_s (by omega) ⟨rfl, rfl, rfl⟩) ?_
    refine RQ.pv rfl (PV.neqS rfl rfl rfl) ?_
    refine RQ.nil ?_
    refine WP.cond rfl (fun h3 => ?_) (fun h3 => ?_)
    · simp [hg] at h3
    · refine WP.skip ?_
      refine WP.region ?_
      refine RG.pv rfl (PV.mvI (.inl rfl) rfl) ?_
      refine RG.pv rfl (PV.add rfl rfl rfl (by omega)) ?_
      refine RG.pv rfl (PV.mvI (.inr rfl) rfl) ?_
      refine RG.nil ?_
      refine WP.region ?_
      refine RG.pv rfl (PV.mvI (.inl rfl) rfl) ?_
      refine RG.pv rfl (PV.add rfl rfl rfl (by omega)) ?_
      refine RG.pv rfl (PV.mvI (.inr rfl) rfl) ?_
      refine RG.nil ?_
      exact ⟨rfl, i + 1, _, ⟨by omega, by omega⟩, ⟨rfl, rfl, trivial⟩, ⟨rfl, trivial⟩, Cv.p, by omega⟩
  · have h1 := of_decide_eq_false h1
    have e : kk = k0 + costL nS xs := by omega
    rw [← e] at k
    refine WP.exit ?_
    refine WP.seq ?_
    refine WP.region ?_
    refine RG.pv rfl (PV.mvI (.inl rfl) rfl) ?_
    refine RG.pv rfl (PV.mvI (.inr rfl) rfl) ?_
    refine RG.nil ?_
    refine WP.ret ?_
    exact ⟨_, _, ResV.one rfl rfl, Cv.p, k⟩
def mkW (_ : Waiver) (k : Int) : Waiver := ⟨k, mText (k + 1)⟩
def nW (_ : Waiver) : Int := 2
theorem nW_cost (xs : List Waiver) : costL nW xs = 2 * xs.length := costL_const 2 xs
theorem mkW_at {xs : List Waiver} {i : Nat} {k0 kk : Int} (h : i < xs.length) (e : kk = k0 + 2 * i) : mkW (gd xs i) (k0 + costL nW (xs.take i)) = ⟨kk, mText (kk + 1)⟩ := by
  rw [mkW, nW_cost, List.length_take, Nat.min_eq_left (by omega), e]
end Go.Proofs.YtmomfgfmnpblpaaGreat
namespace Go.Proofs.YtmomfgfmnpblpaaGreat
set_option linter.unusedVariables false
set_option linter.unusedSimpArgs false
open Go
set_option maxRecDepth 20000
set_option linter.unusedSimpArgs false
variable {G : Gh} {L : List Ch} {R : Value → Gh → List Ch → Prop}
def nameByte (c : UInt8) : Bool := decide (97 ≤ c.toNat) && decide (c.toNat ≤ 122) || decide (48 ≤ c.toNat) && decide (c.toNat ≤ 57)
def isName (s : ByteArray) : Bool := decide (1 ≤ s.size) && decide (s.size ≤ 8) && decide (∀ i, i < s.size → nameByte (bt s i) = true)
theorem isName_all {s : ByteArray} (h : ∀ i, i < s.size → nameByte (bt s i) = true) : isName s = (decide (1 ≤ (s.size : Int)) && decide ((s.size : Int) ≤ 8)) := by
  simp only [isName, decide_eq_true h, Bool.and_true]
  congr 1 <;> (rw [decide_eq_decide]; omega)
theorem isName_not {s : ByteArray} {i : Nat} (h : i < s.size) (e : nameByte (bt s i) = false) : isName s = false := by
  simp only [isName, Bool.and_eq_false_iff, decide_eq_false_iff_not]
  exact .inr fun hh => by rw [hh i h] at e; cases e
theorem isName_i {s : ByteArray} (hs : s.size ≤ 9223372036854775807) (k : R (.bool (isName s)) G L) : CallT Tryz.prog 143 #[.string s] G L R := by
  refine CallT.enter (args := _) Tryz.func143 rfl rfl (by kernel_rfl) rfl ?_
  refine WP.seq ?_
  refine WP.region ?_
  refine RG.pv rfl (PV.mvB (.inr rfl) rfl) ?_
  refine RG.nil ?_
  refine WP.seq ?_
  refine WP.seq ?_
  refine WP.region ?_
  refine RG.pv rfl (PV.mvI (.inr rfl) rfl) ?_
  refine RG.nil ?_
  refine WP.block ?_
  refine WP.loop1 [0] (fun i => i ≤ s.size ∧ ∀ j, j < i → nameByte (bt s j) = true) (fun i => [(3, vi i)]) (fun i => L) (fun i => s.size - i) 0 ⟨by omega, fun j h => by omega⟩ ⟨rfl, trivial⟩ Cv.p ?_
  rintro i τ ⟨hi, hb⟩
  refine WP.seq ?_
  refine WP.seq ?_
  refine WP.region ?_
  refine RG.pv rfl (PV.mvI (.inl rfl) rfl) ?_
  refine RG.pv rfl (PV.mvS (.inl rfl) rfl) ?_
  refine RG.pv rfl (PV.lenS rfl Tryz.underlying9 rfl) ?_
  refine RG.pv rfl (PV.lss rfl rfl rfl) ?_
  refine RG.nil ?_
  refine WP.cond rfl (fun h1 => ?_) (fun h1 => ?_)
  · have h1 := of_decide_eq_true h1
    refine WP.skip ?_
    refine WP.seq ?_
    refine WP.block ?_
    refine WP.seq ?_
    refine WP.region ?_
    refine RG.pv rfl (PV.mvS (.inl rfl) rfl) ?_
    refine RG.pv rfl (PV.mvI (.inl rfl) rfl) ?_
    refine RG.pv rfl (PV.idxStr rfl Tryz.underlying9 rfl rfl rfl (getBG (by omega))) ?_
    refine RG.pv rfl (PV.lss rfl rfl rfl) ?_
    refine RG.pv rfl (PV.mvB (.inl rfl) rfl) ?_
    refine RG.gs rfl rfl rfl (fun hp => (PV.mvS (.inl rfl) rfl)) ?_
    refine RG.gs rfl rfl rfl (fun hp => (PV.mvI (.inl rfl) rfl)) ?_
    refine RG.gs rfl rfl rfl (fun hp => (PV.idxStr rfl Tryz.underlying9 (gs_t hp) (gs_t hp) rfl (getBG (by first | omega | (simp at hp; omega))))) ?_
    refine RG.gs rfl rfl rfl (fun hp => (PV.gtr rfl (gs_t hp) rfl)) ?_
    refine RG.pv rfl (PV.pickO rfl rfl rfl (fun hq => gs_t (geqF hq))) ?_
    refine RG.pv rfl (PV.mvB (.inl rfl) rfl) ?_
    refine RG.gs rfl rfl rfl (fun hp => (PV.mvS (.inl rfl) rfl)) ?_
    refine RG.gs rfl rfl rfl (fun hp => (PV.mvI (.inl rfl) rfl)) ?_
    refine RG.gs rfl rfl rfl (fun hp => (PV.idxStr rfl Tryz.underlying9 (gs_t hp) (gs_t hp) rfl (getBG (by first | omega | (simp at hp; omega))))) ?_
    refine RG.gs rfl rfl rfl (fun hp => (PV.lss rfl (gs_t hp) rfl)) ?_
    refine RG.gs rfl rfl rfl (fun hp => (PV.mvB (.inl rfl) (gs_t hp))) ?_
    refine RG.gs2 rfl rfl rfl (fun hp => (PV.mvS (.inl rfl) rfl)) ?_
    refine RG.gs2 rfl rfl rfl (fun hp => (PV.mvI (.inl rfl) rfl)) ?_
    refine RG.gs2 rfl rfl rfl (fun hp => (PV.idxStr rfl Tryz.underlying9 (gs_t hp) (gs_t hp) rfl (getBG (by first | omega | (simp at hp; omega))))) ?_
    refine RG.gs2 rfl rfl rfl (fun hp => (PV.gtr rfl (gs_t hp) rfl)) ?_
    refine RG.gs rfl rfl rfl (fun hp => (PV.pickO rfl (gs_t hp) rfl (fun hq => gs_t (gandF hp hq)))) ?_
    refine RG.pv rfl (PV.pickA rfl rfl (fun hq => gs_t (geqT hq)) rfl) ?_
    refine RG.nil ?_
    refine WP.cond rfl (fun h2 => ?_) (fun h2 => ?_)
    · have e : isName s = false := isName_not (i := i) (by omega) (by simp [nameByte] at h2 ⊢; omega)
      rw [e] at k
      refine WP.seq ?_
      refine WP.region ?_
      refine RG.pv rfl (PV.mvB (.inr rfl) rfl) ?_
      refine RG.nil ?_
      refine WP.ret ?_
      exact ⟨_, _, ResV.one rfl rfl, Cv.p, k⟩
    · have h3 : nameByte (bt s i) = true := by
        simp [nameByte] at h2 ⊢; omega
      have hj : ∀ j, j < i + 1 → nameByte (bt s j) = true := fun j h => by
        by_cases e : j = i
        · subst e; exact h3
        · exact hb j (by omega)
      refine WP.skip ?_
      refine WP.region ?_
      refine RG.pv rfl (PV.mvI (.inl rfl) rfl) ?_
      refine RG.pv rfl (PV.add rfl rfl rfl (by omega)) ?_
      refine RG.pv rfl (PV.mvI (.inr rfl) rfl) ?_
      refine RG.nil ?_
      exact ⟨rfl, i + 1, ⟨by omega, hj⟩, ⟨rfl, trivial⟩, ⟨rfl, trivial⟩, Cv.p, by omega⟩
  · have h1 := of_decide_eq_false h1
    have e := isName_all (s := s) (fun j h => hb j (by omega))
    rw [e] at k
    refine WP.exit ?_
    refine WP.seq ?_
    refine WP.region ?_
    refine RG.pv rfl (PV.mvS (.inl rfl) rfl) ?_
    refine RG.pv rfl (PV.lenS rfl Tryz.underlying9 rfl) ?_
    refine RG.pv rfl (PV.geq rfl rfl rfl) ?_
    refine RG.pv rfl (PV.mvB (.inl rfl) rfl) ?_
    refine RG.gs rfl rfl rfl (fun hp => (PV.mvS (.inl rfl) rfl)) ?_
    refine RG.gs rfl rfl rfl (fun hp => (PV.lenS rfl Tryz.underlying9 (gs_t hp))) ?_
    refine RG.gs rfl rfl rfl (fun hp => (PV.leq rfl (gs_t hp) rfl)) ?_
    refine RG.pv rfl (PV.pickA rfl rfl (fun hq => gs_t (geqT hq)) rfl) ?_
    refine RG.pv rfl (PV.mvB (.inr rfl) rfl) ?_
    refine RG.nil ?_
    refine WP.ret ?_
    exact ⟨_, _, ResV.one rfl rfl, Cv.p, k⟩
theorem isName_r {s : ByteArray} (hs : s.size ≤ 9223372036854775807) (k : R (.bool (isName s)) G L) : CallT Tryz.prog 131 #[.string s] G L R := by
  refine CallT.enter (args := _) Tryz.func131 rfl rfl (by kernel_rfl) rfl ?_
  refine WP.seq ?_
  refine WP.region ?_
  refine RG.pv rfl (PV.mvB (.inr rfl) rfl) ?_
  refine RG.nil ?_
  refine WP.seq ?_
  refine WP.seq ?_
  refine WP.region ?_
  refine RG.pv rfl (PV.mvI (.inr rfl) rfl) ?_
  refine RG.nil ?_
  refine WP.block ?_
  refine WP.loop1 [0] (fun i => i ≤ s.size ∧ ∀ j, j < i → nameByte (bt s j) = true) (fun i => [(3, vi i)]) (fun i => L) (fun i => s.size - i) 0 ⟨by omega, fun j h => by omega⟩ ⟨rfl, trivial⟩ Cv.p ?_
  rintro i τ ⟨hi, hb⟩
  refine WP.seq ?_
  refine WP.seq ?_
  refine WP.region ?_
  refine RG.pv rfl (PV.mvI (.inl rfl) rfl) ?_
  refine RG.pv rfl (PV.mvS (.inl rfl) rfl) ?_
  refine RG.pv rfl (PV.lenS rfl Tryz.underlying9 rfl) ?_
  refine RG.pv rfl (PV.lss rfl rfl rfl) ?_
  refine RG.nil ?_
  refine WP.cond rfl (fun h1 => ?_) (fun h1 => ?_)
  · have h1 := of_decide_eq_true h1
    refine WP.skip ?_
    refine WP.seq ?_
    refine WP.block ?_
    refine WP.seq ?_
    refine WP.region ?_
    refine RG.pv rfl (PV.mvS (.inl rfl) rfl) ?_
    refine RG.pv rfl (PV.mvI (.inl rfl) rfl) ?_
    refine RG.pv rfl (PV.idxStr rfl Tryz.underlying9 rfl rfl rfl (getBG (by omega))) ?_
    refine RG.pv rfl (PV.geq rfl rfl rfl) ?_
    refine RG.pv rfl (PV.mvB (.inl rfl) rfl) ?_
    refine RG.gs rfl rfl rfl (fun hp => (PV.mvS (.inl rfl) rfl)) ?_
    refine RG.gs rfl rfl rfl (fun hp => (PV.mvI (.inl rfl) rfl)) ?_
    refine RG.gs rfl rfl rfl (fun hp => (PV.idxStr rfl Tryz.underlying9 (gs_t hp) (gs_t hp) rfl (getBG (by first | omega | (simp at hp; omega))))) ?_
    refine RG.gs rfl rfl rfl (fun hp => (PV.leq rfl (gs_t hp) rfl)) ?_
    refine RG.pv rfl (PV.pickA rfl rfl (fun hq => gs_t (geqT hq)) rfl) ?_
    refine RG.pv rfl (PV.mvB (.inl rfl) rfl) ?_
    refine RG.gs rfl rfl rfl (fun hp => (PV.mvS (.inl rfl) rfl)) ?_
    refine RG.gs rfl rfl rfl (fun hp => (PV.mvI (.inl rfl) rfl)) ?_
    refine RG.gs rfl rfl rfl (fun hp => (PV.idxStr rfl Tryz.underlying9 (gs_t hp) (gs_t hp) rfl (getBG (by first | omega | (simp at hp; omega))))) ?_
    refine RG.gs rfl rfl rfl (fun hp => (PV.geq rfl (gs_t hp) rfl)) ?_
    refine RG.gs rfl rfl rfl (fun hp => (PV.mvB (.inl rfl) (gs_t hp))) ?_
    refine RG.gs2 rfl rfl rfl (fun hp => (PV.mvS (.inl rfl) rfl)) ?_
    refine RG.gs2 rfl rfl rfl (fun hp => (PV.mvI (.inl rfl) rfl)) ?_
    refine RG.gs2 rfl rfl rfl (fun hp => (PV.idxStr rfl Tryz.underlying9 (gs_t hp) (gs_t hp) rfl (getBG (by first | omega | (simp at hp; omega))))) ?_
    refine RG.gs2 rfl rfl rfl (fun hp => (PV.leq rfl (gs_t hp) rfl)) ?_
    refine RG.gs rfl rfl rfl (fun hp => (PV.pickA rfl (gs_t hp) (fun hq => gs_t (gandT hp hq)) rfl)) ?_
    refine RG.pv rfl (PV.pickO rfl rfl rfl (fun hq => gs_t (geqF hq))) ?_
    refine RG.pv rfl (PV.not rfl rfl) ?_
    refine RG.nil ?_
    refine WP.cond rfl (fun h2 => ?_) (fun h2 => ?_)
    · have e : isName s = false := isName_not (i := i) (by omega) (by simp [nameByte] at h2 ⊢; omega)
      rw [e] at k
      refine WP.seq ?_
      refine WP.region ?_
      refine RG.pv rfl (PV.mvB (.inr rfl) rfl) ?_
      refine RG.nil ?_
      refine WP.ret ?_
      exact ⟨_, _, ResV.one rfl rfl, Cv.p, k⟩
    · have h3 : nameByte (bt s i) = true := by
        simp [nameByte] at h2 ⊢; omega
      have hj : ∀ j, j < i + 1 → nameByte (bt s j) = true := fun j h => by
        by_cases e : j = i
        · subst e; exact h3
        · exact hb j (by omega)
      refine WP.skip ?_
      refine WP.region ?_
      refine RG.pv rfl (PV.mvI (.inl rfl) rfl) ?_
      refine RG.pv rfl (PV.add rfl rfl rfl (by omega)) ?_
      refine RG.pv rfl (PV.mvI (.inr rfl) rfl) ?_
      refine RG.nil ?_
      exact ⟨rfl, i + 1, ⟨by omega, hj⟩, ⟨rfl, trivial⟩, ⟨rfl, trivial⟩, Cv.p, by omega⟩
  · have h1 := of_decide_eq_false h1
    have e := isName_all (s := s) (fun j h => hb j (by omega))
    rw [e] at k
    refine WP.exit ?_
    refine WP.seq ?_
    refine WP.region ?_
    refine RG.pv rfl (PV.mvS (.inl rfl) rfl) ?_
    refine RG.pv rfl (PV.lenS rfl Tryz.underlying9 rfl) ?_
    refine RG.pv rfl (PV.geq rfl rfl rfl) ?_
    refine RG.pv rfl (PV.mvB (.inl rfl) rfl) ?_
    refine RG.gs rfl rfl rfl (fun hp => (PV.mvS (.inl rfl) rfl)) ?_
    refine RG.gs rfl rfl rfl (fun hp => (PV.lenS rfl Tryz.underlying9 (gs_t hp))) ?_
    refine RG.gs rfl rfl rfl (fun hp => (PV.leq rfl (gs_t hp) rfl)) ?_
    refine RG.pv rfl (PV.pickA rfl rfl (fun hq => gs_t (geqT hq)) rfl) ?_
    refine RG.pv rfl (PV.mvB (.inr rfl) rfl) ?_
    refine RG.nil ?_
    refine WP.ret ?_
    exact ⟨_, _, ResV.one rfl rfl, Cv.p, k⟩
def unitB (p : Pt) : Bool := within p.x (-40) 39 && within p.y (-40) 39
def validLb (l : Label) : Bool := (within l.layer 0 7 && unitB l.at_) && isName l.name
theorem validLb_i {l : Label} (hs : l.name.size ≤ 9223372036854775807) (k : R (.bool (validLb l)) G L) : CallT Tryz.prog 96 #[vT labelT l] G L R := by
  refine CallT.enter (args := _) Tryz.func96 rfl rfl (by kernel_rfl) rfl ?_
  refine WP.seq ?_
  refine WP.region ?_
  refine RG.ot rfl (OT.box (cs := labelT.enc l) rfl rfl rfl fun b1 => ?_)
  refine RG.pv rfl (PV.mvB (.inr rfl) rfl) ?_
  refine RG.nil ?_
  refine WP.seq ?_
  refine WP.region ?_
  refine RG.pv rfl (PV.field rfl Fo51_0 rfl) ?_
  refine RG.pv rfl (PV.load1 rfl Sc2 rfl (Rd.blk rfl)) ?_
  refine RG.callF (vs := [_, _, _]) rfl rfl En141 rfl (within_s ?_)
  refine RG.pv rfl (PV.mvB (.inl rfl) rfl) ?_
  refine RG.gs rfl rfl rfl (fun hp => (PV.field rfl Fo51_1 rfl)) ?_
  refine RG.gs rfl rfl rfl (fun hp => (PV.loadB (vs := [_, _]) rfl Ag49 (gs_t hp) rfl rfl)) ?_
  refine RG.gsC rfl rfl rfl rfl En142 (fun hp => ⟨_, (acons (gs_t hp) anil), unitCell_s ⟨rfl, rfl, rfl⟩⟩) ?_
  refine RG.pv rfl (PV.pickA rfl rfl (fun hq => gs_t (geqT hq)) rfl) ?_
  refine RG.pv rfl (PV.mvB (.inl rfl) rfl) ?_
  refine RG.gs rfl rfl rfl (fun hp => (PV.field rfl Fo51_2 rfl)) ?_
  refine RG.gs rfl rfl rfl (fun hp => (PV.load1 rfl Sc9 (gs_t hp) (Rd.blk rfl))) ?_
  refine RG.gsC rfl rfl rfl rfl En143 (fun hp => ⟨_, (acons (gs_t hp) anil), isName_i hs ⟨rfl, rfl, rfl⟩⟩) ?_
  refine RG.pv rfl (PV.pickA rfl rfl (fun hq => gs_t (geqT hq)) rfl) ?_
  refine RG.pv rfl (PV.mvB (.inr rfl) rfl) ?_
  refine RG.nil ?_
  refine WP.ret ?_
  exact ⟨_, _, ResV.one rfl rfl, Cv.p, k⟩
theorem l09In_s {a b c : Int} (k : R (.bool (within a b c)) G L) : CallT Tryz.prog 189 #[vi a, vi b, vi c] G L R := by
  refine CallT.enter (args := _) Tryz.func189 rfl rfl (by kernel_rfl) rfl ?_
  refine WP.seq ?_
  refine WP.region ?_
  refine RG.pv rfl (PV.mvB (.inr rfl) rfl) ?_
  refine RG.nil ?_
  refine WP.seq ?_
  refine WP.region ?_
  refine RG.pv rfl (PV.mvI (.inl rfl) rfl) ?_
  refine RG.pv rfl (PV.mvI (.inl rfl) rfl) ?_
  refine RG.pv rfl (PV.geq rfl rfl rfl) ?_
  refine RG.pv rfl (PV.mvB (.inl rfl) rfl) ?_
  refine RG.gs rfl rfl rfl (fun hp => (PV.mvI (.inl rfl) rfl)) ?_
  refine RG.gs rfl rfl rfl (fun hp => (PV.mvI (.inl rfl) rfl)) ?_
  refine RG.gs rfl rfl rfl (fun hp => (PV.leq rfl (gs_t hp) (gs_t hp))) ?_
  refine RG.pv rfl (PV.pickA rfl rfl (fun hq => gs_t (geqT hq)) rfl) ?_
  refine RG.pv rfl (PV.mvB (.inr rfl) rfl) ?_
  refine RG.nil ?_
  refine WP.ret ?_
  exact ⟨_, _, ResV.one rfl rfl, Cv.p, k⟩
theorem l09Layer_s {a : Int} (k : R (.bool (within a 0 7)) G L) : CallT Tryz.prog 129 #[vi a] G L R := by
  refine CallT.enter (args := _) Tryz.func129 rfl rfl (by kernel_rfl) rfl ?_
  refine WP.seq ?_
  refine WP.region ?_
  refine RG.pv rfl (PV.mvB (.inr rfl) rfl) ?_
  refine RG.nil ?_
  refine WP.seq ?_
  refine WP.region ?_
  refine RG.pv rfl (PV.mvI (.inl rfl) rfl) ?_
  refine RG.callF (vs := [_, _, _]) rfl rfl En189 rfl (l09In_s ?_)
  refine RG.pv rfl (PV.mvB (.inr rfl) rfl) ?_
  refine RG.nil ?_
  refine WP.ret ?_
  exact ⟨_, _, ResV.one rfl rfl, Cv.p, k⟩
theorem l09Unit_s {p : Pt} (k : R (.bool (unitB p)) G L) : CallT Tryz.prog 130 #[vpt p] G L R := by
  refine CallT.enter (args := _) Tryz.func130 rfl rfl (by kernel_rfl) rfl ?_
  refine WP.seq ?_
  refine WP.region ?_
  refine RG.ot rfl (OT.box (cs := ptT.enc p) rfl rfl rfl fun b1 => ?_)
  refine RG.pv rfl (PV.mvB (.inr rfl) rfl) ?_
  refine RG.nil ?_
  refine WP.seq ?_
  refine WP.region ?_
  refine RG.pv rfl (PV.field rfl Fo49_0 rfl) ?_
  refine RG.pv rfl (PV.load1 rfl Sc2 rfl (Rd.blk rfl)) ?_
  refine RG.callF (vs := [_, _, _]) rfl rfl En189 rfl (l09In_s ?_)
  refine RG.pv rfl (PV.mvB (.inl rfl) rfl) ?_
  refine RG.gs rfl rfl rfl (fun hp => (PV.field rfl Fo49_1 rfl)) ?_
  refine RG.gs rfl rfl rfl (fun hp => (PV.load1 rfl Sc2 (gs_t hp) (Rd.blk rfl))) ?_
  refine RG.gsC rfl rfl rfl rfl En189 (fun hp => ⟨_, (acons (gs_t hp) (acons rfl (acons rfl anil))), l09In_s ⟨rfl, rfl, rfl⟩⟩) ?_
  refine RG.pv rfl (PV.pickA rfl rfl (fun hq => gs_t (geqT hq)) rfl) ?_
  refine RG.pv rfl (PV.mvB (.inr rfl) rfl) ?_
  refine RG.nil ?_
  refine WP.ret ?_
  exact ⟨_, _, ResV.one rfl rfl, Cv.p, k⟩
theorem validLb_r {l : Label} (hs : l.name.size ≤ 9223372036854775807) (k : R (.bool (validLb l)) G L) : CallT Tryz.prog 82 #[vT labelT l] G L R := by
  refine CallT.enter (args := _) Tryz.func82 rfl rfl (by kernel_rfl) rfl ?_
  refine WP.seq ?_
  refine WP.region ?_
  refine RG.ot rfl (OT.box (cs := labelT.enc l) rfl rfl rfl fun b1 => ?_)
  refine RG.pv rfl (PV.mvB (.inr rfl) rfl) ?_
  refine RG.nil ?_
  refine WP.seq ?_
  refine WP.region ?_
  refine RG.pv rfl (PV.field rfl Fo51_0 rfl) ?_
  refine RG.pv rfl (PV.load1 rfl Sc2 rfl (Rd.blk rfl)) ?_
  refine RG.callF (vs := [_]) rfl rfl En129 rfl (l09Layer_s ?_)
  refine RG.pv rfl (PV.mvB (.inl rfl) rfl) ?_
  refine RG.gs rfl rfl rfl (fun hp => (PV.field rfl Fo51_1 rfl)) ?_
  refine RG.gs rfl rfl rfl (fun hp => (PV.loadB (vs := [_, _]) rfl Ag49 (gs_t hp) rfl rfl)) ?_
  refine RG.gsC rfl rfl rfl rfl En130 (fun hp => ⟨_, (acons (gs_t hp) anil), l09Unit_s ⟨rfl, rfl, rfl⟩⟩) ?_
  refine RG.pv rfl (PV.pickA rfl rfl (fun hq => gs_t (geqT hq)) rfl) ?_
  refine RG.pv rfl (PV.mvB (.inl rfl) rfl) ?_
  refine RG.gs rfl rfl rfl (fun hp => (PV.field rfl Fo51_2 rfl)) ?_
  refine RG.gs rfl rfl rfl (fun hp => (PV.load1 rfl Sc9 (gs_t hp) (Rd.blk rfl))) ?_
  refine RG.gsC rfl rfl rfl rfl En131 (fun hp => ⟨_, (acons (gs_t hp) anil), isName_r hs ⟨rfl, rfl, rfl⟩⟩) ?_
  refine RG.pv rfl (PV.pickA rfl rfl (fun hq => gs_t (geqT hq)) rfl) ?_
  refine RG.pv rfl (PV.mvB (.inr rfl) rfl) ?_
  refine RG.nil ?_
  refine WP.ret ?_
  exact ⟨_, _, ResV.one rfl rfl, Cv.p, k⟩
theorem notLb_s {l : Label} (hs : l.name.size ≤ 9223372036854775807) (k : R (.bool (!validLb l)) G L) : CallT Tryz.prog 95 #[vT labelT l] G L R := by
  refine CallT.enter (args := _) Tryz.func95 rfl rfl (by kernel_rfl) rfl ?_
  refine WP.seq ?_
  refine WP.region ?_
  refine RG.ot rfl (OT.box (cs := labelT.enc l) rfl rfl rfl fun b1 => ?_)
  refine RG.pv rfl (PV.mvB (.inr rfl) rfl) ?_
  refine RG.nil ?_
  refine WP.seq ?_
  refine WP.region ?_
  refine RG.pv rfl (PV.loadW rfl Ag51 rfl rfl) ?_
  refine RG.callF (vs := [_]) rfl rfl En96 rfl (validLb_i hs ?_)
  refine RG.pv rfl (PV.not rfl rfl) ?_
  refine RG.pv rfl (PV.mvB (.inr rfl) rfl) ?_
  refine RG.nil ?_
  refine WP.ret ?_
  exact ⟨_, _, ResV.one rfl rfl, Cv.p, k⟩
theorem indexF_label {v fv : Value} {xs : List (Label)} {p : (Label) → Bool} (h1 : Rs G L labelT v xs) (hf : ∀ i, i < xs.length → CB Tryz.prog G L fv [vT labelT (gd xs i)] (.bool (p (gd xs i)))) (k : R (vi (idxI p xs)) G L) : CallT Tryz.prog 140 #[v, fv] G L R := by
  refine CallT.bd h1 fun hb => ?_
  refine CallT.enter (args := _) Tryz.func140 rfl rfl (by kernel_rfl) rfl ?_
  refine WP.seq ?_
  refine WP.region ?_
  refine RG.pv rfl (PV.mvI (.inr rfl) rfl) ?_
  refine RG.nil ?_
  refine WP.seq ?_
  refine WP.seq ?_
  refine WP.region ?_
  refine RG.pv rfl (PV.move (v := v) rfl rfl) ?_
  refine RG.pv rfl (PV.len (v := v) rfl Tryz.underlying31 rfl (SlF.r h1)) ?_
  refine RG.pv rfl (PV.mvI (.inl rfl) rfl) ?_
  refine RG.nil ?_
  refine WP.block ?_
  refine WP.loop1 [0, 1, 7] (fun i => i ≤ xs.length ∧ ∀ j, j < i → p (gd xs j) = false) (fun i => [(8, vi i)]) (fun i => L) (fun i => xs.length - i) 0 ⟨by omega, fun j h => by omega⟩ ⟨rfl, trivial⟩ Cv.p ?_
  rintro i τ ⟨hi, hj⟩
  refine WP.seq ?_
  refine WP.region ?_
  refine RG.pv rfl (PV.lss rfl rfl rfl) ?_
  refine RG.nil ?_
  refine WP.seq ?_
  refine WP.cond rfl (fun h2 => ?_) (fun h2 => ?_)
  · have h2 := of_decide_eq_true h2
    refine WP.skip ?_
    refine WP.seq ?_
    refine WP.block ?_
    refine WP.seq ?_
    refine WP.region ?_
    refine RG.pv rfl (PV.mvI (.inl rfl) rfl) ?_
    refine RG.pv rfl (PV.mvI (.inr rfl) rfl) ?_
    refine RG.nil ?_
    refine WP.seq ?_
    refine WP.region ?_
    refine RG.pv rfl (PV.move (v := fv) rfl rfl) ?_
    refine RG.pv rfl (PV.move (v := v) rfl rfl) ?_
    refine RG.pv rfl (PV.mvI (.inl rfl) rfl) ?_
    refine RG.pv rfl (PV.idxS (v := v) rfl Is31 rfl (SlF.r h1) rfl rfl (by omega)) ?_
    refine RG.pv rfl (PV.loadE rfl Ag51 rfl rfl (El.r h1 (getG (by omega)))) ?_
    refine RG.callB (vs := [_]) rfl rfl rfl rfl (CB.up (hf i (by omega))) ?_
    refine RG.nil ?_
    refine WP.cond rfl (fun h3 => ?_) (fun h3 => ?_)
    · rw [idxI_at (by omega) h3 hj] at k
      refine WP.seq ?_
      refine WP.region ?_
      refine RG.pv rfl (PV.mvI (.inl rfl) rfl) ?_
      refine RG.pv rfl (PV.mvI (.inr rfl) rfl) ?_
      refine RG.nil ?_
      refine WP.ret ?_
      exact ⟨_, _, ResV.one rfl rfl, Cv.p, k⟩
    · have hj' : ∀ j, j < i + 1 → p (gd xs j) = false := fun j h => by
        by_cases c : j = i
        · rw [c]; exact h3
        · exact hj j (by omega)
      refine WP.skip ?_
      refine WP.region ?_
      refine RG.pv rfl (PV.add rfl rfl rfl (by omega)) ?_
      refine RG.pv rfl (PV.mvI (.inl rfl) rfl) ?_
      refine RG.nil ?_
      exact ⟨rfl, i + 1, ⟨by omega, hj'⟩, ⟨rfl, trivial⟩, ⟨rfl, rfl, rfl, trivial⟩, Cv.p, by omega⟩
  · have h2 := of_decide_eq_false h2
    rw [idxI_none (fun j h => hj j (by omega))] at k
    refine WP.exit ?_
    refine WP.seq ?_
    refine WP.region ?_
    refine RG.pv rfl (PV.mvI (.inr rfl) rfl) ?_
    refine RG.nil ?_
    refine WP.ret ?_
    exact ⟨_, _, ResV.one rfl rfl, Cv.p, k⟩
theorem containsF_label {v fv : Value} {xs : List (Label)} {p : (Label) → Bool} (h1 : Rs G L labelT v xs) (hf : ∀ i, i < xs.length → CB Tryz.prog G L fv [vT labelT (gd xs i)] (.bool (p (gd xs i)))) (k : R (.bool (xs.any p)) G L) : CallT Tryz.prog 94 #[v, fv] G L R := by
  rw [← idxI_any] at k
  refine CallT.enter (args := _) Tryz.func94 rfl rfl (by kernel_rfl) rfl ?_
  refine WP.seq ?_
  refine WP.region ?_
  refine RG.pv rfl (PV.mvB (.inr rfl) rfl) ?_
  refine RG.nil ?_
  refine WP.seq ?_
  refine WP.region ?_
  refine RG.pv rfl (PV.move (v := v) rfl rfl) ?_
  refine RG.pv rfl (PV.move (v := fv) rfl rfl) ?_
  refine RG.callF (vs := [v, fv]) rfl rfl En140 rfl (indexF_label (Rs.up h1) (fun i hi => (hf i hi).up) ?_)
  refine RG.pv rfl (PV.geq rfl rfl rfl) ?_
  refine RG.pv rfl (PV.mvB (.inr rfl) rfl) ?_
  refine RG.nil ?_
  refine WP.ret ?_
  exact ⟨_, _, ResV.one rfl rfl, Cv.p, k⟩
def labelsOk (xs : List Label) : Bool := decide ((xs.length : Int) ≤ 1600) && !(xs.any fun l => !validLb l)
theorem validLbs_i {v : Value} {xs : List Label} (h1 : Rs G L labelT v xs) (hlen : ∀ i, i < xs.length → (gd xs i).name.size ≤ 9223372036854775807) (k : R (.bool (labelsOk xs)) G L) : CallT Tryz.prog 54 #[v] G L R := by
  refine CallT.enter (args := _) Tryz.func54 rfl rfl (by kernel_rfl) rfl ?_
  refine WP.seq ?_
  refine WP.region ?_
  refine RG.pv rfl (PV.mvB (.inr rfl) rfl) ?_
  refine RG.nil ?_
  refine WP.seq ?_
  refine WP.region ?_
  refine RG.pv rfl (PV.move (v := v) rfl rfl) ?_
  refine RG.pv rfl (PV.len (v := v) rfl Tryz.underlying31 rfl (SlF.r h1)) ?_
  refine RG.pv rfl (PV.leq rfl rfl rfl) ?_
  refine RG.pv rfl (PV.mvB (.inl rfl) rfl) ?_
  refine RG.gs rfl rfl rfl (fun hp => (PV.move (v := v) rfl rfl)) ?_
  refine RG.gsC rfl rfl rfl rfl En94 (fun hp => ⟨_, (acons (gs_t hp) (acons rfl anil)), containsF_label (Rs.up h1) (p := fun l => !validLb l) (fun i hi => CB.mk0 En95 fun L' R c k => notLb_s (hlen i hi) k) ⟨rfl, rfl, rfl⟩⟩) ?_
  refine RG.gs rfl rfl rfl (fun hp => (PV.not rfl (gs_t hp))) ?_
  refine RG.pv rfl (PV.pickA rfl rfl (fun hq => gs_t (geqT hq)) rfl) ?_
  refine RG.pv rfl (PV.mvB (.inr rfl) rfl) ?_
  refine RG.nil ?_
  refine WP.ret ?_
  exact ⟨_, _, ResV.one rfl rfl, Cv.p, k⟩
theorem validLbs_r {v : Value} {xs : List Label} (h1 : Rs G L labelT v xs) (hlen : ∀ i, i < xs.length → (gd xs i).name.size ≤ 9223372036854775807) (k : R (.bool (labelsOk xs)) G L) : CallT Tryz.prog 46 #[v] G L R := by
  refine CallT.bd h1 fun hb => ?_
  refine CallT.enter (args := _) Tryz.func46 rfl rfl (by kernel_rfl) rfl ?_
  refine WP.seq ?_
  refine WP.region ?_
  refine RG.pv rfl (PV.mvB (.inr rfl) rfl) ?_
  refine RG.nil ?_
  refine WP.seq ?_
  refine WP.seq ?_
  refine WP.region ?_
  refine RG.pv rfl (PV.mvI (.inr rfl) rfl) ?_
  refine RG.nil ?_
  refine WP.block ?_
  refine WP.loop1 [0] (fun i => i ≤ xs.length ∧ ∀ j, j < i → validLb (gd xs j) = true) (fun i => [(3, vi i)]) (fun i => L) (fun i => xs.length - i) 0 ⟨by omega, fun j h => by omega⟩ ⟨rfl, trivial⟩ Cv.p ?_
  rintro i τ ⟨hi, hj⟩
  refine WP.seq ?_
  refine WP.seq ?_
  refine WP.region ?_
  refine RG.pv rfl (PV.mvI (.inl rfl) rfl) ?_
  refine RG.pv rfl (PV.move (v := v) rfl rfl) ?_
  refine RG.pv rfl (PV.len (v := v) rfl Tryz.underlying31 rfl (SlF.r h1)) ?_
  refine RG.pv rfl (PV.lss rfl rfl rfl) ?_
  refine RG.nil ?_
  refine WP.cond rfl (fun h2 => ?_) (fun h2 => ?_)
  · have h2 := of_decide_eq_true h2
    have h3 : i < xs.length := by omega
    refine WP.skip ?_
    refine WP.seq ?_
    refine WP.block ?_
    refine WP.seq ?_
    refine WP.region ?_
    refine RG.pv rfl (PV.move (v := v) rfl rfl) ?_
    refine RG.pv rfl (PV.mvI (.inl rfl) rfl) ?_
    refine RG.pv rfl (PV.idxS (v := v) rfl Is31 rfl (SlF.r h1) rfl rfl (by omega)) ?_
    refine RG.pv rfl (PV.loadE rfl Ag51 rfl rfl (El.r h1 (getG (by omega)))) ?_
    refine RG.callF (vs := [_]) rfl rfl En82 rfl (validLb_r (hlen _ (by assumption)) ?_)
    refine RG.pv rfl (PV.not rfl rfl) ?_
    refine RG.nil ?_
    refine WP.cond rfl (fun h4 => ?_) (fun h4 => ?_)
    · have e : labelsOk xs = false := by
        have : (xs.any fun l => !validLb l) = true := List.any_eq_true.2 ⟨gd xs i, gd_mem h3, h4⟩
        rw [labelsOk, this]; simp
      rw [e] at k
      refine WP.seq ?_
      refine WP.region ?_
      refine RG.pv rfl (PV.mvB (.inr rfl) rfl) ?_
      refine RG.nil ?_
      refine WP.ret ?_
      exact ⟨_, _, ResV.one rfl rfl, Cv.p, k⟩
    · have hj' : ∀ j, j < i + 1 → validLb (gd xs j) = true := fun j h => by
        by_cases c : j = i
        · rw [c]; simpa using h4
        · exact hj j (by omega)
      refine WP.skip ?_
      refine WP.region ?_
      refine RG.pv rfl (PV.mvI (.inl rfl) rfl) ?_
      refine RG.pv rfl (PV.add rfl rfl rfl (by omega)) ?_
      refine RG.pv rfl (PV.mvI (.inr rfl) rfl) ?_
      refine RG.nil ?_
      exact ⟨rfl, i + 1, ⟨by omega, hj'⟩, ⟨rfl, trivial⟩, ⟨rfl, trivial⟩, Cv.p, by omega⟩
  · have h2 := of_decide_eq_false h2
    have e : labelsOk xs = decide ((xs.length : Int) ≤ 1600) := by
      have : (xs.any fun l => !validLb l) = false := by
        rw [List.any_eq_false]
        intro l hl
        obtain ⟨j, hj2, rfl⟩ := List.getElem_of_mem hl
        have := hj j (by omega)
        rw [gd_eq hj2] at this
        simp [this]
      rw [labelsOk, this]; simp
    rw [e] at k
    refine WP.exit ?_
    refine WP.seq ?_
    refine WP.region ?_
    refine RG.pv rfl (PV.move (v := v) rfl rfl) ?_
    refine RG.pv rfl (PV.len (v := v) rfl Tryz.underlying31 rfl (SlF.r h1)) ?_
    refine RG.pv rfl (PV.leq rfl rfl rfl) ?_
    refine RG.pv rfl (PV.mvB (.inr rfl) rfl) ?_
    refine RG.nil ?_
    refine WP.ret ?_
    exact ⟨_, _, ResV.one rfl rfl, Cv.p, k⟩
theorem toLabel_s {l : Label} (k : R (vT labelT l) G L) : CallT Tryz.prog 52 #[vT labelT l] G L R := by
  refine CallT.enter (args := _) Tryz.func52 rfl rfl (by kernel_rfl) rfl ?_
  refine WP.seq ?_
  refine WP.region ?_
  refine RG.ot rfl (OT.box (cs := labelT.enc l) rfl rfl rfl fun b1 => ?_)
  refine RG.ot rfl (OT.alloc rfl Zr51 fun b2 => ?_)
  refine RG.nil ?_
  refine WP.seq ?_
  refine WP.region ?_
  refine RG.ot rfl (OT.alloc rfl Zr51 fun b3 => ?_)
  refine RG.nil ?_
  refine WP.seq ?_
  refine WP.region ?_
  refine RG.pv rfl (PV.field rfl Fo76_0 rfl) ?_
  refine RG.pv rfl (PV.load1 rfl Sc2 rfl (Rd.blk rfl)) ?_
  refine RG.pv rfl (PV.field rfl Fo51_0 rfl) ?_
  refine RG.ot rfl (OT.storeB (vs := [vi _]) (cs' := [_, _, _, _]) rfl Sz2 rfl rfl (Cl.c rfl) rfl (OneC.c rfl) rfl rfl ?_)
  refine RG.nil ?_
  refine WP.seq ?_
  refine WP.region ?_
  refine RG.pv rfl (PV.field rfl Fo76_1 rfl) ?_
  refine RG.pv rfl (PV.loadB (vs := [_, _]) rfl Ag74 rfl rfl rfl) ?_
  refine RG.callF (vs := [_]) rfl rfl En90 rfl (toPoint_s ?_)
  refine RG.pv rfl (PV.field rfl Fo51_1 rfl) ?_
  refine RG.ot rfl (OT.storeB (vs := [vi _, vi _]) (cs' := [_, _, _, _]) rfl Sz49 rfl rfl (Cl.c rfl) rfl (OneC.c rfl) rfl rfl ?_)
  refine RG.nil ?_
  refine WP.seq ?_
  refine WP.region ?_
  refine RG.pv rfl (PV.field rfl Fo76_2 rfl) ?_
  refine RG.pv rfl (PV.load1 rfl Sc9 rfl (Rd.blk rfl)) ?_
  refine RG.pv rfl (PV.field rfl Fo51_2 rfl) ?_
  refine RG.ot rfl (OT.storeB (vs := [.string _]) (cs' := [_, _, _, _]) rfl Sz9 rfl rfl (Cl.c rfl) rfl (OneC.c rfl) rfl rfl ?_)
  refine RG.nil ?_
  refine WP.seq ?_
  refine WP.region ?_
  refine RG.pv rfl (PV.loadW rfl Ag51 rfl rfl) ?_
  refine RG.ot rfl (OT.storeW (vs := [vi _, vi _, vi _, .string _]) rfl Sz51 rfl rfl (Cl.c rfl) rfl rfl (OneC.c rfl) ?_)
  refine RG.nil ?_
  refine WP.ret ?_
  exact ⟨_, _, ResV.one rfl (RV1.cell rfl Ag51 rfl), Cv.p, k⟩
theorem toLabelS_s {v : Value} {xs : List Label} (h1 : Rs G L labelT v xs) (hb : xs.length ≤ 1048576) (k : ∀ v', R v' G (osl 51 labelT v' xs :: L)) : CallT Tryz.prog 13 #[v] G L R := by
  refine CallT.enter (args := _) Tryz.func13 rfl rfl (by kernel_rfl) rfl ?_
  refine WP.seq ?_
  refine WP.region ?_
  refine RG.pv rfl (PV.asg rfl rfl) ?_
  refine RG.nil ?_
  refine WP.seq ?_
  refine WP.region ?_
  refine RG.pv rfl (PV.move (v := v) rfl rfl) ?_
  refine RG.pv rfl (PV.len (v := v) rfl Tryz.underlying23 rfl (SlF.r h1)) ?_
  refine RG.ot rfl (OT.make (F := labelT) (a0 := default) rfl El31 rfl (by decide) rfl rfl (by omega) (by omega) fun v7 => ?_)
  refine RG.pv rfl (PV.asg (v := v7) rfl rfl) ?_
  refine RG.nil ?_
  refine WP.seq ?_
  refine WP.seq ?_
  refine WP.region ?_
  refine RG.pv rfl (PV.mvI (.inr rfl) rfl) ?_
  refine RG.nil ?_
  refine WP.block ?_
  refine WP.loop2 [0, 3] (fun i ys => i ≤ xs.length ∧ ys.length = xs.length ∧ ∀ j, j < i → ys[j]? = xs[j]?) (fun i ys => [(4, vi i)]) (fun i ys => osl 51 labelT v7 ys :: L) (fun i ys => xs.length - i) 0 (List.replicate xs.length default) ⟨by omega, by simp, fun j h => by omega⟩ ⟨rfl, trivial⟩ Cv.p ?_
  rintro i ys τ ⟨hi, hl, he⟩
  refine WP.seq ?_
  refine WP.seq ?_
  refine WP.region ?_
  refine RG.pv rfl (PV.mvI (.inl rfl) rfl) ?_
  refine RG.pv rfl (PV.move (v := v) rfl rfl) ?_
  refine RG.pv rfl (PV.len (v := v) rfl Tryz.underlying23 rfl (SlF.r h1)) ?_
  refine RG.pv rfl (PV.lss rfl rfl rfl) ?_
  refine RG.nil ?_
  refine WP.cond rfl (fun h2 => ?_) (fun h2 => ?_)
  · have h2 := of_decide_eq_true h2
    refine WP.skip ?_
    refine WP.seq ?_
    refine WP.block ?_
    refine WP.region ?_
    refine RG.pv rfl (PV.move (v := v7) rfl rfl) ?_
    refine RG.pv rfl (PV.mvI (.inl rfl) rfl) ?_
    refine RG.pv rfl (PV.move (v := v) rfl rfl) ?_
    refine RG.pv rfl (PV.mvI (.inl rfl) rfl) ?_
    refine RG.pv rfl (PV.idxS (v := v) rfl Is23 rfl (SlF.r h1) rfl rfl (by omega)) ?_
    refine RG.pv rfl (PV.loadE rfl Ag76 rfl rfl (El.r h1 (getG (by omega)))) ?_
    refine RG.callF (vs := [_]) rfl rfl En52 rfl (toLabel_s ?_)
    refine RG.pv rfl (PV.idxS (v := v7) rfl Is31 rfl SlF.o rfl rfl (by omega)) ?_
    refine RG.ot rfl (OT.storeE (F := labelT) rfl Sz51 rfl rfl rfl (Cl.c rfl) (OneC.c rfl) (by omega) ?_)
    refine RG.nil ?_
    refine WP.region ?_
    refine RG.pv rfl (PV.mvI (.inl rfl) rfl) ?_
    refine RG.pv rfl (PV.add rfl rfl rfl (by omega)) ?_
    refine RG.pv rfl (PV.mvI (.inr rfl) rfl) ?_
    refine RG.nil ?_
    exact ⟨rfl, i + 1, _, ⟨by omega, by simpa using hl, set_pre he (getG (by omega)) hl⟩, ⟨rfl, trivial⟩, ⟨rfl, rfl, trivial⟩, Cv.p, by omega⟩
  · have h2 := of_decide_eq_false h2
    obtain rfl := pre_eq he hl (by omega)
    refine WP.exit ?_
    refine WP.seq ?_
    refine WP.region ?_
    refine RG.pv rfl (PV.move (v := v7) rfl rfl) ?_
    refine RG.pv rfl (PV.asg (v := v7) rfl rfl) ?_
    refine RG.nil ?_
    refine WP.ret ?_
    exact ⟨_, _, ResV.one rfl rfl, Cv.p, k v7⟩
theorem eqPoint_s {p q : Pt} (k : R (.bool (decide (p = q))) G L) : CallT Tryz.prog 104 #[vpt p, vpt q] G L R := by
  refine CallT.enter (args := _) Tryz.func104 rfl rfl (by kernel_rfl) rfl ?_
  refine WP.seq ?_
  refine WP.region ?_
  refine RG.ot rfl (OT.box (cs := ptT.enc p) rfl rfl rfl fun b2 => ?_)
  refine RG.ot rfl (OT.box (cs := ptT.enc q) rfl rfl rfl fun b3 => ?_)
  refine RG.pv rfl (PV.mvB (.inr rfl) rfl) ?_
  refine RG.nil ?_
  refine WP.seq ?_
  refine WP.seq ?_
  refine WP.region ?_
  refine RG.pv rfl (PV.field rfl Fo49_0 rfl) ?_
  refine RG.pv rfl (PV.load1 rfl Sc2 rfl (Rd.blk rfl)) ?_
  refine RG.pv rfl (PV.field rfl Fo49_0 rfl) ?_
  refine RG.pv rfl (PV.load1 rfl Sc2 rfl (Rd.blk rfl)) ?_
  refine RG.pv rfl (PV.neq rfl rfl rfl) ?_
  refine RG.nil ?_
  refine WP.cond rfl (fun h1 => ?_) (fun h1 => ?_)
  · have e : decide (p = q) = false := by
      obtain ⟨a1, a2⟩ := p; obtain ⟨b1, b2⟩ := q
      simp at h1 ⊢; intro e; exact absurd e h1
    rw [e] at k
    refine WP.seq ?_
    refine WP.region ?_
    refine RG.pv rfl (PV.mvB (.inr rfl) rfl) ?_
    refine RG.nil ?_
    refine WP.ret ?_
    exact ⟨_, _, ResV.one rfl rfl, Cv.p, k⟩
  · refine WP.skip ?_
    refine WP.seq ?_
    refine WP.seq ?_
    refine WP.region ?_
    refine RG.pv rfl (PV.field rfl Fo49_1 rfl) ?_
    refine RG.pv rfl (PV.load1 rfl Sc2 rfl (Rd.blk rfl)) ?_
    refine RG.pv rfl (PV.field rfl Fo49_1 rfl) ?_
    refine RG.pv rfl (PV.load1 rfl Sc2 rfl (Rd.blk rfl)) ?_
    refine RG.pv rfl (PV.neq rfl rfl rfl) ?_
    refine RG.nil ?_
    refine WP.cond rfl (fun h2 => ?_) (fun h2 => ?_)
    · have e : decide (p = q) = false := by
        obtain ⟨a1, a2⟩ := p; obtain ⟨b1, b2⟩ := q
        simp at h2 ⊢; exact fun _ => h2
      rw [e] at k
      refine WP.seq ?_
      refine WP.region ?_
      refine RG.pv rfl (PV.mvB (.inr rfl) rfl) ?_
      refine RG.nil ?_
      refine WP.ret ?_
      exact ⟨_, _, ResV.one rfl rfl, Cv.p, k⟩
    · have e : decide (p = q) = true := by
        obtain ⟨a1, a2⟩ := p; obtain ⟨b1, b2⟩ := q
        simp at h1 h2 ⊢; exact ⟨h1, h2⟩
      rw [e] at k
      refine WP.skip ?_
      refine WP.seq ?_
      refine WP.region ?_
      refine RG.pv rfl (PV.mvB (.inr rfl) rfl) ?_
      refine RG.nil ?_
      refine WP.ret ?_
      exact ⟨_, _, ResV.one rfl rfl, Cv.p, k⟩
theorem eqLabel_s {a b : Label} (k : R (.bool (decide (a = b))) G L) : CallT Tryz.prog 58 #[vT labelT a, vT labelT b] G L R := by
  refine CallT.enter (args := _) Tryz.func58 rfl rfl (by kernel_rfl) rfl ?_
  refine WP.seq ?_
  refine WP.region ?_
  refine RG.ot rfl (OT.box (cs := labelT.enc a) rfl rfl rfl fun b2 => ?_)
  refine RG.ot rfl (OT.box (cs := labelT.enc b) rfl rfl rfl fun b3 => ?_)
  refine RG.pv rfl (PV.mvB (.inr rfl) rfl) ?_
  refine RG.nil ?_
  refine WP.seq ?_
  refine WP.seq ?_
  refine WP.region ?_
  refine RG.pv rfl (PV.field rfl Fo51_0 rfl) ?_
  refine RG.pv rfl (PV.load1 rfl Sc2 rfl (Rd.blk rfl)) ?_
  refine RG.pv rfl (PV.field rfl Fo51_0 rfl) ?_
  refine RG.pv rfl (PV.load1 rfl Sc2 rfl (Rd.blk rfl)) ?_
  refine RG.pv rfl (PV.neq rfl rfl rfl) ?_
  refine RG.nil ?_
  refine WP.cond rfl (fun h1 => ?_) (fun h1 => ?_)
  · have e : decide (a = b) = false := by
      rw [decide_eq_false_iff_not]; rintro rfl; simp at h1
    rw [e] at k
    refine WP.seq ?_
    refine WP.region ?_
    refine RG.pv rfl (PV.mvB (.inr rfl) rfl) ?_
    refine RG.nil ?_
    refine WP.ret ?_
    exact ⟨_, _, ResV.one rfl rfl, Cv.p, k⟩
  · refine WP.skip ?_
    refine WP.seq ?_
    refine WP.seq ?_
    refine WP.region ?_
    refine RG.pv rfl (PV.field rfl Fo51_1 rfl) ?_
    refine RG.pv rfl (PV.loadB (vs := [_, _]) rfl Ag49 rfl rfl rfl) ?_
    refine RG.pv rfl (PV.field rfl Fo51_1 rfl) ?_
    refine RG.pv rfl (PV.loadB (vs := [_, _]) rfl Ag49 rfl rfl rfl) ?_
    refine RG.callF (vs := [_, _]) rfl rfl En104 rfl (eqPoint_s ?_)
    refine RG.pv rfl (PV.not rfl rfl) ?_
    refine RG.nil ?_
    refine WP.cond rfl (fun h2 => ?_) (fun h2 => ?_)
    · have e : decide (a = b) = false := by
        rw [decide_eq_false_iff_not]; rintro rfl; simp at h2
      rw [e] at k
      refine WP.seq ?_
      refine WP.region ?_
      refine RG.pv rfl (PV.mvB (.inr rfl) rfl) ?_
      refine RG.nil ?_
      refine WP.ret ?_
      exact ⟨_, _, ResV.one rfl rfl, Cv.p, k⟩
    · refine WP.skip ?_
      refine WP.seq ?_
      refine WP.seq ?_
      refine WP.region ?_
      refine RG.pv rfl (PV.field rfl Fo51_2 rfl) ?_
      refine RG.pv rfl (PV.load1 rfl Sc9 rfl (Rd.blk rfl)) ?_
      refine RG.pv rfl (PV.field rfl Fo51_2 rfl) ?_
      refine RG.pv rfl (PV.load1 rfl Sc9 rfl (Rd.blk rfl)) ?_
      refine RG.pv rfl (PV.neqS rfl rfl rfl) ?_
      refine RG.nil ?_
      refine WP.cond rfl (fun h3 => ?_) (fun h3 => ?_)
      · have e : decide (a = b) = false := by
          rw [decide_eq_false_iff_not]; rintro rfl; simp at h3
        rw [e] at k
        refine WP.seq ?_
        refine WP.region ?_
        refine RG.pv rfl (PV.mvB (.inr rfl) rfl) ?_
        refine RG.nil ?_
        refine WP.ret ?_
        exact ⟨_, _, ResV.one rfl rfl, Cv.p, k⟩
      · have e : decide (a = b) = true := by
          obtain ⟨a1, a2, a3⟩ := a; obtain ⟨b1, b2, b3⟩ := b
          simp at h1 h2 h3 ⊢; exact ⟨h1, h2, h3⟩
        rw [e] at k
        refine WP.skip ?_
        refine WP.seq ?_
        refine WP.region ?_
        refine RG.pv rfl (PV.mvB (.inr rfl) rfl) ?_
        refine RG.nil ?_
        refine WP.ret ?_
        exact ⟨_, _, ResV.one rfl rfl, Cv.p, k⟩
theorem eqLabelS_s {v u : Value} {xs ys : List Label} (h1 : Rs G L labelT v xs) (h2 : Rs G L labelT u ys) (k : R (.bool (decide (xs = ys))) G L) : CallT Tryz.prog 17 #[v, u] G L R := by
  refine CallT.bd h1 fun hb => ?_
  refine CallT.bd h2 fun hb' => ?_
  refine CallT.enter (args := _) Tryz.func17 rfl rfl (by kernel_rfl) rfl ?_
  refine WP.seq ?_
  refine WP.region ?_
  refine RG.pv rfl (PV.mvB (.inr rfl) rfl) ?_
  refine RG.nil ?_
  refine WP.seq ?_
  refine WP.seq ?_
  refine WP.region ?_
  refine RG.pv rfl (PV.move (v := v) rfl rfl) ?_
  refine RG.pv rfl (PV.len (v := v) rfl Tryz.underlying31 rfl (SlF.r h1)) ?_
  refine RG.pv rfl (PV.move (v := u) rfl rfl) ?_
  refine RG.pv rfl (PV.len (v := u) rfl Tryz.underlying31 rfl (SlF.r h2)) ?_
  refine RG.pv rfl (PV.neq rfl rfl rfl) ?_
  refine RG.nil ?_
  refine WP.cond rfl (fun h3 => ?_) (fun h3 => ?_)
  · have e : decide (xs = ys) = false := by
      rw [decide_eq_false_iff_not]; rintro rfl; simp at h3
    rw [e] at k
    refine WP.seq ?_
    refine WP.region ?_
    refine RG.pv rfl (PV.mvB (.inr rfl) rfl) ?_
    refine RG.nil ?_
    refine WP.ret ?_
    exact ⟨_, _, ResV.one rfl rfl, Cv.p, k⟩
  · have hl : xs.length = ys.length := by simp at h3; omega
    refine WP.skip ?_
    refine WP.seq ?_
    refine WP.seq ?_
    refine WP.region ?_
    refine RG.pv rfl (PV.mvI (.inr rfl) rfl) ?_
    refine RG.nil ?_
    refine WP.block ?_
    refine WP.loop1 [0, 1] (fun i => i ≤ xs.length ∧ ∀ j, j < i → xs[j]? = ys[j]?) (fun i => [(5, vi i)]) (fun i => L) (fun i => xs.length - i) 0 ⟨by omega, fun j h => by omega⟩ ⟨rfl, trivial⟩ Cv.p ?_
    rintro i τ ⟨hi, he⟩
    refine WP.seq ?_
    refine WP.seq ?_
    refine WP.region ?_
    refine RG.pv rfl (PV.mvI (.inl rfl) rfl) ?_
    refine RG.pv rfl (PV.move (v := v) rfl rfl) ?_
    refine RG.pv rfl (PV.len (v := v) rfl Tryz.underlying31 rfl (SlF.r h1)) ?_
    refine RG.pv rfl (PV.lss rfl rfl rfl) ?_
    refine RG.nil ?_
    refine WP.cond rfl (fun h4 => ?_) (fun h4 => ?_)
    · have h4 := of_decide_eq_true h4
      have h5 : i < xs.length := by omega
      refine WP.skip ?_
      refine WP.seq ?_
      refine WP.block ?_
      refine WP.seq ?_
      refine WP.regionQ (by kernel_rfl) (by kernel_rfl) ?_
      refine RQ.pv rfl (PV.move (v := v) rfl rfl) ?_
      refine RQ.pv rfl (PV.mvI (.inl rfl) rfl) ?_
      refine RQ.pv rfl (PV.idxS (v := v) rfl Is31 rfl (SlF.r h1) rfl rfl (by omega)) ?_
      refine RQ.pv rfl (PV.loadE rfl Ag51 rfl rfl (El.r h1 (getG (by omega)))) ?_
      refine RQ.pv rfl (PV.move (v := u) rfl rfl) ?_
      refine RQ.pv rfl (PV.mvI (.inl rfl) rfl) ?_
      refine RQ.pv rfl (PV.idxS (v := u) rfl Is31 rfl (SlF.r h2) rfl rfl (by omega)) ?_
      refine RQ.pv rfl (PV.loadE rfl Ag51 rfl rfl (El.r h2 (getG (by omega)))) ?_
      refine RQ.callF (vs := [_, _]) rfl rfl En58 rfl (eqLabel_s ⟨rfl, rfl, rfl⟩) ?_
      refine RQ.pv rfl (PV.not rfl rfl) ?_
      refine RQ.nil ?_
      refine WP.cond rfl (fun h6 => ?_) (fun h6 => ?_)
      · have e : decide (xs = ys) = false := by
          rw [decide_eq_false_iff_not]; rintro rfl; simp at h6
        rw [e] at k
        refine WP.seq ?_
        refine WP.region ?_
        refine RG.pv rfl (PV.mvB (.inr rfl) rfl) ?_
        refine RG.nil ?_
        refine WP.ret ?_
        exact ⟨_, _, ResV.one rfl rfl, Cv.p, k⟩
      · have e : gd xs i = gd ys i := by simpa using h6
        have he' : ∀ j, j < i + 1 → xs[j]? = ys[j]? := fun j h => by
          by_cases c : j = i
          · rw [c, getG h5, getG (show i < ys.length by omega), e]
          · exact he j (by omega)
        refine WP.skip ?_
        refine WP.region ?_
        refine RG.pv rfl (PV.mvI (.inl rfl) rfl) ?_
        refine RG.pv rfl (PV.add rfl rfl rfl (by omega)) ?_
        refine RG.pv rfl (PV.mvI (.inr rfl) rfl) ?_
        refine RG.nil ?_
        exact ⟨rfl, i + 1, ⟨by omega, he'⟩, ⟨rfl, trivial⟩, ⟨rfl, rfl, trivial⟩, Cv.p, by omega⟩
    · have h4 := of_decide_eq_false h4
      have e : decide (xs = ys) = true := by
        rw [decide_eq_true_iff]; exact pre_eq he hl (by omega)
      rw [e] at k
      refine WP.exit ?_
      refine WP.seq ?_
      refine WP.region ?_
      refine RG.pv rfl (PV.mvB (.inr rfl) rfl) ?_
      refine RG.nil ?_
      refine WP.ret ?_
      exact ⟨_, _, ResV.one rfl rfl, Cv.p, k⟩
def szLb : List Label → Int → Int
  | [], n => n
  | w :: l, n => if n - w.name.size < 0 then -1 else szLb l (n - w.name.size)
theorem szLabel_s {w : Label} {n : Int} (hn : n ≤ 1048576) (h0 : 0 ≤ n) (hs : w.name.size ≤ 9223372036854775807) (k : ∀ r : Int, (r = if n - w.name.size < 0 then -1 else n - w.name.size) → R (vi r) G L) : CallT Tryz.prog 44 #[vT labelT w, vi n] G L R := by
  refine CallT.enter (args := _) Tryz.func44 rfl rfl (by kernel_rfl) rfl ?_
  refine WP.seq ?_
  refine WP.region ?_
  refine RG.ot rfl (OT.box (cs := labelT.enc w) rfl rfl rfl fun b2 => ?_)
  refine RG.pv rfl (PV.mvI (.inr rfl) rfl) ?_
  refine RG.nil ?_
  refine WP.seq ?_
  refine WP.region ?_
  refine RG.pv rfl (PV.mvI (.inl rfl) rfl) ?_
  refine RG.pv rfl (PV.field rfl Fo76_2 rfl) ?_
  refine RG.pv rfl (PV.load1 rfl Sc9 rfl (Rd.blk rfl)) ?_
  refine RG.pv rfl (PV.lenS rfl Tryz.underlying9 rfl) ?_
  refine RG.pv rfl (PV.sub rfl rfl rfl (by omega)) ?_
  refine RG.pv rfl (PV.mvI (.inr rfl) rfl) ?_
  refine RG.nil ?_
  refine WP.seq ?_
  refine WP.seq ?_
  refine WP.region ?_
  refine RG.pv rfl (PV.mvI (.inl rfl) rfl) ?_
  refine RG.pv rfl (PV.lss rfl rfl rfl) ?_
  refine RG.nil ?_
  refine WP.cond rfl (fun h1 => ?_) (fun h1 => ?_)
  · have h1 := of_decide_eq_true h1
    refine WP.seq ?_
    refine WP.region ?_
    refine RG.pv rfl (PV.mvI (.inr rfl) rfl) ?_
    refine RG.nil ?_
    refine WP.ret ?_
    exact ⟨_, _, ResV.one rfl rfl, Cv.p, k _ (by rw [if_pos h1])⟩
  · have h1 := of_decide_eq_false h1
    refine WP.skip ?_
    refine WP.seq ?_
    refine WP.region ?_
    refine RG.pv rfl (PV.mvI (.inl rfl) rfl) ?_
    refine RG.pv rfl (PV.mvI (.inr rfl) rfl) ?_
    refine RG.nil ?_
    refine WP.ret ?_
    exact ⟨_, _, ResV.one rfl rfl, Cv.p, k _ (by rw [if_neg h1])⟩
def szLbS (xs : List Label) (n : Int) : Int := if n - xs.length < 0 then -1 else szLb xs (n - xs.length)
theorem szLb_drop {xs : List Label} {i : Nat} {n : Int} (h : i < xs.length) : szLb (xs.drop i) n = if n - (gd xs i).name.size < 0 then -1 else szLb (xs.drop (i + 1)) (n - (gd xs i).name.size) := by
  rw [List.drop_eq_getElem_cons h, szLb, gd_eq h]
theorem szLbS_len {xs : List Label} {n : Int} (h : 0 ≤ szLbS xs n) : (xs.length : Int) ≤ n := by
  unfold szLbS at h; split at h <;> omega
theorem szLabelS_s {v : Value} {xs : List Label} {n : Int} (h1 : Rs G L labelT v xs) (hn : n ≤ 1048576) (h0 : 0 ≤ n) (hlen : ∀ i, i < xs.length → (gd xs i).name.size ≤ 9223372036854775807) (k : R (vi (szLbS xs n)) G L) : CallT Tryz.prog 10 #[v, vi n] G L R := by
  refine CallT.bd h1 fun hb => ?_
  refine CallT.enter (args := _) Tryz.func10 rfl rfl (by kernel_rfl) rfl ?_
  refine WP.seq ?_
  refine WP.region ?_
  refine RG.pv rfl (PV.mvI (.inr rfl) rfl) ?_
  refine RG.nil ?_
  refine WP.seq ?_
  refine WP.region ?_
  refine RG.pv rfl (PV.mvI (.inl rfl) rfl) ?_
  refine RG.pv rfl (PV.move (v := v) rfl rfl) ?_
  refine RG.pv rfl (PV.len (v := v) rfl Tryz.underlying23 rfl (SlF.r h1)) ?_
  refine RG.pv rfl (PV.sub rfl rfl rfl (by omega)) ?_
  refine RG.pv rfl (PV.mvI (.inr rfl) rfl) ?_
  refine RG.nil ?_
  refine WP.seq ?_
  refine WP.seq ?_
  refine WP.region ?_
  refine RG.pv rfl (PV.mvI (.inl rfl) rfl) ?_
  refine RG.pv rfl (PV.lss rfl rfl rfl) ?_
  refine RG.nil ?_
  refine WP.cond rfl (fun h2 => ?_) (fun h2 => ?_)
  · have h2 := of_decide_eq_true h2
    rw [szLbS, if_pos h2] at k
    refine WP.seq ?_
    refine WP.region ?_
    refine RG.pv rfl (PV.mvI (.inr rfl) rfl) ?_
    refine RG.nil ?_
    refine WP.ret ?_
    exact ⟨_, _, ResV.one rfl rfl, Cv.p, k⟩
  · have h2 := of_decide_eq_false h2
    rw [szLbS, if_neg h2] at k
    refine WP.skip ?_
    refine WP.seq ?_
    refine WP.seq ?_
    refine WP.region ?_
    refine RG.pv rfl (PV.mvI (.inr rfl) rfl) ?_
    refine RG.nil ?_
    refine WP.block ?_
    refine WP.loop2 [0] (fun i m => i ≤ xs.length ∧ 0 ≤ m ∧ m ≤ 1048576 ∧ szLb xs (n - xs.length) = szLb (xs.drop i) m) (fun i m => [(5, vi i), (1, vi m)]) (fun i m => L) (fun i m => xs.length - i) 0 (n - xs.length) ⟨by omega, by omega, by omega, by simp⟩ ⟨rfl, rfl, trivial⟩ Cv.p ?_
    rintro i m τ ⟨hi, hm0, hm1, he⟩
    refine WP.seq ?_
    refine WP.seq ?_
    refine WP.region ?_
    refine RG.pv rfl (PV.mvI (.inl rfl) rfl) ?_
    refine RG.pv rfl (PV.move (v := v) rfl rfl) ?_
    refine RG.pv rfl (PV.len (v := v) rfl Tryz.underlying23 rfl (SlF.r h1)) ?_
    refine RG.pv rfl (PV.lss rfl rfl rfl) ?_
    refine RG.nil ?_
    refine WP.cond rfl (fun h3 => ?_) (fun h3 => ?_)
    · have h3 := of_decide_eq_true h3
      have h4 : i < xs.length := by omega
      rw [szLb_drop h4] at he
      refine WP.skip ?_
      refine WP.seq ?_
      refine WP.block ?_
      refine WP.seq ?_
      refine WP.region ?_
      refine RG.pv rfl (PV.move (v := v) rfl rfl) ?_
      refine RG.pv rfl (PV.mvI (.inl rfl) rfl) ?_
      refine RG.pv rfl (PV.idxS (v := v) rfl Is23 rfl (SlF.r h1) rfl rfl (by omega)) ?_
      refine RG.pv rfl (PV.loadE rfl Ag76 rfl rfl (El.r h1 (getG (by omega)))) ?_
      refine RG.pv rfl (PV.mvI (.inl rfl) rfl) ?_
      refine RG.callF (vs := [_, _]) rfl rfl En44 rfl (szLabel_s (by omega) (by omega) (hlen _ (by assumption)) (fun r hr => ?_))
      refine RG.pv rfl (PV.mvI (.inr rfl) rfl) ?_
      refine RG.nil ?_
      refine WP.seq ?_
      refine WP.region ?_
      refine RG.pv rfl (PV.mvI (.inl rfl) rfl) ?_
      refine RG.pv rfl (PV.lss rfl rfl rfl) ?_
      refine RG.nil ?_
      refine WP.cond rfl (fun h5 => ?_) (fun h5 => ?_)
      · have h5 := of_decide_eq_true h5
        have h6 : m - (gd xs i).name.size < 0 := by
          by_cases c : m - (gd xs i).name.size < 0
          · exact c
          · rw [if_neg c] at hr; omega
        rw [he, if_pos h6] at k
        refine WP.seq ?_
        refine WP.region ?_
        refine RG.pv rfl (PV.mvI (.inr rfl) rfl) ?_
        refine RG.nil ?_
        refine WP.ret ?_
        exact ⟨_, _, ResV.one rfl rfl, Cv.p, k⟩
      · have h5 := of_decide_eq_false h5
        have h6 : ¬ m - (gd xs i).name.size < 0 := fun c => by rw [if_pos c] at hr; omega
        rw [if_neg h6] at he hr
        subst hr
        refine WP.skip ?_
        refine WP.region ?_
        refine RG.pv rfl (PV.mvI (.inl rfl) rfl) ?_
        refine RG.pv rfl (PV.add rfl rfl rfl (by omega)) ?_
        refine RG.pv rfl (PV.mvI (.inr rfl) rfl) ?_
        refine RG.nil ?_
        exact ⟨rfl, i + 1, _, ⟨by omega, by omega, by omega, he⟩, ⟨rfl, rfl, trivial⟩, ⟨rfl, trivial⟩, Cv.p, by omega⟩
    · have h3 := of_decide_eq_false h3
      rw [he, List.drop_eq_nil_of_le (by omega), szLb] at k
      refine WP.exit ?_
      refine WP.seq ?_
      refine WP.region ?_
      refine RG.pv rfl (PV.mvI (.inl rfl) rfl) ?_
      refine RG.pv rfl (PV.mvI (.inr rfl) rfl) ?_
      refine RG.nil ?_
      refine WP.ret ?_
      exact ⟨_, _, ResV.one rfl rfl, Cv.p, k⟩
def mkLb (_ : Label) (k : Int) : Label := ⟨k, ⟨k + 1, k + 1 + 1⟩, mText (k + 1 + 1 + 1)⟩
def nLb (_ : Label) : Int := 4
theorem nLb_cost (xs : List Label) : costL nLb xs = 4 * xs.length := costL_const 4 xs
theorem mkLb_at {xs : List Label} {i : Nat} {k0 kk : Int} (h : i < xs.length) (e : kk = k0 + 4 * i) : mkLb (gd xs i) (k0 + costL nLb (xs.take i)) = ⟨kk, ⟨kk + 1, kk + 1 + 1⟩, mText (kk + 1 + 1 + 1)⟩ := by
  rw [mkLb, nLb_cost, List.length_take, Nat.min_eq_left (by omega), e]
theorem markLabelS_s {v : Value} {xs : List Label} {k0 : Int} (hk : 0 ≤ k0) (hb : k0 + costL nLb xs ≤ 4611686018427387904) (k : R (vi (k0 + costL nLb xs)) G (osl 51 labelT v (markL mkLb nLb xs k0) :: L)) : CallT Tryz.prog 19 #[v, vi k0] G (osl 51 labelT v xs :: L) R := by
  have hc := nLb_cost xs
  refine CallT.cv (Cv.eqS (markTo_zero (mk := mkLb) (n := nLb) (k := k0)).symm) ?_
  refine CallT.enter (args := _) Tryz.func19 rfl rfl (by kernel_rfl) rfl ?_
  refine WP.seq ?_
  refine WP.region ?_
  refine RG.pv rfl (PV.mvI (.inr rfl) rfl) ?_
  refine RG.nil ?_
  refine WP.seq ?_
  refine WP.seq ?_
  refine WP.region ?_
  refine RG.pv rfl (PV.mvI (.inr rfl) rfl) ?_
  refine RG.nil ?_
  refine WP.block ?_
  refine WP.loop2 [0] (fun (i : Nat) (kk : Int) => i ≤ xs.length ∧ kk = k0 + 4 * i) (fun (i : Nat) (kk : Int) => [(5, vi i), (1, vi kk)]) (fun (i : Nat) (kk : Int) => osl 51 labelT v (markTo mkLb nLb xs k0 i) :: L) (fun (i : Nat) (kk : Int) => xs.length - i) 0 k0 ⟨by omega, by omega⟩ ⟨rfl, rfl, trivial⟩ Cv.p ?_
  rintro i kk τ ⟨hi, hkk⟩
  refine WP.seq ?_
  refine WP.seq ?_
  refine WP.region ?_
  refine RG.pv rfl (PV.mvI (.inl rfl) rfl) ?_
  refine RG.pv rfl (PV.move (v := v) rfl rfl) ?_
  refine RG.pv rfl (PV.len (v := v) rfl Tryz.underlying31 rfl SlF.o) ?_
  refine RG.pv rfl (PV.lss rfl rfl rfl) ?_
  refine RG.nil ?_
  have hml := markTo_len (mk := mkLb) (n := nLb) (k := k0) hi
  refine WP.cond rfl (fun h1 => ?_) (fun h1 => ?_)
  · have h1 := of_decide_eq_true h1
    have h2 : i < xs.length := by omega
    refine WP.skip ?_
    refine WP.seq ?_
    refine WP.block ?_
    refine WP.seq ?_
    refine WP.region ?_
    refine RG.pv rfl (PV.move (v := v) rfl rfl) ?_
    refine RG.pv rfl (PV.mvI (.inl rfl) rfl) ?_
    refine RG.pv rfl (PV.mvI (.inl rfl) rfl) ?_
    refine RG.pv rfl (PV.idxS (v := v) rfl Is31 rfl SlF.o rfl rfl (by omega)) ?_
    refine RG.pv rfl (PV.field rfl Fo51_0 rfl) ?_
    refine RG.ot rfl (OT.storeF (F := labelT) (val := vi) (cv := fun u => [vi u]) (st := Label.s0) rfl Sz2 rfl rfl rfl (Cl.c rfl) rfl (OneC.c rfl) (by exact set_self (by omega)) (by first | omega | (simp; omega)) rfl (fun _ _ => rfl) ?_)
    refine RG.nil ?_
    refine WP.seq ?_
    refine WP.region ?_
    refine RG.pv rfl (PV.mvI (.inl rfl) rfl) ?_
    refine RG.pv rfl (PV.add rfl rfl rfl (by first | omega | (simp only [List.length_set]; omega))) ?_
    refine RG.pv rfl (PV.mvI (.inr rfl) rfl) ?_
    refine RG.nil ?_
    refine WP.seq ?_
    refine WP.region ?_
    refine RG.pv rfl (PV.move (v := v) rfl rfl) ?_
    refine RG.pv rfl (PV.mvI (.inl rfl) rfl) ?_
    refine RG.pv rfl (PV.mvI (.inl rfl) rfl) ?_
    refine RG.pv rfl (PV.idxS (v := v) rfl Is31 rfl SlF.o rfl rfl (by first | omega | (simp only [List.length_set]; omega))) ?_
    refine RG.pv rfl (PV.field rfl Fo51_1 rfl) ?_
    refine RG.pv rfl (PV.field rfl Fo49_0 rfl) ?_
    refine RG.ot rfl (OT.storeF (F := labelT) (val := vi) (cv := fun u => [vi u]) (j := 1) (st := Label.s1_0) rfl Sz2 rfl rfl rfl (Cl.c rfl) rfl (OneC.c rfl) (by rfl) (by first | omega | (simp; omega)) rfl (fun _ _ => rfl) ?_)
    refine RG.nil ?_
    refine WP.seq ?_
    refine WP.region ?_
    refine RG.pv rfl (PV.mvI (.inl rfl) rfl) ?_
    refine RG.pv rfl (PV.add rfl rfl rfl (by first | omega | (simp only [List.length_set]; omega))) ?_
    refine RG.pv rfl (PV.mvI (.inr rfl) rfl) ?_
    refine RG.nil ?_
    refine WP.seq ?_
    refine WP.region ?_
    refine RG.pv rfl (PV.move (v := v) rfl rfl) ?_
    refine RG.pv rfl (PV.mvI (.inl rfl) rfl) ?_
    refine RG.pv rfl (PV.mvI (.inl rfl) rfl) ?_
    refine RG.pv rfl (PV.idxS (v := v) rfl Is31 rfl SlF.o rfl rfl (by first | omega | (simp only [List.length_set]; omega))) ?_
    refine RG.pv rfl (PV.field rfl Fo51_1 rfl) ?_
    refine RG.pv rfl (PV.field rfl Fo49_1 rfl) ?_
    refine RG.ot rfl (OT.storeF (F := labelT) (val := vi) (cv := fun u => [vi u]) (j := 2) (st := Label.s1_1) rfl Sz2 rfl rfl rfl (Cl.c rfl) rfl (OneC.c rfl) (by rfl) (by first | omega | (simp; omega)) rfl (fun _ _ => rfl) ?_)
    refine RG.nil ?_
    refine WP.seq ?_
    refine WP.region ?_
    refine RG.pv rfl (PV.mvI (.inl rfl) rfl) ?_
    refine RG.pv rfl (PV.add rfl rfl rfl (by first | omega | (simp only [List.length_set]; omega))) ?_
    refine RG.pv rfl (PV.mvI (.inr rfl) rfl) ?_
    refine RG.nil ?_
    refine WP.seq ?_
    refine WP.region ?_
    refine RG.pv rfl (PV.move (v := v) rfl rfl) ?_
    refine RG.pv rfl (PV.mvI (.inl rfl) rfl) ?_
    refine RG.pv rfl (PV.mvI (.inl rfl) rfl) ?_
    refine RG.callF (vs := [_]) rfl rfl En60 rfl (markText_s (by omega) ?_)
    refine RG.pv rfl (PV.idxS (v := v) rfl Is31 rfl SlF.o rfl rfl (by first | omega | (simp only [List.length_set]; omega))) ?_
    refine RG.pv rfl (PV.field rfl Fo51_2 rfl) ?_
    refine RG.ot rfl (OT.storeF (F := labelT) (val := Value.string) (cv := fun u => [.string u]) (st := Label.s2) rfl Sz9 rfl rfl rfl (Cl.c rfl) rfl (OneC.c rfl) (by rfl) (by first | omega | (simp; omega)) rfl (fun _ _ => rfl) ?_)
    refine RG.nil ?_
    refine WP.region ?_
    refine RG.pv rfl (PV.mvI (.inl rfl) rfl) ?_
    refine RG.pv rfl (PV.add rfl rfl rfl (by first | omega | (simp only [List.length_set]; omega))) ?_
    refine RG.pv rfl (PV.mvI (.inr rfl) rfl) ?_
    refine RG.nil ?_
    refine WP.region ?_
    refine RG.pv rfl (PV.mvI (.inl rfl) rfl) ?_
    refine RG.pv rfl (PV.add rfl rfl rfl (by first | omega | (simp only [List.length_set]; omega))) ?_
    refine RG.pv rfl (PV.mvI (.inr rfl) rfl) ?_
    refine RG.nil ?_
    exact ⟨rfl, i + 1, _, ⟨by omega, by omega⟩, ⟨rfl, rfl, trivial⟩, ⟨rfl, trivial⟩, (Cv.eqS (by rw [← markTo_set h2, mkLb_at h2 hkk])), by omega⟩
  · have h1 := of_decide_eq_false h1
    have e : kk = k0 + costL nLb xs := by omega
    rw [← e] at k
    refine WP.exit ?_
    refine WP.seq ?_
    refine WP.region ?_
    refine RG.pv rfl (PV.mvI (.inl rfl) rfl) ?_
    refine RG.pv rfl (PV.mvI (.inr rfl) rfl) ?_
    refine RG.nil ?_
    refine WP.ret ?_
    exact ⟨_, _, ResV.one rfl rfl, (Cv.eqS (markTo_all (by omega))), k⟩
end Go.Proofs.YtmomfgfmnpblpaaGreat
namespace Go.Proofs.YtmomfgfmnpblpaaGreat
set_option linter.unusedVariables false
set_option linter.unusedSimpArgs false
open Go
set_option maxRecDepth 20000
set_option linter.unusedSimpArgs false
variable {G : Gh} {L : List Ch} {R : Value → Gh → List Ch → Prop}
noncomputable def labC (l : List (List Rect)) (ls : List Label) : Int := if (isLay l && labelsOk ls) = true then netE l else 1
noncomputable def labF (l : List (List Rect)) (b : Label) : Int := findL l b.layer b.at_.x b.at_.y
noncomputable def labR (l : List (List Rect)) (ls : List Label) : List Int := if labC l ls = 0 then ls.map (labF l) else []
theorem labR_len (l : List (List Rect)) (ls : List Label) : (labR l ls).length ≤ ls.length := by
  unfold labR; split <;> simp
theorem labC_bad {l : List (List Rect)} {ls : List Label} (h : (!isLay l || !labelsOk ls) = true) : labC l ls = 1 := by
  cases h1 : isLay l <;> cases h2 : labelsOk ls <;> simp [labC, h1, h2] at h ⊢
theorem labC_good {l : List (List Rect)} {ls : List Label} (h : (!isLay l || !labelsOk ls) = false) : labC l ls = netE l ∧ isLay l = true ∧ labelsOk ls = true := by
  cases h1 : isLay l <;> cases h2 : labelsOk ls <;> simp_all [labC]
theorem take_map {α β : Type} [Inhabited α] (f : α → β) {xs : List α} {i : Nat} (h : i < xs.length) : (xs.take (i + 1)).map f = (xs.take i).map f ++ [f (gd xs i)] := by
  rw [List.take_add_one, getG h, List.map_append]; rfl
theorem labNets_i {v u : Value} {xs : List (Sl Rect)} {ls : List Label} (h1 : Rs G L slT v xs) (hd : RsE G L rectT xs) (h2 : Rs G L labelT u ls) (hlen : ∀ i, i < ls.length → (gd ls i).name.size ≤ 9223372036854775807) (k : ∀ v', R (.tuple #[v', vi (labC (er xs) ls)]) G (osl 2 intT v' (labR (er xs) ls) :: L)) : CallT Tryz.prog 14 #[v, u] G L R := by
  refine CallT.enter (args := _) Tryz.func14 rfl rfl (by kernel_rfl) rfl ?_
  refine WP.seq ?_
  refine WP.region ?_
  refine RG.pv rfl (PV.asg rfl rfl) ?_
  refine RG.pv rfl (PV.mvI (.inr rfl) rfl) ?_
  refine RG.nil ?_
  refine WP.seq ?_
  refine WP.seq ?_
  refine WP.region ?_
  refine RG.pv rfl (PV.move (v := v) rfl rfl) ?_
  refine RG.callF (vs := [v]) rfl rfl En53 rfl (isLayout_s (Rs.up h1) hd.up ?_)
  refine RG.pv rfl (PV.not rfl rfl) ?_
  refine RG.pv rfl (PV.mvB (.inl rfl) rfl) ?_
  refine RG.gs rfl rfl rfl (fun hp => (PV.move (v := u) rfl rfl)) ?_
  refine RG.gsC rfl rfl rfl rfl En54 (fun hp => ⟨_, (acons (gs_t hp) anil), validLbs_i (Rs.up h2) hlen ⟨rfl, rfl, rfl⟩⟩) ?_
  refine RG.gs rfl rfl rfl (fun hp => (PV.not rfl (gs_t hp))) ?_
  refine RG.pv rfl (PV.pickO rfl rfl rfl (fun hq => gs_t (geqF hq))) ?_
  refine RG.nil ?_
  refine WP.cond rfl (fun h3 => ?_) (fun h3 => ?_)
  · have e := labC_bad (l := er xs) (ls := ls) h3
    have e2 : labR (er xs) ls = [] := by rw [labR, if_neg (by rw [e]; decide)]
    rw [e, e2] at k
    refine WP.seq ?_
    refine WP.region ?_
    refine RG.pv rfl (PV.asg rfl rfl) ?_
    refine RG.pv rfl (PV.mvI (.inr rfl) rfl) ?_
    refine RG.nil ?_
    refine WP.ret ?_
    exact ⟨_, _, ResV.two rfl rfl rfl, Cv.nilP, k _⟩
  · obtain ⟨e, hlay, hlo⟩ := labC_good (l := er xs) (ls := ls) h3
    have hll : ls.length ≤ 1600 := by simp [labelsOk] at hlo; omega
    refine WP.skip ?_
    refine WP.seq ?_
    refine WP.region ?_
    refine RG.pv rfl (PV.move (v := v) rfl rfl) ?_
    refine RG.callF (vs := [v]) rfl rfl En55 rfl (nets_i (Rs.up h1) hd.up (fun w21 zsw21 hew21 => ?_))
    refine RG.pv rfl (PV.move (v := .tuple _) rfl rfl) ?_
    refine RG.pv rfl (PV.ext (v := w21) rfl rfl rfl) ?_
    refine RG.pv rfl (PV.ext rfl rfl rfl) ?_
    refine RG.pv rfl (PV.asg (v := w21) rfl rfl) ?_
    refine RG.pv rfl (PV.mvI (.inr rfl) rfl) ?_
    refine RG.nil ?_
    refine WP.seq ?_
    refine WP.seq ?_
    refine WP.region ?_
    refine RG.pv rfl (PV.mvI (.inl rfl) rfl) ?_
    refine RG.pv rfl (PV.neq rfl rfl rfl) ?_
    refine RG.nil ?_
    refine WP.cond rfl (fun h4 => ?_) (fun h4 => ?_)
    · have h5 : netE (er xs) ≠ 0 := by simpa using h4
      have e2 : labR (er xs) ls = [] := by rw [labR, if_neg (by rw [e]; exact h5)]
      rw [e, e2] at k
      refine WP.seq ?_
      refine WP.region ?_
      refine RG.pv rfl (PV.mvI (.inl rfl) rfl) ?_
      refine RG.pv rfl (PV.asg rfl rfl) ?_
      refine RG.pv rfl (PV.mvI (.inr rfl) rfl) ?_
      refine RG.nil ?_
      refine WP.ret ?_
      exact ⟨_, _, ResV.two rfl rfl rfl, Cv.nilP, k _⟩
    · have h5 : netE (er xs) = 0 := by simpa using h4
      have he : (er (nps zsw21)).map erPs = netL (er xs) := by rw [hew21, netR, if_pos h5]
      have e2 : labR (er xs) ls = ls.map (labF (er xs)) := by rw [labR, if_pos (by rw [e]; exact h5)]
      rw [e, e2, h5] at k
      refine WP.skip ?_
      refine WP.seq ?_
      refine WP.region ?_
      refine RG.ot rfl (OT.bslice (F := intT) (els := []) rfl El26 rfl (by decide) rfl (by decide) trivial fun v27 => ?_)
      refine RG.pv rfl (PV.asg (v := v27) rfl rfl) ?_
      refine RG.nil ?_
      refine WP.seq ?_
      refine WP.seq ?_
      refine WP.region ?_
      refine RG.pv rfl (PV.move (v := u) rfl rfl) ?_
      refine RG.pv rfl (PV.len (v := u) rfl Tryz.underlying31 rfl (SlF.r h2)) ?_
      refine RG.pv rfl (PV.mvI (.inl rfl) rfl) ?_
      refine RG.nil ?_
      refine WP.block ?_
      refine WP.loop3 [6, 28, 29] (fun (i : Nat) (os : List Int) (q : Value) => i ≤ ls.length ∧ os = (ls.take i).map (labF (er xs))) (fun (i : Nat) (os : List Int) (q : Value) => [(30, vi i), (8, q)]) (fun (i : Nat) (os : List Int) (q : Value) => osl 2 intT q os :: osl 140 netT w21 zsw21 :: bagS 143 pieceT (nps zsw21) :: bagS 61 rectT (regs (er (nps zsw21)).flatten) :: L) (fun (i : Nat) (os : List Int) (q : Value) => ls.length - i) 0 [] v27 ⟨by omega, rfl⟩ ⟨rfl, rfl, trivial⟩ Cv.p ?_
      rintro i os q τ ⟨hi, hos⟩
      refine WP.seq ?_
      refine WP.region ?_
      refine RG.pv rfl (PV.lss rfl rfl rfl) ?_
      refine RG.nil ?_
      refine WP.seq ?_
      have hol : os.length ≤ 1600 := by rw [hos, List.length_map, List.length_take]; omega
      refine WP.cond rfl (fun h6 => ?_) (fun h6 => ?_)
      · have h6 := of_decide_eq_true h6
        have htk := take_map (labF (er xs)) (xs := ls) (i := i) (by omega)
        refine WP.skip ?_
        refine WP.seq ?_
        refine WP.block ?_
        refine WP.seq ?_
        refine WP.region ?_
        refine RG.pv rfl (PV.idxS (v := u) rfl Is31 rfl (SlF.r h2) rfl rfl (by omega)) ?_
        refine RG.pv rfl (PV.loadE rfl Ag51 rfl rfl (El.r h2 (getG (by omega)))) ?_
        refine RG.ot rfl (OT.alloc rfl Zr51 fun b10 => ?_)
        refine RG.ot rfl (OT.storeW (vs := [vi _, vi _, vi _, .string _]) rfl Sz51 rfl rfl (Cl.c rfl) rfl rfl (OneC.c rfl) ?_)
        refine RG.nil ?_
        refine WP.region ?_
        refine RG.pv rfl (PV.move (v := q) rfl rfl) ?_
        refine RG.pv rfl (PV.move (v := w21) rfl rfl) ?_
        refine RG.pv rfl (PV.field rfl Fo51_0 rfl) ?_
        refine RG.pv rfl (PV.load1 rfl Sc2 rfl (Rd.blk rfl)) ?_
        refine RG.pv rfl (PV.field rfl Fo51_1 rfl) ?_
        refine RG.pv rfl (PV.loadB (vs := [_, _]) rfl Ag49 rfl rfl rfl) ?_
        refine RG.callF (vs := [w21, _, _]) rfl rfl En56 rfl (netAt_f (q := (gd ls i).at_) Rs.o RsE.o (fun i hi => RsE.flat hi) he ?_)
        refine RG.ot rfl (OT.bslice (F := intT) (els := [_]) rfl El26 rfl (by decide) rfl (by decide) ⟨rfl, (Cl.c rfl), trivial⟩ fun v41 => ?_)
        refine RG.ot rfl (OT.append (v := q) (u := v41) (F := intT) rfl El26 rfl (by decide) rfl rfl Rs.o (OneL.c (fun _ => rfl)) rfl (by first | omega | (simp <;> omega)) fun v42 => ?_)
        refine RG.pv rfl (PV.asg (v := v42) rfl rfl) ?_
        refine RG.nil ?_
        refine WP.region ?_
        refine RG.pv rfl (PV.add rfl rfl rfl (by omega)) ?_
        refine RG.pv rfl (PV.mvI (.inl rfl) rfl) ?_
        refine RG.nil ?_
        exact ⟨rfl, i + 1, (os ++ [findL (er xs) (gd ls i).layer (gd ls i).at_.x (gd ls i).at_.y]), v42, ⟨by omega, by rw [htk, ← hos]; rfl⟩, ⟨rfl, rfl, trivial⟩, ⟨rfl, rfl, rfl, trivial⟩, Cv.p, by omega⟩
      · have h6 := of_decide_eq_false h6
        rw [List.take_of_length_le (by omega)] at hos
        rw [← hos] at k
        refine WP.exit ?_
        refine WP.seq ?_
        refine WP.region ?_
        refine RG.pv rfl (PV.move (v := q) rfl rfl) ?_
        refine RG.pv rfl (PV.asg (v := q) rfl rfl) ?_
        refine RG.pv rfl (PV.mvI (.inr rfl) rfl) ?_
        refine RG.nil ?_
        refine WP.ret ?_
        exact ⟨_, _, ResV.two rfl rfl rfl, Cv.p, k q⟩
theorem labNets_r {v u : Value} {xs : List (Sl Rect)} {ls : List Label} (h1 : Rs G L slT v xs) (hd : RsE G L rectT xs) (h2 : Rs G L labelT u ls) (hlen : ∀ i, i < ls.length → (gd ls i).name.size ≤ 9223372036854775807) (k : ∀ v', R (.tuple #[v', vi (labC (er xs) ls)]) G (osl 2 intT v' (labR (er xs) ls) :: L)) : CallT Tryz.prog 11 #[v, u] G L R := by
  have hcl : (clsL (er xs)).length ≤ 25600 := by rw [clsL_len]; exact pcL_len (er xs) 4
  have hcn : cntR (clsL (er xs)) (clsL (er xs)).length = netN (er xs) := by rw [clsL_len]; rfl
  refine CallT.enter (args := _) Tryz.func11 rfl rfl (by kernel_rfl) rfl ?_
  refine WP.seq ?_
  refine WP.region ?_
  refine RG.pv rfl (PV.asg rfl rfl) ?_
  refine RG.pv rfl (PV.mvI (.inr rfl) rfl) ?_
  refine RG.nil ?_
  refine WP.seq ?_
  refine WP.seq ?_
  refine WP.region ?_
  refine RG.pv rfl (PV.move (v := v) rfl rfl) ?_
  refine RG.callF (vs := [v]) rfl rfl En45 rfl (l19Layout_s (Rs.up h1) hd.up ?_)
  refine RG.pv rfl (PV.not rfl rfl) ?_
  refine RG.pv rfl (PV.mvB (.inl rfl) rfl) ?_
  refine RG.gs rfl rfl rfl (fun hp => (PV.move (v := u) rfl rfl)) ?_
  refine RG.gsC rfl rfl rfl rfl En46 (fun hp => ⟨_, (acons (gs_t hp) anil), validLbs_r (Rs.up h2) hlen ⟨rfl, rfl, rfl⟩⟩) ?_
  refine RG.gs rfl rfl rfl (fun hp => (PV.not rfl (gs_t hp))) ?_
  refine RG.pv rfl (PV.pickO rfl rfl rfl (fun hq => gs_t (geqF hq))) ?_
  refine RG.nil ?_
  refine WP.cond rfl (fun h3 => ?_) (fun h3 => ?_)
  · have e := labC_bad (l := er xs) (ls := ls) h3
    have e2 : labR (er xs) ls = [] := by rw [labR, if_neg (by rw [e]; decide)]
    rw [e, e2] at k
    refine WP.seq ?_
    refine WP.region ?_
    refine RG.ot rfl (OT.bslice (F := intT) (els := []) rfl El26 rfl (by decide) rfl (by decide) trivial fun v19 => ?_)
    refine RG.pv rfl (PV.asg (v := v19) rfl rfl) ?_
    refine RG.pv rfl (PV.mvI (.inr rfl) rfl) ?_
    refine RG.nil ?_
    refine WP.ret ?_
    exact ⟨_, _, ResV.two rfl rfl rfl, Cv.p, k v19⟩
  · obtain ⟨e, hlay, hlo⟩ := labC_good (l := er xs) (ls := ls) h3
    have hll : ls.length ≤ 1600 := by simp [labelsOk] at hlo; omega
    refine WP.skip ?_
    refine WP.seq ?_
    refine WP.region ?_
    refine RG.pv rfl (PV.move (v := v) rfl rfl) ?_
    refine RG.callF (vs := [v]) rfl rfl En47 rfl (l23Parts_s (Rs.up h1) hd.up hlay (fun v21 csv21 hev21 => ?_))
    refine RG.pv rfl (PV.asg (v := v21) rfl rfl) ?_
    refine RG.nil ?_
    refine WP.seq ?_
    refine WP.region ?_
    refine RG.pv rfl (PV.move (v := v21) rfl rfl) ?_
    refine RG.pv rfl (PV.move (v := v) rfl rfl) ?_
    refine RG.callF (vs := [v21, v]) rfl rfl En49 rfl (l23Roots_s Rs.o RsE.o (Rs.up h1) hd.up hlay hev21 (fun v25 => ?_))
    refine RG.callF (vs := [v25]) rfl rfl En48 rfl (l23Numbers_s Rs.o (clsL_rt _) hcl (fun w26 => ?_))
    refine RG.pv rfl (PV.move (v := .tuple _) rfl rfl) ?_
    refine RG.pv rfl (PV.ext (v := w26) rfl rfl rfl) ?_
    refine RG.pv rfl (PV.ext rfl rfl rfl) ?_
    refine RG.pv rfl (PV.asg (v := w26) rfl rfl) ?_
    refine RG.pv rfl (PV.mvI (.inr rfl) rfl) ?_
    refine RG.nil ?_
    refine WP.seq ?_
    refine WP.seq ?_
    refine WP.region ?_
    refine RG.pv rfl (PV.mvI (.inl rfl) rfl) ?_
    refine RG.pv rfl (PV.gtr rfl rfl rfl) ?_
    refine RG.nil ?_
    refine WP.cond rfl (fun h4 => ?_) (fun h4 => ?_)
    · have h4 := of_decide_eq_true h4
      have h5 : netE (er xs) = 3 := by rw [netE, hlay, cond_true, if_pos (by omega)]
      have e2 : labR (er xs) ls = [] := by rw [labR, if_neg (by rw [e, h5]; decide)]
      rw [e, e2, h5] at k
      refine WP.seq ?_
      refine WP.region ?_
      refine RG.ot rfl (OT.bslice (F := intT) (els := []) rfl El26 rfl (by decide) rfl (by decide) trivial fun v31 => ?_)
      refine RG.pv rfl (PV.asg (v := v31) rfl rfl) ?_
      refine RG.pv rfl (PV.mvI (.inr rfl) rfl) ?_
      refine RG.nil ?_
      refine WP.ret ?_
      exact ⟨_, _, ResV.two rfl rfl rfl, Cv.p, k v31⟩
    · have h4 := of_decide_eq_false h4
      have h5 : netE (er xs) = 0 := by rw [netE, hlay, cond_true, if_neg (by omega)]
      have e2 : labR (er xs) ls = ls.map (labF (er xs)) := by rw [labR, if_pos (by rw [e]; exact h5)]
      rw [e, e2, h5] at k
      refine WP.skip ?_
      refine WP.seq ?_
      refine WP.region ?_
      refine RG.ot rfl (OT.bslice (F := intT) (els := []) rfl El26 rfl (by decide) rfl (by decide) trivial fun v32 => ?_)
      refine RG.pv rfl (PV.asg (v := v32) rfl rfl) ?_
      refine RG.nil ?_
      refine WP.seq ?_
      refine WP.seq ?_
      refine WP.region ?_
      refine RG.pv rfl (PV.mvI (.inr rfl) rfl) ?_
      refine RG.nil ?_
      refine WP.block ?_
      refine WP.loop3 [1, 6, 7] (fun (i : Nat) (os : List Int) (q : Value) => i ≤ ls.length ∧ os = (ls.take i).map (labF (er xs))) (fun (i : Nat) (os : List Int) (q : Value) => [(10, vi i), (9, q)]) (fun (i : Nat) (os : List Int) (q : Value) => osl 2 intT q os :: osl 127 partT v21 csv21 :: bagS 4 boolT (cels csv21) :: osl 2 intT w26 (nums (clsL (er xs))) :: L) (fun (i : Nat) (os : List Int) (q : Value) => ls.length - i) 0 [] v32 ⟨by omega, rfl⟩ ⟨rfl, rfl, trivial⟩ Cv.p ?_
      rintro i os q τ ⟨hi, hos⟩
      refine WP.seq ?_
      refine WP.seq ?_
      refine WP.region ?_
      refine RG.pv rfl (PV.mvI (.inl rfl) rfl) ?_
      refine RG.pv rfl (PV.move (v := u) rfl rfl) ?_
      refine RG.pv rfl (PV.len (v := u) rfl Tryz.underlying31 rfl (SlF.r h2)) ?_
      refine RG.pv rfl (PV.lss rfl rfl rfl) ?_
      refine RG.nil ?_
      have hol : os.length ≤ 1600 := by rw [hos, List.length_map, List.length_take]; omega
      refine WP.cond rfl (fun h6 => ?_) (fun h6 => ?_)
      · have h6 := of_decide_eq_true h6
        have htk := take_map (labF (er xs)) (xs := ls) (i := i) (by omega)
        refine WP.skip ?_
        refine WP.seq ?_
        refine WP.block ?_
        refine WP.regionHD [.s q] (.q 0 (.q 1 (.q 2 (.q 3 (.q 4 (.q 5 (.q 6 (.q 7 (.q 8 (.q 9 (.q 10 (.q 11 (.q 12 (.l 13 (.l 14 (.l 15 (.q 16 Sch.nil))))))))))))))))) (by kernel_rfl) (by kernel_rfl) (by kernel_rfl) rfl ?_
        refine RH.pv rfl (fun _ _ _ _ h => h) (Gh.le_refl _) PickC.pick rfl (PV.move (v := q) rfl rfl) ?_
        refine RH.pv rfl (fun _ _ _ _ h => h) (Gh.le_refl _) PickC.pick rfl (PV.move (v := v21) rfl rfl) ?_
        refine RH.pv rfl (fun _ _ _ _ h => h) (Gh.le_refl _) PickC.pick rfl (PV.move (v := w26) rfl rfl) ?_
        refine RH.pv rfl (fun _ _ _ _ h => h) (Gh.le_refl _) PickC.pick rfl (PV.move (v := u) rfl rfl) ?_
        refine RH.pv rfl (fun _ _ _ _ h => h) (Gh.le_refl _) PickC.pick rfl (PV.mvI (.inl rfl) rfl) ?_
        refine RH.pv rfl (fun _ _ _ _ h => h) (Gh.le_refl _) PickC.pick rfl (PV.idxS (v := u) rfl Is31 rfl (SlF.r h2) rfl rfl (by omega)) ?_
        refine RH.pv rfl (fun _ _ _ _ h => h) (Gh.le_refl _) PickC.pick rfl (PV.field rfl Fo51_0 rfl) ?_
        refine RH.pv rfl (fun _ _ _ _ h => h) (Gh.le_refl _) PickC.pick rfl (PV.loadF rfl Sc2 rfl rfl (El.r h2 (getG (by omega))) rfl) ?_
        refine RH.pv rfl (fun _ _ _ _ h => h) (Gh.le_refl _) PickC.pick rfl (PV.move (v := u) rfl rfl) ?_
        refine RH.pv rfl (fun _ _ _ _ h => h) (Gh.le_refl _) PickC.pick rfl (PV.mvI (.inl rfl) rfl) ?_
        refine RH.pv rfl (fun _ _ _ _ h => h) (Gh.le_refl _) PickC.pick rfl (PV.idxS (v := u) rfl Is31 rfl (SlF.r h2) rfl rfl (by omega)) ?_
        refine RH.pv rfl (fun _ _ _ _ h => h) (Gh.le_refl _) PickC.pick rfl (PV.field rfl Fo51_1 rfl) ?_
        refine RH.pv rfl (fun _ _ _ _ h => h) (Gh.le_refl _) PickC.pick rfl (PV.loadEP rfl Ag49 rfl rfl (El.r h2 (getG (by omega))) rfl) ?_
        refine RH.ot rfl rfl (OT.callF (vs := [v21, w26, _, _]) rfl En50 rfl (l23Find_s (q := (gd ls i).at_) Rs.o RsE.o Rs.o hev21 ⟨Gh.le_refl _, PickC.pick, ?_⟩))
        refine RH.ot rfl rfl (OT.bslice (F := intT) (els := [_]) rfl El26 rfl (by decide) rfl (by decide) ⟨rfl, (Cl.c rfl), trivial⟩ fun v53 => ⟨Gh.le_refl _, PickC.pick, ?_⟩)
        refine RH.ot rfl rfl (OT.append (v := q) (u := v53) (F := intT) rfl El26 rfl (by decide) rfl rfl Rs.o (OneL.c (fun _ => rfl)) rfl (by first | omega | (simp <;> omega)) fun v54 => ⟨Gh.le_refl _, PickC.pick, ?_⟩)
        refine RH.pv rfl (fun _ _ _ _ h => h) (Gh.le_refl _) PickC.pick rfl (PV.asg (v := v54) rfl rfl) ?_
        refine RH.nil ?_
        refine WP.region ?_
        refine RG.pv rfl (PV.mvI (.inl rfl) rfl) ?_
        refine RG.pv rfl (PV.add rfl rfl rfl (by omega)) ?_
        refine RG.pv rfl (PV.mvI (.inr rfl) rfl) ?_
        refine RG.nil ?_
        exact ⟨rfl, i + 1, (os ++ [findL (er xs) (gd ls i).layer (gd ls i).at_.x (gd ls i).at_.y]), v54, ⟨by omega, by rw [htk, ← hos]; rfl⟩, ⟨rfl, rfl, trivial⟩, ⟨rfl, rfl, rfl, trivial⟩, Cv.p, by omega⟩
      · have h6 := of_decide_eq_false h6
        rw [List.take_of_length_le (by omega)] at hos
        rw [← hos] at k
        refine WP.exit ?_
        refine WP.seq ?_
        refine WP.region ?_
        refine RG.pv rfl (PV.move (v := q) rfl rfl) ?_
        refine RG.pv rfl (PV.asg (v := q) rfl rfl) ?_
        refine RG.pv rfl (PV.mvI (.inr rfl) rfl) ?_
        refine RG.nil ?_
        refine WP.ret ?_
        exact ⟨_, _, ResV.two rfl rfl rfl, Cv.p, k q⟩
theorem law_LabelNets {v u : Value} {xs : List (Sl Rect)} {ls : List Label} (h1 : Rs G L slT v xs) (hd : RsE G L rectT xs) (h2 : Rs G L labelT u ls) (hlen : ∀ i, i < ls.length → (gd ls i).name.size ≤ 9223372036854775807) (k : R (.bool true) G L) : CallT Tryz.prog 3 #[v, u] G L R := by
  refine CallT.enter (args := _) Tryz.func3 rfl rfl (by kernel_rfl) rfl ?_
  refine WP.seq ?_
  refine WP.region ?_
  refine RG.pv rfl (PV.mvB (.inr rfl) rfl) ?_
  refine RG.nil ?_
  refine WP.seq ?_
  refine WP.region ?_
  refine RG.pv rfl (PV.mvI (.inr rfl) rfl) ?_
  refine RG.nil ?_
  refine WP.seq ?_
  refine WP.region ?_
  refine RG.pv rfl (PV.move (v := v) rfl rfl) ?_
  refine RG.pv rfl (PV.mvI (.inl rfl) rfl) ?_
  refine RG.callF (vs := [v, _]) rfl rfl En9 rfl (szRectSS_s (Rs.up h1) hd.up (by omega) (by omega) (fun r hr hr' => ?_))
  refine RG.pv rfl (PV.mvI (.inr rfl) rfl) ?_
  refine RG.nil ?_
  refine WP.seq ?_
  refine WP.seq ?_
  refine WP.region ?_
  refine RG.pv rfl (PV.mvI (.inl rfl) rfl) ?_
  refine RG.pv rfl (PV.lss rfl rfl rfl) ?_
  refine RG.nil ?_
  refine WP.cond rfl (fun h3 => ?_) (fun h3 => ?_)
  · refine WP.seq ?_
    refine WP.region ?_
    refine RG.pv rfl (PV.mvB (.inr rfl) rfl) ?_
    refine RG.nil ?_
    refine WP.ret ?_
    exact ⟨_, _, ResV.one rfl rfl, Cv.p, k⟩
  · have h3 := of_decide_eq_false h3
    have hsz : szOf xs ≤ 1048576 := by have := hr' (by omega); omega
    have hc0 : 0 ≤ costL lenS xs := costL_nonneg lenS_nn _
    have hb : xs.length ≤ 1048576 := by simp only [szOf] at hsz; omega
    have hbi : ∀ i, i < xs.length → (gd xs i).xs.length ≤ 1048576 := fun i hi => by
      have := costL_mem lenS_nn hi; simp only [lenS, szOf] at *; omega
    have hcx : costL nRS xs ≤ 4194304 := by rw [nRS_lenS]; simp only [szOf] at hsz; omega
    refine WP.skip ?_
    refine WP.seq ?_
    refine WP.region ?_
    refine RG.pv rfl (PV.move (v := u) rfl rfl) ?_
    refine RG.pv rfl (PV.mvI (.inl rfl) rfl) ?_
    refine RG.callF (vs := [u, _]) rfl rfl En10 rfl (szLabelS_s (Rs.up h2) (by omega) (by omega) hlen ?_)
    refine RG.pv rfl (PV.mvI (.inr rfl) rfl) ?_
    refine RG.nil ?_
    refine WP.seq ?_
    refine WP.seq ?_
    refine WP.region ?_
    refine RG.pv rfl (PV.mvI (.inl rfl) rfl) ?_
    refine RG.pv rfl (PV.lss rfl rfl rfl) ?_
    refine RG.nil ?_
    refine WP.cond rfl (fun h4 => ?_) (fun h4 => ?_)
    · refine WP.seq ?_
      refine WP.region ?_
      refine RG.pv rfl (PV.mvB (.inr rfl) rfl) ?_
      refine RG.nil ?_
      refine WP.ret ?_
      exact ⟨_, _, ResV.one rfl rfl, Cv.p, k⟩
    · have h4 := of_decide_eq_false h4
      have hll := szLbS_len (xs := ls) (n := r) (by omega)
      have hbl : ls.length ≤ 1048576 := by omega
      have hcr := labR_len (er xs) ls
      refine WP.skip ?_
      refine WP.seq ?_
      refine WP.region ?_
      refine RG.pv rfl (PV.move (v := v) rfl rfl) ?_
      refine RG.callF (vs := [v]) rfl rfl En12 rfl (toRectSS_s (Rs.up h1) hd.up hb hbi (fun v29 ysv29 hev29 => ?_))
      refine RG.pv rfl (PV.move (v := u) rfl rfl) ?_
      refine RG.callF (vs := [u]) rfl rfl En13 rfl (toLabelS_s (Rs.up h2) hbl (fun v31 => ?_))
      refine RG.callF (vs := [v29, v31]) rfl rfl En11 rfl (labNets_r Rs.o RsE.o Rs.o hlen (fun w32 => ?_))
      refine RG.pv rfl (PV.move (v := .tuple _) rfl rfl) ?_
      refine RG.pv rfl (PV.ext (v := w32) rfl rfl rfl) ?_
      refine RG.pv rfl (PV.ext rfl rfl rfl) ?_
      refine RG.pv rfl (PV.asg (v := w32) rfl rfl) ?_
      refine RG.pv rfl (PV.mvI (.inr rfl) rfl) ?_
      refine RG.nil ?_
      refine WP.seq ?_
      refine WP.region ?_
      refine RG.pv rfl (PV.move (v := v) rfl rfl) ?_
      refine RG.callF (vs := [v]) rfl rfl En12 rfl (toRectSS_s (Rs.up h1) hd.up hb hbi (fun v36 ysv36 hev36 => ?_))
      refine RG.pv rfl (PV.asg (v := v36) rfl rfl) ?_
      refine RG.nil ?_
      refine WP.seq ?_
      refine WP.region ?_
      refine RG.pv rfl (PV.move (v := u) rfl rfl) ?_
      refine RG.callF (vs := [u]) rfl rfl En13 rfl (toLabelS_s (Rs.up h2) hbl (fun v38 => ?_))
      refine RG.pv rfl (PV.asg (v := v38) rfl rfl) ?_
      refine RG.nil ?_
      refine WP.seq ?_
      refine WP.region ?_
      refine RG.pv rfl (PV.move (v := v36) rfl rfl) ?_
      refine RG.pv rfl (PV.move (v := v38) rfl rfl) ?_
      refine RG.callF (vs := [v36, v38]) rfl rfl En14 rfl (labNets_i Rs.o RsE.o Rs.o hlen (fun w42 => ?_))
      refine RG.pv rfl (PV.move (v := .tuple _) rfl rfl) ?_
      refine RG.pv rfl (PV.ext (v := w42) rfl rfl rfl) ?_
      refine RG.pv rfl (PV.ext rfl rfl rfl) ?_
      refine RG.pv rfl (PV.asg (v := w42) rfl rfl) ?_
      refine RG.pv rfl (PV.mvI (.inr rfl) rfl) ?_
      refine RG.nil ?_
      refine WP.seq ?_
      refine WP.seq ?_
      refine WP.region ?_
      refine RG.pv rfl (PV.move (v := w42) rfl rfl) ?_
      refine RG.pv rfl (PV.move (v := w32) rfl rfl) ?_
      refine RG.callF (vs := [w42, w32]) rfl rfl En15 rfl (eqInt_s Rs.o Rs.o ?_)
      refine RG.pv rfl (PV.not rfl rfl) ?_
      refine RG.pv rfl (PV.mvB (.inl rfl) rfl) ?_
      refine RG.gs rfl rfl rfl (fun hp => (PV.mvI (.inl rfl) rfl)) ?_
      refine RG.gs rfl rfl rfl (fun hp => (PV.mvI (.inl rfl) rfl)) ?_
      refine RG.gs rfl rfl rfl (fun hp => (PV.neq rfl (gs_t hp) (gs_t hp))) ?_
      refine RG.pv rfl (PV.pickO rfl rfl rfl (fun hq => gs_t (geqF hq))) ?_
      refine RG.nil ?_
      refine WP.cond rfl (fun h5 => ?_) (fun h5 => ?_)
      · simp [*] at h5
      · refine WP.skip ?_
        refine WP.seq ?_
        refine WP.seq ?_
        refine WP.region ?_
        refine RG.pv rfl (PV.move (v := v36) rfl rfl) ?_
        refine RG.pv rfl (PV.move (v := v) rfl rfl) ?_
        refine RG.callF (vs := [v]) rfl rfl En12 rfl (toRectSS_s (Rs.up h1) hd.up hb hbi (fun v56 ysv56 hev56 => ?_))
        refine RG.callF (vs := [v36, v56]) rfl rfl En16 rfl (eqRectSS_s Rs.o RsE.o Rs.o RsE.o ?_)
        refine RG.pv rfl (PV.not rfl rfl) ?_
        refine RG.nil ?_
        refine WP.cond rfl (fun h6 => ?_) (fun h6 => ?_)
        · simp [*] at h6
        · refine WP.skip ?_
          refine WP.seq ?_
          refine WP.seq ?_
          refine WP.region ?_
          refine RG.pv rfl (PV.move (v := v38) rfl rfl) ?_
          refine RG.pv rfl (PV.move (v := u) rfl rfl) ?_
          refine RG.callF (vs := [u]) rfl rfl En13 rfl (toLabelS_s (Rs.up h2) hbl (fun v61 => ?_))
          refine RG.callF (vs := [v38, v61]) rfl rfl En17 rfl (eqLabelS_s Rs.o Rs.o ?_)
          refine RG.pv rfl (PV.not rfl rfl) ?_
          refine RG.nil ?_
          refine WP.cond rfl (fun h7 => ?_) (fun h7 => ?_)
          · simp [*] at h7
          · have hm1 : costL nRS ysv36 ≤ 4194304 := by rw [costL_er hev36]; exact hcx
            have hm5 : costL nLb ls ≤ 4194304 := by rw [nLb_cost]; omega
            have hm2 : costL nI (labR (er ysv36) ls) ≤ 1048576 := by rw [hev36, nI_cost]; omega
            have hm3 : 0 ≤ costL nRS ysv36 := costL_nonneg nSl_nn _
            have hm4 : 0 ≤ costL nI (labR (er ysv36) ls) := by rw [nI_cost]; omega
            have hm6 : 0 ≤ costL nLb ls := by rw [nLb_cost]; omega
            refine WP.skip ?_
            refine WP.seq ?_
            refine WP.region ?_
            refine RG.pv rfl (PV.mvI (.inr rfl) rfl) ?_
            refine RG.nil ?_
            refine WP.seq ?_
            refine WP.region ?_
            refine RG.pv rfl (PV.move (v := v36) rfl rfl) ?_
            refine RG.pv rfl (PV.mvI (.inl rfl) rfl) ?_
            refine RG.callF (vs := [v36, _]) rfl rfl En18 rfl (CallT.exBg ysv36 (CallT.exS v36 (markRectSS_s (by omega) (by omega) ?_)))
            refine RG.pv rfl (PV.mvI (.inr rfl) rfl) ?_
            refine RG.nil ?_
            refine WP.seq ?_
            refine WP.region ?_
            refine RG.pv rfl (PV.move (v := v38) rfl rfl) ?_
            refine RG.pv rfl (PV.mvI (.inl rfl) rfl) ?_
            refine RG.callF (vs := [v38, _]) rfl rfl En19 rfl (CallT.exS v38 (markLabelS_s (by omega) (by omega) ?_))
            refine RG.pv rfl (PV.mvI (.inr rfl) rfl) ?_
            refine RG.nil ?_
            refine WP.seq ?_
            refine WP.seq ?_
            refine WP.region ?_
            refine RG.pv rfl (PV.mvI (.inl rfl) rfl) ?_
            refine RG.pv rfl (PV.lss rfl rfl rfl) ?_
            refine RG.pv rfl (PV.mvB (.inl rfl) rfl) ?_
            refine RG.gs rfl rfl rfl (fun hp => (PV.move (v := w42) rfl rfl)) ?_
            refine RG.gs rfl rfl rfl (fun hp => (PV.move (v := w32) rfl rfl)) ?_
            refine RG.gsC rfl rfl rfl rfl En15 (fun hp => ⟨_, (acons (gs_t hp) (acons (gs_t hp) anil)), eqInt_s Rs.o Rs.o ⟨rfl, rfl, rfl⟩⟩) ?_
            refine RG.gs rfl rfl rfl (fun hp => (PV.not rfl (gs_t hp))) ?_
            refine RG.pv rfl (PV.pickO rfl rfl rfl (fun hq => gs_t (geqF hq))) ?_
            refine RG.pv rfl (PV.mvB (.inl rfl) rfl) ?_
            refine RG.gs rfl rfl rfl (fun hp => (PV.mvI (.inl rfl) rfl)) ?_
            refine RG.gs rfl rfl rfl (fun hp => (PV.mvI (.inl rfl) rfl)) ?_
            refine RG.gs rfl rfl rfl (fun hp => (PV.neq rfl (gs_t hp) (gs_t hp))) ?_
            refine RG.pv rfl (PV.pickO rfl rfl rfl (fun hq => gs_t (geqF hq))) ?_
            refine RG.nil ?_
            refine WP.cond rfl (fun h8 => ?_) (fun h8 => ?_)
            · simp [*] at h8 <;> omega
            · skip
              refine WP.skip ?_
              refine WP.seq ?_
              refine WP.region ?_
              refine RG.pv rfl (PV.mvI (.inr rfl) rfl) ?_
              refine RG.nil ?_
              refine WP.seq ?_
              refine WP.region ?_
              refine RG.pv rfl (PV.move (v := w42) rfl rfl) ?_
              refine RG.pv rfl (PV.mvI (.inl rfl) rfl) ?_
              refine RG.callF (vs := [w42, _]) rfl rfl En20 rfl (CallT.exS w42 (markInt_s (by omega) (by omega) ?_))
              refine RG.pv rfl (PV.mvI (.inr rfl) rfl) ?_
              refine RG.nil ?_
              refine WP.seq ?_
              refine WP.region ?_
              refine RG.pv rfl (PV.mvI (.inr rfl) rfl) ?_
              refine RG.nil ?_
              refine WP.seq ?_
              refine WP.region ?_
              refine RG.pv rfl (PV.move (v := w42) rfl rfl) ?_
              refine RG.pv rfl (PV.mvI (.inl rfl) rfl) ?_
              refine RG.callF (vs := [w42, _]) rfl rfl En21 rfl (heldInt_s Rs.o (by omega) (by omega) ?_)
              refine RG.pv rfl (PV.mvI (.inr rfl) rfl) ?_
              refine RG.nil ?_
              refine WP.seq ?_
              refine WP.seq ?_
              refine WP.region ?_
              refine RG.pv rfl (PV.mvI (.inl rfl) rfl) ?_
              refine RG.pv rfl (PV.lss rfl rfl rfl) ?_
              refine RG.nil ?_
              refine WP.cond rfl (fun h9 => ?_) (fun h9 => ?_)
              · simp at h9; omega
              · refine WP.skip ?_
                refine WP.seq ?_
                refine WP.seq ?_
                refine WP.region ?_
                refine RG.pv rfl (PV.mvI (.inl rfl) rfl) ?_
                refine RG.pv rfl (PV.mvI (.inl rfl) rfl) ?_
                refine RG.pv rfl (PV.neq rfl rfl rfl) ?_
                refine RG.nil ?_
                refine WP.cond rfl (fun ha => ?_) (fun ha => ?_)
                · simp at ha
                · refine WP.skip ?_
                  refine WP.seq ?_
                  refine WP.region ?_
                  refine RG.pv rfl (PV.move (v := v) rfl rfl) ?_
                  refine RG.callF (vs := [v]) rfl rfl En12 rfl (toRectSS_s (Rs.up h1) hd.up hb hbi (fun v96 ysv96 hev96 => ?_))
                  refine RG.pv rfl (PV.move (v := u) rfl rfl) ?_
                  refine RG.callF (vs := [u]) rfl rfl En13 rfl (toLabelS_s (Rs.up h2) hbl (fun v98 => ?_))
                  refine RG.callF (vs := [v96, v98]) rfl rfl En14 rfl (labNets_i Rs.o RsE.o Rs.o hlen (fun w99 => ?_))
                  refine RG.pv rfl (PV.move (v := .tuple _) rfl rfl) ?_
                  refine RG.pv rfl (PV.ext (v := w99) rfl rfl rfl) ?_
                  refine RG.pv rfl (PV.ext rfl rfl rfl) ?_
                  refine RG.pv rfl (PV.asg (v := w99) rfl rfl) ?_
                  refine RG.pv rfl (PV.mvI (.inr rfl) rfl) ?_
                  refine RG.nil ?_
                  refine WP.seq ?_
                  refine WP.seq ?_
                  refine WP.region ?_
                  refine RG.pv rfl (PV.move (v := w99) rfl rfl) ?_
                  refine RG.pv rfl (PV.move (v := w32) rfl rfl) ?_
                  refine RG.callF (vs := [w99, w32]) rfl rfl En15 rfl (eqInt_s Rs.o Rs.o ?_)
                  refine RG.pv rfl (PV.not rfl rfl) ?_
                  refine RG.pv rfl (PV.mvB (.inl rfl) rfl) ?_
                  refine RG.gs rfl rfl rfl (fun hp => (PV.mvI (.inl rfl) rfl)) ?_
                  refine RG.gs rfl rfl rfl (fun hp => (PV.mvI (.inl rfl) rfl)) ?_
                  refine RG.gs rfl rfl rfl (fun hp => (PV.neq rfl (gs_t hp) (gs_t hp))) ?_
                  refine RG.pv rfl (PV.pickO rfl rfl rfl (fun hq => gs_t (geqF hq))) ?_
                  refine RG.nil ?_
                  refine WP.cond rfl (fun hb2 => ?_) (fun hb2 => ?_)
                  · simp [*] at hb2
                  · skip
                    refine WP.skip ?_
                    refine WP.seq ?_
                    refine WP.region ?_
                    refine RG.pv rfl (PV.mvI (.inr rfl) rfl) ?_
                    refine RG.nil ?_
                    refine WP.seq ?_
                    refine WP.region ?_
                    refine RG.pv rfl (PV.move (v := w42) rfl rfl) ?_
                    refine RG.pv rfl (PV.mvI (.inl rfl) rfl) ?_
                    refine RG.callF (vs := [w42, _]) rfl rfl En21 rfl (heldInt_s Rs.o (by omega) (by omega) ?_)
                    refine RG.pv rfl (PV.mvI (.inr rfl) rfl) ?_
                    refine RG.nil ?_
                    refine WP.seq ?_
                    refine WP.seq ?_
                    refine WP.region ?_
                    refine RG.pv rfl (PV.mvI (.inl rfl) rfl) ?_
                    refine RG.pv rfl (PV.lss rfl rfl rfl) ?_
                    refine RG.nil ?_
                    refine WP.cond rfl (fun hc2 => ?_) (fun hc2 => ?_)
                    · simp at hc2; omega
                    · refine WP.skip ?_
                      refine WP.seq ?_
                      refine WP.seq ?_
                      refine WP.region ?_
                      refine RG.pv rfl (PV.mvI (.inl rfl) rfl) ?_
                      refine RG.pv rfl (PV.mvI (.inl rfl) rfl) ?_
                      refine RG.pv rfl (PV.neq rfl rfl rfl) ?_
                      refine RG.nil ?_
                      refine WP.cond rfl (fun hd2 => ?_) (fun hd2 => ?_)
                      · simp at hd2
                      · refine WP.skip ?_
                        refine WP.seq ?_
                        refine WP.region ?_
                        refine RG.pv rfl (PV.mvB (.inr rfl) rfl) ?_
                        refine RG.nil ?_
                        refine WP.ret ?_
                        exact ⟨_, _, ResV.one rfl rfl, Cv.p, k⟩
end Go.Proofs.YtmomfgfmnpblpaaGreat
namespace Go.Proofs.YtmomfgfmnpblpaaGreat
set_option linter.unusedVariables false
set_option linter.unusedSimpArgs false
open Go Go.ChangeShapes Go.WideShapes Go.ChangeAt Go.RowKit
set_option linter.unusedSimpArgs false
set_option maxRecDepth 100000
theorem Tryz.own : ownKnob Tryz.prog.godebug = none := by kernel_rfl
theorem Tryz.laidOut : laidOutB Tryz.prog = true := by kernel_rfl
def okrectT (G : Gh) (a : Rect) : Prop := okI G a.x0 ∧ okI G a.y0 ∧ okI G a.x1 ∧ okI G a.y1
theorem opn132 : Opn Tryz.prog 132 rectT okrectT := fun {H enc w fuel cs x} h => by
  obtain ⟨xs, n, _, _, hl, hx, hf⟩ := DataW.trod_struct Tryz.underlying132 h
  rw [show Tryz.prog.cellsOf 132 = 4 by kernel_rfl] at hl
  obtain ⟨c0, c1, c2, c3, rfl⟩ : ∃ c0 c1 c2 c3, cs = [c0, c1, c2, c3] := by
    match cs, hl with
    | [c0, c1, c2, c3], _ => exact ⟨c0, c1, c2, c3, rfl⟩
  have g0 := hf 0 _ rfl
  simp only [List.getElem_toArray, List.getElem_cons_zero, List.getElem_cons_succ] at g0
  rw [show Tryz.prog.cellsOf 2 = 1 by kernel_rfl] at g0
  obtain ⟨x0, y0⟩ : ∃ x, xs[0]? = some x := ⟨_, List.getElem?_eq_getElem (by rw [hx]; decide)⟩
  rw [y0] at g0
  obtain ⟨a0, e0, o0⟩ := (opnI Tryz.underlying2) g0
  have g1 := hf 1 _ rfl
  simp only [List.getElem_toArray, List.getElem_cons_zero, List.getElem_cons_succ] at g1
  rw [show Tryz.prog.cellsOf 2 = 1 by kernel_rfl] at g1
  obtain ⟨x1, y1⟩ : ∃ x, xs[1]? = some x := ⟨_, List.getElem?_eq_getElem (by rw [hx]; decide)⟩
  rw [y1] at g1
  obtain ⟨a1, e1, o1⟩ := (opnI Tryz.underlying2) g1
  have g2 := hf 2 _ rfl
  simp only [List.getElem_toArray, List.getElem_cons_zero, List.getElem_cons_succ] at g2
  rw [show Tryz.prog.cellsOf 2 = 1 by kernel_rfl] at g2
  obtain ⟨x2, y2⟩ : ∃ x, xs[2]? = some x := ⟨_, List.getElem?_eq_getElem (by rw [hx]; decide)⟩
  rw [y2] at g2
  obtain ⟨a2, e2, o2⟩ := (opnI Tryz.underlying2) g2
  have g3 := hf 3 _ rfl
  simp only [List.getElem_toArray, List.getElem_cons_zero, List.getElem_cons_succ] at g3
  rw [show Tryz.prog.cellsOf 2 = 1 by kernel_rfl] at g3
  obtain ⟨x3, y3⟩ : ∃ x, xs[3]? = some x := ⟨_, List.getElem?_eq_getElem (by rw [hx]; decide)⟩
  rw [y3] at g3
  obtain ⟨a3, e3, o3⟩ := (opnI Tryz.underlying2) g3
  clear hf hx hl
  refine ⟨⟨a0, a1, a2, a3⟩, ?_, o0, o1, o2, o3⟩
  simp [intT] at e0 e1 e2 e3
  simp [intT, rectT, e0, e1, e2, e3]
def okptT (G : Gh) (a : Pt) : Prop := okI G a.x ∧ okI G a.y
theorem opn74 : Opn Tryz.prog 74 ptT okptT := fun {H enc w fuel cs x} h => by
  obtain ⟨xs, n, _, _, hl, hx, hf⟩ := DataW.trod_struct Tryz.underlying74 h
  rw [show Tryz.prog.cellsOf 74 = 2 by kernel_rfl] at hl
  obtain ⟨c0, c1, rfl⟩ : ∃ c0 c1, cs = [c0, c1] := by
    match cs, hl with
    | [c0, c1], _ => exact ⟨c0, c1, rfl⟩
  have g0 := hf 0 _ rfl
  simp only [List.getElem_toArray, List.getElem_cons_zero, List.getElem_cons_succ] at g0
  rw [show Tryz.prog.cellsOf 2 = 1 by kernel_rfl] at g0
  obtain ⟨x0, y0⟩ : ∃ x, xs[0]? = some x := ⟨_, List.getElem?_eq_getElem (by rw [hx]; decide)⟩
  rw [y0] at g0
  obtain ⟨a0, e0, o0⟩ := (opnI Tryz.underlying2) g0
  have g1 := hf 1 _ rfl
  simp only [List.getElem_toArray, List.getElem_cons_zero, List.getElem_cons_succ] at g1
  rw [show Tryz.prog.cellsOf 2 = 1 by kernel_rfl] at g1
  obtain ⟨x1, y1⟩ : ∃ x, xs[1]? = some x := ⟨_, List.getElem?_eq_getElem (by rw [hx]; decide)⟩
  rw [y1] at g1
  obtain ⟨a1, e1, o1⟩ := (opnI Tryz.underlying2) g1
  clear hf hx hl
  refine ⟨⟨a0, a1⟩, ?_, o0, o1⟩
  simp [intT] at e0 e1
  simp [intT, ptT, e0, e1]
def oklabelT (G : Gh) (a : Label) : Prop := okI G a.layer ∧ okptT G a.at_ ∧ okS G a.name
theorem opn76 : Opn Tryz.prog 76 labelT oklabelT := fun {H enc w fuel cs x} h => by
  obtain ⟨xs, n, _, _, hl, hx, hf⟩ := DataW.trod_struct Tryz.underlying76 h
  rw [show Tryz.prog.cellsOf 76 = 4 by kernel_rfl] at hl
  obtain ⟨c0, c1, c2, c3, rfl⟩ : ∃ c0 c1 c2 c3, cs = [c0, c1, c2, c3] := by
    match cs, hl with
    | [c0, c1, c2, c3], _ => exact ⟨c0, c1, c2, c3, rfl⟩
  have g0 := hf 0 _ rfl
  simp only [List.getElem_toArray, List.getElem_cons_zero, List.getElem_cons_succ] at g0
  rw [show Tryz.prog.cellsOf 2 = 1 by kernel_rfl] at g0
  obtain ⟨x0, y0⟩ : ∃ x, xs[0]? = some x := ⟨_, List.getElem?_eq_getElem (by rw [hx]; decide)⟩
  rw [y0] at g0
  obtain ⟨a0, e0, o0⟩ := (opnI Tryz.underlying2) g0
  have g1 := hf 1 _ rfl
  simp only [List.getElem_toArray, List.getElem_cons_zero, List.getElem_cons_succ] at g1
  rw [show Tryz.prog.cellsOf 74 = 2 by kernel_rfl] at g1
  obtain ⟨x1, y1⟩ : ∃ x, xs[1]? = some x := ⟨_, List.getElem?_eq_getElem (by rw [hx]; decide)⟩
  rw [y1] at g1
  obtain ⟨a1, e1, o1⟩ := opn74 g1
  have g2 := hf 2 _ rfl
  simp only [List.getElem_toArray, List.getElem_cons_zero, List.getElem_cons_succ] at g2
  rw [show Tryz.prog.cellsOf 9 = 1 by kernel_rfl] at g2
  obtain ⟨x2, y2⟩ : ∃ x, xs[2]? = some x := ⟨_, List.getElem?_eq_getElem (by rw [hx]; decide)⟩
  rw [y2] at g2
  obtain ⟨a2, e2, o2⟩ := (opnS Tryz.underlying9) g2
  clear hf hx hl
  refine ⟨⟨a0, a1, a2⟩, ?_, o0, o1, o2⟩
  simp [intT, ptT, strT] at e0 e1 e2
  simp [intT, labelT, ptT, strT, e0, e1, e2]
theorem labelNets_lifted (os : Os) (started : os.Started) (H : Type) (enc : TypeId × Value → H) :
    ReturnsInHanded {} Tryz.checked os 3 .any (Rows.fnExactLabelNetsSpec.pre6 enc Tryz.prog Tryz.f3 [] false) (Rows.fnExactLabelNetsSpec.post enc Tryz.prog Tryz.f3 false true false false) := by
  refine law_lifted (C := Tryz.checked) Tryz.own started (by kernel_rfl) Tryz.func3 Tryz.laidOut rfl (by kernel_rfl) rfl Tryz.underlying4 (fun ds h => ?_)
    (ChangeSpec.witness6 (enc := enc) (C := Tryz.checked) false ⟨#[], #[.slice none 0 0, .slice none 0 0], []⟩ 8 (by kernel_rfl) (by kernel_rfl) (by kernel_rfl) (by kernel_rfl)) ?_
  · match ds, h with
    | [d, e], _ => rfl
  · intro W base args ds ps hval hA
    have hA : DataW.TrodAll enc Tryz.prog W 0 (fun _ => true) true Tryz.f3.params.toList args.toList ds ps := hA
    have hval : ∀ (j : Nat) t v, Tryz.f3.params[j]? = some t → args[j]? = some v → Value.okWide Tryz.prog W .any base t v := hval
    rw [Tryz.params3] at hA hval
    obtain ⟨v0, v1, d0, d1, p0, p1, rfl, rfl, rfl, h0, h1⟩ := trodAll_two hA
    obtain ⟨s, rfl, q1, q2⟩ := argSl Tryz.underlying22 (opnSl Tryz.underlying22 (opnSl Tryz.underlying72 opn132 (by kernel_rfl) (by decide)) (by kernel_rfl) (by decide)) (hval 0 _ v0 rfl rfl) h0
    obtain ⟨ls, h2, h3⟩ := argL Tryz.underlying23 (opnL Tryz.underlying23 opn76 (by kernel_rfl) (by decide)) (hval 1 _ v1 rfl rfl) h1
    exact law_LabelNets (Rs.g q1) (fun i hi => Rs.g (q2 i hi).1) (Rs.g h2) (fun i hi => (h3 i hi).2.2) ⟨rfl, Gh.le_refl _⟩
theorem labelNets_holds : Rows.FnExactLabelNetsSaid :=
  OpenClaim.holds_of_wide 3 Tryz.f3 rfl rfl rfl rfl rfl rfl rfl ⟨rfl, rfl, rfl, rfl, rfl⟩ rfl rfl rfl rfl rfl (by kernel_rfl) Tryz.func3 (by kernel_rfl)
    (of_decide_eq_true (by kernel_rfl)) (by unfold Func.isWrapper; first | (rw [if_pos (by decide +kernel)]; kernel_rfl) | (rw [if_neg (by decide +kernel)]; exact ⟨rfl, rfl⟩))
    (fun os started H enc _ => labelNets_lifted os started H enc)
end Go.Proofs.YtmomfgfmnpblpaaGreat
