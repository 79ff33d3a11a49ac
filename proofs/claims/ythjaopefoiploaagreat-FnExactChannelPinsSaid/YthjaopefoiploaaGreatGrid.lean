/-
  The rules of an owned grid of flags: an array of rows that lies in one block; comparison of rows and of structs.
-/
import Derived.Test.YthjaopefoiploaaGreatMem2
import Derived.Test.YthjaopefoiploaaGreatData
import Derived.Laws.StructEq
namespace Go.Proofs.YthjaopefoiploaaGreat
open Go
set_option linter.unusedVariables false

abbrev bv (bs : List Bool) : List Value := bs.map Value.bool
theorem bv_get {bs : List Bool} {k : Nat} (h : k < bs.length) : (bv bs)[k]? = some (.bool (gd bs k)) := by simp [bv, gd, h]
theorem bv_splice (bs : List Bool) (k : Nat) (x : Bool) : splice (bv bs) k [.bool x] = bv (bs.set k x) := by simp [splice, bv, List.map_set]
theorem bv_part (bs : List Bool) (k n : Nat) : ((bv bs).drop k).take n = bv ((bs.drop k).take n) := by simp [bv, List.map_drop, List.map_take]
def falsB : Value → Bool
  | .bool b => !b
  | _ => false
def zeroB (P : Program) (t : TypeId) (n : Nat) : Bool :=
  match (P.info? t).bind (·.zero) with
  | some z => Nat.beq z.cells.size n && z.cells.toList.all falsB
  | none => false
theorem zeroB_spec {P : Program} {t : TypeId} {n : Nat} (h : zeroB P t n = true) : ZeroT P t (bv (List.replicate n false)) := by
  unfold zeroB at h
  split at h
  · rename_i z hz
    obtain ⟨i, hi, hz⟩ := Option.bind_eq_some_iff.1 hz
    simp only [Bool.and_eq_true] at h
    refine ⟨z, fun w => by simp [zeroValue, typeInfo, hi, hz], ?_⟩
    apply List.ext_getElem?
    intro k
    have hn : z.cells.size = n := Nat.eq_of_beq_eq_true h.1
    by_cases hk : k < n
    · have hl : k < z.cells.toList.length := by simpa [hn] using hk
      have := List.all_eq_true.1 h.2 _ (List.getElem_mem hl)
      rw [List.getElem?_eq_getElem hl]
      generalize z.cells.toList[k] = v at this
      cases v <;> simp_all [falsB, bv]
    · rw [List.getElem?_eq_none (by simp [hn]; omega), List.getElem?_eq_none (by simp [bv]; omega)]
  · cases h

section
variable {P : Program} {n : Nat} {σ : Nat → Value} {G : Gh} {L : List Ch} {o : Oper} {T T' t : TypeId} {x y : Operand} {v u : Value} {K : (Nat → Value) → Gh → List Ch → Prop}
/-- a literal that names no part, laid into a new variable later -/
theorem PV.build0 {z : List Value} (ho : o.op = .build t #[]) {ln e : Nat} (hu : P.underlying t = some (.array ln e)) (hi : ∃ s, (P.info? e).map (·.size) = some s) (hz : ZeroT P t z) : PV P o σ G L (.agg z.toArray) := by
  obtain ⟨zv, hz1, hz2⟩ := hz
  obtain ⟨s, hi⟩ := hi
  obtain ⟨i, hi1, rfl⟩ := info_size hi
  intro w hs
  have hzc : zv.cells = z.toArray := by rw [← hz2]
  simp [execOp, ho, Instr.build, hz1, run_underlying hu, sizeOf, typeInfo, hi1, Instr.fill, hzc]
def arrB (P : Program) (t e n : Nat) : Option (Nat × Nat) :=
  match P.info? e with
  | some i => (P.info? t).bind fun j => j.zero.map fun z => (i.size, z.cells.size)
  | none => none
/-- a literal of an array that names all its elements -/
theorem PV.buildA {α : Type} {F : FT α} {ps : List (Nat × Operand)} {az : List α} {ln e : Nat} (ho : o.op = .build t ps.toArray) (hu : P.underlying t = some (.array ln e)) (hi : arrB P t e ln = some (F.sz, az.length * F.sz)) (hv : BV F σ G L 0 ps az) : PV P o σ G L (.agg (F.flat az).toArray) := by
  unfold arrB at hi
  split at hi
  · rename_i i h1
    obtain ⟨j, h2, h3⟩ := Option.bind_eq_some_iff.1 hi
    obtain ⟨z, h4, h5⟩ := Option.map_eq_some_iff.1 h3
    simp only [Prod.mk.injEq] at h5
    intro w hs
    have key := fill_run (F := F) hs ps az 0 z.cells hv (by rw [h5.2, Nat.zero_add])
    simp only [Nat.zero_mul, List.take_zero, List.nil_append] at key
    have hz : (zeroValue t).run P w = .ok z w := by simp [zeroValue, typeInfo, h2, h4]
    simp only [execOp, ho, Instr.build, Sem.run_bind, hz, Result.andThen_ok, run_underlying hu, sizeOf, typeInfo, run_program, h1, Sem.run_pure, h5.1, List.map_toArray, List.toList_toArray]
    rw [key]
    simp
  · cases hi
theorem PV.loadGr {b k : Nat} {e : TypeId} {cs : List Value} {bs : List Bool} {L' : List Ch} (ho : o.op = .load t x) (hS : Scal P t) (hx : ev σ x = .pointer (some ⟨b, k, none⟩)) [hX : ExB b L e cs L'] (hb : cs = bv bs) (hk : k < bs.length) : PV P o σ G L (.bool (gd bs k)) := by
  subst hb
  exact PV.load1 ho hS hx (Rd.blk (L' := L') (bv_get hk))
theorem PV.loadRow {b k s : Nat} {e : TypeId} {cs : List Value} {bs : List Bool} {L' : List Ch} (ho : o.op = .load t x) (hA : Aggr P t s) (hx : ev σ x = .pointer (some ⟨b, k, none⟩)) [hX : ExB b L e cs L'] (hb : cs = bv bs) (hk : k + s ≤ bs.length) :
    PV P o σ G L (.agg (bv ((bs.drop k).take s)).toArray) := by
  subst hb
  exact PV.loadB ho hA hx (L' := L') (bv_part bs k s) (by simp [bv]; omega)
theorem OT.storeGr {b k : Nat} {e : TypeId} {cs : List Value} {bs : List Bool} {q : Bool} {L' : List Ch} (ho : o.op = .store t x y) (hS : ∀ w, (sizeOf t).run P w = .ok 1 w) (hx : ev σ x = .pointer (some ⟨b, k, none⟩)) (hy : ev σ y = .bool q)
    [hX : ExB b L e cs L'] (hb : cs = bv bs) (hk : k < bs.length) (K1 : K (updo σ o.dst undef) G (blk b e (bv (bs.set k q)) :: L')) : OT P n o σ G L K := by
  subst hb
  exact OT.storeB (vs := [.bool q]) ho hS hx hy (Cl.c rfl) rfl (OneC.c rfl) (by rw [Nat.ble_eq]; simp [bv]; omega) (bv_splice bs k q) K1
theorem run_equalIn_bools (w : World) (d : Nat) (t e : TypeId) (n : Nat) (ht : P.underlying t = some (.array n e)) (he : P.underlying e = some .bool) (hsz : ∀ w, (sizeOf e).run P w = .ok 1 w)
    (xs ys : List Bool) (hx : xs.length = n) (hy : ys.length = n) :
    (Op.equalIn (d + 2) t (.agg (bv xs).toArray) (.agg (bv ys).toArray)).run P w = .ok (decide (xs = ys)) w := by
  have hall : decide (xs = ys) = (List.range' 0 n 1).all fun i => xs.getD i false == ys.getD i false := by
    rw [Bool.eq_iff_iff, decide_eq_true_iff, List.all_eq_true]
    constructor
    · rintro rfl i _; simp
    · intro h
      apply List.ext_getElem?
      intro i
      by_cases hi : i < n
      · have := h i (by simp [List.mem_range'_1, hi])
        simp only [List.getD, beq_iff_eq] at this
        rw [List.getElem?_eq_getElem (by omega), List.getElem?_eq_getElem (by omega)] at this ⊢
        simpa using this
      · rw [List.getElem?_eq_none (by omega), List.getElem?_eq_none (by omega)]
  rw [hall, Op.equalIn]
  simp only [Sem.run_bind, run_underlying ht, Result.andThen_ok, hsz, Std.Legacy.Range.forIn_eq_forIn_range', Std.Legacy.Range.size, Nat.sub_zero, Nat.add_sub_cancel, Nat.div_one]
  have hl : ∀ i ∈ List.range' 0 n 1, i < n := fun i hi => by simpa using (List.mem_range'_1.1 hi).2
  generalize List.range' 0 n 1 = l at hl ⊢
  induction l with
  | nil => simp
  | cons i l ih =>
    have hi : i < n := hl i (by simp)
    have px : (part e (bv xs).toArray (i * 1)).run P w = .ok (.bool (xs.getD i false)) w := by
      simp [part, isAgg, run_underlying he, List.getD, List.getElem?_eq_getElem (show i < xs.length by omega), bv]
    have py : (part e (bv ys).toArray (i * 1)).run P w = .ok (.bool (ys.getD i false)) w := by
      simp [part, isAgg, run_underlying he, List.getD, List.getElem?_eq_getElem (show i < ys.length by omega), bv]
    have pe := run_equalIn_bool' (P := P) w d e (xs.getD i false) (ys.getD i false) he
    simp only [List.forIn_cons, Sem.run_bind, px, py, pe, Result.andThen_ok, List.all_cons]
    cases hb : (xs.getD i false == ys.getD i false)
    · simp
    · simp only [Bool.not_true, Bool.false_eq_true, if_false, Sem.run_pure, Result.andThen_ok, Bool.true_and]
      exact ih fun j hj => hl j (by simp [hj])
theorem PV.eqlRow {xs ys : List Bool} {ln e : Nat} (ho : o.op = .binOp .eql T x y T') (hT : P.underlying T = some (.array ln e)) (he : P.underlying e = some .bool) (hsz : ∀ w, (sizeOf e).run P w = .ok 1 w) (hm : P.eqGuardType P.depth T = false)
    (hx : ev σ x = .agg (bv xs).toArray) (hy : ev σ y = .agg (bv ys).toArray) (hlx : xs.length = ln) (hly : ys.length = ln) : PV P o σ G L (.bool (decide (xs = ys))) := by
  intro w hw
  have h1 := run_equalIn_bools (P := P) w 9998 T e ln hT he hsz xs ys hlx hly
  have h2 : (binOp .eql T (.agg (bv xs).toArray) (.agg (bv ys).toArray)).run P w = .ok (.bool (decide (xs = ys))) w := by
    rw [run_eql_struct, h1]; rfl
  simp only [execOp, ho, hx, hy, Sem.run_bind, run_eqGuard_agg w .eql T x y _ _ hm, Result.andThen_ok, h2, Sem.run_pure]
theorem eqT_run {fs : Array Field} {t : TypeId} (d : Nat) (xs ys : Array Value) (w : World) (ht : P.underlying t = some (.struct fs)) (hp : P.stoodInHeld t = false) : (Op.equalIn (d + 1) t (.agg xs) (.agg ys)).run P w = (Op.eqFields d xs ys fs.toList).run P w := by
  have hfs : P.fieldsOf t = fs := by simp only [Program.fieldsOf, ht]
  rw [run_equalIn_agg w d t xs ys (by rw [hfs]; exact ht) hp, hfs]
/-- two structs of a flat type compared -/
def EqT {α : Type} [DecidableEq α] (P : Program) (T : TypeId) (F : FT α) : Prop :=
  P.eqGuardType P.depth T = false ∧ ∀ (a b : α) w, (Op.equalIn 10000 T (vT F a) (vT F b)).run P w = .ok (decide (a = b)) w
theorem PV.eqlT {α : Type} [DecidableEq α] {F : FT α} {a b : α} (ho : o.op = .binOp .eql T x y T') (hE : EqT P T F) (hx : ev σ x = vT F a) (hy : ev σ y = vT F b) : PV P o σ G L (.bool (decide (a = b))) := by
  intro w hw
  have h2 : (binOp .eql T (vT F a) (vT F b)).run P w = .ok (.bool (decide (a = b))) w := by
    rw [run_eql_struct, hE.2]; rfl
  simp only [execOp, ho, hx, hy, Sem.run_bind, run_eqGuard_agg w .eql T x y _ _ hE.1, Result.andThen_ok, h2, Sem.run_pure]
theorem PV.neqT {α : Type} [DecidableEq α] {F : FT α} {a b : α} (ho : o.op = .binOp .neq T x y T') (hE : EqT P T F) (hx : ev σ x = vT F a) (hy : ev σ y = vT F b) : PV P o σ G L (.bool (!decide (a = b))) := by
  intro w hw
  have h2 : (binOp .neq T (vT F a) (vT F b)).run P w = .ok (.bool (!decide (a = b))) w := by
    rw [run_neq_struct, hE.2]; rfl
  simp only [execOp, ho, hx, hy, Sem.run_bind, run_eqGuard_agg w .neq T x y _ _ hE.1, Result.andThen_ok, h2, Sem.run_pure]
theorem OT.boxG {e : TypeId} {bs : List Bool} (ho : o.op = .box e x) (hx : ev σ x = .agg (bv bs).toArray) (k : ∀ b, K (updo σ o.dst (.pointer (some ⟨b, 0, none⟩))) G (blk b e (bv bs) :: L)) : OT P n o σ G L K :=
  OT.box ho hx rfl k
theorem St.ex {c : Ch} {L' : List Ch} {w : World} (h : St G L w) (hx : Ex c L L') : St G (c :: L') w :=
  let ⟨hp, s, rest⟩ := h; ⟨hp, hx.sep s, rest⟩
theorem CallT.exB {f : FuncId} {args : Array Value} {R : Value → Gh → List Ch → Prop} {b : Nat} {e : TypeId} {cs : List Value} {L' : List Ch} [hX : ExB b L e cs L'] (h : CallT P f args G (blk b e cs :: L') R) : CallT P f args G L R :=
  CallT.of fun w hs => h.run (hs.ex hX.ex)
theorem CallT.exS {α : Type} {F : FT α} {xs : List α} {f : FuncId} {args : Array Value} {R : Value → Gh → List Ch → Prop} {e : TypeId} {L' : List Ch} (v : Value) [hX : ExS v L α e F xs L'] (h : CallT P f args G (osl e F v xs :: L') R) : CallT P f args G L R :=
  CallT.of fun w hs => h.run (hs.ex hX.ex)
theorem CallT.g6400 {f : FuncId} {args : Array Value} {R : Value → Gh → List Ch → Prop} (h : CallT P f args G L R) : CallT P f args G L R := h
end
end Go.Proofs.YthjaopefoiploaaGreat
