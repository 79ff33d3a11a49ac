/-
  More rules on memory: append, make, literals of structs and slices, slice expressions, results that lie in a cell.
-/
import Derived.Test.YthjaopefoiploaaGreatMem
import Derived.Maps.AppendAt
import Derived.Laws.AppendOwnNone
namespace Go.Proofs.YthjaopefoiploaaGreat
open Go
set_option linter.unusedVariables false

theorem blk_wh {G : Gh} {L L' : List Ch} {w : World} {b : Nat} {e : TypeId} {cs : List Value} [hX : ExB b L e cs L'] (hs : St G L w) : wh w b = some (.cells cs.toArray e (0, 0)) := by
  obtain ⟨hp, s, l1, l2, d⟩ := hs
  obtain ⟨g1, g2, _, m1, _, cc, _⟩ := hX.ex.sep s
  exact l2 _ _ (m1 _ _ cc)
theorem osl_row {α : Type} {F : FT α} {e : TypeId} {v : Value} {xs : List α} {h : Hp} {w : World} (hc : osl e F v xs h) (hl : Hp.le h (wh w)) : w.ownsRow 0 e F.sz v xs.length (F.flat xs) := by
  refine ⟨F.flat_len xs, ?_⟩
  rcases hc with ⟨rfl, rfl⟩ | ⟨b, cap, c, rfl, hb, h1, h2, h3, h4⟩
  · exact .inl ⟨rfl, rfl⟩
  · exact .inr ⟨b, cap, c, rfl, Nat.zero_le _, hl b _ hb, h1, h2, h3, h4⟩
theorem row_osl {α : Type} {F : FT α} {e : TypeId} {v : Value} {ys : List α} {w : World} (hr : w.ownsRow 0 e F.sz v ys.length (F.flat ys)) : osl e F v ys (fun b => if v.ownBlock = some b then wh w b else none) := by
  rcases hr.2 with ⟨rfl, h0⟩ | ⟨b, cap, c, rfl, _, hb, h1, h2, h3, h4⟩
  · exact .inl ⟨rfl, List.eq_nil_of_length_eq_zero h0⟩
  · refine .inr ⟨b, cap, c, rfl, ?_, h1, h2, h3, h4⟩
    simp only [Value.ownBlock, if_true]; exact hb
theorem osl_own {α : Type} {F : FT α} {e : TypeId} {v : Value} {xs : List α} {h : Hp} (hc : osl e F v xs h) {b : Nat} (hb : v.ownBlock = some b) : (h b).isSome = true := by
  rcases hc with ⟨rfl, rfl⟩ | ⟨b', cap, c, rfl, hb', _⟩
  · simp [Value.ownBlock] at hb
  · simp [Value.ownBlock] at hb; subst hb; simp [hb']
/-- an owned slice that has been written, or has moved to a new block -/
theorem St.row {α β : Type} {F : FT α} {F' : FT β} {e e' : TypeId} {v v' : Value} {xs : List α} {ys : List β} {G : Gh} {L L' : List Ch} {w w' : World} (hs : St G L w) (hx : Ex (osl e F v xs) L L') (hg : w.grownBy w' v.ownBlock)
    (ho : v'.ownBlock = v.ownBlock ∨ v'.ownBlock = some w.heap.size) (hr : w'.ownsRow 0 e' F'.sz v' ys.length (F'.flat ys)) : St G (osl e' F' v' ys :: L') w' := by
  obtain ⟨hp, s, l1, l2, d, ok⟩ := hs
  obtain ⟨h1, h2, d12, m1, m2, hc1, s2⟩ := hx.sep s
  have old : ∀ b o, wh w b = some o → b < w.heap.size := fun b o h => (Array.getElem?_eq_some_iff.1 h).1
  have own2 : ∀ b, v'.ownBlock = some b → h2 b = none := by
    intro b hb
    cases hh : h2 b with
    | none => rfl
    | some o =>
      exfalso
      rcases ho with h | h
      · have := osl_own hc1 (h ▸ hb)
        rcases d12 b with h' | h'
        · simp [h'] at this
        · rw [h'] at hh; cases hh
      · rw [h] at hb
        have hb' : w.heap.size = b := by simpa using hb
        have := old b o (l2 _ _ (m2 b o hh)); omega
  have notOwn : ∀ b o, hp b = some o → h2 b = some o → some b ≠ v.ownBlock := by
    intro b o _ h2b e
    have := osl_own hc1 e.symm
    rcases d12 b with h' | h'
    · simp [h'] at this
    · rw [h'] at h2b; cases h2b
  have keep2 : Hp.le h2 (wh w') := fun b o h => by
    have hw := l2 _ _ (m2 b o h)
    have := hg.block b (old b o hw) (notOwn b o (m2 b o h) h)
    show w'.heap[b]? = some o
    rw [this]; exact hw
  have gOwn : ∀ b o, G.f b = some o → some b ≠ v.ownBlock := by
    intro b o hb e
    have := osl_own hc1 e.symm
    obtain ⟨x, hx⟩ := Option.isSome_iff_exists.1 this
    rcases d b with h' | h'
    · rw [m1 _ _ hx] at h'; cases h'
    · rw [h'] at hb; cases hb
  refine ⟨fun b => if v'.ownBlock = some b then wh w' b else h2 b, ⟨fun b => if v'.ownBlock = some b then wh w' b else none, h2, ?_, ?_, ?_, row_osl hr, s2⟩, ?_, ?_, ?_, Gh.ok_of ok ⟨hg.os, hg.tape, hg.output⟩⟩
  · intro b; by_cases e : v'.ownBlock = some b
    · exact .inr (own2 b e)
    · left; simp [e]
  · intro b o hb; by_cases e : v'.ownBlock = some b <;> simp_all
  · intro b o hb; by_cases e : v'.ownBlock = some b
    · rw [own2 b e] at hb; cases hb
    · simp [e, hb]
  · intro b o hb
    have hw := l1 b o hb
    have := hg.block b (old b o hw) (gOwn b o hb)
    show w'.heap[b]? = some o
    rw [this]; exact hw
  · intro b o hb; by_cases e : v'.ownBlock = some b
    · simpa [e] using hb
    · simp only [e, if_false] at hb; exact keep2 b o hb
  · intro b; by_cases e : v'.ownBlock = some b
    · right
      cases hh : G.f b with
      | none => rfl
      | some o =>
        exfalso
        rcases ho with h | h
        · exact gOwn b o hh (by rw [← h, e])
        · rw [h] at e
          have hb' : w.heap.size = b := by simpa using e
          have := old b o (l1 b o hh); omega
    · rcases d b with h' | h'
      · left; simp only [e, if_false]
        cases hh : h2 b with
        | none => rfl
        | some o => rw [m2 b o hh] at h'; cases h'
      · exact .inr h'

structure ElemT (P : Program) (t e : TypeId) (s bytes : Nat) (z : List Value) : Prop where
  u : P.underlying t = some (.slice e)
  i : ∃ i zv, P.info? e = some i ∧ i.size = s ∧ i.bytes = bytes ∧ i.zero = some zv ∧ zv.cells.toList = z
def elemB (P : Program) (t : Nat) : Option (Nat × Nat × Nat × Option (List Value)) :=
  match P.underlying t with
  | some (.slice e) => (P.info? e).map fun i => (e, i.size, i.bytes, i.zero.map fun z => z.cells.toList)
  | _ => none
theorem elemT_of {P : Program} {t e s bytes : Nat} {z : List Value} (h : elemB P t = some (e, s, bytes, some z)) : ElemT P t e s bytes z := by
  unfold elemB at h
  split at h
  · rename_i e' hu
    simp only [Option.map_eq_some_iff, Prod.mk.injEq] at h
    obtain ⟨i, hi, rfl, h1, h2, zv, h3, h4⟩ := h
    exact ⟨hu, i, zv, hi, h1, h2, h3, h4⟩
  · cases h

section
variable {P : Program} {n : Nat} {σ : Nat → Value} {G : Gh} {L : List Ch} {o : Oper} {T T' t : TypeId} {x y : Operand} {v u : Value} {K : (Nat → Value) → Gh → List Ch → Prop}

theorem OT.append {α : Type} {F : FT α} {e : TypeId} {bytes : Nat} {z : List Value} {xs ys : List α} {L' : List Ch} (ho : o.op = .call { callee := .builtin .append, args := #[x, y], argTypes := #[t, t] }) (hT : ElemT P t e F.sz bytes z) (hz : z.length = F.sz) (hs0 : 0 < F.sz)
    (hx : ev σ x = v) [hX : ExS v L α e F xs L'] (hy : ev σ y = u) (hu : Rs G L F u ys) (h1 : OneL G L F ys) (hb' : Nat.ble bytes 512 = true) (hb2' : xs.length + ys.length ≤ 274877906944)
    (k : ∀ v', K (updo σ o.dst v') G (osl e F v' (xs ++ ys) :: L')) : OT P n o σ G L K := by
  obtain ⟨hu1, i, zv, hi, hi1, hi2, hi3, hi4⟩ := hT
  have hb2 : xs.length + ys.length ≤ 9223372036854775807 := by omega
  have hb : (xs.length + ys.length) * bytes ≤ 140737488355328 := Nat.le_trans (Nat.mul_le_mul hb2' (Nat.le_of_ble_eq_true hb')) (by decide)
  refine OT.ofRun fun w hs => ?_
  have hrow : w.ownsRow 0 e F.sz v xs.length (F.flat xs) := by
    obtain ⟨hp, s, l1, l2, d⟩ := hs
    obtain ⟨g1, g2, _, m1, _, cc, _⟩ := hX.ex.sep s
    exact osl_row cc (Hp.le_trans m1 l2)
  have hzs : zv.cells.size = F.sz := by rw [← hz, ← hi4]; simp
  obtain ⟨⟨c, hc1, hc2, hsl⟩, hget⟩ := hu w hs
  have h1' : ∀ q ∈ F.flat ys, q.oneCell' = true := by
    intro q hq
    obtain ⟨a, ha, hqa⟩ := List.mem_flatMap.1 hq
    exact allOne_all (h1 w hs a ha) q hqa
  have h63 : xs.length + ys.length ≤ maxLen := by simp only [maxLen]; omega
  have hap : F.flat (xs ++ ys) = F.flat xs ++ F.flat ys := by simp [FT.flat]
  rcases hsl with ⟨b, k0, rfl⟩ | ⟨⟨ua, rfl⟩, h0⟩
  · obtain ⟨v', w', hr, hown, hgr, _, hat⟩ := run_append_own_at (P := P) w 0 t o.type e i zv F.sz bytes hu1 hi hi3 hi1 hi2 hzs hs0 v xs.length (F.flat xs) hrow ⟨b, k0, none⟩ ys.length c (F.flat ys) (F.flat_len ys)
      (fun j q hq => by rw [add_none]; exact hget j q hq) h1' h63 hb (Nat.zero_le _)
    refine ⟨v', G, _, w', ?_, hs.row hX.ex hgr hat (by rw [List.length_append, hap]; exact hown), k v'⟩
    simp [execOp, ho, resolve, invoke, builtin, hx, hy, hr]
  · have hys : ys = [] := List.eq_nil_of_length_eq_zero h0
    subst hys
    have hv : ∃ a n c, v = .slice a n c ∧ n = xs.length ∧ n ≤ c := by
      rcases hrow.2 with ⟨rfl, h⟩ | ⟨g, cap, cur, rfl, _, _, h, _⟩
      · exact ⟨none, 0, 0, rfl, h.symm, Nat.le_refl _⟩
      · exact ⟨_, _, cap, rfl, rfl, h⟩
    obtain ⟨a, m, cp, rfl, rfl, hmc⟩ := hv
    refine ⟨.slice a xs.length cp, G, _, w, ?_, hs.row hX.ex ⟨rfl, rfl, rfl, Nat.le_refl _, fun _ _ _ => rfl⟩ (.inl rfl) (by simpa using hrow), by simpa using k _⟩
    have hf : (Builtin.append_ #[t, t] o.type #[.slice a xs.length cp, .slice ua 0 c]).run P w = .ok (.slice a xs.length cp) w := by
      cases a <;> cases ua <;> simp [loadCells, loadCellsFrom, Builtin.append_, run_underlying hu1, sizeOf, typeInfo, hi, Builtin.lenOf, hmc, Builtin.firstCells, storeCells]
    simp only [List.length_nil] at hy
    simp [execOp, ho, resolve, invoke, builtin, hx, hy, hf]

/-- make of a slice, all zero -/
theorem OT.make {α : Type} {F : FT α} {e : TypeId} {bytes m : Nat} {z : List Value} {a0 : α} {kl kc : IntKind} (ho : o.op = .makeSlice t x y) (hT : ElemT P t e F.sz bytes z) (hz : F.enc a0 = z) (hs0 : 0 < F.sz) (hx : ev σ x = .int kl (m : Int)) (hy : ev σ y = .int kc (m : Int))
    (hb : bytes * m ≤ 140737488355328) (hb2 : m ≤ 4611686018427387904) (k : ∀ v', K (updo σ o.dst v') G (osl e F v' (List.replicate m a0) :: L)) : OT P n o σ G L K := by
  obtain ⟨hu1, i, zv, hi, hi1, hi2, hi3, hi4⟩ := hT
  refine OT.ofRun fun w hs => ?_
  have hbm : (i.bytes : Int) * (m : Int) ≤ 281474976710656 := by
    rw [hi2, ← Int.natCast_mul]; omega
  have hr := run_make (P := P) w t e i zv hu1 hi hi3 kl kc (m : Int) (m : Int) (by omega) (Int.le_refl _) hbm (by omega)
  simp only [Int.toNat_natCast] at hr
  refine ⟨.slice (some ⟨w.heap.size, 0, none⟩) m m, G, _, w.alloc (.cells (madeCells zv.cells (m * i.size)) e), by simp [execOp, ho, hx, hy, hr], hs.new (by exact ⟨rfl, rfl, rfl⟩) (wh_push w (.cells (madeCells zv.cells (m * i.size)) e (0, 0))) (c := osl e F (.slice (some ⟨w.heap.size, 0, none⟩) m m) (List.replicate m a0)) (fun h hh => ?_), k _⟩
  refine .inr ⟨w.heap.size, m, madeCells zv.cells (m * i.size), by simp, hh, by simp, by simp only [maxLen]; omega, by rw [size_madeCells, hi1], ?_⟩
  have hzl : zv.cells.size = F.sz := by rw [← F.len a0, hz, ← hi4]; simp
  have e1 : (madeCells zv.cells (m * i.size)).toList.length = m * F.sz := by rw [Array.length_toList, size_madeCells, hi1]
  rw [List.length_replicate, List.take_of_length_le (by omega)]
  apply List.ext_getElem?
  intro j
  by_cases hj : j < m * F.sz
  · have hr : j % F.sz < F.sz := Nat.mod_lt _ hs0
    have hq : j / F.sz < m := (Nat.div_lt_iff_lt_mul hs0).2 hj
    have hc : (F.enc a0)[j % F.sz]? = some ((F.enc a0)[j % F.sz]'(by rw [F.len]; exact hr)) := List.getElem?_eq_getElem _
    have hg := F.flat_get (xs := List.replicate m a0) (i := j / F.sz) (x := a0) (by simp [hq]) hc
    rw [show j / F.sz * F.sz + j % F.sz = j by rw [Nat.mul_comm]; exact Nat.div_add_mod j F.sz] at hg
    rw [hg, List.getElem?_eq_getElem (by omega)]
    congr 1
    have hj' : j < m * i.size := by rw [hi1]; exact hj
    simp only [madeCells, Array.getElem_toList, Array.getElem_map, Array.getElem_range, hzl]
    have : (F.enc a0) = zv.cells.toList := by rw [hz, hi4]
    simp only [this, Array.getElem_toList]
    exact getElem!_pos _ _ (by rw [hzl]; exact hr)
  · rw [List.getElem?_eq_none (by omega), List.getElem?_eq_none (by rw [F.flat_len]; simp; omega)]

/-! ### literals of slices -/
/-- the parts of a literal, in order, lay these elements -/
def BV {α : Type} (F : FT α) (σ : Nat → Value) (G : Gh) (L : List Ch) : Nat → List (Nat × Operand) → List α → Prop
  | _, [], [] => True
  | i, (j, x) :: ps, a :: as => j = i ∧ Cl G L (ev σ x) (F.enc a) ∧ BV F σ G L (i + 1) ps as
  | _, _, _ => False
theorem foldl_splice : ∀ (l : List Value) (k : Nat) (cs : Array Value) (off : Nat), (l.zipIdx k).foldl (fun cs (c, j) => cs.setIfInBounds (off + j) c) cs = (splice cs.toList (off + k) l).toArray
  | [], k, cs, off => by simp [splice]
  | c :: l, k, cs, off => by
    simp only [List.zipIdx_cons, List.foldl_cons]
    rw [foldl_splice l (k + 1) _ off]
    simp [splice, Nat.add_assoc]
theorem fill_run {α : Type} {F : FT α} {w : World} (hw : St G L w) : ∀ (ps : List (Nat × Operand)) (as : List α) (i : Nat) (cs : Array Value), BV F σ G L i ps as → cs.size = (i + as.length) * F.sz →
    Instr.fill (fun i => some (i * F.sz, F.sz)) cs (ps.map fun p => (p.1, ev σ p.2)) = some ((cs.toList.take (i * F.sz) ++ F.flat as).toArray)
  | [], [], i, cs, _, hs => by
    simp only [List.length_nil, Nat.add_zero] at hs
    simp only [List.map_nil, Instr.fill, FT.flat, List.flatMap_nil, List.append_nil, ← hs]
    rw [List.take_of_length_le (by simp)]
  | (j, x) :: ps, a :: as, i, cs, ⟨hj, hc, hb⟩, hs => by
    subst hj
    have hc := hc w hw
    have hsz : (ev σ x).cells.size = F.sz := by rw [← F.len a, ← hc]; simp
    have hfit : j * F.sz + F.sz ≤ cs.size := by
      rw [hs, List.length_cons]
      have := Nat.mul_le_mul_right F.sz (show j + 1 ≤ j + (as.length + 1) by omega)
      rwa [Nat.add_mul, Nat.one_mul] at this
    simp only [List.map_cons, Instr.fill, hsz, ne_eq, not_true_eq_false, decide_false, Bool.false_or]
    rw [if_neg (by simp; omega)]
    have e1 : Array.foldl (fun cs (x : Value × Nat) => cs.setIfInBounds (j * F.sz + x.2) x.1) cs (ev σ x).cells.zipIdx = (splice cs.toList (j * F.sz) (F.enc a)).toArray := by
      rw [← Array.foldl_toList, Array.toList_zipIdx, hc]
      exact foldl_splice (F.enc a) 0 cs (j * F.sz)
    have e2 := fill_run hw ps as (j + 1) (splice cs.toList (j * F.sz) (F.enc a)).toArray hb (by
      simp only [List.size_toArray, splice_length, Array.length_toList, hs, List.length_cons]; congr 1; omega)
    have e3 : (splice cs.toList (j * F.sz) (F.enc a)).take ((j + 1) * F.sz) = cs.toList.take (j * F.sz) ++ F.enc a := by
      have hm : (j + 1) * F.sz = j * F.sz + F.sz := by rw [Nat.add_mul, Nat.one_mul]
      rw [splice_take _ _ _ _ (by rw [F.len]; omega) (by simpa [hm] using hfit), splice_all _ _ _ (by rw [F.len, List.length_take, Array.length_toList, hm]; omega), List.take_take, Nat.min_eq_left (by omega)]
    simp only [e1]
    rw [e2]
    simp only [e3, FT.flat, List.flatMap_cons, List.append_assoc]
theorem OT.bslice {α : Type} {F : FT α} {e : TypeId} {bytes m : Nat} {z : List Value} {ps : List (Nat × Operand)} {els : List α} (ho : o.op = .buildSlice t m ps.toArray) (hT : ElemT P t e F.sz bytes z) (hz : z.length = F.sz) (hs0 : 0 < F.sz) (hm : els.length = m) (hb : m * F.sz ≤ 16777216) (hv : BV F σ G L 0 ps els)
    (k : ∀ v', K (updo σ o.dst v') G (osl e F v' els :: L)) : OT P n o σ G L K := by
  obtain ⟨hu1, i, zv, hi, hi1, hi2, hi3, hi4⟩ := hT
  refine OT.ofRun fun w hs => ?_
  subst hm
  have hb' : ¬ 2 ^ 24 < els.length * F.sz := by omega
  have key : ∀ zc : Array Value, (Instr.fill (fun i => some (i * F.sz, F.sz)) (Array.map (fun j => zc[j % zc.size]!) (Array.range (els.length * F.sz))) (ps.map fun p => (p.1, ev σ p.2))) = some (F.flat els).toArray := fun zc => by
    have := fill_run (F := F) hs ps els 0 (Array.map (fun j => zc[j % zc.size]!) (Array.range (els.length * F.sz))) hv (by simp)
    simpa using this
  refine ⟨.slice (some ⟨w.heap.size, 0, none⟩) els.length els.length, G, _, { w with heap := w.heap.push (.cells (F.flat els).toArray e (0, 0)) }, ?_, hs.new (by exact ⟨rfl, rfl, rfl⟩) (wh_push w _) (c := osl e F (.slice (some ⟨w.heap.size, 0, none⟩) els.length els.length) els) (fun h hh => ?_), k _⟩
  · have hz0 : (zeroValue e).run P w = .ok zv w := by simp [zeroValue, typeInfo, hi, hi3]
    by_cases h0 : els.length * F.sz = 0
    · have kk := key #[]
      simp only [execOp, ho, Instr.buildSlice, Sem.run_bind, run_underlying hu1, Result.andThen_ok, sizeOf, typeInfo, run_program, hi, Sem.run_pure, hi1, Sem.run_ite, h0, if_true]
      rw [if_neg (by omega)]
      simp only [List.map_toArray, List.toList_toArray, h0] at kk ⊢
      simp only [kk]
      simp [newRow]
    · have kk := key zv.cells
      have kk' : (if 2 ^ 24 < els.length * F.sz then (1 : Nat) else 0) = 0 := by rw [if_neg hb']
      have hgt : ¬ (els.length * F.sz > 2 ^ 24) := hb'
      simp only [execOp, ho, Instr.buildSlice, Sem.run_bind, run_underlying hu1, Result.andThen_ok, sizeOf, typeInfo, run_program, hi, Sem.run_pure, hi1, Sem.run_ite, hgt, h0, if_false, hz0]
      simp only [List.map_toArray, List.toList_toArray] at kk ⊢
      simp only [kk]
      simp [newRow]
  · refine .inr ⟨w.heap.size, els.length, (F.flat els).toArray, rfl, hh, Nat.le_refl _, by
      have : els.length ≤ els.length * F.sz := Nat.le_mul_of_pos_right _ hs0
      simp only [maxLen]; omega, by simp [F.flat_len], ?_⟩
    rw [← F.flat_len]; simp

/-! ### literals of structs -/
def Places (P : Program) (t : TypeId) (pl : List (Nat × Nat)) : Prop := ∃ fs, P.underlying t = some (.struct fs) ∧ ∀ w, (fs.mapM (fun f => do pure (f.offset, ← sizeOf f.type)) : Sem (Array (Nat × Nat))).run P w = .ok pl.toArray w
def BP (σ : Nat → Value) (G : Gh) (L : List Ch) : List (Nat × Operand) → List (Nat × List Value) → Prop
  | [], [] => True
  | (i, x) :: ps, (j, cs) :: vs => i = j ∧ Cl G L (ev σ x) cs ∧ BP σ G L ps vs
  | _, _ => False
def fillC (pl : List (Nat × Nat)) (cs : List Value) : List (Nat × List Value) → Option (List Value)
  | [] => some cs
  | (i, vs) :: r =>
    match pl[i]? with
    | none => none
    | some (off, s) => bif Nat.beq vs.length s && Nat.ble (off + vs.length) cs.length then fillC pl (splice cs off vs) r else none
theorem fillC_run {pl : List (Nat × Nat)} {w : World} (hs : St G L w) : ∀ (ps : List (Nat × Operand)) (vs : List (Nat × List Value)) (cs : List Value) (out : List Value), BP σ G L ps vs → fillC pl cs vs = some out →
    Instr.fill (fun i => pl[i]?) cs.toArray (ps.map fun p => (p.1, ev σ p.2)) = some out.toArray
  | [], [], cs, out, _, h => by simp only [fillC, Option.some.injEq] at h; subst h; rfl
  | (i, x) :: ps, (j, us) :: vs, cs, out, ⟨hj, hc, hb⟩, h => by
    subst hj
    have hc := hc w hs
    have hsz : (ev σ x).cells.size = us.length := by rw [← hc]; simp
    simp only [fillC] at h
    cases hp : pl[i]? with
    | none => simp [hp] at h
    | some q =>
      obtain ⟨off, s⟩ := q
      simp only [hp] at h
      cases hb1 : (Nat.beq us.length s && Nat.ble (off + us.length) cs.length) with
      | false => simp [hb1] at h
      | true =>
        simp only [hb1, cond_true] at h
        simp only [Bool.and_eq_true] at hb1
        have q1 := Nat.eq_of_beq_eq_true hb1.1
        have q2 := Nat.le_of_ble_eq_true hb1.2
        simp only [List.map_cons, Instr.fill, hp, hsz, List.size_toArray]
        rw [if_neg (by simp; omega)]
        have e1 : Array.foldl (fun cs (x : Value × Nat) => cs.setIfInBounds (off + x.2) x.1) cs.toArray (ev σ x).cells.zipIdx = (splice cs off us).toArray := by
          rw [← Array.foldl_toList, Array.toList_zipIdx, hc]
          exact foldl_splice us 0 cs.toArray off
        simp only [e1]
        exact fillC_run hs ps vs _ out hb h
theorem PV.build {pl : List (Nat × Nat)} {z : List Value} {ps : List (Nat × Operand)} {vs : List (Nat × List Value)} {out : List Value} (ho : o.op = .build t ps.toArray) (hz : ZeroT P t z) (hp : Places P t pl) (hb : BP σ G L ps vs) (hf : fillC pl z vs = some out) : PV P o σ G L (.agg out.toArray) := by
  obtain ⟨zv, hz1, hz2⟩ := hz
  obtain ⟨fs, hu, hm⟩ := hp
  intro w hs
  have key := fillC_run hs ps vs z out hb hf
  have hzc : zv.cells = z.toArray := by rw [← hz2]
  have key' : Instr.fill (fun x => (pl.toArray)[x]?) zv.cells (List.map (fun p => (p.1, ev σ p.2)) ps) = some out.toArray := by rw [hzc]; simpa using key
  simp only [execOp, ho, Instr.build, Sem.run_bind, hz1, Result.andThen_ok, run_underlying hu, hm, List.map_toArray, List.toList_toArray]
  rw [key']
  simp

/-! ### results in cells -/
theorem RV1.cell {a b s : Nat} {e : TypeId} {cs : List Value} {L' : List Ch} (hx : σ a = .pointer (some ⟨b, 0, none⟩)) (hA : Aggr P t s) [hX : ExB b L e cs L'] (hl : cs.length = s) : RV1 P σ G L (.cell a t) (.agg cs.toArray) := by
  intro w hs
  have h := loadCells_run (P := P) s b 0 0 #[] cs w hl (fun j c hc => by rw [Nat.zero_add, Nat.zero_add]; exact Rd.blk (G := G) (L' := L') hc w hs)
  simp only [Array.empty_append] at h
  simp [hx, asAddr, loadVar, (hA w).1, (hA w).2, loadCells, h]
theorem RV1.cell1 {a b : Nat} {e : TypeId} {c : Value} {L' : List Ch} (hx : σ a = .pointer (some ⟨b, 0, none⟩)) (hA : Scal P t) [hX : ExB b L e [c] L'] : RV1 P σ G L (.cell a t) c := by
  intro w hs
  have h := Rd.blk (G := G) (L := L) (L' := L') (b := b) (k := 0) (v := c) rfl w hs
  simp [hx, asAddr, loadVar, (hA w).1, h]
/-- a whole variable -/
theorem PV.loadW {b s : Nat} {e : TypeId} {cs : List Value} {L' : List Ch} (ho : o.op = .load t x) (hA : Aggr P t s) (hx : ev σ x = .pointer (some ⟨b, 0, none⟩)) [hX : ExB b L e cs L'] (hl : cs.length = s) : PV P o σ G L (.agg cs.toArray) :=
  PV.loadB ho hA hx (by subst hl; simp) hl
end
end Go.Proofs.YthjaopefoiploaaGreat
