/-
  The rules of the operations that make or write memory.
-/
import Derived.Test.YthjaopefoiploaaGreatPv
namespace Go.Proofs.YthjaopefoiploaaGreat
open Go

/-! ## the heap after a push, after a write into one block -/
theorem wh_push (w : World) (o : Obj) (b : Nat) : wh { w with heap := w.heap.push o } b = if b = w.heap.size then some o else wh w b := by
  simp only [wh, Array.getElem?_push]
theorem wh_none {w : World} {b : Nat} (h : w.heap.size ≤ b) : wh w b = none := by simp [wh, h]
theorem St.lt {G : Gh} {L : List Ch} {w : World} (h : St G L w) {b : Nat} {o : Obj} (hb : G.f b = some o) : b < w.heap.size := by
  obtain ⟨_, _, l, _, _⟩ := h
  have := l b o hb
  simp only [wh] at this
  exact (Array.getElem?_eq_some_iff.1 this).1
theorem St.draw {G : Gh} {L : List Ch} {w w' : World} (h : St G L w) (hw : w'.heap = w.heap) (hq : Quiet w w') : St G L w' := by
  obtain ⟨hp, s, l1, l2, d, ok⟩ := h
  have e : wh w' = wh w := by funext b; simp [wh, hw]
  exact ⟨hp, s, e ▸ l1, e ▸ l2, d, Gh.ok_of ok hq⟩
/-- a new block is a chunk of its own -/
theorem St.new {G : Gh} {L : List Ch} {w w' : World} (h : St G L w) (hq : Quiet w w') {o : Obj} (hw : ∀ b, wh w' b = if b = w.heap.size then some o else wh w b) {c : Ch} (hc : ∀ h : Hp, h w.heap.size = some o → c h) : St G (c :: L) w' := by
  obtain ⟨hp, s, l1, l2, d, ok⟩ := h
  have up : Hp.le (wh w) (wh w') := fun b x hb => by
    rw [hw, if_neg]
    · exact hb
    · intro e; rw [wh_none (Nat.le_of_eq e.symm)] at hb; cases hb
  have hn : hp w.heap.size = none := by
    cases hh : hp w.heap.size with
    | none => rfl
    | some x => have := l2 _ _ hh; rw [wh_none (Nat.le_refl _)] at this; cases this
  have gn : G.f w.heap.size = none := by
    cases hh : G.f w.heap.size with
    | none => rfl
    | some x => have := l1 _ _ hh; rw [wh_none (Nat.le_refl _)] at this; cases this
  refine ⟨fun b => if b = w.heap.size then some o else hp b, ⟨fun b => if b = w.heap.size then some o else none, hp, ?_, ?_, ?_, hc _ (by simp), s⟩, Hp.le_trans l1 up, ?_, ?_, Gh.ok_of ok hq⟩
  · intro b; by_cases e : b = w.heap.size
    · right; rw [e]; exact hn
    · left; simp [e]
  · intro b x hb; by_cases e : b = w.heap.size <;> simp_all
  · intro b x hb; by_cases e : b = w.heap.size
    · rw [e, hn] at hb; cases hb
    · simp [e, hb]
  · intro b x hb
    by_cases e : b = w.heap.size
    · subst e; rw [hw]; simpa using hb
    · simp only [e, if_false] at hb; exact up b x (l2 b x hb)
  · intro b; by_cases e : b = w.heap.size
    · right; rw [e]; exact gn
    · rcases d b with h | h
      · left; simp [e, h]
      · exact .inr h
/-- a write into the block of a chunk -/
theorem St.set {G : Gh} {L L' : List Ch} {w w' : World} {c c' : Ch} (h : St G L w) (hq : Quiet w w') (hx : Ex c L L') {b : Nat} (hb : ∀ h, c h → (h b).isSome = true) {o : Obj} (hw : ∀ x, wh w' x = if x = b then some o else wh w x)
    (hc : ∀ h : Hp, c h → Hp.le h (wh w) → c' (fun x => if x = b then some o else h x)) : St G (c' :: L') w' := by
  obtain ⟨hp, s, l1, l2, d, ok⟩ := h
  obtain ⟨h1, h2, d12, m1, m2, hc1, s2⟩ := hx.sep s
  have b1 := hb h1 hc1
  have b2 : h2 b = none := by rcases d12 b with h | h
                              · simp [h] at b1
                              · exact h
  have bg : G.f b = none := by
    rcases d b with h | h
    · obtain ⟨x, hx⟩ := Option.isSome_iff_exists.1 b1
      rw [m1 _ _ hx] at h; cases h
    · exact h
  refine ⟨fun x => if x = b then some o else hp x, ⟨fun x => if x = b then some o else h1 x, h2, ?_, ?_, ?_, hc h1 hc1 (Hp.le_trans m1 l2), s2⟩, ?_, ?_, ?_, Gh.ok_of ok hq⟩
  · intro x; by_cases e : x = b
    · right; rw [e]; exact b2
    · rcases d12 x with h | h
      · left; simp [e, h]
      · exact .inr h
  · intro x y hy; by_cases e : x = b
    · simp_all
    · simp only [e, if_false] at hy ⊢; exact m1 x y hy
  · intro x y hy; by_cases e : x = b
    · rw [e, b2] at hy; cases hy
    · simp only [e, if_false]; exact m2 x y hy
  · intro x y hy
    rw [hw, if_neg]
    · exact l1 x y hy
    · rintro rfl; rw [bg] at hy; cases hy
  · intro x y hy
    rw [hw]
    by_cases e : x = b
    · simp_all
    · simp only [e, if_false] at hy ⊢; exact l2 x y hy
  · intro x; by_cases e : x = b
    · right; rw [e]; exact bg
    · rcases d x with h | h
      · left; simp [e, h]
      · exact .inr h

section
variable {P : Program} {n : Nat} {σ : Nat → Value} {G : Gh} {L : List Ch} {o : Oper} {T T' t : TypeId} {x y z : Operand} {v u : Value} {K : (Nat → Value) → Gh → List Ch → Prop}

/-- an operation that yields v and leads to a state with (G', L'), whatever the world -/
theorem OT.ofRun (h : ∀ w, St G L w → ∃ v G' L' w', (execOp (ev σ) o).run P w = .ok (.value v) w' ∧ St G' L' w' ∧ K (updo σ o.dst v) G' L') : OT P n o σ G L K := by
  intro hk a w hag hs Q'
  obtain ⟨v, G', L', w', h1, h2, h3⟩ := h w hs
  unfold Oper.wp
  rw [hag.eval, h1]
  exact ⟨_, _, _, hag.put hk v, h2, h3⟩
theorem OT.ofRunU (h : ∀ w, St G L w → ∃ G' L' w', (execOp (ev σ) o).run P w = .ok .skip w' ∧ St G' L' w' ∧ K (updo σ o.dst undef) G' L') : OT P n o σ G L K := by
  intro hk a w hag hs Q'
  obtain ⟨G', L', w', h1, h2, h3⟩ := h w hs
  unfold Oper.wp
  rw [hag.eval, h1]
  exact ⟨_, _, _, hag.put hk undef, h2, h3⟩

def ZeroT (P : Program) (t : TypeId) (z : List Value) : Prop := ∃ v, (∀ w, (zeroValue t).run P w = .ok v w) ∧ v.cells.toList = z
theorem OT.alloc {e : TypeId} {cs : List Value} (ho : o.op = .alloc e) (hz : ZeroT P e cs) (k : ∀ b, K (updo σ o.dst (.pointer (some ⟨b, 0, none⟩))) G (blk b e cs :: L)) : OT P n o σ G L K := by
  obtain ⟨v, hz, rfl⟩ := hz
  refine OT.ofRun fun w hs => ⟨_, G, _, { w with heap := w.heap.push (.cells v.cells e (0, 0)) }, ?_, hs.new (by exact ⟨rfl, rfl, rfl⟩) (wh_push w _) (c := blk w.heap.size e v.cells.toList) (fun h hb => ?_), k w.heap.size⟩
  · simp [execOp, ho, Instr.alloc, hz, newVar, newRow]
  · simpa [blk] using hb
/-- a value laid into a new variable -/
theorem OT.box {e : TypeId} {cs : List Value} (ho : o.op = .box e x) (hx : ev σ x = v) (hc : v.cells.toList = cs) (k : ∀ b, K (updo σ o.dst (.pointer (some ⟨b, 0, none⟩))) G (blk b e cs :: L)) : OT P n o σ G L K := by
  subst hc
  refine OT.ofRun fun w hs => ⟨_, G, _, { w with heap := w.heap.push (.cells v.cells e (0, 0)) }, ?_, hs.new (by exact ⟨rfl, rfl, rfl⟩) (wh_push w _) (c := blk w.heap.size e v.cells.toList) (fun h hb => ?_), k w.heap.size⟩
  · simp [execOp, ho, Instr.box, hx, newVar, newRow]
  · simpa [blk] using hb

/-! ### stores -/
def splice (cs : List Value) (k : Nat) : List Value → List Value
  | [] => cs
  | v :: vs => splice (cs.set k v) (k + 1) vs
theorem splice_length : ∀ (vs cs : List Value) (k : Nat), (splice cs k vs).length = cs.length
  | [], _, _ => rfl
  | v :: vs, cs, k => by simp [splice, splice_length vs]
theorem storeCells_run : ∀ (vs : List Value) (b k i : Nat) (c : Array Value) (e : TypeId) (w : World), (∀ v ∈ vs, v.oneCell' = true) → wh w b = some (.cells c e (0, 0)) → k + i + vs.length ≤ c.size →
    ∃ w', (storeCells ⟨b, k, none⟩ vs i).run P w = .ok () w' ∧ Quiet w w' ∧ ∀ x, wh w' x = if x = b then some (.cells (splice c.toList (k + i) vs).toArray e (0, 0)) else wh w x
  | [], b, k, i, c, e, w, _, hb, _ => by
    refine ⟨w, by simp [storeCells], ⟨rfl, rfl, rfl⟩, fun x => ?_⟩
    by_cases h : x = b
    · subst h; simp [hb, splice]
    · simp [h]
  | v :: vs, b, k, i, c, e, w, h1, hb, hl => by
    have hlt : k + i < c.size := by simp only [List.length_cons] at hl; omega
    have hcell : w.cell? ⟨b, k + i, none⟩ = some (c[k + i]) := by
      rw [cell_hc]; simp [Hc, hb, hlt]
    have hfr : w.frozen? ⟨b, k + i, none⟩ = false := by
      have hb' : w.heap[b]? = some (.cells c e (0, 0)) := hb
      simp [World.frozen?, hb']
    have hst : (store (Addr.add ⟨b, k, none⟩ i) v).run P w = .ok () (w.setCell ⟨b, k + i, none⟩ v) := by
      rw [add_none, run_store P w _ v _ (h1 v (.head _)), hcell]; simp [hfr]
    have hwh : ∀ x, wh (w.setCell ⟨b, k + i, none⟩ v) x = if x = b then some (.cells (c.setIfInBounds (k + i) v) e (0, 0)) else wh w x := by
      intro x
      have hb' : w.heap[b]? = some (.cells c e (0, 0)) := hb
      simp only [wh, World.setCell, Array.getElem?_modify]
      by_cases hxb : b = x
      · subst hxb; simp [hb']
      · simp [hxb, Ne.symm hxb]
    obtain ⟨w', hr, hq, hw'⟩ := storeCells_run vs b k (i + 1) (c.setIfInBounds (k + i) v) e (w.setCell ⟨b, k + i, none⟩ v) (fun u hu => h1 u (.tail _ hu)) (by rw [hwh]; simp) (by simp only [List.length_cons, Array.size_setIfInBounds] at *; omega)
    refine ⟨w', ?_, hq, fun x => ?_⟩
    · simp only [storeCells, Sem.run_bind, hst, Result.andThen_ok, hr]
    · rw [hw' x, hwh]
      by_cases hxb : x = b
      · subst hxb; simp [splice, Array.toList_setIfInBounds, Nat.add_assoc]
      · simp [hxb]
def allOne (vs : List Value) : Bool := vs.all (·.oneCell')
theorem allOne_all {vs : List Value} (h : allOne vs = true) : ∀ u ∈ vs, u.oneCell' = true := by simpa [allOne] using h
theorem oneCell_cells {v : Value} (h : v.oneCell' = true) : v.cells = #[v] := by cases v <;> simp_all [Value.cells, Value.oneCell']
/-- the value's cells, in every world of the state -/
def Cl (G : Gh) (L : List Ch) (v : Value) (cs : List Value) : Prop := ∀ w, St G L w → v.cells.toList = cs
theorem Cl.c {cs : List Value} (h : v.cells.toList = cs) : Cl G L v cs := fun _ _ => h
theorem Cl.s {m : Nat} (h : SlF G L v m) : Cl G L v [v] := fun w hs => by rw [oneCell_cells (h w hs).one]
/-- each of the values takes one cell -/
def OneC (G : Gh) (L : List Ch) (vs : List Value) : Prop := ∀ w, St G L w → allOne vs = true
theorem OneC.c {vs : List Value} (h : allOne vs = true) : OneC G L vs := fun _ _ => h
theorem OneC.nil : OneC G L [] := fun _ _ => rfl
theorem OneC.val {v : Value} {vs : List Value} (h : v.oneCell' = true) (k : OneC G L vs) : OneC G L (v :: vs) := fun w hs => by have := k w hs; simp only [allOne, List.all_cons, Bool.and_eq_true]; exact ⟨h, this⟩
theorem OneC.sl {v : Value} {vs : List Value} {m : Nat} (h : SlF G L v m) (k : OneC G L vs) : OneC G L (v :: vs) := fun w hs => OneC.val (h w hs).one k w hs
theorem OneC.app {vs us : List Value} (h : OneC G L vs) (k : OneC G L us) : OneC G L (vs ++ us) := fun w hs => by
  have h := h w hs; have k := k w hs
  simp only [allOne, List.all_append, Bool.and_eq_true] at *; exact ⟨h, k⟩
def OneL {α : Type} (G : Gh) (L : List Ch) (F : FT α) (ys : List α) : Prop := ∀ w, St G L w → ∀ a ∈ ys, allOne (F.enc a) = true
theorem OneL.c {α : Type} {F : FT α} {ys : List α} (h : ∀ a, allOne (F.enc a) = true) : OneL G L F ys := fun _ _ a _ => h a
theorem OneL.one {α : Type} {F : FT α} {a : α} (h : OneC G L (F.enc a)) : OneL G L F [a] := fun w hs b hb => by
  simp only [List.mem_singleton] at hb; subst hb; exact h w hs
/-- a store into an owned block that is written out -/
theorem OT.storeB {b k : Nat} {e : TypeId} {cs vs cs' : List Value} {s : Nat} {L' : List Ch} (ho : o.op = .store t x y) (hS : ∀ w, (sizeOf t).run P w = .ok s w) (hx : ev σ x = .pointer (some ⟨b, k, none⟩)) (hy : ev σ y = v) (hv' : Cl G L v vs)
    (hl : vs.length = s) (h1' : OneC G L vs) [hX : ExB b L e cs L'] (hk' : Nat.ble (k + s) cs.length = true) (hc : splice cs k vs = cs') (K1 : K (updo σ o.dst undef) G (blk b e cs' :: L')) : OT P n o σ G L K := by
  have hk : k + s ≤ cs.length := Nat.le_of_ble_eq_true hk'
  refine OT.ofRunU fun w hs => ?_
  have h1 := allOne_all (h1' w hs)
  have hv := hv' w hs
  have hb : wh w b = some (.cells cs.toArray e (0, 0)) := by
    obtain ⟨hp, s, l1, l2, d⟩ := hs
    obtain ⟨g1, g2, _, m1, _, cc, _⟩ := hX.ex.sep s
    exact l2 _ _ (m1 _ _ cc)
  have hsz : v.cells.size = vs.length := by rw [← hv]; simp
  obtain ⟨w', hr, hq, hw'⟩ := storeCells_run (P := P) vs b k 0 cs.toArray e w h1 hb (by simpa using (by omega : k + vs.length ≤ cs.length))
  refine ⟨G, _, w', ?_, hs.set hq hX.ex (b := b) (fun h hh => ?_) hw' (c' := blk b e cs') (fun h hh _ => ?_), K1⟩
  · simp [execOp, ho, hx, hy, Instr.storeAt, Instr.sureAddr, storeVar, hS w, hsz, hl, hv, hr]
  · have hh : h b = some (.cells cs.toArray e (0, 0)) := hh
    simp [hh]
  · subst hc; simp [blk]
theorem splice_all : ∀ (vs cs : List Value) (k : Nat), k + vs.length = cs.length → splice cs k vs = cs.take k ++ vs
  | [], cs, k, h => by simp only [List.length_nil, Nat.add_zero] at h; subst h; simp [splice]
  | v :: vs, cs, k, h => by
    simp only [List.length_cons] at h
    have hk : k < cs.length := by omega
    rw [splice, splice_all vs (cs.set k v) (k + 1) (by simp; omega), List.take_succ_eq_append_getElem (by simpa using hk)]
    have e : (List.take k cs).set k v = List.take k cs := List.set_eq_of_length_le (by simp; omega)
    simp [List.take_set, e]
/-- a store of a whole variable -/
theorem OT.storeW {b : Nat} {e : TypeId} {cs vs : List Value} {s : Nat} {L' : List Ch} (ho : o.op = .store t x y) (hS : ∀ w, (sizeOf t).run P w = .ok s w) (hx : ev σ x = .pointer (some ⟨b, 0, none⟩)) (hy : ev σ y = v) (hv' : Cl G L v vs)
    [hX : ExB b L e cs L'] (hl : vs.length = s) (hk : cs.length = s) (h1 : OneC G L vs) (K1 : K (updo σ o.dst undef) G (blk b e vs :: L')) : OT P n o σ G L K :=
  OT.storeB ho hS hx hy hv' hl h1 (by rw [Nat.ble_eq]; omega) (splice_all vs cs 0 (by omega)) (by simpa using K1)
theorem splice_take : ∀ (vs cs : List Value) (k m : Nat), k + vs.length ≤ m → m ≤ cs.length → (splice cs k vs).take m = splice (cs.take m) k vs
  | [], _, _, _, _, _ => rfl
  | v :: vs, cs, k, m, h, hm => by
    simp only [List.length_cons] at h
    rw [splice, splice, splice_take vs (cs.set k v) (k + 1) m (by omega) (by simpa using hm), List.take_set]
theorem splice_get : ∀ (vs cs : List Value) (k j : Nat), k + vs.length ≤ cs.length → (splice cs k vs)[j]? = if k ≤ j ∧ j < k + vs.length then vs[j - k]? else cs[j]?
  | [], cs, k, j, _ => by
    simp only [splice, List.length_nil, Nat.add_zero]; rw [if_neg (by omega)]
  | v :: vs, cs, k, j, h => by
    simp only [List.length_cons] at h
    rw [splice, splice_get vs (cs.set k v) (k + 1) j (by simp; omega)]
    simp only [List.length_cons]
    by_cases h1 : j = k
    · subst h1
      rw [if_neg (by omega), if_pos (by omega), Nat.sub_self, List.getElem?_set]
      simp [show j < cs.length by omega]
    · by_cases h2 : k + 1 ≤ j ∧ j < k + 1 + vs.length
      · rw [if_pos h2, if_pos (by omega), show j - k = (j - (k + 1)) + 1 by omega]; simp
      · rw [if_neg h2, if_neg (by omega), List.getElem?_set, if_neg (by omega)]
theorem flat_set {α : Type} (F : FT α) (xs : List α) (i : Nat) (a : α) (hi : i < xs.length) : F.flat (xs.set i a) = splice (F.flat xs) (i * F.sz) (F.enc a) := by
  have hle : i * F.sz + F.sz ≤ xs.length * F.sz := by
    have := Nat.mul_le_mul_right F.sz (show i + 1 ≤ xs.length by omega); rwa [Nat.add_mul, Nat.one_mul] at this
  apply List.ext_getElem?
  intro j
  rw [splice_get _ _ _ _ (by rw [F.len, F.flat_len]; exact hle), F.len]
  by_cases hs : F.sz = 0
  · have e1 : F.flat (xs.set i a) = [] := List.eq_nil_of_length_eq_zero (by rw [F.flat_len, hs]; simp)
    have e2 : F.flat xs = [] := List.eq_nil_of_length_eq_zero (by rw [F.flat_len, hs]; simp)
    rw [e1, e2, if_neg (by omega)]
  by_cases hj : j < xs.length * F.sz
  · have hq : j / F.sz < xs.length := (Nat.div_lt_iff_lt_mul (by omega)).2 hj
    have hr : j % F.sz < F.sz := Nat.mod_lt _ (by omega)
    have hjd : j / F.sz * F.sz + j % F.sz = j := by rw [Nat.mul_comm]; exact Nat.div_add_mod j F.sz
    have get : ∀ (ys : List α) (y : α), ys[j / F.sz]? = some y → (F.flat ys)[j]? = (F.enc y)[j % F.sz]? := fun ys y hy => by
      have hc : (F.enc y)[j % F.sz]? = some ((F.enc y)[j % F.sz]'(by rw [F.len]; exact hr)) := List.getElem?_eq_getElem _
      have := F.flat_get hy hc
      rw [hjd] at this; rw [this, hc]
    by_cases e : j / F.sz = i
    · rw [get (xs.set i a) a (by rw [e]; simp [hi]), if_pos (by rw [← e]; omega)]
      congr 1; rw [← e]; omega
    · rw [get (xs.set i a) (xs[j / F.sz]) (by rw [List.getElem?_set, if_neg (Ne.symm e)]; exact getE hq), get xs _ (getE hq), if_neg]
      rintro ⟨h1, h2⟩
      apply e
      have a1 : i ≤ j / F.sz := (Nat.le_div_iff_mul_le (by omega)).2 h1
      have a2 : j / F.sz < i + 1 := (Nat.div_lt_iff_lt_mul (by omega)).2 (by rw [Nat.add_mul, Nat.one_mul]; exact h2)
      omega
  · rw [if_neg (by omega), List.getElem?_eq_none (by rw [F.flat_len]; simp; omega), List.getElem?_eq_none (by rw [F.flat_len]; omega)]
/-- a store of one element into an owned slice (an element of any width, or of one cell) -/
theorem OT.storeE {α : Type} {F : FT α} {e : TypeId} {xs : List α} {a : α} {s i : Nat} {sl : Value} {L' : List Ch} (ho : o.op = .store t x y) (hS : ∀ w, (sizeOf t).run P w = .ok F.sz w) (hx : ev σ x = .pointer (some ⟨sb sl, so sl + i * s, none⟩)) (hs0 : s = F.sz) (hy : ev σ y = v)
    (hv' : Cl G L v (F.enc a)) (h1' : OneC G L (F.enc a)) [hX : ExS sl L α e F xs L'] (hi : i < xs.length) (K1 : K (updo σ o.dst undef) G (osl e F sl (xs.set i a) :: L')) : OT P n o σ G L K := by
  subst hs0
  have hle : i * F.sz + F.sz ≤ xs.length * F.sz := by
    have := Nat.mul_le_mul_right F.sz (show i + 1 ≤ xs.length by omega); rwa [Nat.add_mul, Nat.one_mul] at this
  refine OT.ofRunU fun w hs => ?_
  have h1 := allOne_all (h1' w hs)
  have hv := hv' w hs
  have hb : ∃ b cap c, sl = .slice (some ⟨b, 0, none⟩) xs.length cap ∧ wh w b = some (.cells c e (0, 0)) ∧ xs.length ≤ cap ∧ cap ≤ maxLen ∧ c.size = cap * F.sz ∧ c.toList.take (xs.length * F.sz) = F.flat xs := by
    obtain ⟨hp, s, l1, l2, d⟩ := hs
    obtain ⟨g1, g2, _, m1, _, cc, _⟩ := hX.ex.sep s
    rcases cc with ⟨_, rfl⟩ | ⟨b, cap, c, h1, h2, h3⟩
    · simp at hi
    · exact ⟨b, cap, c, h1, l2 _ _ (m1 _ _ h2), h3⟩
  obtain ⟨b, cap, c, rfl, hb, h3, h4, h5, h6⟩ := hb
  simp only [sb, so, Nat.zero_add] at hx
  have hsz : v.cells.size = F.sz := by rw [← F.len a, ← hv]; simp
  have hcap : xs.length * F.sz ≤ c.size := by rw [h5]; exact Nat.mul_le_mul_right _ h3
  obtain ⟨w', hr, hq, hw'⟩ := storeCells_run (P := P) (F.enc a) b (i * F.sz) 0 c e w h1 hb (by rw [F.len]; omega)
  have hrun : (storeVar t ⟨b, i * F.sz, none⟩ v).run P w = .ok () w' := by
    simp [storeVar, hS w, hsz, hv, hr]
  refine ⟨G, _, w', ?_, hs.set hq hX.ex (b := b) (fun h hh => ?_) hw' (c' := osl e F (.slice (some ⟨b, 0, none⟩) xs.length cap) (xs.set i a)) (fun h hh _ => ?_), K1⟩
  · simp [execOp, ho, hx, hy, Instr.storeAt, Instr.sureAddr, hrun]
  · rcases hh with ⟨_, rfl⟩ | ⟨b', cap', c', h1, h2, _⟩
    · simp at hi
    · simp only [Value.slice.injEq, Option.some.injEq, Addr.mk.injEq] at h1
      obtain ⟨⟨rfl, _⟩, _⟩ := h1
      simp [h2]
  · refine .inr ⟨b, cap, (splice c.toList (i * F.sz + 0) (F.enc a)).toArray, by simp, by simp, by simpa using h3, h4, by simp [splice_length, h5], ?_⟩
    rw [List.length_set, Nat.add_zero, flat_set F xs i a hi, ← h6]
    exact splice_take _ _ _ _ (by rw [F.len]; exact hle) (by simpa using hcap)
end
end Go.Proofs.YthjaopefoiploaaGreat
