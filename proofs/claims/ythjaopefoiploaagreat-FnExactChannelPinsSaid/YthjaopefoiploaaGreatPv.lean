/-
  The rules of the operations that yield a value and leave the world alone.
-/
import Derived.Test.YthjaopefoiploaaGreatOps
namespace Go.Proofs.YthjaopefoiploaaGreat
open Go
set_option linter.unusedVariables false

/-! ## facts on the type table, each by the kernel -/
def Scal (P : Program) (t : TypeId) : Prop := ∀ w, (isAgg t).run P w = .ok false w ∧ (sizeOf t).run P w = .ok 1 w
def Aggr (P : Program) (t : TypeId) (s : Nat) : Prop := ∀ w, (isAgg t).run P w = .ok true w ∧ (sizeOf t).run P w = .ok s w
def foff (P : Program) (s f : Nat) : Option (Nat × Nat) :=
  match P.underlying s with
  | some (.struct fs) =>
    match fs[f]? with
    | some fd => (P.info? fd.type).map fun i => (fd.offset, i.size)
    | none => none
  | _ => none
def FOff (P : Program) (s f off : Nat) : Prop := ∃ m, foff P s f = some (off, m + 1)
theorem FOff.parts {P : Program} {s f off : Nat} (h : FOff P s f off) : ∃ fs fd i, P.underlying s = some (.struct fs) ∧ fs[f]? = some fd ∧ fd.offset = off ∧ P.info? fd.type = some i ∧ i.size ≠ 0 := by
  obtain ⟨m, h⟩ := h
  unfold foff at h
  split at h
  · rename_i fs hu
    split at h
    · rename_i fd hf
      simp only [Option.map_eq_some_iff, Prod.mk.injEq] at h
      obtain ⟨i, hi, h1, h2⟩ := h
      exact ⟨fs, fd, i, hu, hf, h1, hi, by omega⟩
    · cases h
  · cases h
def IdxA (P : Program) (t len s : Nat) : Prop := ∃ e, P.underlying t = some (.array len e) ∧ (P.info? e).map (·.size) = some s
def IdxS (P : Program) (t e s : Nat) : Prop := P.underlying t = some (.slice e) ∧ (P.info? e).map (·.size) = some s
theorem info_size {P : Program} {e s : Nat} (h : (P.info? e).map (·.size) = some s) : ∃ i, P.info? e = some i ∧ i.size = s := by
  simpa [Option.map_eq_some_iff] using h

/-! ## cells -/
def Hc (h : Hp) (b k : Nat) : Option Value :=
  match h b with
  | some (.cells c _ _) => c[k]?
  | _ => none
theorem Hc.le {h h' : Hp} (l : Hp.le h h') {b k : Nat} {v : Value} (e : Hc h b k = some v) : Hc h' b k = some v := by
  unfold Hc at *
  cases hb : h b with
  | none => simp [hb] at e
  | some o => rw [l b o hb]; rw [hb] at e; exact e
theorem cell_hc (w : World) (b k : Nat) : w.cell? ⟨b, k, none⟩ = Hc (wh w) b k := by
  unfold World.cell? Hc wh
  simp only
  cases w.heap[b]? with
  | none => rfl
  | some o => cases o <;> rfl
def Rd (G : Gh) (L : List Ch) (b k : Nat) (v : Value) : Prop := ∀ w, St G L w → w.cell? ⟨b, k, none⟩ = some v
theorem Rd.g {G : Gh} {L : List Ch} {b k : Nat} {v : Value} (h : Hc G b k = some v) : Rd G L b k v := by
  intro w ⟨hp, s, l1, l2, d⟩
  rw [cell_hc]; exact Hc.le l1 h
theorem Rd.o {G : Gh} {L L' : List Ch} {c : Ch} {b k : Nat} {v : Value} (hx : Ex c L L') (hc : ∀ h, c h → Hc h b k = some v) : Rd G L b k v := by
  intro w ⟨hp, s, l1, l2, d⟩
  obtain ⟨h1, h2, _, m1, _, cc, _⟩ := hx.sep s
  rw [cell_hc]; exact Hc.le (Hp.le_trans m1 l2) (hc h1 cc)
/-- an owned block whose cells are written out -/
def blk (b : Nat) (t : TypeId) (cs : List Value) : Ch := fun h => h b = some (.cells cs.toArray t (0, 0))
class ExB (b : Nat) (L : List Ch) (t : outParam TypeId) (cs : outParam (List Value)) (L' : outParam (List Ch)) : Prop where
  ex : Ex (blk b t cs) L L'
instance (priority := low) (b : Nat) (x : Ch) (L : List Ch) (t : TypeId) (cs : List Value) (L' : List Ch) [h : ExB b L t cs L'] : ExB b (x :: L) t cs (x :: L') := ⟨.tail x h.ex⟩
instance (b : Nat) (L : List Ch) (t : TypeId) (cs : List Value) : ExB b (blk b t cs :: L) t cs L := ⟨.head _ L⟩
theorem Rd.blk {G : Gh} {L L' : List Ch} {b k : Nat} {t : TypeId} {cs : List Value} {v : Value} [hx : ExB b L t cs L'] (hv : cs[k]? = some v) : Rd G L b k v :=
  Rd.o hx.ex fun h hc => by unfold Hc; rw [hc]; simpa using hv

/-! ## slices -/
structure FT (α : Type) where
  sz : Nat
  enc : α → List Value
  len : ∀ x, (enc x).length = sz
def FT.flat {α : Type} (T : FT α) (xs : List α) : List Value := xs.flatMap T.enc
theorem FT.flat_len {α : Type} (T : FT α) (xs : List α) : (T.flat xs).length = xs.length * T.sz := by
  unfold FT.flat
  induction xs with
  | nil => simp
  | cons x xs ih => simp only [List.flatMap_cons, List.length_append, ih, T.len, List.length_cons, Nat.add_mul, Nat.one_mul]; omega
theorem FT.flat_get {α : Type} (T : FT α) : ∀ {xs : List α} {i j : Nat} {x : α} {c : Value}, xs[i]? = some x → (T.enc x)[j]? = some c → (T.flat xs)[i * T.sz + j]? = some c
  | [], _, _, _, _, h, _ => by simp at h
  | y :: xs, 0, j, x, c, h, hc => by
    simp only [List.getElem?_cons_zero, Option.some.injEq] at h
    subst h
    simp only [FT.flat, List.flatMap_cons, Nat.zero_mul, Nat.zero_add]
    rw [List.getElem?_append_left (by have := (List.getElem?_eq_some_iff.1 hc).1; omega)]
    exact hc
  | y :: xs, i + 1, j, x, c, h, hc => by
    simp only [List.getElem?_cons_succ] at h
    have ih := FT.flat_get T h hc
    simp only [FT.flat, List.flatMap_cons] at ih ⊢
    have e : (i + 1) * T.sz + j = (T.enc y).length + (i * T.sz + j) := by rw [T.len, Nat.add_mul]; omega
    rw [e, List.getElem?_append_right (by omega), Nat.add_sub_cancel_left]
    exact ih
def sb : Value → Nat
  | .slice (some a) _ _ => a.block
  | _ => 0
def so : Value → Nat
  | .slice (some a) _ _ => a.off
  | _ => 0
/-- v is a slice of n elements -/
def IsSl (v : Value) (n : Nat) : Prop := ∃ c, n ≤ c ∧ c ≤ maxLen ∧ ((∃ b k, v = .slice (some ⟨b, k, none⟩) n c) ∨ (∃ a, v = .slice a n c) ∧ n = 0)
theorem IsSl.one {v : Value} {n : Nat} (h : IsSl v n) : v.oneCell' = true := by
  obtain ⟨c, _, _, ⟨b, k, rfl⟩ | ⟨⟨_, rfl⟩, _⟩⟩ := h <;> rfl
theorem IsSl.some {v : Value} {n : Nat} (h : IsSl v n) (hn : 0 < n) : ∃ c, n ≤ c ∧ c ≤ maxLen ∧ v = .slice (some ⟨sb v, so v, none⟩) n c := by
  obtain ⟨c, h1, h2, ⟨b, k, rfl⟩ | ⟨⟨_, rfl⟩, h0⟩⟩ := h
  · exact ⟨c, h1, h2, rfl⟩
  · omega
/-- a published slice that reads as xs -/
structure SL {α : Type} (G : Gh) (T : FT α) (v : Value) (xs : List α) : Prop where
  sl : IsSl v xs.length
  get : ∀ j c, (T.flat xs)[j]? = Option.some c → Hc G (sb v) (so v + j) = Option.some c
theorem SL.le {α : Type} {G G' : Gh} {T : FT α} {v : Value} {xs : List α} (h : SL G T v xs) (l : Hp.le G.f G'.f) : SL G' T v xs := ⟨h.sl, fun j c e => Hc.le l (h.get j c e)⟩
theorem SL.bound {α : Type} {G : Gh} {T : FT α} {v : Value} {xs : List α} (h : SL G T v xs) : xs.length ≤ 9223372036854775807 := by
  obtain ⟨c, h1, h2, _⟩ := h.sl
  simp only [maxLen] at h2; omega
/-- an owned slice that reads as xs; e: its element's type -/
def osl {α : Type} (e : TypeId) (T : FT α) (v : Value) (xs : List α) : Ch := fun h =>
  (v = .slice none 0 0 ∧ xs = []) ∨ ∃ b cap c, v = .slice (some ⟨b, 0, none⟩) xs.length cap ∧ h b = some (.cells c e (0, 0)) ∧ xs.length ≤ cap ∧ cap ≤ maxLen ∧ c.size = cap * T.sz ∧ c.toList.take (xs.length * T.sz) = T.flat xs
theorem osl.isSl {α : Type} {e : TypeId} {T : FT α} {v : Value} {xs : List α} {h : Hp} (hc : osl e T v xs h) : IsSl v xs.length := by
  rcases hc with ⟨rfl, rfl⟩ | ⟨b, cap, c, rfl, _, h1, h2, _⟩
  · exact ⟨0, Nat.le_refl _, Nat.zero_le _, .inr ⟨⟨_, rfl⟩, rfl⟩⟩
  · exact ⟨cap, h1, h2, .inl ⟨b, 0, rfl⟩⟩
theorem osl.get {α : Type} {e : TypeId} {T : FT α} {v : Value} {xs : List α} {h : Hp} (hc : osl e T v xs h) : ∀ j c, (T.flat xs)[j]? = some c → Hc h (sb v) (so v + j) = some c := by
  intro j x hx
  rcases hc with ⟨rfl, rfl⟩ | ⟨b, cap, c, rfl, hb, h1, h2, h3, h4⟩
  · simp [FT.flat] at hx
  · simp only [sb, so, Hc, hb, Nat.zero_add]
    rw [← h4] at hx
    rw [List.getElem?_take] at hx
    split at hx
    · simpa using hx
    · cases hx
class ExS (v : Value) (L : List Ch) (α : outParam Type) (e : outParam TypeId) (F : outParam (FT α)) (xs : outParam (List α)) (L' : outParam (List Ch)) : Prop where
  ex : Ex (osl e F v xs) L L'
instance (priority := low) (v : Value) (x : Ch) (L : List Ch) (α : Type) (e : TypeId) (F : FT α) (xs : List α) (L' : List Ch) [h : ExS v L α e F xs L'] : ExS v (x :: L) α e F xs (x :: L') := ⟨.tail x h.ex⟩
instance (v : Value) (L : List Ch) (α : Type) (e : TypeId) (F : FT α) (xs : List α) : ExS v (osl e F v xs :: L) α e F xs L := ⟨.head _ L⟩
def SlF (G : Gh) (L : List Ch) (v : Value) (n : Nat) : Prop := ∀ w, St G L w → IsSl v n
theorem SlF.g {α : Type} {G : Gh} {L : List Ch} {T : FT α} {v : Value} {xs : List α} (h : SL G T v xs) : SlF G L v xs.length := fun _ _ => h.sl
theorem SlF.o {α : Type} {G : Gh} {L L' : List Ch} {e : TypeId} {T : FT α} {v : Value} {xs : List α} [hx : ExS v L α e T xs L'] : SlF G L v xs.length := by
  intro w ⟨hp, s, l1, l2, d⟩
  obtain ⟨h1, h2, _, m1, _, cc, _⟩ := hx.ex.sep s
  exact cc.isSl
theorem St.weak {G G' : Gh} {L L' : List Ch} {w : World} (h : St G' L' w) (p : Pick L L') (l : Gh.le G G') : St G L w := by
  obtain ⟨hp, s, l1, l2, d, ok⟩ := h
  refine ⟨hp, p.sep s, Hp.le_trans l.1 l1, l2, fun b => ?_, Gh.le_ok l ok⟩
  rcases d b with h | h
  · exact .inl h
  · right
    cases hg : G.f b with
    | none => rfl
    | some o => rw [l.1 b o hg] at h; cases h
/-- in the state (G, L) the slice v reads as xs -/
def Rs {α : Type} (G : Gh) (L : List Ch) (T : FT α) (v : Value) (xs : List α) : Prop :=
  ∀ w, St G L w → IsSl v xs.length ∧ ∀ j c, (T.flat xs)[j]? = some c → w.cell? ⟨sb v, so v + j, none⟩ = some c
theorem Rs.g {α : Type} {G : Gh} {L : List Ch} {T : FT α} {v : Value} {xs : List α} (h : SL G T v xs) : Rs G L T v xs :=
  fun w hs => ⟨h.sl, fun j c hc => Rd.g (h.get j c hc) w hs⟩
theorem Rs.o {α : Type} {G : Gh} {L L' : List Ch} {e : TypeId} {T : FT α} {v : Value} {xs : List α} [hx : ExS v L α e T xs L'] : Rs G L T v xs :=
  fun w hs => ⟨SlF.o (hx := hx) w hs, fun j c hc => Rd.o (G := G) hx.ex (fun h ho => ho.get j c hc) w hs⟩
theorem Rs.up {α : Type} {G : Gh} {L L' : List Ch} {T : FT α} {v : Value} {xs : List α} (h : Rs G L T v xs) [p : PickC L L'] : Rs G L' T v xs :=
  fun w hs => h w (hs.pick p.pick)
theorem Rs.le {α : Type} {G G' : Gh} {L : List Ch} {T : FT α} {v : Value} {xs : List α} (h : Rs G L T v xs) (l : Gh.le G G') : Rs G' L T v xs :=
  fun w hs => h w (hs.weak (.refl _) l)
theorem SlF.r {α : Type} {G : Gh} {L L' : List Ch} {T : FT α} {v : Value} {xs : List α} (h : Rs G L T v xs) [p : PickC L L'] : SlF G L' v xs.length := fun w hs => (h w (hs.pick p.pick)).1
/-- element i of the slice v reads as x -/
def El {α : Type} (G : Gh) (L : List Ch) (T : FT α) (v : Value) (i : Nat) (x : α) : Prop := ∀ j c, (T.enc x)[j]? = some c → Rd G L (sb v) (so v + i * T.sz + j) c
theorem El.g {α : Type} {G : Gh} {L : List Ch} {T : FT α} {v : Value} {xs : List α} {i : Nat} {x : α} (h : SL G T v xs) (hi : xs[i]? = some x) : El G L T v i x := by
  intro j c hc
  rw [Nat.add_assoc]
  exact Rd.g (h.get _ _ (T.flat_get hi hc))
theorem El.o {α : Type} {G : Gh} {L L' : List Ch} {e : TypeId} {T : FT α} {v : Value} {xs : List α} {i : Nat} {x : α} [hx : ExS v L α e T xs L'] (hi : xs[i]? = some x) : El G L T v i x := by
  intro j c hc
  rw [Nat.add_assoc]
  exact Rd.o hx.ex fun h ho => ho.get _ _ (T.flat_get hi hc)

theorem El.r {α : Type} {G : Gh} {L L' : List Ch} {T : FT α} {v : Value} {xs : List α} {i : Nat} {x : α} (h : Rs G L T v xs) [p : PickC L L'] (hi : xs[i]? = some x) : El G L' T v i x := by
  intro j c hc w hs
  rw [Nat.add_assoc]
  exact (h w (hs.pick p.pick)).2 _ _ (T.flat_get hi hc)
theorem IsSl.bd {v : Value} {n : Nat} (h : IsSl v n) : n ≤ 9223372036854775807 := by
  obtain ⟨c, h1, h2, _⟩ := h; simp only [maxLen] at h2; omega
theorem CallT.bd {α : Type} {P : Program} {f : FuncId} {args : Array Value} {R : Value → Gh → List Ch → Prop} {G : Gh} {L : List Ch} {T : FT α} {v : Value} {xs : List α} (h : Rs G L T v xs) (k : xs.length ≤ 9223372036854775807 → CallT P f args G L R) : CallT P f args G L R :=
  CallT.of fun w hs => (k (h w hs).1.bd).run hs
theorem WP.bd {α : Type} {P : Program} {n : Nat} {c : Code} {Q : Post} {σ : Nat → Value} {G : Gh} {L L' : List Ch} {T : FT α} {v : Value} {xs : List α} (h : Rs G L T v xs) [p : PickC L L'] (k : xs.length ≤ 9223372036854775807 → WP P n c Q σ G L') : WP P n c Q σ G L' :=
  WP.of fun hk a w ha hs => (k (h w (hs.pick p.pick)).1.bd).run hk ha hs
theorem WP.bdo {α : Type} {P : Program} {n : Nat} {c : Code} {Q : Post} {σ : Nat → Value} {G : Gh} {L L' : List Ch} {e : TypeId} {T : FT α} (v : Value) {xs : List α} [hx : ExS v L α e T xs L'] (k : xs.length ≤ 9223372036854775807 → WP P n c Q σ G L) : WP P n c Q σ G L :=
  WP.bd (L := L) (Rs.o (hx := hx)) k

section
variable {P : Program} {n : Nat} {σ : Nat → Value} {G : Gh} {L : List Ch} {o : Oper} {T T' t : TypeId} {x y z : Operand} {v u : Value}

theorem PV.move (ho : o.op = .move x) (hx : ev σ x = v) : PV P o σ G L v := by intro w _; simp [execOp, ho, hx]
theorem PV.asg (ho : o.op = .assign x) (hx : ev σ x = v) : PV P o σ G L v := by intro w _; simp [execOp, ho, hx]
theorem PV.mvI {k : IntKind} {a : Int} (ho : o.op = .move x ∨ o.op = .assign x) (hx : ev σ x = .int k a) : PV P o σ G L (.int k a) := by intro w _; rcases ho with ho | ho <;> simp [execOp, ho, hx]
theorem PV.mvB {p : Bool} (ho : o.op = .move x ∨ o.op = .assign x) (hx : ev σ x = .bool p) : PV P o σ G L (.bool p) := by intro w _; rcases ho with ho | ho <;> simp [execOp, ho, hx]
theorem PV.mvS {s : ByteArray} (ho : o.op = .move x ∨ o.op = .assign x) (hx : ev σ x = .string s) : PV P o σ G L (.string s) := by intro w _; rcases ho with ho | ho <;> simp [execOp, ho, hx]
theorem PV.mvP {b k : Nat} (ho : o.op = .move x ∨ o.op = .assign x) (hx : ev σ x = .pointer (some ⟨b, k, none⟩)) : PV P o σ G L (.pointer (some ⟨b, k, none⟩)) := by intro w _; rcases ho with ho | ho <;> simp [execOp, ho, hx]
theorem PV.pick {p : Bool} (ho : o.op = .pick x y z) (hx : ev σ x = .bool p) (hv : (bif p then ev σ y else ev σ z) = v) : PV P o σ G L v := by
  intro w _; subst hv; cases p <;> simp [execOp, ho, hx, asBool]
theorem PV.pickT {p : Bool} (ho : o.op = .pick x y z) (hx : ev σ x = .bool p) (h : p = true) (hv : ev σ y = v) : PV P o σ G L v := PV.pick ho hx (by subst h; exact hv)
theorem PV.pickE {p : Bool} (ho : o.op = .pick x y z) (hx : ev σ x = .bool p) (h : p = false) (hv : ev σ z = v) : PV P o σ G L v := PV.pick ho hx (by subst h; exact hv)
theorem PV.pickA {p q : Bool} (ho : o.op = .pick x y z) (hx : ev σ x = .bool p) (hy : p = true → ev σ y = .bool q) (hz : ev σ z = .bool false) : PV P o σ G L (.bool (p && q)) :=
  PV.pick ho hx (by cases p with | true => exact hy rfl | false => exact hz)
theorem PV.pickO {p q : Bool} (ho : o.op = .pick x y z) (hx : ev σ x = .bool p) (hy : ev σ y = .bool true) (hz : p = false → ev σ z = .bool q) : PV P o σ G L (.bool (p || q)) :=
  PV.pick ho hx (by cases p with | true => exact hy | false => exact hz rfl)

/-! ### numbers -/
theorem i64w {a : Int} (h : -9223372036854775808 ≤ a ∧ a ≤ 9223372036854775807) : IntKind.i64.wrap a = a := IntWalk.i64_in _ h
section
variable {k : IntKind} {a b : Int}
theorem PV.addW (ho : o.op = .binOp .add T x y T') (hx : ev σ x = .int k a) (hy : ev σ y = .int k b) : PV P o σ G L (.int k (k.wrap (a + b))) := by
  intro w _; simp [execOp, ho, hx, hy, eqGuard, binOp, Op.intArith]
theorem PV.subW (ho : o.op = .binOp .sub T x y T') (hx : ev σ x = .int k a) (hy : ev σ y = .int k b) : PV P o σ G L (.int k (k.wrap (a - b))) := by
  intro w _; simp [execOp, ho, hx, hy, eqGuard, binOp, Op.intArith]
theorem PV.mulW (ho : o.op = .binOp .mul T x y T') (hx : ev σ x = .int k a) (hy : ev σ y = .int k b) : PV P o σ G L (.int k (k.wrap (a * b))) := by
  intro w _; simp [execOp, ho, hx, hy, eqGuard, binOp, Op.intArith]
theorem PV.add (ho : o.op = .binOp .add T x y T') (hx : ev σ x = .int .i64 a) (hy : ev σ y = .int .i64 b) (hr : -9223372036854775808 ≤ a + b ∧ a + b ≤ 9223372036854775807) : PV P o σ G L (.int .i64 (a + b)) := by
  have h := PV.addW (P := P) (G := G) (L := L) ho hx hy; rwa [i64w hr] at h
theorem PV.sub (ho : o.op = .binOp .sub T x y T') (hx : ev σ x = .int .i64 a) (hy : ev σ y = .int .i64 b) (hr : -9223372036854775808 ≤ a - b ∧ a - b ≤ 9223372036854775807) : PV P o σ G L (.int .i64 (a - b)) := by
  have h := PV.subW (P := P) (G := G) (L := L) ho hx hy; rwa [i64w hr] at h
theorem PV.mul (ho : o.op = .binOp .mul T x y T') (hx : ev σ x = .int .i64 a) (hy : ev σ y = .int .i64 b) (hr : -9223372036854775808 ≤ a * b ∧ a * b ≤ 9223372036854775807) : PV P o σ G L (.int .i64 (a * b)) := by
  have h := PV.mulW (P := P) (G := G) (L := L) ho hx hy; rwa [i64w hr] at h
theorem PV.lss (ho : o.op = .binOp .lss T x y T') (hx : ev σ x = .int k a) (hy : ev σ y = .int k b) : PV P o σ G L (.bool (decide (a < b))) := by
  intro w _; simp [execOp, ho, hx, hy, eqGuard, binOp, Op.intCmp]
theorem PV.leq (ho : o.op = .binOp .leq T x y T') (hx : ev σ x = .int k a) (hy : ev σ y = .int k b) : PV P o σ G L (.bool (decide (a ≤ b))) := by
  intro w _; simp [execOp, ho, hx, hy, eqGuard, binOp, Op.intCmp]
theorem PV.gtr (ho : o.op = .binOp .gtr T x y T') (hx : ev σ x = .int k a) (hy : ev σ y = .int k b) : PV P o σ G L (.bool (decide (b < a))) := by
  intro w _; simp [execOp, ho, hx, hy, eqGuard, binOp, Op.intCmp]
theorem PV.geq (ho : o.op = .binOp .geq T x y T') (hx : ev σ x = .int k a) (hy : ev σ y = .int k b) : PV P o σ G L (.bool (decide (b ≤ a))) := by
  intro w _; simp [execOp, ho, hx, hy, eqGuard, binOp, Op.intCmp]
theorem PV.eql (ho : o.op = .binOp .eql T x y T') (hx : ev σ x = .int k a) (hy : ev σ y = .int k b) : PV P o σ G L (.bool (decide (a = b))) := by
  intro w _; simp [execOp, ho, hx, hy, eqGuard, binOp, Op.intCmp]; rfl
theorem PV.neq (ho : o.op = .binOp .neq T x y T') (hx : ev σ x = .int k a) (hy : ev σ y = .int k b) : PV P o σ G L (.bool (!decide (a = b))) := by
  intro w _; simp [execOp, ho, hx, hy, eqGuard, binOp, Op.intCmp, bne]; rfl
theorem PV.quo (ho : o.op = .binOp .quo T x y T') (hx : ev σ x = .int .i64 a) (hy : ev σ y = .int .i64 b) (h0 : 0 ≤ a) (h1 : 0 < b) (hr : a ≤ 9223372036854775807) : PV P o σ G L (.int .i64 (a / b)) := by
  intro w _
  have e : a.tdiv b = a / b := Int.tdiv_eq_ediv_of_nonneg h0
  have hd : a / b ≤ a := Int.ediv_le_self _ h0
  have hd0 : 0 ≤ a / b := Int.ediv_nonneg h0 (by omega)
  simp [execOp, ho, hx, hy, eqGuard, binOp, Op.intDiv, e, i64w (a := a / b) ⟨by omega, by omega⟩, show ¬ b = 0 by omega]
theorem PV.rem (ho : o.op = .binOp .rem T x y T') (hx : ev σ x = .int .i64 a) (hy : ev σ y = .int .i64 b) (h0 : 0 ≤ a) (h1 : 0 < b) (hr : b ≤ 9223372036854775807) : PV P o σ G L (.int .i64 (a % b)) := by
  intro w _
  have e : a.tmod b = a % b := Int.tmod_eq_emod_of_nonneg h0
  have hd0 : 0 ≤ a % b := Int.emod_nonneg _ (by omega)
  have hd : a % b < b := Int.emod_lt_of_pos _ h1
  simp [execOp, ho, hx, hy, eqGuard, binOp, Op.intDiv, e, show ¬ b = 0 by omega]
theorem PV.neg (ho : o.op = .unOp .neg T x) (hx : ev σ x = .int .i64 a) (hr : -9223372036854775808 ≤ -a ∧ -a ≤ 9223372036854775807) : PV P o σ G L (.int .i64 (-a)) := by
  intro w _; simp [execOp, ho, hx, Op.unary, Op.intArith, i64w (a := -a) hr]
theorem PV.conv (ho : o.op = .convert T T' x) {k' : IntKind} (h1 : ∃ d, P.underlying T = some d) (h2 : P.underlying T' = some (.int k')) (hx : ev σ x = .int k a) (hr : k'.wrap a = b) : PV P o σ G L (.int k' b) := by
  obtain ⟨d, h1⟩ := h1
  intro w _; subst hr; cases d <;> simp [execOp, ho, hx, convert, run_underlying h1, run_underlying h2, Conv.intToInt]
theorem PV.max2 (ho : o.op = .call { callee := .builtin .max, args := #[x, y], argTypes := #[T, T'] }) (hx : ev σ x = .int k a) (hy : ev σ y = .int k b) : PV P o σ G L (.int k (max a b)) := by
  intro w _
  have e : (if b > a then b else a) = max a b := by simp only [Int.max_def]; split <;> split <;> omega
  simp [execOp, ho, hx, hy, resolve, invoke, builtin, Builtin.max_, Builtin.max2]
  exact e
theorem PV.min2 (ho : o.op = .call { callee := .builtin .min, args := #[x, y], argTypes := #[T, T'] }) (hx : ev σ x = .int k a) (hy : ev σ y = .int k b) : PV P o σ G L (.int k (min a b)) := by
  intro w _
  have e : (if b < a then b else a) = min a b := by simp only [Int.min_def]; split <;> split <;> omega
  simp [execOp, ho, hx, hy, resolve, invoke, builtin, Builtin.min_, Builtin.min2]
  exact e
end
theorem PV.not {p : Bool} (ho : o.op = .unOp .not T x) (hx : ev σ x = .bool p) : PV P o σ G L (.bool (!p)) := by
  intro w _; simp [execOp, ho, hx, Op.unary]

/-! ### addresses -/
theorem PV.nilc {a : Addr} (ho : o.op = .nilCheck x) (hx : ev σ x = .pointer (some a)) : PV P o σ G L (.pointer (some a)) := by
  intro w _; simp [execOp, ho, hx]
theorem add_none (b k m : Nat) : Addr.add ⟨b, k, none⟩ m = ⟨b, k + m, none⟩ := by
  unfold Addr.add; split <;> simp_all
theorem PV.field {s f off b k : Nat} (ho : o.op = .fieldAddr s x f) (hF : FOff P s f off) (hx : ev σ x = .pointer (some ⟨b, k, none⟩)) : PV P o σ G L (.pointer (some ⟨b, k + off, none⟩)) := by
  obtain ⟨fs, fd, i, h1, h2, rfl, h3, h4⟩ := hF.parts
  intro w _
  simp [execOp, ho, hx, Instr.fieldAt, run_underlying h1, h2, Instr.sureAddr, fieldPlace, sizeOf, typeInfo, h3, h4, add_none]
theorem PV.idxA {len s b k : Nat} {kd : IntKind} {i : Int} {j : Nat} (ho : o.op = .indexAddr t x y) (hI : IdxA P t len s) (hx : ev σ x = .pointer (some ⟨b, k, none⟩)) (hy : ev σ y = .int kd i) (hj : i = (j : Int)) (hl : j < len) :
    PV P o σ G L (.pointer (some ⟨b, k + j * s, none⟩)) := by
  obtain ⟨e, h1, h2⟩ := hI
  obtain ⟨inf, h3, rfl⟩ := info_size h2
  clear h2
  intro w _
  subst hj
  have hb : (0 : Int) ≤ (j : Int) ∧ (j : Int) < (len : Int) := ⟨by omega, by omega⟩
  simp [execOp, ho, hx, hy, Instr.indexAt, asIntOf, run_underlying h1, Instr.sureAddr, hb, sizeOf, typeInfo, h3, add_none, hl]
theorem PV.idxS {s m : Nat} {kd : IntKind} {i : Int} {j : Nat} (ho : o.op = .indexAddr t x y) {e : TypeId} (hI : IdxS P t e s) (hx : ev σ x = v) (hs : SlF G L v m) (hy : ev σ y = .int kd i) (hj : i = (j : Int)) (hl : j < m) :
    PV P o σ G L (.pointer (some ⟨sb v, so v + j * s, none⟩)) := by
  obtain ⟨h1, h2⟩ := hI
  obtain ⟨inf, h3, rfl⟩ := info_size h2
  clear h2
  intro w hw
  subst hj
  obtain ⟨c, hc1, hc2, hv⟩ := (hs w hw).some (by omega)
  have hx' : ev σ x = .slice (some ⟨sb v, so v, none⟩) m c := hx.trans hv
  generalize sb v = b at *
  generalize so v = k at *
  simp [execOp, ho, hx', hy, Instr.indexAt, asIntOf, run_underlying h1, sizeOf, typeInfo, h3, add_none, hl]

/-! ### loads -/
theorem PV.load1 {b k : Nat} (ho : o.op = .load t x) (hS : Scal P t) (hx : ev σ x = .pointer (some ⟨b, k, none⟩)) (hr : Rd G L b k v) : PV P o σ G L v := by
  intro w hw
  simp [execOp, ho, hx, Instr.loadAt, Instr.sureAddr, loadVar, (hS w).1, hr w hw]
theorem loadCells_run : ∀ (m b k i : Nat) (acc : Array Value) (vs : List Value) (w : World), vs.length = m → (∀ j c, vs[j]? = some c → w.cell? ⟨b, k + (i + j), none⟩ = some c) →
    (loadCellsFrom ⟨b, k, none⟩ i m acc).run P w = .ok (acc ++ vs.toArray) w
  | 0, b, k, i, acc, vs, w, hl, _ => by
    obtain rfl := List.eq_nil_of_length_eq_zero hl
    simp [loadCellsFrom]
  | m + 1, b, k, i, acc, [], w, hl, _ => by simp at hl
  | m + 1, b, k, i, acc, c :: vs, w, hl, h => by
    have h0 := h 0 c (by simp)
    have ih := loadCells_run m b k (i + 1) (acc.push c) vs w (by simpa using hl) (fun j c' hc => by
      have := h (j + 1) c' (by simpa using hc)
      rwa [show i + (j + 1) = i + 1 + j by omega] at this)
    simp only [loadCellsFrom, Sem.run_bind, run_load, add_none]
    rw [Nat.add_zero] at h0
    simp only [h0, Result.andThen_ok, ih]
    simp
theorem PV.loadA {b k s : Nat} {vs : List Value} (ho : o.op = .load t x) (hA : Aggr P t s) (hx : ev σ x = .pointer (some ⟨b, k, none⟩)) (hl : vs.length = s) (hr : ∀ j c, vs[j]? = some c → Rd G L b (k + j) c) :
    PV P o σ G L (.agg vs.toArray) := by
  intro w hw
  have h := loadCells_run (P := P) s b k 0 #[] vs w hl (fun j c hc => by rw [Nat.zero_add]; exact hr j c hc w hw)
  simp only [Array.empty_append] at h
  simp [execOp, ho, hx, Instr.loadAt, Instr.sureAddr, loadVar, (hA w).1, (hA w).2, loadCells, h]
/-- a struct, or a part of one, out of an owned block -/
theorem PV.loadB {b k s : Nat} {e : TypeId} {cs vs : List Value} {L' : List Ch} (ho : o.op = .load t x) (hA : Aggr P t s) (hx : ev σ x = .pointer (some ⟨b, k, none⟩)) [hX : ExB b L e cs L'] (hv : (cs.drop k).take s = vs) (hl : vs.length = s) :
    PV P o σ G L (.agg vs.toArray) := by
  subst hv
  refine PV.loadA ho hA hx hl fun j c hc => Rd.blk (L' := L') ?_
  rw [List.getElem?_take] at hc
  split at hc
  · rwa [List.getElem?_drop] at hc
  · cases hc
/-- a whole element that is a struct -/
theorem PV.loadE {α : Type} {F : FT α} {s : Nat} {i : Nat} {e : α} (ho : o.op = .load t x) (hA : Aggr P t F.sz) (hx : ev σ x = .pointer (some ⟨sb v, so v + i * s, none⟩)) (hs : s = F.sz) (hE : El G L F v i e) :
    PV P o σ G L (.agg (F.enc e).toArray) := by
  subst hs; exact PV.loadA ho hA hx (F.len e) hE
/-- an element of one cell -/
theorem PV.loadE1 {α : Type} {F : FT α} {s : Nat} {i : Nat} {e : α} {c : Value} (ho : o.op = .load t x) (hS : Scal P t) (hx : ev σ x = .pointer (some ⟨sb v, so v + i * s, none⟩)) (hs : s = F.sz) (hE : El G L F v i e) (hc : (F.enc e)[0]? = some c) :
    PV P o σ G L c := by
  subst hs; exact PV.load1 ho hS hx (hE 0 c hc)
/-- a field of an element -/
theorem PV.loadF {α : Type} {F : FT α} {s : Nat} {i j : Nat} {e : α} {c : Value} (ho : o.op = .load t x) (hS : Scal P t) (hx : ev σ x = .pointer (some ⟨sb v, so v + i * s + j, none⟩)) (hs : s = F.sz) (hE : El G L F v i e) (hc : (F.enc e)[j]? = some c) :
    PV P o σ G L c := by
  subst hs; exact PV.load1 ho hS hx (hE j c hc)

/-- a part of an element that is a struct -/
theorem PV.loadEP {α : Type} {F : FT α} {s s' : Nat} {i j : Nat} {e : α} {vs : List Value} (ho : o.op = .load t x) (hA : Aggr P t s') (hx : ev σ x = .pointer (some ⟨sb v, so v + i * s + j, none⟩)) (hs : s = F.sz) (hE : El G L F v i e) (hv : ((F.enc e).drop j).take s' = vs) (hl : vs.length = s' := by rfl) :
    PV P o σ G L (.agg vs.toArray) := by
  subst hs hv
  refine PV.loadA ho hA hx hl fun m c hc => ?_
  rw [List.getElem?_take] at hc
  split at hc
  · rw [List.getElem?_drop] at hc
    have := hE (j + m) c hc
    rwa [← Nat.add_assoc] at this
  · cases hc
/-! ### lengths -/
theorem PV.len {m : Nat} (ho : o.op = .call { callee := .builtin .len, args := #[x], argTypes := #[T] }) {e : TypeId} (hT : P.underlying T = some (.slice e)) (hx : ev σ x = v) (hs : SlF G L v m) : PV P o σ G L (.int .i64 m) := by
  intro w hw
  obtain ⟨c, _, _, h⟩ := hs w hw
  have : ∃ a, v = .slice a m c := by rcases h with ⟨b, k, h⟩ | ⟨⟨a, h⟩, _⟩ <;> exact ⟨_, h⟩
  obtain ⟨a, rfl⟩ := this
  simp [execOp, ho, hx, resolve, invoke, builtin, Builtin.len_, run_underlying hT, goInt]
theorem PV.lenS {s : ByteArray} (ho : o.op = .call { callee := .builtin .len, args := #[x], argTypes := #[T] }) (hT : P.underlying T = some .string) (hx : ev σ x = .string s) : PV P o σ G L (.int .i64 s.size) := by
  intro w hw
  simp [execOp, ho, hx, resolve, invoke, builtin, Builtin.len_, run_underlying hT, goInt]
/-! ### strings -/
theorem PV.idxStr {s : ByteArray} {kd : IntKind} {i : Int} {j : Nat} {c : UInt8} (ho : o.op = .index T x y) (hT : P.underlying T = some .string) (hx : ev σ x = .string s) (hy : ev σ y = .int kd i) (hj : i = (j : Int)) (hc : s[j]? = some c) : PV P o σ G L (.int .u8 c.toNat) := by
  intro w hw
  subst hj
  simp [execOp, ho, hx, hy, Instr.index, asIntOf, run_underlying hT, hc]
theorem PV.eqlB {p q : Bool} (ho : o.op = .binOp .eql T x y T') (hT : P.underlying T = some .bool) (hx : ev σ x = .bool p) (hy : ev σ y = .bool q) : PV P o σ G L (.bool (p == q)) := by
  intro w hw
  simp [execOp, ho, hx, hy, eqGuard, run_eql_bool w T p q hT]
theorem PV.neqB {p q : Bool} (ho : o.op = .binOp .neq T x y T') (hT : P.underlying T = some .bool) (hx : ev σ x = .bool p) (hy : ev σ y = .bool q) : PV P o σ G L (.bool (p != q)) := by
  intro w hw
  have h : (binOp .neq T (.bool p) (.bool q)).run P w = .ok (.bool (p != q)) w := by
    have h1 := run_eql_bool (P := P) w T p q hT
    have e : binOp .neq T (.bool p) (.bool q) = (do pure (.bool (!(← Op.equal T (.bool p) (.bool q)))) : Sem Value) := rfl
    have e' : binOp .eql T (.bool p) (.bool q) = (do pure (.bool (← Op.equal T (.bool p) (.bool q))) : Sem Value) := rfl
    rw [e'] at h1
    rw [e]
    simp only [Sem.run_bind, Sem.run_pure] at h1 ⊢
    cases hr : (Op.equal T (.bool p) (.bool q)).run P w with
    | ok b w' =>
      rw [hr] at h1
      simp only [Result.andThen_ok, Result.ok.injEq, Value.bool.injEq] at h1
      obtain ⟨rfl, rfl⟩ := h1
      rfl
    | halt x w' => rw [hr] at h1; simp at h1
  simp [execOp, ho, hx, hy, eqGuard, h]
theorem bytes_beq (a b : ByteArray) : (a.toList == b.toList) = decide (a = b) := by
  rw [ByteArray.toList_eq, ByteArray.toList_eq]
  obtain ⟨⟨x⟩⟩ := a
  obtain ⟨⟨y⟩⟩ := b
  by_cases h : x = y
  · subst h; simp
  · simp [h]
theorem PV.eqlS {p q : ByteArray} (ho : o.op = .binOp .eql T x y T') (hx : ev σ x = .string p) (hy : ev σ y = .string q) : PV P o σ G L (.bool (decide (p = q))) := by
  intro w hw
  simp [execOp, ho, hx, hy, eqGuard, binOp_string_eql, bytes_beq]
theorem PV.neqS {p q : ByteArray} (ho : o.op = .binOp .neq T x y T') (hx : ev σ x = .string p) (hy : ev σ y = .string q) : PV P o σ G L (.bool (!decide (p = q))) := by
  intro w hw
  simp [execOp, ho, hx, hy, eqGuard, binOp_string_neq, bytes_beq]
theorem PV.addS {p q : ByteArray} (ho : o.op = .binOp .add T x y T') (hx : ev σ x = .string p) (hy : ev σ y = .string q) (hl : p.size + q.size ≤ 9223372036854775807) : PV P o σ G L (.string (p ++ q)) := by
  intro w hw
  have : ¬ ((p.size + q.size : Nat) : Int) > IntKind.i64.max := by
    simp only [show IntKind.i64.max = 9223372036854775807 from rfl]; omega
  simp only [execOp, ho, hx, hy, eqGuard, binOp_string_add, Op.stringOp, this, if_false]
  simp
theorem getE {α : Type} {xs : List α} {i : Nat} (h : i < xs.length) : xs[i]? = some xs[i] := List.getElem?_eq_getElem h
theorem getB {s : ByteArray} {i : Nat} (h : i < s.size) : s[i]? = some s[i] := by simp [h]
theorem set_pre {α : Type} {xs ys : List α} {i : Nat} {x : α} (h : ∀ j, j < i → ys[j]? = xs[j]?) (hx : xs[i]? = some x) (hl : ys.length = xs.length) : ∀ j, j < i + 1 → (ys.set i x)[j]? = xs[j]? := by
  intro j hj
  by_cases e : j = i
  · subst e
    have := (List.getElem?_eq_some_iff.1 hx).1
    rw [hx, List.getElem?_set]; simp [hl, this]
  · rw [List.getElem?_set, if_neg (Ne.symm e)]; exact h j (by omega)
theorem pre_eq {α : Type} {xs ys : List α} {i : Nat} (h : ∀ j, j < i → ys[j]? = xs[j]?) (hl : ys.length = xs.length) (hi : xs.length ≤ i) : ys = xs := by
  apply List.ext_getElem?
  intro j
  by_cases hj : j < i
  · exact h j hj
  · rw [List.getElem?_eq_none (by omega), List.getElem?_eq_none (by omega)]
/-- the element, whatever the index -/
@[irreducible] def gd {α : Type} [Inhabited α] (xs : List α) (i : Nat) : α := xs[i]?.getD default
theorem gd_eq {α : Type} [Inhabited α] {xs : List α} {i : Nat} (h : i < xs.length) : gd xs i = xs[i] := by simp [gd, h]
theorem getG {α : Type} [Inhabited α] {xs : List α} {i : Nat} (h : i < xs.length) : xs[i]? = some (gd xs i) := by simp [gd, h]
@[irreducible] def bt (s : ByteArray) (i : Nat) : UInt8 := s[i]?.getD 0
theorem bt_eq {s : ByteArray} {i : Nat} (h : i < s.size) : bt s i = s[i] := by simp [bt, h]
theorem getBG {s : ByteArray} {i : Nat} (h : i < s.size) : s[i]? = some (bt s i) := by simp [bt, h]
theorem PV.ext {j : Nat} {vs : Array Value} (ho : o.op = .extract x j) (hx : ev σ x = .tuple vs) (hv : vs[j]? = some v) : PV P o σ G L v := by
  intro w hw
  simp [execOp, ho, hx, Instr.extract, hv]
end
end Go.Proofs.YthjaopefoiploaaGreat
