/-
  Parts of slices and strings; comparison with nil; function values.
-/
import Derived.Test.YthjaopefoiploaaGreatBag
import Derived.Lib.BufferMore
namespace Go.Proofs.YthjaopefoiploaaGreat
open Go
set_option linter.unusedVariables false

/-! ## parts of slices -/
/-- the part [lo:hi] of a slice whose elements have s cells -/
def slv (s : Nat) (v : Value) (lo hi : Nat) : Value :=
  match v with
  | .slice a n c => .slice (if c = lo then a else a.map (·.add (lo * s))) (hi - lo) (c - lo)
  | v => v
def optAt (σ : Nat → Value) (x : Option Operand) (d j : Nat) : Prop :=
  match x with
  | none => j = d
  | some x => ∃ k, ev σ x = .int k (j : Int)
theorem FT.flat_drop {α : Type} (F : FT α) : ∀ (xs : List α) (k : Nat), F.flat (xs.drop k) = (F.flat xs).drop (k * F.sz)
  | xs, 0 => by simp
  | [], k + 1 => by simp [FT.flat]
  | x :: xs, k + 1 => by
    have ih := FT.flat_drop F xs k
    have e : F.flat (x :: xs) = F.enc x ++ F.flat xs := by simp [FT.flat]
    rw [List.drop_succ_cons, ih, e, List.drop_append, F.len, List.drop_of_length_le (l := F.enc x) (by rw [F.len, Nat.add_mul]; omega), List.nil_append]
    congr 1; rw [Nat.add_mul]; omega
theorem FT.flat_take {α : Type} (F : FT α) : ∀ (xs : List α) (k : Nat), F.flat (xs.take k) = (F.flat xs).take (k * F.sz)
  | xs, 0 => by simp [FT.flat]
  | [], k + 1 => by simp [FT.flat]
  | x :: xs, k + 1 => by
    have ih := FT.flat_take F xs k
    have e : F.flat (x :: xs) = F.enc x ++ F.flat xs := by simp [FT.flat]
    have e' : F.flat (x :: xs.take k) = F.enc x ++ F.flat (xs.take k) := by simp [FT.flat]
    rw [List.take_succ_cons, e', ih, e, List.take_append, F.len, List.take_of_length_le (l := F.enc x) (by rw [F.len, Nat.add_mul]; omega)]
    congr 2; rw [Nat.add_mul]; omega
theorem IsSl.slv {v : Value} {n s lo hi : Nat} (h : IsSl v n) (h1 : lo ≤ hi) (h2 : hi ≤ n) : IsSl (slv s v lo hi) (hi - lo) := by
  obtain ⟨c, hc1, hc2, ⟨b, k, rfl⟩ | ⟨⟨a, rfl⟩, h0⟩⟩ := h
  · refine ⟨c - lo, by omega, by omega, ?_⟩
    simp only [Go.Proofs.YthjaopefoiploaaGreat.slv]
    by_cases e : c = lo
    · rw [if_pos e]; exact .inl ⟨b, k, rfl⟩
    · rw [if_neg e]; exact .inl ⟨b, k + lo * s, by simp [add_none]⟩
  · refine ⟨c - lo, by omega, by omega, .inr ⟨⟨_, rfl⟩, by omega⟩⟩
theorem Rs.slv {α : Type} {G : Gh} {L : List Ch} {F : FT α} {v : Value} {xs : List α} {lo hi : Nat} (h : Rs G L F v xs) (h1 : lo ≤ hi) (h2 : hi ≤ xs.length) : Rs G L F (slv F.sz v lo hi) ((xs.take hi).drop lo) := by
  intro w hs
  obtain ⟨hi', hg⟩ := h w hs
  have hl : ((xs.take hi).drop lo).length = hi - lo := by simp; omega
  refine ⟨by rw [hl]; exact hi'.slv h1 h2, fun j c hj => ?_⟩
  have hj' := hj
  rw [FT.flat_drop, List.getElem?_drop, FT.flat_take, List.getElem?_take] at hj
  split at hj
  · have key := hg (lo * F.sz + j) c hj
    obtain ⟨c', hc1, hc2, ⟨b, k, rfl⟩ | ⟨⟨a, rfl⟩, h0⟩⟩ := hi'
    · simp only [Go.Proofs.YthjaopefoiploaaGreat.slv]
      by_cases e : c' = lo
      · exfalso
        have := (List.getElem?_eq_some_iff.1 hj').1
        rw [FT.flat_len, hl] at this
        have : hi - lo = 0 := by omega
        simp_all
      · rw [if_neg e]
        simp only [Option.map_some, add_none, sb, so] at key ⊢
        rw [← key]; congr 2; omega
    · exfalso
      have := (List.getElem?_eq_some_iff.1 hj').1
      rw [FT.flat_len, hl] at this
      have : hi - lo = 0 := by omega
      simp_all
  · cases hj
def isNilS : Value → Bool
  | .slice none _ _ => true
  | _ => false

/-! ## function values -/
/-- the function value fv, called with arg, hands back b and leaves the state -/
def CB (P : Program) (G : Gh) (L : List Ch) (fv : Value) (arg : List Value) (b : Value) : Prop :=
  ∃ f first caps, fv = .func (.func f) first.toArray caps.toArray ∧ Ent P f ∧ ∀ (L' : List Ch) (R : Value → Gh → List Ch → Prop), Cv L' L → R b G L' → CallT P f (first ++ arg ++ caps).toArray G L' R
theorem CB.cv {P : Program} {G : Gh} {L L' : List Ch} {fv : Value} {arg : List Value} {b : Value} (h : CB P G L fv arg b) (p : Cv L' L) : CB P G L' fv arg b := by
  obtain ⟨f, first, caps, h1, h2, h3⟩ := h
  exact ⟨f, first, caps, h1, h2, fun M R q => h3 M R (q.trans p)⟩
theorem CB.up {P : Program} {G : Gh} {L L' : List Ch} {fv : Value} {arg : List Value} {b : Value} (h : CB P G L fv arg b) [p : PickC L L'] : CB P G L' fv arg b := h.cv (Cv.pick p.pick)
/-- a function without captured variables -/
theorem CB.mk0 {P : Program} {G : Gh} {L : List Ch} {f : FuncId} {arg : List Value} {b : Value} (hE : Ent P f) (h : ∀ (L' : List Ch) (R : Value → Gh → List Ch → Prop), Cv L' L → R b G L' → CallT P f arg.toArray G L' R) : CB P G L (.func (.func f) #[] #[]) arg b :=
  ⟨f, [], [], rfl, hE, fun L' R c k => by simpa using h L' R c k⟩
theorem CB.mk1 {P : Program} {G : Gh} {L : List Ch} {f : FuncId} {arg : List Value} {b c : Value} (hE : Ent P f) (h : ∀ (L' : List Ch) (R : Value → Gh → List Ch → Prop), Cv L' L → R b G L' → CallT P f (arg ++ [c]).toArray G L' R) : CB P G L (.func (.func f) #[] #[c]) arg b :=
  ⟨f, [], [c], rfl, hE, fun L' R c k => by simpa using h L' R c k⟩
theorem CB.mk2 {P : Program} {G : Gh} {L : List Ch} {f : FuncId} {arg : List Value} {b c d : Value} (hE : Ent P f) (h : ∀ (L' : List Ch) (R : Value → Gh → List Ch → Prop), Cv L' L → R b G L' → CallT P f (arg ++ [c, d]).toArray G L' R) : CB P G L (.func (.func f) #[] #[c, d]) arg b :=
  ⟨f, [], [c, d], rfl, hE, fun L' R c k => by simpa using h L' R c k⟩
theorem CB.mk3 {P : Program} {G : Gh} {L : List Ch} {f : FuncId} {arg : List Value} {b c d e : Value} (hE : Ent P f) (h : ∀ (L' : List Ch) (R : Value → Gh → List Ch → Prop), Cv L' L → R b G L' → CallT P f (arg ++ [c, d, e]).toArray G L' R) : CB P G L (.func (.func f) #[] #[c, d, e]) arg b :=
  ⟨f, [], [c, d, e], rfl, hE, fun L' R c k => by simpa using h L' R c k⟩
theorem Rd.cv {G : Gh} {L L' : List Ch} {b k : Nat} {v : Value} (h : Rd G L b k v) (c : Cv L' L) : Rd G L' b k v := fun w hs => h w (hs.cv c)
theorem Rd.up {G : Gh} {L L' : List Ch} {b k : Nat} {v : Value} (h : Rd G L b k v) [p : PickC L L'] : Rd G L' b k v := h.cv (Cv.pick p.pick)
/-- a variable of several cells, read -/
def RdN (G : Gh) (L : List Ch) (b : Nat) (cs : List Value) : Prop := ∀ j c, cs[j]? = some c → Rd G L b (0 + j) c
theorem RdN.cv {G : Gh} {L L' : List Ch} {b : Nat} {cs : List Value} (h : RdN G L b cs) (c : Cv L' L) : RdN G L' b cs := fun j x e => (h j x e).cv c
theorem RdN.up {G : Gh} {L L' : List Ch} {b : Nat} {cs : List Value} (h : RdN G L b cs) [p : PickC L L'] : RdN G L' b cs := h.cv (Cv.pick p.pick)
theorem RdN.blk {G : Gh} {L L' : List Ch} {b : Nat} {e : TypeId} {cs : List Value} [hx : ExB b L e cs L'] : RdN G L b cs := fun j _ h => by rw [Nat.zero_add]; exact Rd.blk (cs := cs) h

section
variable {P : Program} {n : Nat} {ops : Array Oper} {rest : List Oper} {Q : Post} {σ : Nat → Value} {G : Gh} {L : List Ch} {o : Oper} {K : (Nat → Value) → Gh → List Ch → Prop}
variable {l : List Operand} {ats : Array TypeId} {fo : Operand} {fv : Value} {vs : List Value} {b : Value}
theorem OT.callB (ho : o.op = .call { callee := .value fo, args := l.toArray, argTypes := ats }) (hf : ev σ fo = fv) (ha : cargs σ l = vs) (h : CB P G L fv vs b) (k : K (updo σ o.dst b) G L) : OT P n o σ G L K := by
  obtain ⟨f, first, caps, rfl, hE, h3⟩ := h
  subst ha
  exact OT.call ho hf hE (h3 L _ (Cv.refl L) k)
theorem RG.callB (hg : o.guard = none) (ho : o.op = .call { callee := .value fo, args := l.toArray, argTypes := ats }) (hf : ev σ fo = fv) (ha : cargs σ l = vs) (h : CB P G L fv vs b) (k : RG P n ops rest Q (updo σ o.dst b) G L) : RG P n ops (o :: rest) Q σ G L :=
  RG.ot hg (OT.callB ho hf ha h k)
/-- a call of a function value that is known, with what it has caught -/
theorem RG.callK {f : FuncId} {caps vs : List Value} (hg : o.guard = none) (ho : o.op = .call { callee := .value fo, args := l.toArray, argTypes := ats }) (hf : ev σ fo = .func (.func f) #[] caps.toArray) (hE : Ent P f) (ha : cargs σ l ++ caps = vs)
    (h : CallT P f vs.toArray G L fun v G' L' => RG P n ops rest Q (updo σ o.dst v) G' L') : RG P n ops (o :: rest) Q σ G L :=
  RG.callC (first := []) (caps := caps) hg ho hf hE (by subst ha; simpa using h)
theorem RQ.callB (hg : o.guard = none) (ho : o.op = .call { callee := .value fo, args := l.toArray, argTypes := ats }) (hf : ev σ fo = fv) (ha : cargs σ l = vs) (h : CB P G L fv vs b) (k : RQ P n ops rest Q (updo σ o.dst b) G L) : RQ P n ops (o :: rest) Q σ G L := by
  obtain ⟨f, first, caps, rfl, hE, h3⟩ := h
  subst ha
  exact RQ.callC hg ho hf hE (h3 L _ (Cv.refl L) ⟨rfl, rfl, rfl⟩) k

theorem PV.slc {T : TypeId} {x : Operand} {lo hi : Option Operand} {l h m s : Nat} {e : TypeId} {v : Value} (ho : o.op = .slice T x lo hi none) (hI : IdxS P T e s) (hx : ev σ x = v) (hs : SlF G L v m) (hlo : optAt σ lo 0 l) (hhi : optAt σ hi m h) (h1 : l ≤ h) (h2 : h ≤ m) : PV P o σ G L (slv s v l h) := by
  obtain ⟨hu, hi'⟩ := hI
  obtain ⟨inf, h3, rfl⟩ := info_size hi'
  clear hi'
  intro w hw
  have hbd : ∀ c, m ≤ c → (Instr.sliceBounds true m c (lo.map (ev σ)) (hi.map (ev σ)) none).run P w = .ok (l, h, c) w := by
    intro c hc
    have hl' : ∀ k : IntKind, (0 : Int) ≤ (l : Int) ∧ (l : Int) ≤ (h : Int) := fun _ => ⟨by omega, by omega⟩
    cases lo with
    | none =>
      have hlo : l = 0 := hlo
      subst hlo
      cases hi with
      | none => have hhi : h = m := hhi; subst hhi; simp [Instr.sliceBounds]
      | some y =>
        obtain ⟨k, hy⟩ := hhi
        have : h ≤ c := by omega
        simp [Instr.sliceBounds, Instr.sliceBound, hy, asIntOf, this]
    | some x' =>
      obtain ⟨k', hx'⟩ := hlo
      cases hi with
      | none => have hhi : h = m := hhi; subst hhi; simp [Instr.sliceBounds, Instr.sliceBound, hx', asIntOf, h1]
      | some y =>
        obtain ⟨k, hy⟩ := hhi
        have : h ≤ c := by omega
        simp [Instr.sliceBounds, Instr.sliceBound, hy, hx', asIntOf, this, h1]
  have key : ∀ a c, m ≤ c → (execOp (ev σ) o).run P w = .ok (.value (slv inf.size (.slice a m c) l h)) w ∨ v ≠ .slice a m c := by
    intro a c hc
    by_cases hv : v = .slice a m c
    · left
      have hx' : ev σ x = .slice a m c := hx.trans hv
      simp only [execOp, ho, hx', Instr.sliceAt, Sem.run_bind, run_underlying hu, Result.andThen_ok, Instr.slice, Option.map_none, hbd c hc, sizeOf, typeInfo, run_program, h3, Sem.run_pure, slv]
    · exact .inr hv
  obtain ⟨c, hc1, hc2, ⟨b, k, hv⟩ | ⟨⟨a, hv⟩, h0⟩⟩ := hs w hw
  · rcases key (some ⟨b, k, none⟩) c hc1 with h | h
    · rw [hv]; exact h
    · exact absurd hv h
  · rcases key a c hc1 with h | h
    · rw [hv]; exact h
    · exact absurd hv h
theorem PV.slcS {T : TypeId} {x : Operand} {lo hi : Option Operand} {l h : Nat} {s : ByteArray} (ho : o.op = .slice T x lo hi none) (hu : P.underlying T = some .string) (hx : ev σ x = .string s) (hlo : optAt σ lo 0 l) (hhi : optAt σ hi s.size h) (h1 : l ≤ h) (h2 : h ≤ s.size) : PV P o σ G L (.string (s.extract l h)) := by
  intro w hw
  have hbd : (Instr.sliceBounds false s.size s.size (lo.map (ev σ)) (hi.map (ev σ)) none).run P w = .ok (l, h, s.size) w := by
    cases lo with
    | none =>
      have hlo : l = 0 := hlo
      subst hlo
      cases hi with
      | none => have hhi : h = s.size := hhi; subst hhi; simp [Instr.sliceBounds]
      | some y => obtain ⟨k, hy⟩ := hhi; simp [Instr.sliceBounds, Instr.sliceBound, hy, asIntOf, h2]
    | some x' =>
      obtain ⟨k', hx'⟩ := hlo
      cases hi with
      | none => have hhi : h = s.size := hhi; subst hhi; simp [Instr.sliceBounds, Instr.sliceBound, hx', asIntOf, h1]
      | some y => obtain ⟨k, hy⟩ := hhi; simp [Instr.sliceBounds, Instr.sliceBound, hy, hx', asIntOf, h2, h1]
  simp [execOp, ho, hx, Instr.sliceAt, run_underlying hu, Instr.slice, hbd]
theorem PV.eqlNil {T T' : TypeId} {x : Operand} {e : TypeId} {m : Nat} {v : Value} (ho : o.op = .binOp .eql T x (.const (.slice none 0 0)) T') (hu : P.underlying T = some (.slice e)) (hx : ev σ x = v) (hs : SlF G L v m) : PV P o σ G L (.bool (isNilS v)) := by
  intro w hw
  have hv : ∃ a n c, v = .slice a n c := by
    obtain ⟨c, hc1, hc2, ⟨b, k, hv⟩ | ⟨⟨a, hv⟩, h0⟩⟩ := hs w hw
    · exact ⟨_, _, _, hv⟩
    · exact ⟨_, _, _, hv⟩
  obtain ⟨a, n, c, rfl⟩ := hv
  have hy : ev σ (.const (.slice none 0 0)) = .slice none 0 0 := rfl
  cases a with
  | none => simp [execOp, ho, hx, hy, eqGuard, Go.Lib.run_eql_slice_nil_nil w n c hu, isNilS]
  | some a => simp [execOp, ho, hx, hy, eqGuard, Go.Lib.run_eql_slice_some_nil w a n c hu, isNilS]
end
theorem optAt.n {σ : Nat → Value} {d : Nat} : optAt σ none d d := rfl
theorem optAt.s {σ : Nat → Value} {x : Operand} {d j : Nat} {k : IntKind} {a : Int} (h : ev σ x = .int k a) (e : a = (j : Int)) : optAt σ (some x) d j := ⟨k, by rw [h, e]⟩
theorem PV.mkf {P : Program} {o : Oper} {σ : Nat → Value} {G : Gh} {L : List Ch} {fn : Fn} {first caps : Array Operand} (ho : o.op = .makeFunc fn first caps) : PV P o σ G L (.func fn (first.map (ev σ)) (caps.map (ev σ))) := by
  intro w _; simp [execOp, ho, Instr.makeFunc]
theorem PV.mvF {P : Program} {o : Oper} {σ : Nat → Value} {G : Gh} {L : List Ch} {x : Operand} {fn : Fn} {a b : Array Value} (ho : o.op = .move x ∨ o.op = .assign x) (hx : ev σ x = .func fn a b) : PV P o σ G L (.func fn a b) := by intro w _; rcases ho with ho | ho <;> simp [execOp, ho, hx]
theorem PV.mkf1 {P : Program} {o : Oper} {σ : Nat → Value} {G : Gh} {L : List Ch} {fn : Fn} {x : Operand} {a : Nat} (ho : o.op = .makeFunc fn #[] #[x]) (hx : ev σ x = .pointer (some ⟨a, 0, none⟩)) : PV P o σ G L (.func fn #[] #[.pointer (some ⟨a, 0, none⟩)]) := by
  intro w _; simp [execOp, ho, Instr.makeFunc, hx]
theorem PV.mkf2 {P : Program} {o : Oper} {σ : Nat → Value} {G : Gh} {L : List Ch} {fn : Fn} {x y : Operand} {a b : Nat} (ho : o.op = .makeFunc fn #[] #[x, y]) (hx : ev σ x = .pointer (some ⟨a, 0, none⟩)) (hy : ev σ y = .pointer (some ⟨b, 0, none⟩)) : PV P o σ G L (.func fn #[] #[.pointer (some ⟨a, 0, none⟩), .pointer (some ⟨b, 0, none⟩)]) := by
  intro w _; simp [execOp, ho, Instr.makeFunc, hx, hy]
theorem PV.mkf3 {P : Program} {o : Oper} {σ : Nat → Value} {G : Gh} {L : List Ch} {fn : Fn} {x y z : Operand} {a b c : Nat} (ho : o.op = .makeFunc fn #[] #[x, y, z]) (hx : ev σ x = .pointer (some ⟨a, 0, none⟩)) (hy : ev σ y = .pointer (some ⟨b, 0, none⟩)) (hz : ev σ z = .pointer (some ⟨c, 0, none⟩)) : PV P o σ G L (.func fn #[] #[.pointer (some ⟨a, 0, none⟩), .pointer (some ⟨b, 0, none⟩), .pointer (some ⟨c, 0, none⟩)]) := by
  intro w _; simp [execOp, ho, Instr.makeFunc, hx, hy, hz]
theorem PV.mkf4 {P : Program} {o : Oper} {σ : Nat → Value} {G : Gh} {L : List Ch} {fn : Fn} {x y z u : Operand} {a b c d : Nat} (ho : o.op = .makeFunc fn #[] #[x, y, z, u]) (hx : ev σ x = .pointer (some ⟨a, 0, none⟩)) (hy : ev σ y = .pointer (some ⟨b, 0, none⟩)) (hz : ev σ z = .pointer (some ⟨c, 0, none⟩)) (hu : ev σ u = .pointer (some ⟨d, 0, none⟩)) : PV P o σ G L (.func fn #[] #[.pointer (some ⟨a, 0, none⟩), .pointer (some ⟨b, 0, none⟩), .pointer (some ⟨c, 0, none⟩), .pointer (some ⟨d, 0, none⟩)]) := by
  intro w _; simp [execOp, ho, Instr.makeFunc, hx, hy, hz, hu]
theorem isNilS_nil {α : Type} {G : Gh} {L : List Ch} {F : FT α} {v : Value} {xs : List α} {w : World} (h : Rs G L F v xs) (hs : St G L w) (e : isNilS v = true) : xs = [] := by
  obtain ⟨c, _, _, ⟨b, k, rfl⟩ | ⟨⟨a, rfl⟩, h0⟩⟩ := (h w hs).1
  · cases e
  · exact List.eq_nil_of_length_eq_zero h0
/-- what the worlds of a state say may be used -/
theorem CallT.st {P : Program} {f : FuncId} {args : Array Value} {G : Gh} {L : List Ch} {R : Value → Gh → List Ch → Prop} {A : Prop} (h : ∀ w, St G L w → A) (k : A → CallT P f args G L R) : CallT P f args G L R := CallT.of fun w hs => (k (h w hs)).run hs
end Go.Proofs.YthjaopefoiploaaGreat
