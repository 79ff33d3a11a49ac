/-
  The rule of a region that draws its order and some of whose operations write memory: the quiet ones are taken first, the loud ones one at a time, or in either order.
-/
import Derived.Test.YthjaopefoiploaaGreatPv
import Derived.OrdersHeld
namespace Go.Proofs.YthjaopefoiploaaGreat
open Go

/-- how a region is walked: q: a quiet operation taken first; l: the only operation that may come up; b: either of two -/
inductive Sch where
  | nil
  | q (i : Nat) (r : Sch)
  | l (i : Nat) (r : Sch)
  | b (i : Nat) (r : Sch) (j : Nat) (s : Sch)
  | c (i : Nat) (r : Sch) (j : Nat) (s : Sch) (k : Nat) (t : Sch)
def Sch.len : Sch → Nat
  | .nil => 0
  | .q _ r => r.len + 1
  | .l _ r => r.len + 1
  | .b _ r _ _ => r.len + 1
  | .c _ r _ _ _ _ => r.len + 1
def schB (ops : Array Oper) : Sch → Array Bool → Bool
  | .nil, ls => (Region.ready .any ops ls).isEmpty
  | .q i r, ls => Region.free .any ops ls i && (Region.ready .any ops ls).contains i && schB ops r (ls.setIfInBounds i true)
  | .l i r, ls => (Region.ready .any ops ls == [i]) && schB ops r (ls.setIfInBounds i true)
  | .b i r j s, ls => (Region.ready .any ops ls == [i, j]) && Nat.beq r.len s.len && schB ops r (ls.setIfInBounds i true) && schB ops s (ls.setIfInBounds j true)
  | .c i r j s k t, ls => (Region.ready .any ops ls == [i, j, k]) && Nat.beq r.len s.len && Nat.beq r.len t.len && schB ops r (ls.setIfInBounds i true) && schB ops s (ls.setIfInBounds j true) && schB ops t (ls.setIfInBounds k true)
def NoP (Q : Post) : Prop := ∀ c σ G L, Q (.panic c) σ G L → False

section
variable {P : Program} {n : Nat} {ops : Array Oper} {Q : Post} {σ : Nat → Value} {G G0 : Gh} {L C0 : List Ch} {o oi oj : Oper} {r s : Sch}

@[irreducible] def RH (P : Program) (n : Nat) (ops : Array Oper) (G0 : Gh) (C0 : List Ch) (r : Sch) (Q : Post) (σ : Nat → Value) (G : Gh) (L : List Ch) : Prop :=
  Region.noSelect ops = true → opsOk n ops.toList = true → ∀ ls a w, schB ops r ls = true → Ag n σ a → St G L w → wpAnyH P .any ops (lift n Q) (St G0 C0) r.len ls a w
theorem RH.of (h : Region.noSelect ops = true → opsOk n ops.toList = true → ∀ ls a w, schB ops r ls = true → Ag n σ a → St G L w → wpAnyH P .any ops (lift n Q) (St G0 C0) r.len ls a w) : RH P n ops G0 C0 r Q σ G L := by
  unfold RH; exact h
theorem RH.run (h : RH P n ops G0 C0 r Q σ G L) (h1 : Region.noSelect ops = true) (h2 : opsOk n ops.toList = true) {ls : Array Bool} {a : Act} {w : World} (h3 : schB ops r ls = true) (ha : Ag n σ a) (hs : St G L w) : wpAnyH P .any ops (lift n Q) (St G0 C0) r.len ls a w := by
  unfold RH at h; exact h h1 h2 ls a w h3 ha hs
theorem WP.regionH {id : Nat} {l : List Oper} (C0 : List Ch) (r : Sch) (hm : P.follows .mixedOrders = true) (h1 : Region.noSelect l.toArray = true) (h2 : schB l.toArray r (Array.replicate l.length false) = true) (h3 : r.len = l.length)
    (h : RH P n l.toArray G C0 r Q σ G L) : WP P n (.region id l.toArray true) Q σ G L :=
  WP.of fun hk a w ha hs => by
    refine wp_region_held (S := St G C0) hm ?_
    have := h.run h1 (by simpa [codeOk] using hk) h2 ha (w := { w with drawn := w.drawn + 1 }) (by
      obtain ⟨hp, s, l1, l2, d⟩ := hs
      exact ⟨hp, s, l1, l2, d⟩)
    rw [h3] at this
    simpa using this
theorem WP.regionH0 {id : Nat} {l : List Oper} (r : Sch) (hm : P.follows .mixedOrders = true) (h1 : Region.noSelect l.toArray = true) (h2 : schB l.toArray r (Array.replicate l.length false) = true) (h3 : r.len = l.length)
    (h : RH P n l.toArray G L r Q σ G L) : WP P n (.region id l.toArray true) Q σ G L := WP.regionH L r hm h1 h2 h3 h
/-- chunks that are not held in the region: they may be written in it -/
inductive Dr where
  | s (v : Value)
  | b (k : Nat)
class DropC (ds : List Dr) (L : List Ch) (L' : outParam (List Ch)) : Prop where
  mk ::
instance (L : List Ch) : DropC [] L L := ⟨⟩
instance (v : Value) (ds : List Dr) (L M L' : List Ch) (α : Type) (e : TypeId) (F : FT α) (xs : List α) [ExS v L α e F xs M] [DropC ds M L'] : DropC (.s v :: ds) L L' := ⟨⟩
instance (k : Nat) (ds : List Dr) (L M L' : List Ch) (t : TypeId) (cs : List Value) [ExB k L t cs M] [DropC ds M L'] : DropC (.b k :: ds) L L' := ⟨⟩
theorem WP.regionHD {id : Nat} {l : List Oper} (ds : List Dr) {C0 : List Ch} [DropC ds L C0] (r : Sch) (hm : P.follows .mixedOrders = true) (h1 : Region.noSelect l.toArray = true) (h2 : schB l.toArray r (Array.replicate l.length false) = true) (h3 : r.len = l.length)
    (h : RH P n l.toArray G C0 r Q σ G L) : WP P n (.region id l.toArray true) Q σ G L := WP.regionH C0 r hm h1 h2 h3 h
theorem RH.nil (h : Q .normal σ G L) : RH P n ops G0 C0 .nil Q σ G L :=
  RH.of fun _ _ ls a w hb ha hs => wpAnyH_done (by simpa [schB] using hb) ⟨σ, G, L, ha, hs, h⟩ _
theorem tok_of {i : Nat} (h2 : opsOk n ops.toList = true) (hi : ops[i]? = some oi) : Tok n oi.dst = true := by
  have hm : oi ∈ ops.toList := by
    have := Array.mem_of_getElem? hi
    simpa using this
  exact List.all_eq_true.1 h2 oi hm
theorem RH.step {i : Nat} {v : Value} (hi : ops[i]? = some oi) (hQ : NoP Q) (hg : Gh.le G0 G) (hC : Pick C0 L) (hy : ∀ a, Ag n σ a → YieldsIf P ops (St G0 C0) oi v a) (k : RH P n ops G0 C0 r Q (updo σ oi.dst v) G L) : RH P n ops G0 C0 (.q i r) Q σ G L :=
  RH.of fun h1 h2 ls a w hb ha hs => by
    simp only [schB, Bool.and_eq_true] at hb
    exact wpAnyH_take hi h1 hb.1.1 hb.1.2 (fun c a w ⟨σ', G', L', _, _, hq⟩ => (hQ c σ' G' L' hq).elim) (hy a ha) (hs.weak hC hg) (k.run h1 h2 hb.2 (ha.put (tok_of h2 hi) v) hs)
theorem RH.pv {i : Nat} {v : Value} (hi : ops[i]? = some oi) (hQ : NoP Q) (hg : Gh.le G0 G) (hC : Pick C0 L) (hn : oi.guard = none) (h : PV P oi σ G0 C0 v) (k : RH P n ops G0 C0 r Q (updo σ oi.dst v) G L) : RH P n ops G0 C0 (.q i r) Q σ G L :=
  RH.step hi hQ hg hC (fun a ha => .inl ⟨by simp [Region.wanted, hn], fun w hs => by rw [ha.eval]; exact h w hs⟩) k
theorem RH.gs {i j t : Nat} {want p : Bool} {v : Value} (hi : ops[i]? = some oi) (hQ : NoP Q) (hg : Gh.le G0 G) (hC : Pick C0 L) (hn : oi.guard = some (j, want)) (hj : (ops[j]?).bind (·.dst) = some t) (hb : σ t = .bool p) (h : (p == want) = true → PV P oi σ G0 C0 v)
    (k : RH P n ops G0 C0 r Q (updo σ oi.dst (gv (p == want) v)) G L) : RH P n ops G0 C0 (.q i r) Q σ G L := by
  refine RH.step hi hQ hg hC (fun a ha => ?_) k
  by_cases e : p = want
  · have he : (p == want) = true := by simp [e]
    rw [gs_t he]
    refine .inl ⟨?_, fun w hs => by rw [ha.eval]; exact h he w hs⟩
    simp only [Region.wanted, hn, yielded_ag ha hj hb]; simp [e]
  · have he : (p == want) = false := by simp [e]
    rw [gs_f he]
    refine .inr ⟨?_, rfl⟩
    simp only [Region.wanted, hn, yielded_ag ha hj hb]
    cases p <;> cases want <;> simp_all
theorem RH.gs2 {i j t : Nat} {want b p : Bool} {v : Value} (hi : ops[i]? = some oi) (hQ : NoP Q) (hg : Gh.le G0 G) (hC : Pick C0 L) (hn : oi.guard = some (j, want)) (hj : (ops[j]?).bind (·.dst) = some t) (hb : σ t = gv b (.bool p)) (h : (b && (p == want)) = true → PV P oi σ G0 C0 v)
    (k : RH P n ops G0 C0 r Q (updo σ oi.dst (gv (b && (p == want)) v)) G L) : RH P n ops G0 C0 (.q i r) Q σ G L := by
  cases b with
  | true => rw [gs_t rfl] at hb; exact RH.gs hi hQ hg hC hn hj hb (by simpa using h) (by simpa using k)
  | false =>
    rw [gs_f rfl] at hb
    rw [Bool.false_and, gs_f rfl] at k
    refine RH.step hi hQ hg hC (fun a ha => .inr ⟨?_, rfl⟩) k
    simp only [Region.wanted, hn, yielded_none ha hj hb]; rfl
theorem RH.one {i : Nat} (h1 : Region.noSelect ops = true) (h2 : opsOk n ops.toList = true) (hi : ops[i]? = some oi) (hn : oi.guard = none) {ls : Array Bool} {a : Act} {w : World} (hb : schB ops r (ls.setIfInBounds i true) = true) (ha : Ag n σ a) (hs : St G L w)
    (h : OT P n oi σ G L fun σ' G' L' => Gh.le G0 G' ∧ Pick C0 L' ∧ RH P n ops G0 C0 r Q σ' G' L') :
    wpOp P ops (lift n Q) i (fun a' w' => St G0 C0 w' ∧ wpAnyH P .any ops (lift n Q) (St G0 C0) r.len (ls.setIfInBounds i true) a' w') a w := by
  unfold wpOp
  simp only [hi]
  rw [if_pos (by simp [Region.wanted, hn])]
  exact .inl (Oper.wp_mono (fun a' w' ⟨σ', G', L', h3, h4, h5, h6, h7⟩ => ⟨h4.weak h6 h5, h7.run h1 h2 hb h3 h4⟩) (h (tok_of h2 hi) a w ha hs _))
theorem RH.ot {i : Nat} (hi : ops[i]? = some oi) (hn : oi.guard = none) (h : OT P n oi σ G L fun σ' G' L' => Gh.le G0 G' ∧ Pick C0 L' ∧ RH P n ops G0 C0 r Q σ' G' L') : RH P n ops G0 C0 (.l i r) Q σ G L :=
  RH.of fun h1 h2 ls a w hb ha hs => by
    simp only [schB, Bool.and_eq_true, beq_iff_eq] at hb
    refine wpAnyH_all hb.1 (by simp) fun x hx => ?_
    obtain rfl : x = i := by simpa using hx
    exact RH.one h1 h2 hi hn hb.2 ha hs h
theorem RH.ot2 {i j : Nat} (hi : ops[i]? = some oi) (hn : oi.guard = none) (hj : ops[j]? = some oj) (hn' : oj.guard = none) (h : OT P n oi σ G L fun σ' G' L' => Gh.le G0 G' ∧ Pick C0 L' ∧ RH P n ops G0 C0 r Q σ' G' L')
    (h' : OT P n oj σ G L fun σ' G' L' => Gh.le G0 G' ∧ Pick C0 L' ∧ RH P n ops G0 C0 s Q σ' G' L') : RH P n ops G0 C0 (.b i r j s) Q σ G L :=
  RH.of fun h1 h2 ls a w hb ha hs => by
    simp only [schB, Bool.and_eq_true, beq_iff_eq] at hb
    refine wpAnyH_all hb.1.1.1 (by simp) fun x hx => ?_
    by_cases e : x = i
    · subst e; exact RH.one h1 h2 hi hn hb.1.2 ha hs h
    · obtain rfl : x = j := by
        have : x = i ∨ x = j := by simpa using hx
        exact this.resolve_left e
      have hl : r.len = s.len := Nat.eq_of_beq_eq_true hb.1.1.2
      show wpOp P ops (lift n Q) x (fun a' w' => St G0 C0 w' ∧ wpAnyH P .any ops (lift n Q) (St G0 C0) r.len (ls.setIfInBounds x true) a' w') a w
      rw [hl]
      exact RH.one h1 h2 hj hn' hb.2 ha hs h'
theorem RH.ot3 {ok : Oper} {t : Sch} {i j k : Nat} (hi : ops[i]? = some oi) (hn : oi.guard = none) (hj : ops[j]? = some oj) (hn' : oj.guard = none) (hk : ops[k]? = some ok) (hn'' : ok.guard = none) (h : OT P n oi σ G L fun σ' G' L' => Gh.le G0 G' ∧ Pick C0 L' ∧ RH P n ops G0 C0 r Q σ' G' L')
    (h' : OT P n oj σ G L fun σ' G' L' => Gh.le G0 G' ∧ Pick C0 L' ∧ RH P n ops G0 C0 s Q σ' G' L') (h'' : OT P n ok σ G L fun σ' G' L' => Gh.le G0 G' ∧ Pick C0 L' ∧ RH P n ops G0 C0 t Q σ' G' L') : RH P n ops G0 C0 (.c i r j s k t) Q σ G L :=
  RH.of fun h1 h2 ls a w hb ha hs => by
    simp only [schB, Bool.and_eq_true, beq_iff_eq] at hb
    refine wpAnyH_all hb.1.1.1.1.1 (by simp) fun x hx => ?_
    by_cases e : x = i
    · subst e; exact RH.one h1 h2 hi hn hb.1.1.2 ha hs h
    · by_cases e2 : x = j
      · subst e2
        have hl : r.len = s.len := Nat.eq_of_beq_eq_true hb.1.1.1.1.2
        show wpOp P ops (lift n Q) x (fun a' w' => St G0 C0 w' ∧ wpAnyH P .any ops (lift n Q) (St G0 C0) r.len (ls.setIfInBounds x true) a' w') a w
        rw [hl]
        exact RH.one h1 h2 hj hn' hb.1.2 ha hs h'
      · obtain rfl : x = k := by
          have : x = i ∨ x = j ∨ x = k := by simpa using hx
          exact (this.resolve_left e).resolve_left e2
        have hl : r.len = t.len := Nat.eq_of_beq_eq_true hb.1.1.1.2
        show wpOp P ops (lift n Q) x (fun a' w' => St G0 C0 w' ∧ wpAnyH P .any ops (lift n Q) (St G0 C0) r.len (ls.setIfInBounds x true) a' w') a w
        rw [hl]
        exact RH.one h1 h2 hk hn'' hb.2 ha hs h''
/-- a call of a named function, as an operation -/
theorem OT.callF {f : FuncId} {l : List Operand} {ats : Array TypeId} {vs : List Value} {K : (Nat → Value) → Gh → List Ch → Prop} (ho : o.op = .call { callee := .value (.func f), args := l.toArray, argTypes := ats }) (hE : Ent P f) (ha : cargs σ l = vs)
    (h : CallT P f vs.toArray G L fun v G' L' => K (updo σ o.dst v) G' L') : OT P n o σ G L K :=
  OT.call (first := []) (caps := []) ho rfl hE (by subst ha; simpa using h)
end
end Go.Proofs.YthjaopefoiploaaGreat
