/-
  The rules of the small logic, one for each kind of operation: what each does to the slots, the ghost heap and the chunks.
-/
import Derived.Test.YthjaopefoiploaaGreatCore
namespace Go.Proofs.YthjaopefoiploaaGreat
open Go

section
variable {P : Program} {n : Nat} {ops : Array Oper} {rest : List Oper} {Q : Post} {σ : Nat → Value} {G : Gh} {L : List Ch} {o : Oper}

/-- what follows in a region that keeps its order -/
@[irreducible] def RG (P : Program) (n : Nat) (ops : Array Oper) (rest : List Oper) (Q : Post) (σ : Nat → Value) (G : Gh) (L : List Ch) : Prop :=
  opsOk n rest = true → ∀ a w, Ag n σ a → St G L w → wpList P ops (lift n Q) rest a w
theorem RG.run (h : RG P n ops rest Q σ G L) (hk : opsOk n rest = true) {a : Act} {w : World} (ha : Ag n σ a) (hs : St G L w) : wpList P ops (lift n Q) rest a w := by
  unfold RG at h; exact h hk a w ha hs
theorem RG.of (h : opsOk n rest = true → ∀ a w, Ag n σ a → St G L w → wpList P ops (lift n Q) rest a w) : RG P n ops rest Q σ G L := by
  unfold RG; exact h
theorem WP.region {id : Nat} {l : List Oper} (h : RG P n l.toArray l Q σ G L) : WP P n (.region id l.toArray false) Q σ G L :=
  WP.of fun hk _ _ ha hs => wp_region_lit (h.run (by simpa [codeOk] using hk) ha hs)
theorem RG.nil (h : Q .normal σ G L) : RG P n ops [] Q σ G L := RG.of fun _ _ _ ha hs => ⟨σ, G, L, ha, hs, h⟩

/-- the operation yields v and leaves the world alone -/
def PV (P : Program) (o : Oper) (σ : Nat → Value) (G : Gh) (L : List Ch) (v : Value) : Prop :=
  ∀ w, St G L w → (execOp (ev σ) o).run P w = .ok (.value v) w
/-- the operation leads to a state of K -/
def OT (P : Program) (n : Nat) (o : Oper) (σ : Nat → Value) (G : Gh) (L : List Ch) (K : (Nat → Value) → Gh → List Ch → Prop) : Prop :=
  Tok n o.dst = true → ∀ a w, Ag n σ a → St G L w → ∀ Q', o.wp P a w (fun a' w' => ∃ σ' G' L', Ag n σ' a' ∧ St G' L' w' ∧ K σ' G' L') Q'

theorem opsOk_cons (h : opsOk n (o :: rest) = true) : Tok n o.dst = true ∧ opsOk n rest = true := by
  simpa [opsOk] using h
theorem RG.ot (hg : o.guard = none) (h : OT P n o σ G L (fun σ' G' L' => RG P n ops rest Q σ' G' L')) : RG P n ops (o :: rest) Q σ G L := by
  refine RG.of fun hk a w ha hs => ?_
  have hk := opsOk_cons hk
  refine wpList_plain hg fun K hK => ?_
  refine Oper.wp_mono (fun a' w' ⟨σ', G', L', h1, h2, h3⟩ => hK _ _ (h3.run hk.2 h1 h2)) (h hk.1 a w ha hs _)
theorem OT.pv {v : Value} {K : (Nat → Value) → Gh → List Ch → Prop} (h : PV P o σ G L v) (k : K (updo σ o.dst v) G L) : OT P n o σ G L K := by
  intro hk a w ha hs Q'
  unfold Oper.wp
  rw [ha.eval, h w hs]
  exact ⟨_, _, _, ha.put hk v, hs, k⟩
theorem RG.pv {v : Value} (hg : o.guard = none) (h : PV P o σ G L v) (k : RG P n ops rest Q (updo σ o.dst v) G L) : RG P n ops (o :: rest) Q σ G L :=
  RG.ot hg (OT.pv h k)

/-! ### guards: a slot that holds v if b, else nothing -/
@[irreducible] def gv (b : Bool) (v : Value) : Value := bif b then v else undef
theorem gs_t {b : Bool} {v : Value} (h : b = true) : gv b v = v := by subst h; unfold gv; rfl
theorem gs_f {b : Bool} {v : Value} (h : b = false) : gv b v = undef := by subst h; unfold gv; rfl
theorem gand {b c : Bool} (h : (b && c) = true) : b = true := by cases b <;> simp_all
theorem geqT {q : Bool} (h : q = true) : (q == true) = true := by subst h; rfl
theorem geqF {q : Bool} (h : q = false) : (q == false) = true := by subst h; rfl
theorem gandT {b q : Bool} (h : b = true) (k : q = true) : (b && (q == true)) = true := by subst h k; rfl
theorem gandF {b q : Bool} (h : b = true) (k : q = false) : (b && (q == false)) = true := by subst h k; rfl
theorem gne {p : Bool} (h : p = false) : p ≠ true := by simp [h]
theorem gneF {p : Bool} (h : p = true) : p ≠ false := by simp [h]
theorem yielded_ag {a : Act} (ha : Ag n σ a) {j t : Nat} {b : Bool} (hj : (ops[j]?).bind (·.dst) = some t) (hb : σ t = .bool b) : yielded ops a.tmps j = some b := by
  have h := ha.e t
  rw [hb] at h
  have h2 : a.tmps[t]? = some (.bool b) := by
    cases hh : a.tmps[t]? with
    | some x => simp [Array.getD_eq_getD_getElem?, hh] at h; rw [h]
    | none => simp [Array.getD_eq_getD_getElem?, hh, undef] at h
  simp [yielded, hj, h2]
theorem RG.skip {j t : Nat} {want b : Bool} (hg : o.guard = some (j, want)) (hj : (ops[j]?).bind (·.dst) = some t) (hb : σ t = .bool b) (hw : b ≠ want) (k : RG P n ops rest Q (updo σ o.dst undef) G L) : RG P n ops (o :: rest) Q σ G L := by
  refine RG.of fun hk a w ha hs => ?_
  have hk := opsOk_cons hk
  have hn : Region.wanted o (yielded ops a.tmps) = false := by
    simp only [Region.wanted, hg, yielded_ag ha hj hb]
    cases b <;> cases want <;> simp_all
  unfold wpList
  rw [if_neg (by simp [hn])]
  exact k.run hk.2 (ha.put hk.1 _) hs
theorem RG.take {j t : Nat} {want b : Bool} (hg : o.guard = some (j, want)) (hj : (ops[j]?).bind (·.dst) = some t) (hb : σ t = .bool b) (hw : b = want) (k : RG P n ops ({ o with guard := none } :: rest) Q σ G L) : RG P n ops (o :: rest) Q σ G L := by
  refine RG.of fun hk a w ha hs => ?_
  subst hw
  have hn : Region.wanted o (yielded ops a.tmps) = true := by
    simp only [Region.wanted, hg, yielded_ag ha hj hb]; simp
  have h := k.run (by simpa [opsOk] using hk) ha hs
  unfold wpList at h ⊢
  rw [if_pos hn]
  rw [if_pos (by rfl)] at h
  exact h
theorem yielded_none {a : Act} (ha : Ag n σ a) {j t : Nat} (hj : (ops[j]?).bind (·.dst) = some t) (hb : σ t = undef) : yielded ops a.tmps j = none := by
  have h := ha.e t
  rw [hb] at h
  unfold yielded
  rw [hj]
  simp only [Option.bind_some]
  cases hh : a.tmps[t]? with
  | none => rfl
  | some x => simp [Array.getD_eq_getD_getElem?, hh] at h; subst h; rfl
theorem RG.skip0 {j t : Nat} {want : Bool} (hg : o.guard = some (j, want)) (hj : (ops[j]?).bind (·.dst) = some t) (hb : σ t = undef) (k : RG P n ops rest Q (updo σ o.dst undef) G L) : RG P n ops (o :: rest) Q σ G L := by
  refine RG.of fun hk a w ha hs => ?_
  have hk := opsOk_cons hk
  have hn : Region.wanted o (yielded ops a.tmps) = false := by
    simp only [Region.wanted, hg, yielded_none ha hj hb]; rfl
  unfold wpList
  rw [if_neg (by simp [hn])]
  exact k.run hk.2 (ha.put hk.1 _) hs
theorem RG.gsK {j t : Nat} {want p : Bool} (hg : o.guard = some (j, want)) (hj : (ops[j]?).bind (·.dst) = some t) (hb : σ t = .bool p) {v : Value}
    (h : (p == want) = true → RG P n ops rest Q (updo σ o.dst v) G L → RG P n ops ({ o with guard := none } :: rest) Q σ G L) (k : RG P n ops rest Q (updo σ o.dst (gv (p == want) v)) G L) : RG P n ops (o :: rest) Q σ G L := by
  by_cases e : p = want
  · have he : (p == want) = true := by simp [e]
    rw [gs_t he] at k
    exact RG.take hg hj hb e (h he k)
  · have he : (p == want) = false := by simp [e]
    rw [gs_f he] at k
    exact RG.skip hg hj hb e k
theorem RG.gsK2 {j t : Nat} {want b p : Bool} (hg : o.guard = some (j, want)) (hj : (ops[j]?).bind (·.dst) = some t) (hb : σ t = gv b (.bool p)) {v : Value}
    (h : (b && (p == want)) = true → RG P n ops rest Q (updo σ o.dst v) G L → RG P n ops ({ o with guard := none } :: rest) Q σ G L) (k : RG P n ops rest Q (updo σ o.dst (gv (b && (p == want)) v)) G L) : RG P n ops (o :: rest) Q σ G L := by
  cases b with
  | true => rw [gs_t rfl] at hb; exact RG.gsK hg hj hb (by simpa using h) (by simpa using k)
  | false => rw [gs_f rfl] at hb; rw [Bool.false_and, gs_f rfl] at k; exact RG.skip0 hg hj hb k
theorem RG.gs {j t : Nat} {want p : Bool} {v : Value} (hg : o.guard = some (j, want)) (hj : (ops[j]?).bind (·.dst) = some t) (hb : σ t = .bool p) (h : (p == want) = true → PV P o σ G L v) (k : RG P n ops rest Q (updo σ o.dst (gv (p == want) v)) G L) : RG P n ops (o :: rest) Q σ G L :=
  RG.gsK hg hj hb (fun e k => RG.pv rfl (fun w hs => h e w hs) k) k
theorem RG.gs2 {j t : Nat} {want b p : Bool} {v : Value} (hg : o.guard = some (j, want)) (hj : (ops[j]?).bind (·.dst) = some t) (hb : σ t = gv b (.bool p)) (h : (b && (p == want)) = true → PV P o σ G L v) (k : RG P n ops rest Q (updo σ o.dst (gv (b && (p == want)) v)) G L) : RG P n ops (o :: rest) Q σ G L :=
  RG.gsK2 hg hj hb (fun e k => RG.pv rfl (fun w hs => h e w hs) k) k

/-- the truth of a guard decided: two ways -/
theorem RG.spl {t : Nat} {p : Bool} (hb : σ t = .bool p) (h1 : p = true → RG P n ops rest Q σ G L) (h2 : p = false → RG P n ops rest Q σ G L) : RG P n ops rest Q σ G L := by
  cases p with
  | true => exact h1 rfl
  | false => exact h2 rfl

/-! ### calls -/
@[irreducible] def CallT (P : Program) (f : FuncId) (args : Array Value) (G : Gh) (L : List Ch) (R : Value → Gh → List Ch → Prop) : Prop :=
  ∀ w, St G L w → Calls P f args w fun e w' => ∃ v G' L', e = .returned v ∧ St G' L' w' ∧ R v G' L'
theorem CallT.run {f : FuncId} {args : Array Value} {R : Value → Gh → List Ch → Prop} (h : CallT P f args G L R) {w : World} (hs : St G L w) :
    Calls P f args w fun e w' => ∃ v G' L', e = .returned v ∧ St G' L' w' ∧ R v G' L' := by
  unfold CallT at h; exact h w hs
theorem CallT.of {f : FuncId} {args : Array Value} {R : Value → Gh → List Ch → Prop} (h : ∀ w, St G L w → Calls P f args w fun e w' => ∃ v G' L', e = .returned v ∧ St G' L' w' ∧ R v G' L') : CallT P f args G L R := by
  unfold CallT; exact h
theorem CallT.mono {f : FuncId} {args : Array Value} {R R' : Value → Gh → List Ch → Prop} (h : CallT P f args G L R) (hr : ∀ v G L, R v G L → R' v G L) : CallT P f args G L R' :=
  CallT.of fun _ hs => (h.run hs).mono fun _ _ ⟨v, G', L', h1, h2, h3⟩ => ⟨v, G', L', h1, h2, hr _ _ _ h3⟩
theorem CallT.pick {f : FuncId} {args : Array Value} {R : Value → Gh → List Ch → Prop} {C : List Ch} (hC : Pick C L) (h : CallT P f args G C R) : CallT P f args G L R :=
  CallT.of fun _ hs => h.run (hs.pick hC)
def Ent (P : Program) (f : FuncId) : Prop := ∀ args w, (callFunc f args).run P w = .ok (.enter f args) w
theorem ent_of {f : FuncId} {fn : Func} (hf : P.funcs[f]? = some fn) (hn : (fn.name == "runtime.NumGoroutine") = false) (hb : fn.body.isNone = false) : Ent P f := by
  intro args w
  simp only [callFunc, Sem.run_bind, run_program, Result.andThen_ok, hf, hn, hb, Bool.false_eq_true, if_false, Sem.run_pure]
def cargs (σ : Nat → Value) : List Operand → List Value
  | [] => []
  | x :: l => ev σ x :: cargs σ l
theorem cargs_map (σ : Nat → Value) (l : List Operand) : cargs σ l = l.map (ev σ) := by induction l <;> simp_all [cargs]
theorem anil {σ : Nat → Value} : cargs σ [] = [] := rfl
theorem acons {σ : Nat → Value} {x : Operand} {v : Value} {l : List Operand} {vs : List Value} (h : ev σ x = v) (k : cargs σ l = vs) : cargs σ (x :: l) = v :: vs := by rw [cargs, h, k]
theorem enter_run {f : FuncId} {l : List Operand} {ats : Array TypeId} {fo : Operand} {first caps : List Value} (ho : o.op = .call { callee := .value fo, args := l.toArray, argTypes := ats }) (hf : ev σ fo = .func (.func f) first.toArray caps.toArray) (hE : Ent P f) (w : World) :
    (execOp (ev σ) o).run P w = .ok (.enter f (first ++ cargs σ l ++ caps).toArray) w := by
  simp [execOp, ho, resolve, hf, Deferred.ofValue, invoke, hE _ w, cargs_map]
theorem OT.call {f : FuncId} {l : List Operand} {ats : Array TypeId} {fo : Operand} {first caps : List Value} {K : (Nat → Value) → Gh → List Ch → Prop}
    (ho : o.op = .call { callee := .value fo, args := l.toArray, argTypes := ats }) (hf : ev σ fo = .func (.func f) first.toArray caps.toArray) (hE : Ent P f)
    (h : CallT P f (first ++ cargs σ l ++ caps).toArray G L fun v G' L' => K (updo σ o.dst v) G' L') : OT P n o σ G L K := by
  intro hk a w hag hs Q'
  unfold Oper.wp
  rw [hag.eval, enter_run ho hf hE w, Oper.upon_enter]
  refine (h.run hs).mono ?_
  rintro e w' ⟨v, G', L', rfl, h2, h3⟩
  exact ⟨_, _, _, hag.put hk v, h2, h3⟩
/-- a call of a named function -/
theorem RG.callF {f : FuncId} {l : List Operand} {ats : Array TypeId} {vs : List Value} (hg : o.guard = none)
    (ho : o.op = .call { callee := .value (.func f), args := l.toArray, argTypes := ats }) (hE : Ent P f) (ha : cargs σ l = vs)
    (h : CallT P f vs.toArray G L fun v G' L' => RG P n ops rest Q (updo σ o.dst v) G' L') : RG P n ops (o :: rest) Q σ G L :=
  RG.ot hg (OT.call (first := []) (caps := []) ho rfl hE (by subst ha; simpa using h))
/-- a call of a function value -/
theorem RG.callC {f : FuncId} {l : List Operand} {ats : Array TypeId} {fo : Operand} {first caps : List Value} (hg : o.guard = none)
    (ho : o.op = .call { callee := .value fo, args := l.toArray, argTypes := ats }) (hf : ev σ fo = .func (.func f) first.toArray caps.toArray) (hE : Ent P f)
    (h : CallT P f (first ++ cargs σ l ++ caps).toArray G L fun v G' L' => RG P n ops rest Q (updo σ o.dst v) G' L') : RG P n ops (o :: rest) Q σ G L :=
  RG.ot hg (OT.call ho hf hE h)
theorem gcall {f : FuncId} {l : List Operand} {R : Value → Gh → List Ch → Prop} (h : ∃ vs, cargs σ l = vs ∧ CallT P f vs.toArray G L R) : CallT P f (cargs σ l).toArray G L R := by
  obtain ⟨vs, rfl, h⟩ := h; exact h
/-- a guarded call that hands back a known value and leaves the state as it was -/
theorem RG.gsC {j t : Nat} {want p : Bool} {v : Value} {f : FuncId} {l : List Operand} {ats : Array TypeId} (hg : o.guard = some (j, want)) (hj : (ops[j]?).bind (·.dst) = some t) (hb : σ t = .bool p)
    (ho : o.op = .call { callee := .value (.func f), args := l.toArray, argTypes := ats }) (hE : Ent P f)
    (h : (p == want) = true → ∃ vs, cargs σ l = vs ∧ CallT P f vs.toArray G L fun v' G' L' => v' = v ∧ G' = G ∧ L' = L) (k : RG P n ops rest Q (updo σ o.dst (gv (p == want) v)) G L) : RG P n ops (o :: rest) Q σ G L :=
  RG.gsK hg hj hb (fun e k => RG.callF rfl ho hE rfl ((gcall (h e)).mono fun v' G' L' ⟨e1, e2, e3⟩ => by subst e1 e2 e3; exact k)) k
theorem RG.gsC2 {j t : Nat} {want b p : Bool} {v : Value} {f : FuncId} {l : List Operand} {ats : Array TypeId} (hg : o.guard = some (j, want)) (hj : (ops[j]?).bind (·.dst) = some t) (hb : σ t = gv b (.bool p))
    (ho : o.op = .call { callee := .value (.func f), args := l.toArray, argTypes := ats }) (hE : Ent P f)
    (h : (b && (p == want)) = true → ∃ vs, cargs σ l = vs ∧ CallT P f vs.toArray G L fun v' G' L' => v' = v ∧ G' = G ∧ L' = L) (k : RG P n ops rest Q (updo σ o.dst (gv (b && (p == want)) v)) G L) : RG P n ops (o :: rest) Q σ G L :=
  RG.gsK2 hg hj hb (fun e k => RG.callF rfl ho hE rfl ((gcall (h e)).mono fun v' G' L' ⟨e1, e2, e3⟩ => by subst e1 e2 e3; exact k)) k

/-! ### regions that draw their order: every operation quiet -/
@[irreducible] def RQ (P : Program) (n : Nat) (ops : Array Oper) (rest : List Oper) (Q : Post) (σ : Nat → Value) (G : Gh) (L : List Ch) : Prop :=
  opsOk n rest = true → ∀ a, Ag n σ a → wpQuiet P ops (St G L) (fun a' => ∀ w', St G L w' → lift n Q .normal a' w') rest a
theorem RQ.run (h : RQ P n ops rest Q σ G L) (hk : opsOk n rest = true) {a : Act} (ha : Ag n σ a) : wpQuiet P ops (St G L) (fun a' => ∀ w', St G L w' → lift n Q .normal a' w') rest a := by
  unfold RQ at h; exact h hk a ha
theorem RQ.of (h : opsOk n rest = true → ∀ a, Ag n σ a → wpQuiet P ops (St G L) (fun a' => ∀ w', St G L w' → lift n Q .normal a' w') rest a) : RQ P n ops rest Q σ G L := by
  unfold RQ; exact h
theorem WP.regionQ {id : Nat} {l : List Oper} (hm : P.follows .mixedOrders = true) (hB : Region.lexB .any l.toArray = true) (h : RQ P n l.toArray l Q σ G L) : WP P n (.region id l.toArray true) Q σ G L :=
  WP.of fun hk a w ha hs => wp_region_quiet (C := St G L) hm hB hs (by simpa using h.run (by simpa [codeOk] using hk) ha)
theorem RQ.nil (h : Q .normal σ G L) : RQ P n ops [] Q σ G L := RQ.of fun _ _ ha _ hs => ⟨σ, G, L, ha, hs, h⟩
theorem RQ.step (hg : o.guard = none) {v : Value} (hq : ∀ a, Ag n σ a → ∀ w, St G L w → o.quietAt P a (St G L) w v) (k : RQ P n ops rest Q (updo σ o.dst v) G L) : RQ P n ops (o :: rest) Q σ G L := by
  refine RQ.of fun hk a ha => ?_
  have hk := opsOk_cons hk
  unfold wpQuiet
  rw [if_pos (by simp [Region.wanted, hg])]
  exact ⟨v, hq a ha, k.run hk.2 (ha.put hk.1 v)⟩
theorem RQ.pv {v : Value} (hg : o.guard = none) (h : PV P o σ G L v) (k : RQ P n ops rest Q (updo σ o.dst v) G L) : RQ P n ops (o :: rest) Q σ G L :=
  RQ.step hg (fun a ha w hs => by unfold Oper.quietAt; rw [ha.eval, h w hs]; exact ⟨rfl, rfl⟩) k
theorem RQ.skip {j t : Nat} {want b : Bool} (hg : o.guard = some (j, want)) (hj : (ops[j]?).bind (·.dst) = some t) (hb : σ t = .bool b) (hw : b ≠ want) (k : RQ P n ops rest Q (updo σ o.dst undef) G L) : RQ P n ops (o :: rest) Q σ G L := by
  refine RQ.of fun hk a ha => ?_
  have hk := opsOk_cons hk
  have hn : Region.wanted o (yielded ops a.tmps) = false := by
    simp only [Region.wanted, hg, yielded_ag ha hj hb]
    cases b <;> cases want <;> simp_all
  unfold wpQuiet
  rw [if_neg (by simp [hn])]
  exact k.run hk.2 (ha.put hk.1 _)
theorem RQ.take {j t : Nat} {want b : Bool} (hg : o.guard = some (j, want)) (hj : (ops[j]?).bind (·.dst) = some t) (hb : σ t = .bool b) (hw : b = want) (k : RQ P n ops ({ o with guard := none } :: rest) Q σ G L) : RQ P n ops (o :: rest) Q σ G L := by
  refine RQ.of fun hk a ha => ?_
  subst hw
  have hn : Region.wanted o (yielded ops a.tmps) = true := by
    simp only [Region.wanted, hg, yielded_ag ha hj hb]; simp
  have h := k.run (by simpa [opsOk] using hk) ha
  unfold wpQuiet at h ⊢
  rw [if_pos hn]
  rw [if_pos (by rfl)] at h
  exact h
theorem RQ.skip0 {j t : Nat} {want : Bool} (hg : o.guard = some (j, want)) (hj : (ops[j]?).bind (·.dst) = some t) (hb : σ t = undef) (k : RQ P n ops rest Q (updo σ o.dst undef) G L) : RQ P n ops (o :: rest) Q σ G L := by
  refine RQ.of fun hk a ha => ?_
  have hk := opsOk_cons hk
  have hn : Region.wanted o (yielded ops a.tmps) = false := by
    simp only [Region.wanted, hg, yielded_none ha hj hb]; rfl
  unfold wpQuiet
  rw [if_neg (by simp [hn])]
  exact k.run hk.2 (ha.put hk.1 _)
theorem RQ.gsK {j t : Nat} {want p : Bool} (hg : o.guard = some (j, want)) (hj : (ops[j]?).bind (·.dst) = some t) (hb : σ t = .bool p) {v : Value}
    (h : (p == want) = true → RQ P n ops rest Q (updo σ o.dst v) G L → RQ P n ops ({ o with guard := none } :: rest) Q σ G L) (k : RQ P n ops rest Q (updo σ o.dst (gv (p == want) v)) G L) : RQ P n ops (o :: rest) Q σ G L := by
  by_cases e : p = want
  · have he : (p == want) = true := by simp [e]
    rw [gs_t he] at k
    exact RQ.take hg hj hb e (h he k)
  · have he : (p == want) = false := by simp [e]
    rw [gs_f he] at k
    exact RQ.skip hg hj hb e k
theorem RQ.gsK2 {j t : Nat} {want b p : Bool} (hg : o.guard = some (j, want)) (hj : (ops[j]?).bind (·.dst) = some t) (hb : σ t = gv b (.bool p)) {v : Value}
    (h : (b && (p == want)) = true → RQ P n ops rest Q (updo σ o.dst v) G L → RQ P n ops ({ o with guard := none } :: rest) Q σ G L) (k : RQ P n ops rest Q (updo σ o.dst (gv (b && (p == want)) v)) G L) : RQ P n ops (o :: rest) Q σ G L := by
  cases b with
  | true => rw [gs_t rfl] at hb; exact RQ.gsK hg hj hb (by simpa using h) (by simpa using k)
  | false => rw [gs_f rfl] at hb; rw [Bool.false_and, gs_f rfl] at k; exact RQ.skip0 hg hj hb k
theorem RQ.gs {j t : Nat} {want p : Bool} {v : Value} (hg : o.guard = some (j, want)) (hj : (ops[j]?).bind (·.dst) = some t) (hb : σ t = .bool p) (h : (p == want) = true → PV P o σ G L v) (k : RQ P n ops rest Q (updo σ o.dst (gv (p == want) v)) G L) : RQ P n ops (o :: rest) Q σ G L :=
  RQ.gsK hg hj hb (fun e k => RQ.pv rfl (fun w hs => h e w hs) k) k
theorem RQ.gs2 {j t : Nat} {want b p : Bool} {v : Value} (hg : o.guard = some (j, want)) (hj : (ops[j]?).bind (·.dst) = some t) (hb : σ t = gv b (.bool p)) (h : (b && (p == want)) = true → PV P o σ G L v) (k : RQ P n ops rest Q (updo σ o.dst (gv (b && (p == want)) v)) G L) : RQ P n ops (o :: rest) Q σ G L :=
  RQ.gsK2 hg hj hb (fun e k => RQ.pv rfl (fun w hs => h e w hs) k) k
/-- a call that hands back a known value and leaves the state as it was -/
theorem RQ.callC {f : FuncId} {l : List Operand} {ats : Array TypeId} {fo : Operand} {first caps : List Value} {v : Value} (hg : o.guard = none)
    (ho : o.op = .call { callee := .value fo, args := l.toArray, argTypes := ats }) (hf : ev σ fo = .func (.func f) first.toArray caps.toArray) (hE : Ent P f)
    (h : CallT P f (first ++ cargs σ l ++ caps).toArray G L fun v' G' L' => v' = v ∧ G' = G ∧ L' = L) (k : RQ P n ops rest Q (updo σ o.dst v) G L) : RQ P n ops (o :: rest) Q σ G L := by
  refine RQ.step hg (fun a hag w hs => ?_) k
  unfold Oper.quietAt
  rw [hag.eval, enter_run ho hf hE w]
  refine ⟨rfl, (h.run hs).mono ?_⟩
  rintro e w' ⟨v', G', L', rfl, h2, rfl, rfl, rfl⟩
  exact ⟨rfl, h2⟩
theorem RQ.callF {f : FuncId} {l : List Operand} {ats : Array TypeId} {v : Value} {vs : List Value} (hg : o.guard = none)
    (ho : o.op = .call { callee := .value (.func f), args := l.toArray, argTypes := ats }) (hE : Ent P f) (ha : cargs σ l = vs)
    (h : CallT P f vs.toArray G L fun v' G' L' => v' = v ∧ G' = G ∧ L' = L) (k : RQ P n ops rest Q (updo σ o.dst v) G L) : RQ P n ops (o :: rest) Q σ G L :=
  RQ.callC (first := []) (caps := []) hg ho rfl hE (by subst ha; simpa using h) k
theorem RQ.gsC {j t : Nat} {want p : Bool} {v : Value} {f : FuncId} {l : List Operand} {ats : Array TypeId} (hg : o.guard = some (j, want)) (hj : (ops[j]?).bind (·.dst) = some t) (hb : σ t = .bool p)
    (ho : o.op = .call { callee := .value (.func f), args := l.toArray, argTypes := ats }) (hE : Ent P f)
    (h : (p == want) = true → ∃ vs, cargs σ l = vs ∧ CallT P f vs.toArray G L fun v' G' L' => v' = v ∧ G' = G ∧ L' = L) (k : RQ P n ops rest Q (updo σ o.dst (gv (p == want) v)) G L) : RQ P n ops (o :: rest) Q σ G L :=
  RQ.gsK hg hj hb (fun e k => RQ.callF rfl ho hE rfl (gcall (h e)) k) k
theorem RQ.gsC2 {j t : Nat} {want b p : Bool} {v : Value} {f : FuncId} {l : List Operand} {ats : Array TypeId} (hg : o.guard = some (j, want)) (hj : (ops[j]?).bind (·.dst) = some t) (hb : σ t = gv b (.bool p))
    (ho : o.op = .call { callee := .value (.func f), args := l.toArray, argTypes := ats }) (hE : Ent P f)
    (h : (b && (p == want)) = true → ∃ vs, cargs σ l = vs ∧ CallT P f vs.toArray G L fun v' G' L' => v' = v ∧ G' = G ∧ L' = L) (k : RQ P n ops rest Q (updo σ o.dst (gv (b && (p == want)) v)) G L) : RQ P n ops (o :: rest) Q σ G L :=
  RQ.gsK2 hg hj hb (fun e k => RQ.callF rfl ho hE rfl (gcall (h e)) k) k

/-! ### the end of a function -/
def RV1 (P : Program) (σ : Nat → Value) (G : Gh) (L : List Ch) : ResultVar → Value → Prop
  | .tmp t, v => σ t = v
  | .cell a t, v => ∀ w, St G L w → (do loadVar t (← asAddr (σ a)) : Sem Value).run P w = .ok v w
def ResV (P : Program) (fn : Func) (σ : Nat → Value) (G : Gh) (L : List Ch) (v : Value) : Prop :=
  ∀ w (tmps : Array Value), (∀ t, tmps.getD t undef = σ t) → St G L w → (results fn tmps).run P w = .ok v w
def rget (tmps : Array Value) : ResultVar → Sem Value
  | .tmp t => pure (tmps.getD t undef)
  | .cell a t => do loadVar t (← asAddr (tmps.getD a undef))
theorem results_rget (fn : Func) (tmps : Array Value) : results fn tmps = (do let vs ← fn.results.mapM (rget tmps); pure (if h : vs.size = 1 then vs[0] else .tuple vs)) := by
  unfold results
  congr 1
theorem rget_run {rv : ResultVar} {v : Value} (h : RV1 P σ G L rv v) {w : World} {tmps : Array Value} (ht : ∀ t, tmps.getD t undef = σ t) (hs : St G L w) :
    (rget tmps rv).run P w = .ok v w := by
  cases rv with
  | tmp t => have h : σ t = v := h; simp only [rget, ht, h]; rfl
  | cell a t => simp only [rget, ht]; exact h w hs
theorem ResV.zero {fn : Func} (hr : fn.results = #[]) : ResV P fn σ G L (.tuple #[]) := by
  intro w tmps ht hs; simp [results, hr]
theorem ResV.one {fn : Func} {rv : ResultVar} {v : Value} (hr : fn.results = #[rv]) (h : RV1 P σ G L rv v) : ResV P fn σ G L v := by
  intro w tmps ht hs
  have h1 := rget_run h ht hs
  simp [results_rget, hr, h1]
theorem ResV.two {fn : Func} {r1 r2 : ResultVar} {v1 v2 : Value} (hr : fn.results = #[r1, r2]) (h1 : RV1 P σ G L r1 v1) (h2 : RV1 P σ G L r2 v2) : ResV P fn σ G L (.tuple #[v1, v2]) := by
  intro w tmps ht hs
  have h1 := rget_run h1 ht hs
  have h2 := rget_run h2 ht hs
  simp [results_rget, hr, h1, h2]
theorem ResV.three {fn : Func} {r1 r2 r3 : ResultVar} {v1 v2 v3 : Value} (hr : fn.results = #[r1, r2, r3]) (h1 : RV1 P σ G L r1 v1) (h2 : RV1 P σ G L r2 v2) (h3 : RV1 P σ G L r3 v3) : ResV P fn σ G L (.tuple #[v1, v2, v3]) := by
  intro w tmps ht hs
  have h1 := rget_run h1 ht hs
  have h2 := rget_run h2 ht hs
  have h3 := rget_run h3 ht hs
  simp [results_rget, hr, h1, h2, h3]
def retP (P : Program) (fn : Func) (R : Value → Gh → List Ch → Prop) : Post
  | .ret, σ, G, L | .normal, σ, G, L => ∃ v L', ResV P fn σ G L v ∧ Cv L L' ∧ R v G L'
  | _, _, _, _ => False
def args0 : List Value → Nat → (Nat → Value) → Nat → Value
  | [], _, σ => σ
  | v :: l, k, σ => upd (args0 l (k + 1) σ) k v
def noSlots : Nat → Value := fun _ => undef
theorem args0_get : ∀ (l : List Value) (k t : Nat), args0 l k noSlots t = if k ≤ t then l.getD (t - k) undef else undef
  | [], k, t => by simp [args0, noSlots]
  | v :: l, k, t => by
    simp only [args0, upd]
    by_cases e : t = k
    · subst e; rw [Nat.beq_refl]; simp
    · have : Nat.beq t k = false := by cases hb : Nat.beq t k with
        | false => rfl
        | true => exact absurd (Nat.eq_of_beq_eq_true hb) e
      simp only [this, cond_false, args0_get l (k + 1) t]
      by_cases h : k ≤ t
      · have e2 : t - k = (t - (k + 1)) + 1 := by omega
        rw [if_pos h, if_pos (by omega), e2]; simp
      · rw [if_neg h, if_neg (by omega)]
theorem CallT.enter {f : FuncId} {fn : Func} {c : Code} {args : List Value} {R : Value → Gh → List Ch → Prop} (hf : P.funcs[f]? = some fn) (hb : fn.body = some c) (hn : fn.ntmps = n) (hk : codeOk n c = true)
    (hl' : Nat.ble args.length n = true) (h : WP P n c (retP P fn R) (args0 args 0 noSlots) G L) : CallT P f args.toArray G L R := by
  have hl : args.length ≤ n := Nat.le_of_ble_eq_true hl'
  refine CallT.of fun w hs => ?_
  have hag : Ag n (args0 args 0 noSlots) { tmps := args.toArray ++ Array.replicate (fn.ntmps - args.toArray.size) undef, defers := [] } := by
    refine ⟨rfl, by simp [hn]; omega, fun t => ?_⟩
    rw [args0_get]
    simp only [Nat.zero_le, if_true, Nat.sub_zero, Array.getD_eq_getD_getElem?, List.getD_eq_getElem?_getD]
    by_cases ht : t < args.length
    · simp [Array.getElem?_append, ht]
    · rw [List.getElem?_eq_none (by omega)]
      simp only [Array.getElem?_append, List.size_toArray, ht, if_false, Array.getElem?_replicate]
      split <;> rfl
  refine calls_of_wp hf hb (wp_mono (h.run hk hag hs) ?_)
  rintro e a w' ⟨σ', G', L', h1, h2, h3⟩
  have fin : (∃ v L'', ResV P fn σ' G' L' v ∧ Cv L' L'' ∧ R v G' L'') → a.defers = [] ∧ ∃ v, (results fn a.tmps).run P w' = .ok v w' ∧ ∃ v' G'' L'', Ending.returned v = .returned v' ∧ St G'' L'' w' ∧ R v' G'' L'' := by
    rintro ⟨v, L'', hv, hp, hr⟩
    exact ⟨h1.d, v, hv w' a.tmps h1.e h2, v, G', L'', rfl, h2.cv hp, hr⟩
  cases e with
  | ret => exact fin h3
  | normal => exact fin h3
  | _ => exact h3.elim
end
end Go.Proofs.YthjaopefoiploaaGreat
