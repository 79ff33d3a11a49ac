/-
  Contracts of functions and plain facts that the last text of this folder uses, part 4.
-/
import Derived.Test.YthhjapiggekjbaaGreatTA3
import Derived.Laws.BytesArg
namespace Go.Proofs.YthhjapiggekjbaaGreat
set_option linter.unusedVariables false
set_option linter.unusedSimpArgs false
open Go
theorem zeroCells_one (z : Value) (n : Nat) : (Builtin.zeroCells #[z] n).toList = List.replicate n z := by
 apply List.ext_getElem
 · simp [Builtin.zeroCells]
 · intro i h1 h2
   simp [Builtin.zeroCells, Nat.mod_one]
theorem flat_rep {α : Type} {F : FT α} {a : α} {z : Value} (h : F.enc a = [z]) : ∀ n, F.flat (List.replicate n a) = List.replicate n z
 | 0 => rfl
 | n + 1 => by
   have ih := flat_rep h n
   simp only [FT.flat] at ih ⊢
   rw [List.replicate_succ, List.flatMap_cons, ih, h, List.replicate_succ, List.singleton_append]
section
variable {P : Program} {n : Nat} {σ : Nat → Value} {G : Gh} {L : List Ch} {o : Oper} {t : TypeId} {x : Operand} {v : Value} {K : (Nat → Value) → Gh → List Ch → Prop}
theorem OT.clr {α : Type} {F : FT α} {e : TypeId} {bytes : Nat} {z : Value} {z0 : α} {zs : List α} {k : Nat} {L' : List Ch} (ho : o.op = .call { callee := .builtin .clear, args := #[x], argTypes := #[t] }) (hT : ElemT P t e F.sz bytes [z]) (hz : F.enc z0 = [z]) (hz1 : z.oneCell' = true)
   (hx : ev σ x = slv 1 v k zs.length) [hX : ExS v L α e F zs L'] (hk : k < zs.length) (K1 : K (updo σ o.dst (.tuple #[])) G (osl e F v (zs.take k ++ List.replicate (zs.length - k) z0) :: L')) : OT P n o σ G L K := by
 obtain ⟨hu1, i, zv, hi, hi1, hi2, hi3, hi4⟩ := hT
 have hsz : F.sz = 1 := by rw [← F.len z0, hz]; rfl
 refine OT.ofRun fun w hs => ?_
 have hb : ∃ b cap c, v = .slice (some ⟨b, 0, none⟩) zs.length cap ∧ wh w b = some (.cells c e (0, 0)) ∧ zs.length ≤ cap ∧ cap ≤ maxLen ∧ c.size = cap * F.sz ∧ c.toList.take (zs.length * F.sz) = F.flat zs := by
   obtain ⟨hp, s, l1, l2, d⟩ := hs
   obtain ⟨g1, g2, _, m1, _, cc, _⟩ := hX.ex.sep s
   rcases cc with ⟨_, rfl⟩ | ⟨b, cap, c, h1, h2, h3⟩
   · simp at hk
   · exact ⟨b, cap, c, h1, l2 _ _ (m1 _ _ h2), h3⟩
 obtain ⟨b, cap, c, rfl, hb, h3, h4, h5, h6⟩ := hb
 rw [hsz, Nat.mul_one] at h5 h6
 have hx' : ev σ x = .slice (some ⟨b, k, none⟩) (zs.length - k) (cap - k) := by
   rw [hx]; simp only [slv]; rw [if_neg (by omega)]; simp [add_none]
 have hone : ∀ u ∈ List.replicate (zs.length - k) z, u.oneCell' = true := fun u hu => by rw [List.eq_of_mem_replicate hu]; exact hz1
 obtain ⟨w', hr, hq, hw'⟩ := storeCells_run (P := P) (List.replicate (zs.length - k) z) b k 0 c e w hone hb (by simp; omega)
 have hzc : zv.cells = #[z] := by rw [← Array.toList_inj]; exact hi4
 have hfl : F.flat (zs.take k ++ List.replicate (zs.length - k) z0) = (F.flat zs).take k ++ List.replicate (zs.length - k) z := by
   have h1 : F.flat (zs.take k ++ List.replicate (zs.length - k) z0) = F.flat (zs.take k) ++ F.flat (List.replicate (zs.length - k) z0) := by simp [FT.flat]
   rw [h1, flat_rep hz, FT.flat_take, hsz, Nat.mul_one]
 have hlen : (zs.take k ++ List.replicate (zs.length - k) z0).length = zs.length := by simp; omega
 refine ⟨.tuple #[], G, _, w', ?_, hs.set hq hX.ex (b := b) (fun h hh => ?_) hw' (c' := osl e F (.slice (some ⟨b, 0, none⟩) zs.length cap) (zs.take k ++ List.replicate (zs.length - k) z0)) (fun h hh _ => ?_), K1⟩
 · have hn : zs.length - k ≠ 0 := by omega
   obtain ⟨m, hm⟩ : ∃ m, zs.length - k = m + 1 := ⟨zs.length - k - 1, by omega⟩
   have hrun : (Builtin.clear_ #[t] o.type #[.slice (some ⟨b, k, none⟩) (zs.length - k) (cap - k)]).run P w = .ok (.tuple #[]) w' := by
     rw [hm] at hr ⊢
     have hzr : (zeroValue e).run P w = .ok zv w := by simp [zeroValue, typeInfo, hi, hi3]
     simp [Builtin.clear_, run_underlying hu1, hzr, hzc, zeroCells_one, hr, Result.andThen]
   simp [execOp, ho, resolve, invoke, builtin, hx', hrun]
 · rcases hh with ⟨_, rfl⟩ | ⟨b', cap', c', h1, h2, _⟩
   · simp at hk
   · simp only [Value.slice.injEq, Option.some.injEq, Addr.mk.injEq] at h1
     obtain ⟨⟨rfl, _⟩, _⟩ := h1
     simp [h2]
 · refine .inr ⟨b, cap, (splice c.toList (k + 0) (List.replicate (zs.length - k) z)).toArray, by rw [hlen], by simp, by rw [hlen]; exact h3, h4, by rw [hsz, Nat.mul_one]; simp [splice_length, h5], ?_⟩
   rw [hlen, hsz, Nat.mul_one, hfl, Nat.add_zero]
   have hfn : (F.flat zs).length = zs.length := by rw [F.flat_len, hsz, Nat.mul_one]
   show List.take zs.length (splice c.toList k (List.replicate (zs.length - k) z)) = _
   rw [splice_take _ _ _ _ (by simp; omega) (by simp; omega), h6, splice_all _ _ _ (by simp; omega)]
theorem SlF.r0 {α : Type} {T : FT α} {v : Value} {xs : List α} (h : Rs G L T v xs) : SlF G L v xs.length := fun w hs => (h w hs).1
theorem El.r0 {α : Type} {T : FT α} {v : Value} {xs : List α} {i : Nat} {x : α} (h : Rs G L T v xs) (hi : xs[i]? = some x) : El G L T v i x := El.r (p := ⟨.refl L⟩) h hi
/-- an owned slice cut short -/
theorem Cv.cut {α : Type} {F : FT α} {e : TypeId} {zs : List α} {k : Nat} (hk : k ≤ zs.length) (h0 : 0 < zs.length) (hsz : F.sz = 1) : Cv (osl e F v zs :: L) (osl e F (slv 1 v 0 k) (zs.take k) :: L) := by
 rintro hp ⟨h1, h2, d, l1, l2, cc, s⟩
 refine ⟨h1, h2, d, l1, l2, ?_, s⟩
 rcases cc with ⟨_, rfl⟩ | ⟨b, cap, c, rfl, hb, h3, h4, h5, h6⟩
 · simp at h0
 · refine .inr ⟨b, cap, c, ?_, hb, by simp; omega, h4, h5, ?_⟩
   · simp only [slv]; rw [if_neg (by omega)]; simp [add_none, Nat.min_eq_left hk]
   · rw [FT.flat_take, ← h6, List.take_take, List.length_take, Nat.min_eq_left hk, hsz]
     congr 1; omega
end
end Go.Proofs.YthhjapiggekjbaaGreat
namespace Go.Proofs.YthhjapiggekjbaaGreat
set_option linter.unusedVariables false
set_option linter.unusedSimpArgs false
open Go
set_option maxRecDepth 20000
set_option linter.unusedSimpArgs false
variable {G : Gh} {L : List Ch} {R : Value → Gh → List Ch → Prop}
def cpt {α : Type} [Inhabited α] [DecidableEq α] (xs : List α) : Nat → List α
  | 0 => []
  | n + 1 => if n = 0 ∨ gd xs n ≠ gd xs (n - 1) then cpt xs n ++ [gd xs n] else cpt xs n
def compactL {α : Type} [Inhabited α] [DecidableEq α] (xs : List α) : List α := cpt xs xs.length
theorem cpt_take {α : Type} [Inhabited α] [DecidableEq α] {xs : List α} : ∀ {n : Nat}, n ≤ xs.length → (∀ j, 1 ≤ j → j < n → gd xs j ≠ gd xs (j - 1)) → cpt xs n = xs.take n
 | 0, _, _ => rfl
 | n + 1, h, hd => by
   rw [cpt, if_pos, cpt_take (by omega) (fun j h1 h2 => hd j h1 (by omega)), List.take_add_one, getG (by omega)]; · rfl
   by_cases c : n = 0
   · exact .inl c
   · exact .inr (hd n (by omega) (by omega))
theorem cpt_all {α : Type} [Inhabited α] [DecidableEq α] {xs : List α} (hd : ∀ j, 1 ≤ j → j < xs.length → gd xs j ≠ gd xs (j - 1)) : compactL xs = xs := by
 rw [compactL, cpt_take (Nat.le_refl _) hd, List.take_length]
theorem gd_part {α : Type} [Inhabited α] {ys : List α} {n m p : Nat} (h : n + p < m) : gd ((ys.take m).drop n) p = gd ys (n + p) := by
 unfold gd; rw [List.getElem?_drop, List.getElem?_take, if_pos h]
theorem compact_int {v : Value} {xs : List Int} (hl : xs.length ≤ 1000000) (k : ∀ v', R v' G (osl 2 intT v' (compactL xs) :: L)) : CallT Tryz.prog 72 #[v] G (osl 2 intT v xs :: L) R := by
 refine CallT.enter (args := _) Tryz.func72 rfl rfl (by kernel_rfl) rfl ?_
 refine WP.seq (WP.region (RG.pv rfl (PV.asg rfl rfl) (RG.nil (WP.seq (WP.seq (WP.region (RG.pv rfl (PV.move (v := v) rfl rfl) ?_)))))))
 refine RG.pv rfl (PV.len (v := v) rfl Tryz.underlying26 rfl SlF.o) (RG.pv rfl (PV.lss rfl rfl rfl) (RG.nil ?_))
 refine WP.cond rfl (fun h2 => ?_) (fun h2 => ?_)
 · have h2 := of_decide_eq_true h2
   have e : compactL xs = xs := cpt_all fun j h3 h4 => by omega
   rw [e] at k
   refine WP.seq (WP.region (RG.pv rfl (PV.move (v := v) rfl rfl) (RG.pv rfl (PV.asg (v := v) rfl rfl) (RG.nil ?_))))
   refine WP.ret ?_
   exact ⟨_, _, ResV.one rfl rfl, Cv.p, k v⟩
 · have h2 := of_decide_eq_false h2
   have hg : gd xs = gd xs := rfl
   refine WP.skip (WP.seq (WP.seq (WP.region (RG.mr rfl rfl rfl (RG.nil (WP.block ?_))))))
   refine WP.loop1 [0] (fun n => (1 ≤ n ∧ n ≤ xs.length) ∧ ∀ j, 1 ≤ j → j < n → gd xs j ≠ gd xs (j - 1)) (fun n => [(3, vi n)]) (fun n => osl 2 intT v xs :: L) (fun n => xs.length - n) 1 ⟨by omega, fun j h3 h4 => by omega⟩ ⟨rfl, trivial⟩ Cv.p ?_
   rintro n τ ⟨hn, hd⟩
   refine WP.seq (WP.seq (WP.region (RG.ml rfl rfl rfl (RG.pv rfl (PV.move (v := v) rfl rfl) (RG.pv rfl (PV.len (v := v) rfl Tryz.underlying26 rfl SlF.o) (RG.pv rfl (PV.lss rfl rfl rfl) (RG.nil ?_)))))))
   refine WP.cond rfl (fun h3 => ?_) (fun h3 => ?_)
   · have h3 := of_decide_eq_true h3
     refine WP.skip (WP.seq (WP.block (WP.seq ?_)))
     refine WP.regionQ (by kernel_rfl) (by kernel_rfl) ?_
     refine RQ.pv rfl (PV.move (v := v) rfl rfl) ?_
     refine RQ.pv rfl (PV.mvI (.inl rfl) rfl) ?_
     refine RQ.pv rfl (PV.idxS (j := n) (v := v) rfl Is26 rfl SlF.o rfl (by first | omega | (simp only [List.length_set]; omega)) (by first | omega | (simp only [List.length_set]; omega))) ?_
     refine RQ.pv rfl (PV.loadE1 rfl Sc2 rfl rfl (El.o (getG (by omega))) rfl) ?_
     refine RQ.pv rfl (PV.move (v := v) rfl rfl) ?_
     refine RQ.pv rfl (PV.mvI (.inl rfl) rfl) ?_
     refine RQ.pv rfl (PV.sub rfl rfl rfl (by omega)) ?_
     refine RQ.pv rfl (PV.idxS (j := n - 1) (v := v) rfl Is26 rfl SlF.o rfl (by first | omega | (simp only [List.length_set]; omega)) (by first | omega | (simp only [List.length_set]; omega))) ?_
     refine RQ.pv rfl (PV.loadE1 rfl Sc2 rfl rfl (El.o (getG (by omega))) rfl) ?_
     refine RQ.pv rfl (PV.eql rfl rfl rfl) ?_
     refine RQ.nil ?_
     refine WP.cond rfl (fun h4 => ?_) (fun h4 => ?_)
     · have h4 := of_decide_eq_true h4
       have h30 : n < xs.length := by omega
       have e0 : xs.take n = cpt xs (n + 1) := by
         rw [cpt, if_neg (by rintro (c | c) <;> first | omega | exact c h4), cpt_take (by omega) hd]
       refine WP.seq (WP.region (RG.pv rfl (PV.move (v := v) rfl rfl) (RG.ml rfl rfl rfl (RG.pv rfl (PV.slc (v := v) rfl Is26 rfl SlF.o (optAt.s rfl rfl) optAt.n (by omega) (by omega)) (RG.pv rfl (PV.asg rfl rfl) (RG.nil (WP.seq ?_)))))))
       refine WP.seq (WP.region (RG.mr rfl rfl rfl (RG.nil (WP.block ?_))))
       refine WP.loop3 [0, 4] (fun (p q : Nat) (ys : List Int) => (1 ≤ p ∧ p ≤ xs.length - n ∧ q + 1 ≤ n + p) ∧ ys.length = xs.length ∧ ys.take q = cpt xs (n + p) ∧ ∀ j, n + p ≤ j + 1 → gd ys j = gd xs j) (fun (p q : Nat) (ys : List Int) => [(5, vi p), (3, vi q)]) (fun (p q : Nat) (ys : List Int) => osl 2 intT v ys :: L) (fun (p q : Nat) (ys : List Int) => xs.length - p) 1 n xs ⟨by omega, rfl, e0, fun j _ => rfl⟩ ⟨rfl, rfl, trivial⟩ Cv.p ?_
       rintro p q ys τ1 ⟨hp, hyl, hyt, hyr⟩
       refine WP.seq (WP.seq (WP.region (RG.ml rfl rfl rfl (RG.pv rfl (PV.move rfl rfl) (RG.pv rfl (PV.len rfl Tryz.underlying26 rfl (SlF.r0 (Rs.slv (F := intT) Rs.o (by omega) (by omega)))) (RG.pv rfl (PV.lss rfl rfl rfl) (RG.nil ?_)))))))
       have hpl : (List.drop n (List.take xs.length ys)).length = xs.length - n := by simp; omega
       refine WP.cond rfl (fun h5 => ?_) (fun h5 => ?_)
       · have h5 := of_decide_eq_true h5
         have h50 : n + p < xs.length := by omega
         have g1 : gd (List.drop n (List.take xs.length ys)) p = gd xs (n + p) := by rw [gd_part h50]; exact hyr _ (by omega)
         have g2 : gd (List.drop n (List.take xs.length ys)) (p - 1) = gd xs (n + p - 1) := by rw [gd_part (by omega), show n + (p - 1) = n + p - 1 by omega]; exact hyr _ (by omega)
         refine WP.skip (WP.seq (WP.block (WP.seq ?_)))
         refine WP.regionQ (by kernel_rfl) (by kernel_rfl) ?_
         refine RQ.pv rfl (PV.move rfl rfl) ?_
         refine RQ.pv rfl (PV.mvI (.inl rfl) rfl) ?_
         refine RQ.pv rfl (PV.idxS (j := p) rfl Is26 rfl (SlF.r0 (Rs.slv (F := intT) Rs.o (by omega) (by omega))) rfl (by first | omega | (simp only [List.length_set]; omega)) (by first | omega | (simp only [List.length_set]; omega))) ?_
         refine RQ.pv rfl (PV.loadE1 rfl Sc2 rfl rfl (El.r0 (Rs.slv (F := intT) Rs.o (by omega) (by omega)) (getG (by omega))) rfl) ?_
         refine RQ.pv rfl (PV.move rfl rfl) ?_
         refine RQ.pv rfl (PV.mvI (.inl rfl) rfl) ?_
         refine RQ.pv rfl (PV.sub rfl rfl rfl (by omega)) ?_
         refine RQ.pv rfl (PV.idxS (j := p - 1) rfl Is26 rfl (SlF.r0 (Rs.slv (F := intT) Rs.o (by omega) (by omega))) rfl (by first | omega | (simp only [List.length_set]; omega)) (by first | omega | (simp only [List.length_set]; omega))) ?_
         refine RQ.pv rfl (PV.loadE1 rfl Sc2 rfl rfl (El.r0 (Rs.slv (F := intT) Rs.o (by omega) (by omega)) (getG (by omega))) rfl) ?_
         refine RQ.pv rfl (PV.neq rfl rfl rfl) ?_
         refine RQ.nil ?_
         rw [g1, g2]
         refine WP.cond rfl (fun h6 => ?_) (fun h6 => ?_)
         · have h6 : ¬ gd xs (n + p) = gd xs (n + p - 1) := by simpa using h6
           have e1 : (ys.set q (gd xs (n + p))).take (q + 1) = cpt xs (n + (p + 1)) := by
             rw [show n + (p + 1) = (n + p) + 1 by omega, cpt, if_pos (.inr h6), ← hyt, List.take_add_one, List.take_set_of_le (Nat.le_refl _)]
             congr 1
             simp [show q < ys.length by omega]
           have e2 : ∀ j, n + (p + 1) ≤ j + 1 → gd (ys.set q (gd xs (n + p))) j = gd xs j := fun j hj => by
             rw [← hyr j (by omega)]; unfold gd; rw [List.getElem?_set_ne (by omega)]
           refine WP.seq (WP.region (RG.pv rfl (PV.move (v := v) rfl rfl) (RG.ml rfl rfl rfl (RG.pv rfl (PV.move rfl rfl) (RG.ml rfl rfl rfl (RG.pv rfl (PV.idxS (j := p) rfl Is26 rfl (SlF.r0 (Rs.slv (F := intT) Rs.o (by omega) (by omega))) rfl (by first | omega | (simp only [List.length_set]; omega)) (by first | omega | (simp only [List.length_set]; omega))) (RG.pv rfl (PV.loadE1 rfl Sc2 rfl rfl (El.r0 (Rs.slv (F := intT) Rs.o (by omega) (by omega)) (getG (by omega))) rfl) ?_)))))))
           refine RG.pv rfl (PV.idxS (j := q) (v := v) rfl Is26 rfl SlF.o rfl (by first | omega | (simp only [List.length_set]; omega)) (by first | omega | (simp only [List.length_set]; omega))) ?_
           refine RG.ot rfl (OT.storeE (F := intT) rfl Sz2 rfl rfl rfl (Cl.c rfl) (OneC.c rfl) (by first | omega | (simp only [List.length_set]; omega)) ?_)
           refine RG.nil (WP.region (RG.ml rfl rfl rfl (RG.pv rfl (PV.add rfl rfl rfl (by omega)) (RG.mr rfl rfl rfl (RG.nil (WP.region (RG.ml rfl rfl rfl ?_)))))))
           refine RG.pv rfl (PV.add rfl rfl rfl (by omega)) (RG.mr rfl rfl rfl (RG.nil ?_))
           exact ⟨rfl, p + 1, q + 1, (ys.set q (gd xs (n + p))), ⟨by omega, by simpa using hyl, e1, e2⟩, ⟨rfl, rfl, trivial⟩, ⟨rfl, rfl, trivial⟩, (Cv.eqS (by rw [g1])), by omega⟩
         · have h6 : gd xs (n + p) = gd xs (n + p - 1) := by simpa using h6
           have e1 : ys.take q = cpt xs (n + (p + 1)) := by
             rw [show n + (p + 1) = (n + p) + 1 by omega, cpt, if_neg (by rintro (c | c) <;> first | omega | exact c h6), ← hyt]
           refine WP.skip (WP.region (RG.ml rfl rfl rfl (RG.pv rfl (PV.add rfl rfl rfl (by omega)) (RG.mr rfl rfl rfl (RG.nil ?_)))))
           exact ⟨rfl, p + 1, q, ys, ⟨by omega, hyl, e1, fun j hj => hyr j (by omega)⟩, ⟨rfl, rfl, trivial⟩, ⟨rfl, rfl, trivial⟩, Cv.p, by omega⟩
       · have h5 := of_decide_eq_false h5
         have hcl : (List.take q ys ++ List.replicate (ys.length - q) (0 : Int)).length = ys.length := by simp; omega
         have e2 : (List.take q ys ++ List.replicate (ys.length - q) (0 : Int)).take q = compactL xs := by
           rw [List.take_append_of_le_length (by simp; omega), List.take_take, Nat.min_self, hyt, compactL]; congr 1; omega
         refine WP.exit ?_
         refine WP.seq (WP.region (RG.pv rfl (PV.move (v := v) rfl rfl) (RG.ml rfl rfl rfl (RG.pv rfl (PV.slc (v := v) rfl Is26 rfl SlF.o (optAt.s rfl rfl) optAt.n (by omega) (by omega)) ?_))))
         refine RG.ot rfl (OT.clr rfl El26 rfl rfl rfl (by omega) ?_)
         refine RG.nil (WP.seq (WP.region (RG.pv rfl (PV.move (v := v) rfl rfl) (RG.ml rfl rfl rfl (RG.pv rfl (PV.slc (v := v) rfl Is26 rfl SlF.o optAt.n (optAt.s rfl rfl) (by omega) (by omega)) (RG.pv rfl (PV.asg rfl rfl) (RG.nil ?_)))))))
         refine WP.ret ?_
         exact ⟨_, _, ResV.one rfl rfl, ((Cv.p (C := osl 2 intT v (List.take q ys ++ List.replicate (ys.length - q) (0 : Int)) :: L)).trans ((Cv.cut (k := q) (by omega) (by omega) rfl).trans (Cv.eqS e2))), k (slv 1 v 0 q)⟩
     · have h4 := of_decide_eq_false h4
       have hd' : ∀ j, 1 ≤ j → j < n + 1 → gd xs j ≠ gd xs (j - 1) := fun j h5 h6 => by
         by_cases c : j = n
         · rw [c]; exact h4
         · exact hd j h5 (by omega)
       refine WP.skip (WP.region (RG.ml rfl rfl rfl (RG.pv rfl (PV.add rfl rfl rfl (by omega)) (RG.mr rfl rfl rfl (RG.nil ?_)))))
       exact ⟨rfl, n + 1, ⟨by omega, hd'⟩, ⟨rfl, trivial⟩, ⟨rfl, trivial⟩, Cv.p, by omega⟩
   · have h3 := of_decide_eq_false h3
     have e : compactL xs = xs := cpt_all fun j h5 h6 => hd j h5 (by omega)
     rw [e] at k
     refine WP.exit ?_
     refine WP.seq (WP.region (RG.pv rfl (PV.move (v := v) rfl rfl) (RG.pv rfl (PV.asg (v := v) rfl rfl) (RG.nil ?_))))
     refine WP.ret ?_
     exact ⟨_, _, ResV.one rfl rfl, Cv.p, k v⟩
end Go.Proofs.YthhjapiggekjbaaGreat
namespace Go.Proofs.YthhjapiggekjbaaGreat
set_option linter.unusedVariables false
set_option linter.unusedSimpArgs false
open Go
set_option maxRecDepth 20000
set_option linter.unusedSimpArgs false
variable {G : Gh} {L : List Ch} {R : Value → Gh → List Ch → Prop}
theorem rng_any {p : Nat → Bool} {n i : Nat} (h : i < n) (hp : p i = true) : (List.range n).any p = true := List.any_eq_true.2 ⟨i, List.mem_range.2 h, hp⟩
theorem rng_none {p : Nat → Bool} {n : Nat} (h : ∀ i, i < n → p i = false) : (List.range n).any p = false := List.any_eq_false.2 fun i hi => by simp [h i (List.mem_range.1 hi)]
def jnN (p q : Int × List Bool) (C V : List Bool) (n : Nat) : Bool := gd p.2 n && gd q.2 n && (gd C n && (decide (p.1 = 3) || decide (q.1 = 3)) && !(decide (p.1 = 5) || decide (q.1 = 5)) || gd V n && (decide (p.1 = 3) || decide (q.1 = 3)) && (decide (p.1 = 5) || decide (q.1 = 5)))
theorem jnR_N (p q : Int × List Bool) (C V : List Bool) : jnR p q C V = (List.range 6400).any (jnN p q C V) := rfl
theorem jnN_er (p q : Part) (C V : List Bool) (n : Nat) : jnN (erC p) (erC q) C V n = (gd p.cells.xs n && gd q.cells.xs n && (gd C n && (decide (p.layer = 3) || decide (q.layer = 3)) && !(decide (p.layer = 5) || decide (q.layer = 5)) || gd V n && (decide (p.layer = 3) || decide (q.layer = 3)) && (decide (p.layer = 5) || decide (q.layer = 5)))) := rfl
theorem l23Joined_s {p q : Part} {vc vv : Value} {C V : List Bool} (hp : Rs G L boolT p.cells.v p.cells.xs) (hq : Rs G L boolT q.cells.v q.cells.xs) (h1 : Rs G L boolT vc C) (h2 : Rs G L boolT vv V) (hpl : p.cells.xs.length = 6400) (hql : q.cells.xs.length = 6400) (hC : C.length = 6400) (hV : V.length = 6400)
   (k : R (.bool (jnR (erC p) (erC q) C V)) G L) : CallT Tryz.prog 147 #[vT partT p, vT partT q, vc, vv] G L R := by
 rw [jnR_N] at k
 refine CallT.enter (args := _) Tryz.func147 rfl rfl (by kernel_rfl) rfl ?_
 refine WP.seq (WP.region ?_)
 refine RG.ot rfl (OT.box (cs := partT.enc p) rfl rfl rfl fun b4 => ?_)
 refine RG.ot rfl (OT.box (cs := partT.enc q) rfl rfl rfl fun b5 => ?_)
 refine RG.br rfl rfl rfl (RG.nil (WP.seq (WP.seq (WP.region (RG.mr rfl rfl rfl (RG.nil (WP.block ?_)))))))
 refine WP.loop1 [2, 3, 4, 5] (fun i => i ≤ 6400 ∧ ∀ j, j < i → jnN (erC p) (erC q) C V j = false) (fun i => [(9, vi i)]) (fun i => blk b4 166 (partT.enc p) :: blk b5 166 (partT.enc q) :: L) (fun i => 6400 - i) 0 ⟨by omega, fun j h => by omega⟩ ⟨rfl, trivial⟩ Cv.p ?_
 rintro i τ ⟨hi, hn⟩
 refine WP.seq (WP.seq (WP.region (RG.ml rfl rfl rfl (RG.pv rfl (PV.move (v := vc) rfl rfl) (RG.pv rfl (PV.len (v := vc) rfl Tryz.underlying109 rfl (SlF.r h1)) (RG.pv rfl (PV.lss rfl rfl rfl) (RG.nil ?_)))))))
 refine WP.cond rfl (fun h3 => ?_) (fun h3 => ?_)
 · have h3 := of_decide_eq_true h3
   have h4 : i < 6400 := by omega
   refine WP.skip (WP.seq (WP.block (WP.seq (WP.seq (WP.region (RG.pv rfl (PV.field rfl Fo166_1 rfl) (RG.pv rfl (PV.load1 rfl Sc109 rfl (Rd.blk rfl)) ?_)))))))
   refine RG.ml rfl rfl rfl (RG.pv rfl (PV.idxS rfl Is109 rfl (SlF.r hp) rfl rfl (by omega)) (RG.pv rfl (PV.loadE1 rfl Sc4 rfl rfl (El.r hp (getG (by omega))) rfl) (RG.pv rfl (PV.not rfl rfl) (RG.bl rfl rfl rfl ?_))))
   refine RG.gs rfl rfl rfl (fun hp => (PV.field rfl Fo166_1 rfl)) ?_
   refine RG.gs rfl rfl rfl (fun hp => (PV.load1 rfl Sc109 (gs_t hp) (Rd.blk rfl))) ?_
   refine RG.gs rfl rfl rfl (fun hp => (PV.mvI (.inl rfl) rfl)) ?_
   refine RG.gs rfl rfl rfl (fun hp => (PV.idxS rfl Is109 (gs_t hp) (SlF.r hq) (gs_t hp) rfl (by first | omega | (simp at hp; omega)))) ?_
   refine RG.gs rfl rfl rfl (fun hp => (PV.loadE1 rfl Sc4 (gs_t hp) rfl (El.r hq (getG (by first | omega | (simp at hp; omega)))) rfl)) ?_
   refine RG.gs rfl rfl rfl (fun hp => (PV.not rfl (gs_t hp))) ?_
   refine RG.pv rfl (PV.pickO rfl rfl rfl (fun hq => gs_t (geqF hq))) (RG.nil ?_)
   refine WP.cond rfl (fun h5 => ?_) (fun h5 => ?_)
   · refine WP.exit ?_
     refine WP.region (RG.ml rfl rfl rfl (RG.pv rfl (PV.add rfl rfl rfl (by omega)) (RG.mr rfl rfl rfl (RG.nil ?_))))
     refine ⟨rfl, i + 1, ⟨by omega, col_next hn ?_⟩, ⟨rfl, trivial⟩, ⟨rfl, rfl, rfl, rfl, trivial⟩, Cv.p, by omega⟩
     rw [jnN_er]; revert h5; cases gd p.cells.xs i <;> cases gd q.cells.xs i <;> simp
   · refine WP.skip ?_
     refine WP.seq (WP.region (RG.pv rfl (PV.field rfl Fo166_0 rfl) (RG.pv rfl (PV.load1 rfl Sc2 rfl (Rd.blk rfl)) (RG.pv rfl (PV.eql rfl rfl rfl) (RG.bl rfl rfl rfl ?_)))))
     refine RG.gs rfl rfl rfl (fun hp => (PV.field rfl Fo166_0 rfl)) ?_
     refine RG.gs rfl rfl rfl (fun hp => (PV.load1 rfl Sc2 (gs_t hp) (Rd.blk rfl))) ?_
     refine RG.gs rfl rfl rfl (fun hp => (PV.eql rfl (gs_t hp) rfl)) ?_
     refine RG.pv rfl (PV.pickO rfl rfl rfl (fun hq => gs_t (geqF hq))) (RG.br rfl rfl rfl (RG.nil (WP.seq (WP.region (RG.pv rfl (PV.field rfl Fo166_0 rfl) (RG.pv rfl (PV.load1 rfl Sc2 rfl (Rd.blk rfl)) (RG.pv rfl (PV.eql rfl rfl rfl) ?_)))))))
     refine RG.bl rfl rfl rfl ?_
     refine RG.gs rfl rfl rfl (fun hp => (PV.field rfl Fo166_0 rfl)) ?_
     refine RG.gs rfl rfl rfl (fun hp => (PV.load1 rfl Sc2 (gs_t hp) (Rd.blk rfl))) ?_
     refine RG.gs rfl rfl rfl (fun hp => (PV.eql rfl (gs_t hp) rfl)) ?_
     refine RG.pv rfl (PV.pickO rfl rfl rfl (fun hq => gs_t (geqF hq))) (RG.br rfl rfl rfl (RG.nil (WP.seq (WP.region (RG.pv rfl (PV.move (v := vc) rfl rfl) (RG.ml rfl rfl rfl (RG.pv rfl (PV.idxS (v := vc) rfl Is109 rfl (SlF.r h1) rfl rfl (by omega)) ?_)))))))
     refine RG.pv rfl (PV.loadE1 rfl Sc4 rfl rfl (El.r h1 (getG (by omega))) rfl) (RG.bl rfl rfl rfl ?_)
     refine RG.gs rfl rfl rfl (fun hp => (PV.mvB (.inl rfl) rfl)) ?_
     refine RG.pv rfl (PV.pickA rfl rfl (fun hq => gs_t (geqT hq)) rfl) (RG.bl rfl rfl rfl ?_)
     refine RG.gs rfl rfl rfl (fun hp => (PV.mvB (.inl rfl) rfl)) ?_
     refine RG.gs rfl rfl rfl (fun hp => (PV.not rfl (gs_t hp))) ?_
     refine RG.pv rfl (PV.pickA rfl rfl (fun hq => gs_t (geqT hq)) rfl) (RG.bl rfl rfl rfl ?_)
     refine RG.gs rfl rfl rfl (fun hp => (PV.move (v := vv) rfl rfl)) ?_
     refine RG.gs rfl rfl rfl (fun hp => (PV.mvI (.inl rfl) rfl)) ?_
     refine RG.gs rfl rfl rfl (fun hp => (PV.idxS (v := vv) rfl Is109 (gs_t hp) (SlF.r h2) (gs_t hp) rfl (by first | omega | (simp at hp; omega)))) ?_
     refine RG.gs rfl rfl rfl (fun hp => (PV.loadE1 rfl Sc4 (gs_t hp) rfl (El.r h2 (getG (by first | omega | (simp at hp; omega)))) rfl)) ?_
     refine RG.gs rfl rfl rfl (fun hp => (PV.mvB (.inl rfl) (gs_t hp))) ?_
     refine RG.gs2 rfl rfl rfl (fun hp => (PV.mvB (.inl rfl) rfl)) ?_
     refine RG.gs rfl rfl rfl (fun hp => (PV.pickA rfl (gs_t hp) (fun hq => gs_t (gandT hp hq)) rfl)) ?_
     refine RG.gs rfl rfl rfl (fun hp => (PV.mvB (.inl rfl) (gs_t hp))) ?_
     refine RG.gs2 rfl rfl rfl (fun hp => (PV.mvB (.inl rfl) rfl)) ?_
     refine RG.gs rfl rfl rfl (fun hp => (PV.pickA rfl (gs_t hp) (fun hq => gs_t (gandT hp hq)) rfl)) ?_
     refine RG.pv rfl (PV.pickO rfl rfl rfl (fun hq => gs_t (geqF hq))) (RG.nil ?_)
     refine WP.cond rfl (fun h6 => ?_) (fun h6 => ?_)
     · rw [rng_any h4 (by rw [jnN_er]; revert h5 h6; cases gd p.cells.xs i <;> cases gd q.cells.xs i <;> simp)] at k
       refine WP.seq (WP.region (RG.br rfl rfl rfl (RG.nil ?_)))
       refine WP.ret ?_
       exact ⟨_, _, ResV.one rfl rfl, Cv.p, k⟩
     · refine WP.skip ?_
       refine WP.region (RG.ml rfl rfl rfl (RG.pv rfl (PV.add rfl rfl rfl (by omega)) (RG.mr rfl rfl rfl (RG.nil ?_))))
       refine ⟨rfl, i + 1, ⟨by omega, col_next hn ?_⟩, ⟨rfl, trivial⟩, ⟨rfl, rfl, rfl, rfl, trivial⟩, Cv.p, by omega⟩
       rw [jnN_er]; revert h5 h6; cases gd p.cells.xs i <;> cases gd q.cells.xs i <;> simp
 · have h3 := of_decide_eq_false h3
   rw [rng_none fun j hj => hn j (by omega)] at k
   refine WP.exit ?_
   refine WP.seq (WP.region (RG.br rfl rfl rfl (RG.nil ?_)))
   refine WP.ret ?_
   exact ⟨_, _, ResV.one rfl rfl, Cv.p, k⟩
theorem inJ_vals {J : Nat → Nat → Bool} {i k : Nat} (hk : k ≤ i) : Rt (inJ J i (rootsJ J i) k) := by
 have := (rt_roots J i).inJ (J := J) k (by rw [rootsJ_len]; exact hk)
 rwa [rootsJ_len] at this
theorem inJ_le {J : Nat → Nat → Bool} {i k j : Nat} (hk : k ≤ i) (hj : j ≤ i) : 0 ≤ gd (inJ J i (rootsJ J i) k) j ∧ gd (inJ J i (rootsJ J i) k) j ≤ j := by
 have := inJ_vals (J := J) hk j (by rw [inJ_len, rootsJ_len]; omega)
 exact ⟨this.1, this.2.1⟩
theorem stepJ_same {J : Nat → Nat → Bool} {i k : Nat} {c : List Int} (h : gd c k = gd c i ∨ J k i = false) : stepJ J i c k = c := by rw [stepJ, if_pos h]
theorem stepJ_map {J : Nat → Nat → Bool} {i k : Nat} {c : List Int} (h : ¬ (gd c k = gd c i ∨ J k i = false)) : stepJ J i c k = c.map (rl (min (gd c k) (gd c i)) (max (gd c k) (gd c i))) := by rw [stepJ, if_neg h]
theorem pcL_gd_len {l : List (List Rect)} {i : Nat} (h : i < (pcL l 4).length) : (gd (pcL l 4) i).2.length = 6400 := pcL_mem (n := 4) (l := l) (by rw [gd_eq h]; exact List.getElem_mem h)
theorem l23Roots_s {v u : Value} {xs : List (Sl Rect)} {cs : List Part} (h1 : Rs G L partT u cs) (hcd : RsE G L boolT (cels cs)) (h2 : Rs G L slT v xs) (hd : RsE G L rectT xs) (hlay : isLay (er xs) = true) (hcs : cs.map erC = pcL (er xs) 4) (k : ∀ v', R v' G (osl 2 intT v' (clsL (er xs)) :: L)) : CallT Tryz.prog 97 #[u, v] G L R := by
 have h8 : xs.length = 8 := by have := isLay_len hlay; rwa [er_len] at this
 have hreg : ∀ i, i < 8 → isReg (gd xs i).xs = true := fun i hi => by rw [← er_gd]; exact isLay_reg hlay hi
 have hcl : cs.length = (pcL (er xs) 4).length := by rw [← hcs, List.length_map]
 have hpl := pcL_len (er xs) 4
 have hce : ∀ i, i < cs.length → erC (gd cs i) = gd (pcL (er xs) 4) i := fun i hi => by rw [← hcs, gd_map _ hi]
 have hc6 : ∀ i, i < cs.length → (gd cs i).cells.xs.length = 6400 := fun i hi => by
   have := pcL_gd_len (l := er xs) (i := i) (by omega)
   rw [← hce i hi] at this; exact this
 have hcr : ∀ i, i < cs.length → Rs G L boolT (gd cs i).cells.v (gd cs i).cells.xs := fun i hi => by
   have := hcd i (by rw [cels_len]; exact hi); rwa [cels_gd hi] at this
 refine CallT.enter (args := _) Tryz.func97 rfl rfl (by kernel_rfl) rfl ?_
 refine WP.seq (WP.region (RG.pv rfl (PV.asg rfl rfl) (RG.nil (WP.seq ?_))))
 refine WP.regionH0 (.q 0 (.q 1 (.q 2 (.q 4 (.q 5 (.q 6 (.l 3 (.l 7 (.q 8 (.q 9 Sch.nil)))))))))) (by kernel_rfl) (by kernel_rfl) (by kernel_rfl) rfl ?_
 refine RH.pv rfl (fun _ _ _ _ h => h) (Gh.le_refl _) PickC.pick rfl (PV.move (v := v) rfl rfl) ?_
 refine RH.pv rfl (fun _ _ _ _ h => h) (Gh.le_refl _) PickC.pick rfl (PV.idxS (j := 2) (v := v) rfl Is47 rfl (SlF.r h2) rfl (by omega) (by omega)) ?_
 refine RH.pv rfl (fun _ _ _ _ h => h) (Gh.le_refl _) PickC.pick rfl (PV.loadE1 rfl Sc50 rfl rfl (El.r h2 (getG (by omega))) rfl) ?_
 refine RH.pv rfl (fun _ _ _ _ h => h) (Gh.le_refl _) PickC.pick rfl (PV.move (v := v) rfl rfl) ?_
 refine RH.pv rfl (fun _ _ _ _ h => h) (Gh.le_refl _) PickC.pick rfl (PV.idxS (j := 4) (v := v) rfl Is47 rfl (SlF.r h2) rfl (by omega) (by omega)) ?_
 refine RH.pv rfl (fun _ _ _ _ h => h) (Gh.le_refl _) PickC.pick rfl (PV.loadE1 rfl Sc50 rfl rfl (El.r h2 (getG (by omega))) rfl) ?_
 refine RH.ot rfl rfl (OT.callF (vs := [_]) rfl En62 rfl (l03Bits_s (Rs.up (hd _ (by omega))) (fun i hi => valid_get (isReg_valid (hreg _ (by omega))) hi) (fun v16 => ⟨Gh.le_refl _, PickC.pick, ?_⟩)))
 refine RH.ot rfl rfl (OT.callF (vs := [_]) rfl En62 rfl (l03Bits_s (Rs.up (hd _ (by omega))) (fun i hi => valid_get (isReg_valid (hreg _ (by omega))) hi) (fun v20 => ⟨Gh.le_refl _, PickC.pick, ?_⟩)))
 refine RH.pv rfl (fun _ _ _ _ h => h) (Gh.le_refl _) PickC.pick rfl (PV.asg (v := v16) rfl rfl) ?_
 refine RH.pv rfl (fun _ _ _ _ h => h) (Gh.le_refl _) PickC.pick rfl (PV.asg (v := v20) rfl rfl) ?_
 refine RH.nil ?_
 refine WP.seq (WP.region ?_)
 refine RG.ot rfl (OT.bslice (F := intT) (els := []) rfl El26 rfl (by decide) rfl (by decide) trivial fun v21 => ?_)
 refine RG.pv rfl (PV.asg (v := v21) rfl rfl) (RG.nil (WP.seq (WP.seq (WP.region (RG.mr rfl rfl rfl (RG.nil (WP.block ?_)))))))
 refine WP.cv (Cv.p (C := osl 2 intT v21 ([] : List Int) :: osl 4 boolT v16 (bits (gd xs 2).xs) :: osl 4 boolT v20 (bits (gd xs 4).xs) :: L)) ?_
 refine WP.cv (Cv.eqS (show [] = rootsJ (JL (er xs)) 0 from rfl)) ?_
 refine WP.loop2 [0, 5, 6] (fun (i : Nat) (q : Value) => i ≤ cs.length) (fun (i : Nat) (q : Value) => [(8, vi i), (7, q)]) (fun (i : Nat) (q : Value) => osl 2 intT q (rootsJ (JL (er xs)) i) :: osl 4 boolT v16 (bits (gd xs 2).xs) :: osl 4 boolT v20 (bits (gd xs 4).xs) :: L) (fun (i : Nat) (q : Value) => cs.length - i) 0 v21 (by omega) ⟨rfl, rfl, trivial⟩ Cv.p ?_
 rintro i q τ hi
 refine WP.seq (WP.seq (WP.region (RG.ml rfl rfl rfl (RG.pv rfl (PV.move (v := u) rfl rfl) (RG.pv rfl (PV.len (v := u) rfl Tryz.underlying161 rfl (SlF.r h1)) (RG.pv rfl (PV.lss rfl rfl rfl) (RG.nil ?_)))))))
 have hrl := rootsJ_len (JL (er xs)) i
 refine WP.cond rfl (fun h3 => ?_) (fun h3 => ?_)
 · have h3 := of_decide_eq_true h3
   have h4 : i < cs.length := by omega
   refine WP.skip (WP.seq (WP.block (WP.seq (WP.region (RG.pv rfl (PV.move (v := q) rfl rfl) (RG.ml rfl rfl rfl ?_))))))
   refine RG.ot rfl (OT.bslice (F := intT) (els := [_]) rfl El26 rfl (by decide) rfl (by decide) ⟨rfl, (Cl.c rfl), trivial⟩ fun v30 => ?_)
   refine RG.ot rfl (OT.append (v := q) (u := v30) (F := intT) rfl El26 rfl (by decide) rfl rfl Rs.o (OneL.c (fun _ => rfl)) rfl (by first | omega | (simp <;> omega)) fun v31 => ?_)
   refine RG.pv rfl (PV.asg (v := v31) rfl rfl) (RG.nil (WP.seq (WP.region (RG.mr rfl rfl rfl (RG.nil (WP.block ?_))))))
   refine WP.cv (Cv.eqS (inJ_zero (JL (er xs)) i (rootsJ (JL (er xs)) i)).symm) ?_
   refine WP.loop1 [0, 5, 6, 7, 8] (fun n => n ≤ i) (fun n => [(9, vi n)]) (fun n => osl 2 intT v31 (inJ (JL (er xs)) i (rootsJ (JL (er xs)) i) n) :: osl 4 boolT v16 (bits (gd xs 2).xs) :: osl 4 boolT v20 (bits (gd xs 4).xs) :: L) (fun n => i - n) 0 (by omega) ⟨rfl, trivial⟩ Cv.p ?_
   rintro n τ1 hn
   refine WP.seq (WP.seq (WP.region (RG.ml rfl rfl rfl (RG.ml rfl rfl rfl (RG.pv rfl (PV.lss rfl rfl rfl) (RG.nil ?_))))))
   have hil := inJ_len (JL (er xs)) i (rootsJ (JL (er xs)) i) n
   have hil2 : (inJ (JL (er xs)) i (rootsJ (JL (er xs)) i) n).length = i + 1 := by omega
   have hin := fun j hj => inJ_le (J := JL (er xs)) (i := i) (k := n) (j := j) hn hj
   have hJe : ∀ n, n < cs.length → JL (er xs) n i = (!decide ((gd cs n).layer = (gd cs i).layer) && jnR (erC (gd cs n)) (erC (gd cs i)) (bits (gd xs 2).xs) (bits (gd xs 4).xs)) := fun n h => by
     rw [JL, jnL, ← hce n h, ← hce i h4, er_gd, er_gd]; rfl
   have hsc := inJ_succ (JL (er xs)) i (rootsJ (JL (er xs)) i) n
   generalize hceq : inJ (JL (er xs)) i (rootsJ (JL (er xs)) i) n = c at *
   refine WP.cond rfl (fun h5 => ?_) (fun h5 => ?_)
   · have h5 := of_decide_eq_true h5
     have h6 : n < i := by omega
     refine WP.skip (WP.seq (WP.block (WP.seq (WP.seq ?_))))
     refine WP.regionQ (by kernel_rfl) (by kernel_rfl) ?_
     refine RQ.pv rfl (PV.move (v := u) rfl rfl) ?_
     refine RQ.pv rfl (PV.mvI (.inl rfl) rfl) ?_
     refine RQ.pv rfl (PV.idxS (v := u) rfl Is161 rfl (SlF.r h1) rfl rfl (by omega)) ?_
     refine RQ.pv rfl (PV.field rfl Fo166_0 rfl) ?_
     refine RQ.pv rfl (PV.loadF rfl Sc2 rfl rfl (El.r h1 (getG (by omega))) rfl) ?_
     refine RQ.pv rfl (PV.move (v := u) rfl rfl) ?_
     refine RQ.pv rfl (PV.mvI (.inl rfl) rfl) ?_
     refine RQ.pv rfl (PV.idxS (v := u) rfl Is161 rfl (SlF.r h1) rfl rfl (by omega)) ?_
     refine RQ.pv rfl (PV.field rfl Fo166_0 rfl) ?_
     refine RQ.pv rfl (PV.loadF rfl Sc2 rfl rfl (El.r h1 (getG (by omega))) rfl) ?_
     refine RQ.pv rfl (PV.eql rfl rfl rfl) ?_
     refine RQ.pv rfl (PV.mvB (.inl rfl) rfl) ?_
     refine RQ.gs rfl rfl rfl (fun hp => (PV.move (v := v31) rfl rfl)) ?_
     refine RQ.gs rfl rfl rfl (fun hp => (PV.mvI (.inl rfl) rfl)) ?_
     refine RQ.gs rfl rfl rfl (fun hp => (PV.idxS (v := v31) rfl Is26 (gs_t hp) SlF.o (gs_t hp) rfl (by first | omega | (simp at hp; omega)))) ?_
     refine RQ.gs rfl rfl rfl (fun hp => (PV.loadE1 rfl Sc2 (gs_t hp) rfl (El.o (getG (by first | omega | (simp at hp; omega)))) rfl)) ?_
     refine RQ.gs rfl rfl rfl (fun hp => (PV.move (v := v31) rfl rfl)) ?_
     refine RQ.gs rfl rfl rfl (fun hp => (PV.mvI (.inl rfl) rfl)) ?_
     refine RQ.gs rfl rfl rfl (fun hp => (PV.idxS (v := v31) rfl Is26 (gs_t hp) SlF.o (gs_t hp) rfl (by first | omega | (simp at hp; omega)))) ?_
     refine RQ.gs rfl rfl rfl (fun hp => (PV.loadE1 rfl Sc2 (gs_t hp) rfl (El.o (getG (by first | omega | (simp at hp; omega)))) rfl)) ?_
     refine RQ.gs rfl rfl rfl (fun hp => (PV.eql rfl (gs_t hp) (gs_t hp))) ?_
     refine RQ.pv rfl (PV.pickO rfl rfl rfl (fun hq => gs_t (geqF hq))) ?_
     refine RQ.pv rfl (PV.mvB (.inl rfl) rfl) ?_
     refine RQ.gs rfl rfl rfl (fun hp => (PV.move (v := u) rfl rfl)) ?_
     refine RQ.gs rfl rfl rfl (fun hp => (PV.mvI (.inl rfl) rfl)) ?_
     refine RQ.gs rfl rfl rfl (fun hp => (PV.idxS (v := u) rfl Is161 (gs_t hp) (SlF.r h1) (gs_t hp) rfl (by first | omega | (simp at hp; omega)))) ?_
     refine RQ.gs rfl rfl rfl (fun hp => (PV.loadE rfl Ag166 (gs_t hp) rfl (El.r h1 (getG (by first | omega | (simp at hp; omega)))))) ?_
     refine RQ.gs rfl rfl rfl (fun hp => (PV.move (v := u) rfl rfl)) ?_
     refine RQ.gs rfl rfl rfl (fun hp => (PV.mvI (.inl rfl) rfl)) ?_
     refine RQ.gs rfl rfl rfl (fun hp => (PV.idxS (v := u) rfl Is161 (gs_t hp) (SlF.r h1) (gs_t hp) rfl (by first | omega | (simp at hp; omega)))) ?_
     refine RQ.gs rfl rfl rfl (fun hp => (PV.loadE rfl Ag166 (gs_t hp) rfl (El.r h1 (getG (by first | omega | (simp at hp; omega)))))) ?_
     refine RQ.gs rfl rfl rfl (fun hp => (PV.move (v := v16) rfl rfl)) ?_
     refine RQ.gs rfl rfl rfl (fun hp => (PV.move (v := v20) rfl rfl)) ?_
     refine RQ.gsC rfl rfl rfl rfl En147 (fun hp => ⟨_, (acons (gs_t hp) (acons (gs_t hp) (acons (gs_t hp) (acons (gs_t hp) anil)))), l23Joined_s (hcr n (by omega)).up (hcr i (by omega)).up Rs.o Rs.o (hc6 n (by omega)) (hc6 i (by omega)) (bits_length _) (bits_length _) ⟨rfl, rfl, rfl⟩⟩) ?_
     refine RQ.gs rfl rfl rfl (fun hp => (PV.not rfl (gs_t hp))) ?_
     refine RQ.pv rfl (PV.pickO rfl rfl rfl (fun hq => gs_t (geqF hq))) ?_
     refine RQ.nil ?_
     refine WP.cond rfl (fun h7 => ?_) (fun h7 => ?_)
     · have hs : gd c n = gd c i ∨ JL (er xs) n i = false := by
         rw [hJe n (by omega)]; revert h7
         cases decide ((gd cs n).layer = (gd cs i).layer) <;> cases jnR (erC (gd cs n)) (erC (gd cs i)) (bits (gd xs 2).xs) (bits (gd xs 4).xs) <;> simp
       refine WP.exit ?_
       refine WP.region (RG.ml rfl rfl rfl (RG.pv rfl (PV.add rfl rfl rfl (by omega)) (RG.mr rfl rfl rfl (RG.nil ?_))))
       exact ⟨rfl, n + 1, (by omega), ⟨rfl, trivial⟩, ⟨rfl, rfl, rfl, rfl, rfl, trivial⟩, (Cv.eqS (by rw [hsc, stepJ_same hs])), by omega⟩
     · have hs : ¬ (gd c n = gd c i ∨ JL (er xs) n i = false) := by
         rw [hJe n (by omega)]; revert h7
         cases decide ((gd cs n).layer = (gd cs i).layer) <;> cases jnR (erC (gd cs n)) (erC (gd cs i)) (bits (gd xs 2).xs) (bits (gd xs 4).xs) <;> simp
       refine WP.skip (WP.seq ?_)
       refine WP.regionQ (by kernel_rfl) (by kernel_rfl) ?_
       refine RQ.pv rfl (PV.move (v := v31) rfl rfl) ?_
       refine RQ.pv rfl (PV.mvI (.inl rfl) rfl) ?_
       refine RQ.pv rfl (PV.idxS (v := v31) rfl Is26 rfl SlF.o rfl rfl (by omega)) ?_
       refine RQ.pv rfl (PV.loadE1 rfl Sc2 rfl rfl (El.o (getG (by omega))) rfl) ?_
       refine RQ.pv rfl (PV.move (v := v31) rfl rfl) ?_
       refine RQ.pv rfl (PV.mvI (.inl rfl) rfl) ?_
       refine RQ.pv rfl (PV.idxS (v := v31) rfl Is26 rfl SlF.o rfl rfl (by omega)) ?_
       refine RQ.pv rfl (PV.loadE1 rfl Sc2 rfl rfl (El.o (getG (by omega))) rfl) ?_
       refine RQ.pv rfl (PV.min2 rfl rfl rfl) ?_
       refine RQ.pv rfl (PV.move (v := v31) rfl rfl) ?_
       refine RQ.pv rfl (PV.mvI (.inl rfl) rfl) ?_
       refine RQ.pv rfl (PV.idxS (v := v31) rfl Is26 rfl SlF.o rfl rfl (by omega)) ?_
       refine RQ.pv rfl (PV.loadE1 rfl Sc2 rfl rfl (El.o (getG (by omega))) rfl) ?_
       refine RQ.pv rfl (PV.move (v := v31) rfl rfl) ?_
       refine RQ.pv rfl (PV.mvI (.inl rfl) rfl) ?_
       refine RQ.pv rfl (PV.idxS (v := v31) rfl Is26 rfl SlF.o rfl rfl (by omega)) ?_
       refine RQ.pv rfl (PV.loadE1 rfl Sc2 rfl rfl (El.o (getG (by omega))) rfl) ?_
       refine RQ.pv rfl (PV.max2 rfl rfl rfl) ?_
       refine RQ.pv rfl (PV.mvI (.inr rfl) rfl) ?_
       refine RQ.pv rfl (PV.mvI (.inr rfl) rfl) ?_
       refine RQ.nil ?_
       refine WP.seq (WP.region (RG.mr rfl rfl rfl (RG.nil (WP.block ?_))))
       refine WP.cv (Cv.eqS (mapTo_zero (rl (min (gd c n) (gd c i)) (max (gd c n) (gd c i))) c).symm) ?_
       generalize hlo : min (gd c n) (gd c i) = lo at *
       generalize hhi : max (gd c n) (gd c i) = hi2 at *
       refine WP.loop1 [0, 5, 6, 7, 8, 9, 10, 11] (fun m => m ≤ i + 1) (fun m => [(12, vi m)]) (fun m => osl 2 intT v31 (mapTo (rl lo hi2) c m) :: osl 4 boolT v16 (bits (gd xs 2).xs) :: osl 4 boolT v20 (bits (gd xs 4).xs) :: L) (fun m => i + 1 - m) 0 (by omega) ⟨rfl, trivial⟩ Cv.p ?_
       rintro m τ2 hm
       refine WP.seq (WP.seq (WP.region (RG.ml rfl rfl rfl (RG.ml rfl rfl rfl (RG.pv rfl (PV.leq rfl rfl rfl) (RG.nil ?_))))))
       have hml := mapTo_len (rl lo hi2) c (m := m) (by omega)
       refine WP.cond rfl (fun h8 => ?_) (fun h8 => ?_)
       · have h8 := of_decide_eq_true h8
         have hmg := mapTo_gd (f := rl lo hi2) (d := c) (m := m) (by omega)
         refine WP.skip (WP.seq (WP.block (WP.seq (WP.region (RG.pv rfl (PV.move (v := v31) rfl rfl) (RG.ml rfl rfl rfl (RG.pv rfl (PV.idxS (v := v31) rfl Is26 rfl SlF.o rfl rfl (by omega)) ?_)))))))
         refine RG.pv rfl (PV.loadE1 rfl Sc2 rfl rfl (El.o (getG (by omega))) rfl) (RG.ml rfl rfl rfl (RG.pv rfl (PV.eql rfl rfl rfl) (RG.nil ?_)))
         refine WP.cond rfl (fun h9 => ?_) (fun h9 => ?_)
         · refine WP.region ?_
           refine RG.pv rfl (PV.move (v := v31) rfl rfl) (RG.ml rfl rfl rfl (RG.ml rfl rfl rfl (RG.pv rfl (PV.idxS (v := v31) rfl Is26 rfl SlF.o rfl rfl (by omega)) ?_)))
           refine RG.ot rfl (OT.storeE (F := intT) rfl Sz2 rfl rfl rfl (Cl.c rfl) (OneC.c rfl) (by omega) ?_)
           refine RG.nil (WP.region (RG.ml rfl rfl rfl (RG.pv rfl (PV.add rfl rfl rfl (by omega)) (RG.mr rfl rfl rfl (RG.nil ?_)))))
           exact ⟨rfl, m + 1, (by omega), ⟨rfl, trivial⟩, ⟨rfl, rfl, rfl, rfl, rfl, rfl, rfl, rfl, trivial⟩, (Cv.eqS (by rw [← mapTo_set (by omega), rl, if_pos (by rw [hmg] at h9; simpa using h9)])), by omega⟩
         · refine WP.skip ?_
           refine WP.region (RG.ml rfl rfl rfl (RG.pv rfl (PV.add rfl rfl rfl (by omega)) (RG.mr rfl rfl rfl (RG.nil ?_))))
           exact ⟨rfl, m + 1, (by omega), ⟨rfl, trivial⟩, ⟨rfl, rfl, rfl, rfl, rfl, rfl, rfl, rfl, trivial⟩, (Cv.eqS (by rw [mapTo_skip (by omega)]; rw [rl, if_neg (by rw [hmg] at h9; simpa using h9)])), by omega⟩
       · have h8 := of_decide_eq_false h8
         obtain rfl : m = i + 1 := by omega
         refine WP.exit ?_
         refine WP.region (RG.ml rfl rfl rfl (RG.pv rfl (PV.add rfl rfl rfl (by omega)) (RG.mr rfl rfl rfl (RG.nil ?_))))
         exact ⟨rfl, n + 1, (by omega), ⟨rfl, trivial⟩, ⟨rfl, rfl, rfl, rfl, rfl, trivial⟩, (Cv.eqS (by rw [hsc, stepJ_map hs, hlo, hhi, ← hil2]; simpa using mapTo_all (f := rl lo hi2) (c := c) (z := []))), by omega⟩
   · have h5 := of_decide_eq_false h5
     obtain rfl : n = i := by omega
     refine WP.exit ?_
     refine WP.region (RG.ml rfl rfl rfl (RG.pv rfl (PV.add rfl rfl rfl (by omega)) (RG.mr rfl rfl rfl (RG.nil ?_))))
     exact ⟨rfl, n + 1, v31, (by omega), ⟨rfl, rfl, trivial⟩, ⟨rfl, rfl, rfl, trivial⟩, (Cv.eqS (by rw [rootsJ, hceq])), by omega⟩
 · have h3 := of_decide_eq_false h3
   obtain rfl : i = cs.length := by omega
   refine WP.exit ?_
   refine WP.seq (WP.region (RG.pv rfl (PV.move (v := q) rfl rfl) (RG.pv rfl (PV.asg (v := q) rfl rfl) (RG.nil ?_))))
   refine WP.ret ?_
   exact ⟨_, _, ResV.one rfl rfl, ((Cv.eqS (ys := clsL (er xs)) (by rw [hcl]; rfl)).trans Cv.p), k q⟩
theorem numbers_at {cls : List Int} {n : Nat} (h : n < cls.length) (hr : Rt cls) : 0 ≤ gd cls n ∧ gd cls n ≤ n := ⟨(hr n h).1, (hr n h).2.1⟩
def nums (cls : List Int) : List Int := (List.range cls.length).map fun i => (numR cls i : Int)
def numsTo (cls : List Int) (n : Nat) : List Int := (List.range n).map fun i => (numR cls i : Int)
theorem numsTo_succ (cls : List Int) (n : Nat) : numsTo cls (n + 1) = numsTo cls n ++ [(numR cls n : Int)] := by simp [numsTo, List.range_succ]
theorem numsTo_len (cls : List Int) (n : Nat) : (numsTo cls n).length = n := by simp [numsTo]
theorem numsTo_gd {cls : List Int} {n i : Nat} (h : i < n) : gd (numsTo cls n) i = (numR cls i : Int) := by
 rw [numsTo, gd_map _ (by simpa using h)]; simp [gd, h]
theorem l23Numbers_s {v : Value} {cls : List Int} (h1 : Rs G L intT v cls) (hr : Rt cls) (hl : cls.length ≤ 25600) (k : ∀ v', R (.tuple #[v', vi (cntR cls cls.length)]) G (osl 2 intT v' (nums cls) :: L)) : CallT Tryz.prog 96 #[v] G L R := by
 refine CallT.enter (args := _) Tryz.func96 rfl rfl (by kernel_rfl) rfl ?_
 refine WP.seq (WP.region (RG.pv rfl (PV.asg rfl rfl) (RG.mr rfl rfl rfl (RG.nil (WP.seq (WP.region ?_))))))
 refine RG.ot rfl (OT.bslice (F := intT) (els := []) rfl El26 rfl (by decide) rfl (by decide) trivial fun v7 => ?_)
 refine RG.pv rfl (PV.asg (v := v7) rfl rfl) (RG.nil (WP.seq (WP.region (RG.mr rfl rfl rfl (RG.nil (WP.seq (WP.seq ?_)))))))
 refine WP.region (RG.mr rfl rfl rfl (RG.nil (WP.block ?_)))
 refine WP.cv (Cv.eqS (show [] = numsTo cls 0 from rfl)) ?_
 refine WP.loop3 [0] (fun (i : Nat) (m : Int) (q : Value) => i ≤ cls.length ∧ m = cntR cls i) (fun (i : Nat) (m : Int) (q : Value) => [(6, vi i), (5, vi m), (4, q)]) (fun (i : Nat) (m : Int) (q : Value) => osl 2 intT q (numsTo cls i) :: L) (fun (i : Nat) (m : Int) (q : Value) => cls.length - i) 0 0 v7 ⟨by omega, rfl⟩ ⟨rfl, rfl, rfl, trivial⟩ Cv.p ?_
 rintro i m q τ ⟨hi, hm⟩
 refine WP.seq (WP.seq (WP.region (RG.ml rfl rfl rfl (RG.pv rfl (PV.move (v := v) rfl rfl) (RG.pv rfl (PV.len (v := v) rfl Tryz.underlying26 rfl (SlF.r h1)) (RG.pv rfl (PV.lss rfl rfl rfl) (RG.nil ?_)))))))
 have hnl := numsTo_len cls i
 have hcm := cntR_le cls i
 refine WP.cond rfl (fun h3 => ?_) (fun h3 => ?_)
 · have h3 := of_decide_eq_true h3
   have h4 : i < cls.length := by omega
   have hc1 := cntR_succ cls i
   obtain ⟨g1, g2⟩ := numbers_at h4 hr
   refine WP.skip (WP.seq (WP.block (WP.seq (WP.region (RG.pv rfl (PV.move (v := v) rfl rfl) (RG.ml rfl rfl rfl (RG.pv rfl (PV.idxS (v := v) rfl Is26 rfl (SlF.r h1) rfl rfl (by omega)) ?_)))))))
   refine RG.pv rfl (PV.loadE1 rfl Sc2 rfl rfl (El.r h1 (getG (by omega))) rfl) (RG.ml rfl rfl rfl (RG.pv rfl (PV.eql rfl rfl rfl) (RG.nil ?_)))
   refine WP.cond rfl (fun h5 => ?_) (fun h5 => ?_)
   · have h5 : gd cls i = (i : Int) := by simpa using h5
     rw [if_pos h5] at hc1
     refine WP.seq (WP.region (RG.pv rfl (PV.move (v := q) rfl rfl) (RG.ml rfl rfl rfl ?_)))
     refine RG.ot rfl (OT.bslice (F := intT) (els := [_]) rfl El26 rfl (by decide) rfl (by decide) ⟨rfl, (Cl.c rfl), trivial⟩ fun v22 => ?_)
     refine RG.ot rfl (OT.append (v := q) (u := v22) (F := intT) rfl El26 rfl (by decide) rfl rfl Rs.o (OneL.c (fun _ => rfl)) rfl (by first | omega | (simp <;> omega)) fun v23 => ?_)
     refine RG.pv rfl (PV.asg (v := v23) rfl rfl) (RG.nil (WP.region (RG.ml rfl rfl rfl (RG.pv rfl (PV.add rfl rfl rfl (by omega)) (RG.mr rfl rfl rfl (RG.nil (WP.region ?_)))))))
     refine RG.ml rfl rfl rfl (RG.pv rfl (PV.add rfl rfl rfl (by omega)) (RG.mr rfl rfl rfl (RG.nil ?_)))
     exact ⟨rfl, i + 1, _, v23, ⟨by omega, by omega⟩, ⟨rfl, rfl, rfl, trivial⟩, ⟨rfl, trivial⟩, ((Cv.eqS (ys := numsTo cls (i + 1)) (by rw [numsTo_succ, numR_root h5, hm])).trans Cv.p), by omega⟩
   · have h5 : gd cls i ≠ (i : Int) := by simpa using h5
     rw [if_neg h5] at hc1
     have hng : gd (numsTo cls i) (gd cls i).toNat = (numR cls i : Int) := by rw [numsTo_gd (by omega), numR_at hr h4]
     refine WP.region (RG.pv rfl (PV.move (v := q) rfl rfl) (RG.pv rfl (PV.move (v := q) rfl rfl) (RG.pv rfl (PV.move (v := v) rfl rfl) (RG.ml rfl rfl rfl (RG.pv rfl (PV.idxS (v := v) rfl Is26 rfl (SlF.r h1) rfl rfl (by omega)) (RG.pv rfl (PV.loadE1 rfl Sc2 rfl rfl (El.r h1 (getG (by omega))) rfl) (RG.pv rfl (PV.idxS (j := (gd cls i).toNat) (v := q) rfl Is26 rfl SlF.o rfl (by omega) (by omega)) ?_)))))))
     refine RG.pv rfl (PV.loadE1 rfl Sc2 rfl rfl (El.o (getG (by omega))) rfl) ?_
     refine RG.ot rfl (OT.bslice (F := intT) (els := [_]) rfl El26 rfl (by decide) rfl (by decide) ⟨rfl, (Cl.c rfl), trivial⟩ fun v34 => ?_)
     refine RG.ot rfl (OT.append (v := q) (u := v34) (F := intT) rfl El26 rfl (by decide) rfl rfl Rs.o (OneL.c (fun _ => rfl)) rfl (by first | omega | (simp <;> omega)) fun v35 => ?_)
     refine RG.pv rfl (PV.asg (v := v35) rfl rfl) (RG.nil (WP.region (RG.ml rfl rfl rfl (RG.pv rfl (PV.add rfl rfl rfl (by omega)) (RG.mr rfl rfl rfl (RG.nil ?_))))))
     exact ⟨rfl, i + 1, _, v35, ⟨by omega, by omega⟩, ⟨rfl, rfl, rfl, trivial⟩, ⟨rfl, trivial⟩, ((Cv.eqS (ys := numsTo cls (i + 1)) (by rw [numsTo_succ, hng])).trans Cv.p), by omega⟩
 · have h3 := of_decide_eq_false h3
   obtain rfl : i = cls.length := by omega
   rw [← hm] at k
   refine WP.exit ?_
   refine WP.seq (WP.region (RG.pv rfl (PV.move (v := q) rfl rfl) (RG.ml rfl rfl rfl (RG.pv rfl (PV.asg (v := q) rfl rfl) (RG.mr rfl rfl rfl (RG.nil ?_))))))
   refine WP.ret ?_
   exact ⟨_, _, ResV.two rfl rfl rfl, (Cv.eqS (ys := nums cls) rfl), k q⟩
end Go.Proofs.YthhjapiggekjbaaGreat
namespace Go.Proofs.YthhjapiggekjbaaGreat
set_option linter.unusedVariables false
set_option linter.unusedSimpArgs false
open Go
set_option maxRecDepth 20000
set_option linter.unusedSimpArgs false
variable {G : Gh} {L : List Ch} {R : Value → Gh → List Ch → Prop}
theorem jnI_er (l : List (List Rect)) (p q : Piece) : jnI l (erP p) (erP q) = bif decide (q.layer < p.layer) then jnO l (erP q) (erP p) else jnO l (erP p) (erP q) := rfl
theorem jnO_er (l : List (List Rect)) (p q : Piece) : jnO l (erP p) (erP q) = bif decide (q.layer = 3) && decide (p.layer < 3) then meetIn p.reg.xs q.reg.xs (gd l 2) else decide (p.layer = 3) && decide (q.layer = 5) && meetIn p.reg.xs q.reg.xs (gd l 4) := rfl
theorem joined_s {v : Value} {xs : List (Sl Rect)} {p q : Piece} (h1 : Rs G L slT v xs) (hd : RsE G L rectT xs) (h8 : xs.length = 8) (hp : Rs G L rectT p.reg.v p.reg.xs) (hq : Rs G L rectT q.reg.v q.reg.xs) (k : R (.bool (jnI (er xs) (erP p) (erP q))) G L) : CallT Tryz.prog 66 #[v, vT pieceT p, vT pieceT q] G L R := by
 refine CallT.enter (args := _) Tryz.func66 rfl rfl (by kernel_rfl) rfl ?_
 refine WP.seq (WP.region ?_)
 refine RG.ot rfl (OT.box (cs := pieceT.enc p) rfl rfl rfl fun b4 => ?_)
 refine RG.ot rfl (OT.box (cs := pieceT.enc q) rfl rfl rfl fun b5 => ?_)
 refine RG.br rfl rfl rfl (RG.nil ?_)
 refine WP.cut1 [0, 4, 5] (fun (pq : Piece × Piece) => Rs G L rectT pq.1.reg.v pq.1.reg.xs ∧ Rs G L rectT pq.2.reg.v pq.2.reg.xs ∧ jnI (er xs) (erP p) (erP q) = jnO (er xs) (erP pq.1) (erP pq.2)) (fun (pq : Piece × Piece) => []) (fun (pq : Piece × Piece) => blk b4 63 (pieceT.enc pq.1) :: blk b5 63 (pieceT.enc pq.2) :: L) ?_ ?_
 refine WP.seq (WP.region (RG.pv rfl (PV.field rfl Fo63_0 rfl) (RG.pv rfl (PV.load1 rfl Sc2 rfl (Rd.blk rfl)) (RG.pv rfl (PV.field rfl Fo63_0 rfl) (RG.pv rfl (PV.load1 rfl Sc2 rfl (Rd.blk rfl)) (RG.pv rfl (PV.gtr rfl rfl rfl) (RG.nil ?_)))))))
 · refine WP.cond rfl (fun h2 => ?_) (fun h2 => ?_)
   · refine WP.region ?_
     refine RG.pv rfl (PV.loadW rfl Ag63 rfl rfl) (RG.pv rfl (PV.loadW rfl Ag63 rfl rfl) ?_)
     refine RG.ot rfl (OT.storeW (vs := [vi _, _]) rfl Sz63 rfl rfl (Cl.c rfl) rfl rfl (OneC.val rfl (OneC.sl (SlF.r hq) OneC.nil)) ?_)
     refine RG.ot rfl (OT.storeW (vs := [vi _, _]) rfl Sz63 rfl rfl (Cl.c rfl) rfl rfl (OneC.val rfl (OneC.sl (SlF.r hp) OneC.nil)) ?_)
     refine RG.nil ?_
     exact ⟨rfl, (q, p), ⟨hq, hp, by rw [jnI_er, h2]; rfl⟩, trivial, ⟨rfl, rfl, rfl, trivial⟩, Cv.p⟩
   · refine WP.skip ?_
     exact ⟨rfl, (p, q), ⟨hp, hq, by rw [jnI_er, h2]; rfl⟩, trivial, ⟨rfl, rfl, rfl, trivial⟩, Cv.p⟩
 rintro pq τ0 ⟨hp', hq', hk⟩
 refine WP.seq (WP.seq (WP.region (RG.pv rfl (PV.field rfl Fo63_0 rfl) (RG.pv rfl (PV.load1 rfl Sc2 rfl (Rd.blk rfl)) (RG.pv rfl (PV.eql rfl rfl rfl) (RG.bl rfl rfl rfl ?_))))))
 refine RG.gs rfl rfl rfl (fun hp => (PV.field rfl Fo63_0 rfl)) ?_
 refine RG.gs rfl rfl rfl (fun hp => (PV.load1 rfl Sc2 (gs_t hp) (Rd.blk rfl))) ?_
 refine RG.gs rfl rfl rfl (fun hp => (PV.lss rfl (gs_t hp) rfl)) ?_
 refine RG.pv rfl (PV.pickA rfl rfl (fun hq => gs_t (geqT hq)) rfl) (RG.nil ?_)
 rw [hk, jnO_er] at k
 refine WP.cond rfl (fun h3 => ?_) (fun h3 => ?_)
 · rw [h3] at k
   simp only [cond_true, er_gd] at k
   refine WP.seq ?_
   refine WP.regionQ (by kernel_rfl) (by kernel_rfl) ?_
   refine RQ.pv rfl (PV.field rfl Fo63_1 rfl) ?_
   refine RQ.pv rfl (PV.load1 rfl Sc50 rfl (Rd.blk rfl)) ?_
   refine RQ.pv rfl (PV.field rfl Fo63_1 rfl) ?_
   refine RQ.pv rfl (PV.load1 rfl Sc50 rfl (Rd.blk rfl)) ?_
   refine RQ.pv rfl (PV.move (v := v) rfl rfl) ?_
   refine RQ.pv rfl (PV.idxS (j := 2) (v := v) rfl Is47 rfl (SlF.r h1) rfl (by omega) (by omega)) ?_
   refine RQ.pv rfl (PV.loadE1 rfl Sc50 rfl rfl (El.r h1 (getG (by omega))) rfl) ?_
   refine RQ.callF (vs := [_, _, _]) rfl rfl En120 rfl (meetIn_s (Rs.up hp') (Rs.up hq') (Rs.up (hd 2 (by omega))) ⟨rfl, rfl, rfl⟩) ?_
   refine RQ.pv rfl (PV.mvB (.inr rfl) rfl) ?_
   refine RQ.nil ?_
   refine WP.ret ?_
   exact ⟨_, _, ResV.one rfl rfl, Cv.p, k⟩
 · rw [h3] at k
   simp only [cond_false, er_gd] at k
   refine WP.skip (WP.seq ?_)
   refine WP.regionQ (by kernel_rfl) (by kernel_rfl) ?_
   refine RQ.pv rfl (PV.field rfl Fo63_0 rfl) ?_
   refine RQ.pv rfl (PV.load1 rfl Sc2 rfl (Rd.blk rfl)) ?_
   refine RQ.pv rfl (PV.eql rfl rfl rfl) ?_
   refine RQ.pv rfl (PV.mvB (.inl rfl) rfl) ?_
   refine RQ.gs rfl rfl rfl (fun hp => (PV.field rfl Fo63_0 rfl)) ?_
   refine RQ.gs rfl rfl rfl (fun hp => (PV.load1 rfl Sc2 (gs_t hp) (Rd.blk rfl))) ?_
   refine RQ.gs rfl rfl rfl (fun hp => (PV.eql rfl (gs_t hp) rfl)) ?_
   refine RQ.pv rfl (PV.pickA rfl rfl (fun hq => gs_t (geqT hq)) rfl) ?_
   refine RQ.pv rfl (PV.mvB (.inl rfl) rfl) ?_
   refine RQ.gs rfl rfl rfl (fun hp => (PV.field rfl Fo63_1 rfl)) ?_
   refine RQ.gs rfl rfl rfl (fun hp => (PV.load1 rfl Sc50 (gs_t hp) (Rd.blk rfl))) ?_
   refine RQ.gs rfl rfl rfl (fun hp => (PV.field rfl Fo63_1 rfl)) ?_
   refine RQ.gs rfl rfl rfl (fun hp => (PV.load1 rfl Sc50 (gs_t hp) (Rd.blk rfl))) ?_
   refine RQ.gs rfl rfl rfl (fun hp => (PV.move (v := v) rfl rfl)) ?_
   refine RQ.gs rfl rfl rfl (fun hp => (PV.idxS (j := 4) (v := v) rfl Is47 (gs_t hp) (SlF.r h1) rfl (by first | omega | (simp at hp; omega)) (by first | omega | (simp at hp; omega)))) ?_
   refine RQ.gs rfl rfl rfl (fun hp => (PV.loadE1 rfl Sc50 (gs_t hp) rfl (El.r h1 (getG (by first | omega | (simp at hp; omega)))) rfl)) ?_
   refine RQ.gsC rfl rfl rfl rfl En120 (fun hp => ⟨_, (acons (gs_t hp) (acons (gs_t hp) (acons (gs_t hp) anil))), meetIn_s (Rs.up hp') (Rs.up hq') (Rs.up (hd 4 (by omega))) ⟨rfl, rfl, rfl⟩⟩) ?_
   refine RQ.pv rfl (PV.pickA rfl rfl (fun hq => gs_t (geqT hq)) rfl) ?_
   refine RQ.pv rfl (PV.mvB (.inr rfl) rfl) ?_
   refine RQ.nil ?_
   refine WP.ret ?_
   exact ⟨_, _, ResV.one rfl rfl, Cv.p, k⟩
def nps (zs : List Net) : List (Sl Piece) := zs.map Net.pieces
theorem nps_len (zs : List Net) : (nps zs).length = zs.length := by simp [nps]
theorem nps_gd {zs : List Net} {i : Nat} (h : i < zs.length) : gd (nps zs) i = (gd zs i).pieces := gd_map _ h
theorem nps_append (xs ys : List Net) : nps (xs ++ ys) = nps xs ++ nps ys := by simp [nps]
theorem er_append {α : Type} (xs ys : List (Sl α)) : er (xs ++ ys) = er xs ++ er ys := by simp [er]
/-- a bag in another order -/
theorem sep_perm {A B : List Ch} (h : A.Perm B) : ∀ hp, Sep A hp → Sep B hp := by
 induction h with
 | nil => exact fun _ h => h
 | cons x _ ih => exact fun hp ⟨h1, h2, d, l1, l2, c, s⟩ => ⟨h1, h2, d, l1, l2, c, ih h2 s⟩
 | swap x y l => exact Cv.swap (A := [y]) (B := [x]) (L := l)
 | trans _ _ ih1 ih2 => exact fun hp s => ih2 hp (ih1 hp s)
theorem Cv.bagPerm {α : Type} {e : TypeId} {F : FT α} {xs ys : List (Sl α)} {L : List Ch} (h : xs.Perm ys) : Cv (bagS e F xs :: L) (bagS e F ys :: L) :=
 Cv.imp fun hp s => sep_perm (h.map (ownS e F)) hp s
theorem set_mid {c : List Int} {n : Nat} {x : Int} (h : c.length < n) : (c ++ List.replicate (n - c.length) 0).set c.length x = c ++ [x] ++ List.replicate (n - (c.length + 1)) 0 := by
 rw [List.set_append_right _ _ (Nat.le_refl _), Nat.sub_self, show n - c.length = (n - (c.length + 1)) + 1 by omega, List.replicate_succ, List.set_cons_zero, List.append_assoc]
 simp
end Go.Proofs.YthhjapiggekjbaaGreat
namespace Go.Proofs.YthhjapiggekjbaaGreat
set_option linter.unusedVariables false
set_option linter.unusedSimpArgs false
open Go
set_option maxRecDepth 20000
set_option linter.unusedSimpArgs false
variable {G : Gh} {L : List Ch} {R : Value → Gh → List Ch → Prop}
noncomputable def netE (l : List (List Rect)) : Int := bif isLay l then (if 24 < netN l then 3 else 0) else 1
noncomputable def netR (l : List (List Rect)) : List (List (Int × List Rect)) := if netE l = 0 then netL l else []
theorem netE_ok {l : List (List Rect)} (h : netE l = 0) : isLay l = true ∧ netN l ≤ 24 := by
 unfold netE at h
 cases hl : isLay l
 · rw [hl] at h; cases h
 · rw [hl] at h
   refine ⟨rfl, ?_⟩
   by_cases c : 24 < netN l
   · simp [c] at h
   · omega
/-- all slices of a bag, by membership -/
theorem Rs.mem {α : Type} {G : Gh} {L L' : List Ch} {e : TypeId} {F : FT α} {xs : List (Sl α)} [hX : ExBg xs L e F L'] {s : Sl α} (h : s ∈ xs) : Rs G L F s.v s.xs := by
 obtain ⟨i, hi, rfl⟩ := List.getElem_of_mem h
 have := Rs.inBag (G := G) (L := L) (L' := L') (e := e) (F := F) (xs := xs) i hi
 rwa [gd_eq hi] at this
theorem RsE.flat {G : Gh} {L L' : List Ch} {e : TypeId} {zs : List Net} [hX : ExBg (regs (er (nps zs)).flatten) L e rectT L'] {i : Nat} (hi : i < zs.length) : RsE G L rectT (regs (gd zs i).pieces.xs) := fun j hj => by
 rw [regs_len] at hj
 rw [regs_gd hj]
 refine Rs.mem (L := L) (L' := L') (e := e) (xs := regs (er (nps zs)).flatten) (List.mem_map_of_mem ?_)
 refine List.mem_flatten.2 ⟨(gd zs i).pieces.xs, ?_, gd_mem hj⟩
 rw [← nps_gd hi, ← er_gd]
 exact gd_mem (by rw [er_len, nps_len]; exact hi)
theorem l17Cell_c {v : Value} {S : List Bool} {x y : Int} (h1 : Rs G L boolT v S) (hS : S.length = 6400) (k : R (.bool (cellB S x y)) G L) : CallT Tryz.prog 160 #[v, vi x, vi y] G L R := l17Cell_s h1 hS k
theorem l23Find_s {u w : Value} {l : List (List Rect)} {cs : List Part} {n : Int} {q : Pt} (h1 : Rs G L partT u cs) (hcd : RsE G L boolT (cels cs)) (h2 : Rs G L intT w (nums (clsL l))) (hcs : cs.map erC = pcL l 4) (k : R (vi (findL l n q.x q.y)) G L) : CallT Tryz.prog 114 #[u, w, vi n, vpt q] G L R := by
 have hcl : cs.length = (pcL l 4).length := by rw [← hcs, List.length_map]
 have hpl := pcL_len l 4
 have hce : ∀ i, i < cs.length → erC (gd cs i) = gd (pcL l 4) i := fun i hi => by rw [← hcs, gd_map _ hi]
 have hc6 : ∀ i, i < cs.length → (gd cs i).cells.xs.length = 6400 := fun i hi => by
   have := pcL_gd_len (l := l) (i := i) (by omega)
   rw [← hce i hi] at this; exact this
 have hcr : ∀ i, i < cs.length → Rs G L boolT (gd cs i).cells.v (gd cs i).cells.xs := fun i hi => by
   have := hcd i (by rw [cels_len]; exact hi); rwa [cels_gd hi] at this
 have hnl : (nums (clsL l)).length = cs.length := by rw [nums, List.length_map, List.length_range, clsL_len, hcl]
 refine CallT.enter (args := _) Tryz.func114 rfl rfl (by kernel_rfl) rfl ?_
 refine WP.seq (WP.region ?_)
 refine RG.ot rfl (OT.box (cs := ptT.enc q) rfl rfl rfl fun b7 => ?_)
 refine RG.mr rfl rfl rfl (RG.nil (WP.seq (WP.seq (WP.region (RG.mr rfl rfl rfl (RG.nil (WP.block ?_)))))))
 refine WP.loop1 [0, 1, 2, 7] (fun i => i ≤ cs.length ∧ ∀ j, j < i → atB n q.x q.y (gd (pcL l 4) j) = false) (fun i => [(9, vi i)]) (fun i => blk b7 183 (ptT.enc q) :: L) (fun i => cs.length - i) 0 ⟨by omega, fun j h => by omega⟩ ⟨rfl, trivial⟩ Cv.p ?_
 rintro i τ ⟨hi, hn⟩
 refine WP.seq (WP.seq (WP.region (RG.ml rfl rfl rfl (RG.pv rfl (PV.move (v := u) rfl rfl) (RG.pv rfl (PV.len (v := u) rfl Tryz.underlying161 rfl (SlF.r h1)) (RG.pv rfl (PV.lss rfl rfl rfl) (RG.nil ?_)))))))
 refine WP.cond rfl (fun h3 => ?_) (fun h3 => ?_)
 · have h3 := of_decide_eq_true h3
   have h4 : i < cs.length := by omega
   have hat : atB n q.x q.y (gd (pcL l 4) i) = (decide ((gd cs i).layer = n) && cellB (gd cs i).cells.xs q.x q.y) := by rw [← hce i h4]; rfl
   refine WP.skip (WP.seq (WP.block (WP.seq ?_)))
   refine WP.regionQ (by kernel_rfl) (by kernel_rfl) ?_
   refine RQ.pv rfl (PV.move (v := u) rfl rfl) ?_
   refine RQ.pv rfl (PV.mvI (.inl rfl) rfl) ?_
   refine RQ.pv rfl (PV.idxS (v := u) rfl Is161 rfl (SlF.r h1) rfl rfl (by omega)) ?_
   refine RQ.pv rfl (PV.field rfl Fo166_0 rfl) ?_
   refine RQ.pv rfl (PV.loadF rfl Sc2 rfl rfl (El.r h1 (getG (by omega))) rfl) ?_
   refine RQ.pv rfl (PV.mvI (.inl rfl) rfl) ?_
   refine RQ.pv rfl (PV.eql rfl rfl rfl) ?_
   refine RQ.pv rfl (PV.mvB (.inl rfl) rfl) ?_
   refine RQ.gs rfl rfl rfl (fun hp => (PV.move (v := u) rfl rfl)) ?_
   refine RQ.gs rfl rfl rfl (fun hp => (PV.mvI (.inl rfl) rfl)) ?_
   refine RQ.gs rfl rfl rfl (fun hp => (PV.idxS (v := u) rfl Is161 (gs_t hp) (SlF.r h1) (gs_t hp) rfl (by first | omega | (simp at hp; omega)))) ?_
   refine RQ.gs rfl rfl rfl (fun hp => (PV.field rfl Fo166_1 (gs_t hp))) ?_
   refine RQ.gs rfl rfl rfl (fun hp => (PV.loadF rfl Sc109 (gs_t hp) rfl (El.r h1 (getG (by first | omega | (simp at hp; omega)))) rfl)) ?_
   refine RQ.gs rfl rfl rfl (fun hp => (PV.field rfl Fo183_0 rfl)) ?_
   refine RQ.gs rfl rfl rfl (fun hp => (PV.load1 rfl Sc2 (gs_t hp) (Rd.blk rfl))) ?_
   refine RQ.gs rfl rfl rfl (fun hp => (PV.field rfl Fo183_1 rfl)) ?_
   refine RQ.gs rfl rfl rfl (fun hp => (PV.load1 rfl Sc2 (gs_t hp) (Rd.blk rfl))) ?_
   refine RQ.gsC rfl rfl rfl rfl En160 (fun hp => ⟨_, (acons (gs_t hp) (acons (gs_t hp) (acons (gs_t hp) anil))), l17Cell_c (hcr i (by omega)).up (hc6 i (by omega)) ⟨rfl, rfl, rfl⟩⟩) ?_
   refine RQ.pv rfl (PV.pickA rfl rfl (fun hq => gs_t (geqT hq)) rfl) ?_
   refine RQ.nil ?_
   refine WP.cond rfl (fun h5 => ?_) (fun h5 => ?_)
   · have hg : gd (nums (clsL l)) i = (numR (clsL l) i : Int) := by
       rw [nums, gd_map _ (by rw [List.length_range, clsL_len]; omega)]
       simp [gd, clsL_len, ← hcl, h4]
     rw [findL_at (i := i) (by omega) (by rw [hat]; exact h5), ← hg] at k
     refine WP.seq (WP.region (RG.pv rfl (PV.move (v := w) rfl rfl) (RG.ml rfl rfl rfl (RG.pv rfl (PV.idxS (v := w) rfl Is26 rfl (SlF.r h2) rfl rfl (by omega)) (RG.pv rfl (PV.loadE1 rfl Sc2 rfl rfl (El.r h2 (getG (by omega))) rfl) (RG.mr rfl rfl rfl (RG.nil ?_)))))))
     refine WP.ret ?_
     exact ⟨_, _, ResV.one rfl rfl, Cv.p, k⟩
   · refine WP.skip ?_
     refine WP.region (RG.ml rfl rfl rfl (RG.pv rfl (PV.add rfl rfl rfl (by omega)) (RG.mr rfl rfl rfl (RG.nil ?_))))
     exact ⟨rfl, i + 1, ⟨by omega, col_next hn (by rw [hat]; exact h5)⟩, ⟨rfl, trivial⟩, ⟨rfl, rfl, rfl, rfl, trivial⟩, Cv.p, by omega⟩
 · have h3 := of_decide_eq_false h3
   rw [findL_none (fun j hj => hn j (by omega))] at k
   refine WP.exit ?_
   refine WP.seq (WP.region (RG.mr rfl rfl rfl (RG.nil ?_)))
   refine WP.ret ?_
   exact ⟨_, _, ResV.one rfl rfl, Cv.p, k⟩
theorem toPoint_s {p : Pt} (k : R (vpt p) G L) : CallT Tryz.prog 204 #[vpt p] G L R := by
 refine CallT.enter (args := _) Tryz.func204 rfl rfl (by kernel_rfl) rfl ?_
 refine WP.seq (WP.region ?_)
 refine RG.ot rfl (OT.box (cs := ptT.enc p) rfl rfl rfl fun b1 => ?_)
 refine RG.ot rfl (OT.alloc rfl Zr183 fun b2 => ?_)
 refine RG.nil (WP.seq (WP.region ?_))
 refine RG.ot rfl (OT.alloc rfl Zr183 fun b3 => ?_)
 refine RG.nil (WP.seq (WP.region (RG.pv rfl (PV.field rfl Fo223_0 rfl) (RG.pv rfl (PV.load1 rfl Sc2 rfl (Rd.blk rfl)) (RG.pv rfl (PV.field rfl Fo183_0 rfl) ?_)))))
 refine RG.ot rfl (OT.storeB (vs := [vi _]) (cs' := [_, _]) rfl Sz2 rfl rfl (Cl.c rfl) rfl (OneC.c rfl) rfl rfl ?_)
 refine RG.nil (WP.seq (WP.region (RG.pv rfl (PV.field rfl Fo223_1 rfl) (RG.pv rfl (PV.load1 rfl Sc2 rfl (Rd.blk rfl)) (RG.pv rfl (PV.field rfl Fo183_1 rfl) ?_)))))
 refine RG.ot rfl (OT.storeB (vs := [vi _]) (cs' := [_, _]) rfl Sz2 rfl rfl (Cl.c rfl) rfl (OneC.c rfl) rfl rfl ?_)
 refine RG.nil (WP.seq (WP.region (RG.pv rfl (PV.loadW rfl Ag183 rfl rfl) ?_)))
 refine RG.ot rfl (OT.storeW (vs := [vi _, vi _]) rfl Sz183 rfl rfl (Cl.c rfl) rfl rfl (OneC.c rfl) ?_)
 refine RG.nil ?_
 refine WP.ret ?_
 exact ⟨_, _, ResV.one rfl (RV1.cell rfl Ag183 rfl), Cv.p, k⟩
end Go.Proofs.YthhjapiggekjbaaGreat
namespace Go.Proofs.YthhjapiggekjbaaGreat
set_option linter.unusedVariables false
set_option linter.unusedSimpArgs false
open Go
set_option maxRecDepth 20000
set_option linter.unusedSimpArgs false
variable {G : Gh} {L : List Ch} {R : Value → Gh → List Ch → Prop}
theorem unitCell_s {p : Pt} (k : R (.bool (within p.x (-40) 39 && within p.y (-40) 39)) G L) : CallT Tryz.prog 250 #[vpt p] G L R := by
 refine CallT.enter (args := _) Tryz.func250 rfl rfl (by kernel_rfl) rfl ?_
 refine WP.seq (WP.region ?_)
 refine RG.ot rfl (OT.box (cs := ptT.enc p) rfl rfl rfl fun b1 => ?_)
 refine RG.br rfl rfl rfl (RG.nil (WP.seq (WP.region (RG.pv rfl (PV.field rfl Fo183_0 rfl) (RG.pv rfl (PV.load1 rfl Sc2 rfl (Rd.blk rfl)) ?_)))))
 refine RG.callF (vs := [_, _, _]) rfl rfl En43 rfl (within_s ?_)
 refine RG.bl rfl rfl rfl ?_
 refine RG.gs rfl rfl rfl (fun hp => (PV.field rfl Fo183_1 rfl)) ?_
 refine RG.gs rfl rfl rfl (fun hp => (PV.load1 rfl Sc2 (gs_t hp) (Rd.blk rfl))) ?_
 refine RG.gsC rfl rfl rfl rfl En43 (fun hp => ⟨_, (acons (gs_t hp) (acons rfl (acons rfl anil))), within_s ⟨rfl, rfl, rfl⟩⟩) ?_
 refine RG.pv rfl (PV.pickA rfl rfl (fun hq => gs_t (geqT hq)) rfl) (RG.br rfl rfl rfl (RG.nil ?_))
 refine WP.ret ?_
 exact ⟨_, _, ResV.one rfl rfl, Cv.p, k⟩
end Go.Proofs.YthhjapiggekjbaaGreat
namespace Go.Proofs.YthhjapiggekjbaaGreat
set_option linter.unusedVariables false
set_option linter.unusedSimpArgs false
open Go
/-- the text of some bytes -/
def txt (bs : List UInt8) : ByteArray := ⟨bs.toArray⟩
theorem txt_size (bs : List UInt8) : (txt bs).size = bs.length := by simp [txt, ByteArray.size]
section
variable {P : Program} {σ : Nat → Value} {G : Gh} {L : List Ch} {o : Oper}
theorem PV.convBS {T T' e : TypeId} {x : Operand} {v : Value} {bs : List UInt8} (ho : o.op = .convert T T' x) (hu : P.underlying T = some (.slice e)) (he : P.underlying e = some (.int .u8)) (hd : P.underlying T' = some .string) (hx : ev σ x = v) (h : Rs G L byteT v bs) : PV P o σ G L (.string (txt bs)) := by
 intro w hw
 obtain ⟨⟨c, hc1, hc2, hsl⟩, hg⟩ := h w hw
 rcases hsl with ⟨b, k, rfl⟩ | ⟨⟨a, rfl⟩, h0⟩
 · have hr := run_convert_bytes_arg w T e hu he b k bs.length c (bs.map fun b => (b.toNat : Int)) (by simp) (fun i hi => by
     have := hg i (.int .u8 ((bs.map fun b => (b.toNat : Int)).getD i 0)) (by
       rw [show i = i * byteT.sz + 0 by simp [byteT]]
       refine byteT.flat_get (x := bs[i]) (List.getElem?_eq_getElem hi) ?_
       simp [byteT, hi])
     simpa [sb, so] using this) T' hd
   have e1 : strOfNums (bs.map fun b => (b.toNat : Int)) = txt bs := by
     simp only [strOfNums, txt, List.map_map]
     congr 2
     conv => rhs; rw [← List.map_id bs]
     apply List.map_congr_left
     intro b _
     simp
   simp [execOp, ho, hx, hr, e1]
 · have hb : bs = [] := List.eq_nil_of_length_eq_zero h0
   subst hb
   cases a with
   | none => simp [execOp, ho, hx, run_convert_bytes_nil w T e hu he _ _ T' hd, txt, ByteArray.empty, ByteArray.emptyWithCapacity]; rfl
   | some a =>
     simp only [List.length_nil] at hx
     simp [execOp, ho, hx, run_convert_bytes_string w T T' e _ _ _ hu he hd, Conv.bytesToString, loadCells, loadCellsFrom, txt, ByteArray.empty, ByteArray.emptyWithCapacity]; rfl
end
def mtGo : Nat → Nat → ByteArray → ByteArray
  | 0, _, out => out
  | f + 1, k, out => if k = 0 then out else mtGo f (k / 10) (txt [UInt8.ofNat (48 + k % 10)] ++ out)
theorem mtGo_zero (f : Nat) (out : ByteArray) : mtGo f 0 out = out := by cases f <;> simp [mtGo]
theorem mtGo_step {f k : Nat} {out : ByteArray} (h : 0 < k) : mtGo (f + 1) k out = mtGo f (k / 10) (txt [UInt8.ofNat (48 + k % 10)] ++ out) := by rw [mtGo, if_neg (by omega)]
def mText (k : Int) : ByteArray := if k ≤ 0 then txt [109, 48] else txt [109] ++ mtGo k.toNat k.toNat ByteArray.empty
end Go.Proofs.YthhjapiggekjbaaGreat
namespace Go.Proofs.YthhjapiggekjbaaGreat
set_option linter.unusedVariables false
set_option linter.unusedSimpArgs false
open Go
set_option maxRecDepth 20000
set_option linter.unusedSimpArgs false
variable {G : Gh} {L : List Ch} {R : Value → Gh → List Ch → Prop}
theorem u8dig {k : Int} (h : 0 ≤ k) : IntKind.wrap .u8 (48 + k % 10) = ((UInt8.ofNat (48 + k.toNat % 10)).toNat : Int) := by
 have h1 : (48 + k % 10) = ((48 + k.toNat % 10 : Nat) : Int) := by omega
 have h2 : 48 + k.toNat % 10 < 256 := by omega
 rw [h1]
 simp only [IntKind.wrap, UInt8.toNat_ofNat']
 simp [IntKind.signed, IntKind.bits]
theorem markText_s {k0 : Int} (hb : k0 ≤ 4611686018427387904) (k : R (.string (mText k0)) G L) : CallT Tryz.prog 68 #[vi k0] G L R := by
 refine CallT.enter (args := _) Tryz.func68 rfl rfl (by kernel_rfl) rfl ?_
 refine WP.seq (WP.region (RG.pv rfl (PV.mvS (.inr rfl) rfl) (RG.nil (WP.seq (WP.seq (WP.region (RG.ml rfl rfl rfl ?_)))))))
 refine RG.pv rfl (PV.leq rfl rfl rfl) (RG.nil ?_)
 refine WP.cond rfl (fun h1 => ?_) (fun h1 => ?_)
 · have h1 := of_decide_eq_true h1
   have e : mText k0 = txt [109, 48] := by rw [mText, if_pos h1]
   rw [e] at k
   refine WP.seq (WP.region (RG.pv rfl (PV.mvS (.inr rfl) rfl) (RG.nil ?_)))
   refine WP.ret ?_
   exact ⟨_, _, ResV.one rfl rfl, Cv.p, k⟩
 · have h1 := of_decide_eq_false h1
   have e : mText k0 = txt [109] ++ mtGo k0.toNat k0.toNat ByteArray.empty := by rw [mText, if_neg h1]
   rw [e] at k
   refine WP.skip (WP.seq (WP.region (RG.pv rfl (PV.mvS (.inr rfl) rfl) (RG.nil (WP.seq (WP.block ?_))))))
   refine WP.loop3 [] (fun (kk : Int) (f : Nat) (out : ByteArray) => 0 ≤ kk ∧ kk ≤ k0 ∧ kk.toNat ≤ f ∧ out.size + kk ≤ k0 ∧ mtGo f kk.toNat out = mtGo k0.toNat k0.toNat ByteArray.empty) (fun (kk : Int) (f : Nat) (out : ByteArray) => [(0, vi kk), (3, .string out)]) (fun (kk : Int) (f : Nat) (out : ByteArray) => L) (fun (kk : Int) (f : Nat) (out : ByteArray) => kk.toNat) k0 k0.toNat ByteArray.empty ⟨by omega, by omega, by omega, by simp, rfl⟩ ⟨rfl, rfl, trivial⟩ Cv.p ?_
   rintro kk f out τ ⟨hk, hkb, hfk, hs, he⟩
   refine WP.seq (WP.seq (WP.region (RG.ml rfl rfl rfl (RG.pv rfl (PV.gtr rfl rfl rfl) (RG.nil ?_)))))
   refine WP.cond rfl (fun h2 => ?_) (fun h2 => ?_)
   · have h2 := of_decide_eq_true h2
     refine WP.skip (WP.block (WP.seq (WP.region (RG.ml rfl rfl rfl (RG.pv rfl (PV.rem rfl rfl rfl (by omega) (by omega) (by omega)) (RG.pv rfl (PV.add rfl rfl rfl (by omega)) (RG.pv rfl (PV.conv rfl ⟨_, Tryz.underlying3⟩ Tryz.underlying5 rfl (by first | exact u8dig (by omega) | rfl)) ?_)))))))
     refine RG.ot rfl (OT.bslice (F := byteT) (els := [(UInt8.ofNat (48 + kk.toNat % 10))]) rfl El40 rfl (by decide) rfl (by decide) ⟨rfl, (Cl.c rfl), trivial⟩ fun v12 => ?_)
     refine RG.pv rfl (PV.convBS (v := v12) rfl Tryz.underlying40 Tryz.underlying5 Tryz.underlying9 rfl Rs.o) (RG.pv rfl (PV.mvS (.inl rfl) rfl) (RG.pv rfl (PV.addS rfl rfl rfl (by first | omega | (simp [txt_size] <;> omega) | (have : (ByteArray.mk #[109]).size = 1 := rfl; omega))) (RG.pv rfl (PV.mvS (.inr rfl) rfl) (RG.nil (WP.region (RG.ml rfl rfl rfl (RG.pv rfl (PV.quo rfl rfl rfl (by omega) (by omega) (by omega)) ?_)))))))
     refine RG.mr rfl rfl rfl (RG.nil ?_)
     refine ⟨rfl, (kk / 10), (f - 1), (txt [UInt8.ofNat (48 + kk.toNat % 10)] ++ out), ⟨by omega, by omega, by omega, by rw [ByteArray.size_append, txt_size]; simp only [List.length_cons, List.length_nil]; omega, ?_⟩, ⟨rfl, rfl, trivial⟩, trivial, Cv.p, by omega⟩
     obtain ⟨f', rfl⟩ : ∃ f', f = f' + 1 := ⟨f - 1, by omega⟩
     rw [mtGo_step (by omega)] at he
     rw [← he, show (kk / 10).toNat = kk.toNat / 10 by omega]; rfl
   · have h2 := of_decide_eq_false h2
     obtain rfl : kk = 0 := by omega
     rw [show (0 : Int).toNat = 0 from rfl, mtGo_zero] at he
     rw [← he] at k
     refine WP.exit ?_
     refine WP.seq (WP.region (RG.pv rfl (PV.mvS (.inl rfl) rfl) (RG.pv rfl (PV.addS rfl rfl rfl (by first | omega | (simp [txt_size] <;> omega) | (have : (ByteArray.mk #[109]).size = 1 := rfl; omega))) (RG.pv rfl (PV.mvS (.inr rfl) rfl) (RG.nil ?_)))))
     refine WP.ret ?_
     exact ⟨_, _, ResV.one rfl rfl, Cv.p, k⟩
end Go.Proofs.YthhjapiggekjbaaGreat
namespace Go.Proofs.YthhjapiggekjbaaGreat
set_option linter.unusedVariables false
set_option linter.unusedSimpArgs false
open Go
set_option maxRecDepth 20000
set_option linter.unusedSimpArgs false
variable {G : Gh} {L : List Ch} {R : Value → Gh → List Ch → Prop}
def nameByte (c : UInt8) : Bool := decide (97 ≤ c.toNat) && decide (c.toNat ≤ 122) || decide (48 ≤ c.toNat) && decide (c.toNat ≤ 57)
def isName (s : ByteArray) : Bool := decide (1 ≤ s.size) && decide (s.size ≤ 8) && decide (∀ i, i < s.size → nameByte (bt s i) = true)
theorem isName_all {s : ByteArray} (h : ∀ i, i < s.size → nameByte (bt s i) = true) : isName s = (decide (1 ≤ (s.size : Int)) && decide ((s.size : Int) ≤ 8)) := by
 simp only [isName, decide_eq_true h, Bool.and_true]
 congr 1 <;> (rw [decide_eq_decide]; omega)
theorem isName_not {s : ByteArray} {i : Nat} (h : i < s.size) (e : nameByte (bt s i) = false) : isName s = false := by
 simp only [isName, Bool.and_eq_false_iff, decide_eq_false_iff_not]
 exact .inr fun hh => by rw [hh i h] at e; cases e
theorem isName_i {s : ByteArray} (hs : s.size ≤ 9223372036854775807) (k : R (.bool (isName s)) G L) : CallT Tryz.prog 233 #[.string s] G L R := by
 refine CallT.enter (args := _) Tryz.func233 rfl rfl (by kernel_rfl) rfl ?_
 refine WP.seq (WP.region (RG.br rfl rfl rfl (RG.nil (WP.seq (WP.seq (WP.region (RG.mr rfl rfl rfl ?_)))))))
 refine RG.nil (WP.block ?_)
 refine WP.loop1 [0] (fun i => i ≤ s.size ∧ ∀ j, j < i → nameByte (bt s j) = true) (fun i => [(3, vi i)]) (fun i => L) (fun i => s.size - i) 0 ⟨by omega, fun j h => by omega⟩ ⟨rfl, trivial⟩ Cv.p ?_
 rintro i τ ⟨hi, hb⟩
 refine WP.seq (WP.seq (WP.region (RG.ml rfl rfl rfl (RG.pv rfl (PV.mvS (.inl rfl) rfl) (RG.pv rfl (PV.lenS rfl Tryz.underlying9 rfl) (RG.pv rfl (PV.lss rfl rfl rfl) (RG.nil ?_)))))))
 refine WP.cond rfl (fun h1 => ?_) (fun h1 => ?_)
 · have h1 := of_decide_eq_true h1
   refine WP.skip (WP.seq (WP.block (WP.seq (WP.region (RG.pv rfl (PV.mvS (.inl rfl) rfl) (RG.ml rfl rfl rfl (RG.pv rfl (PV.idxStr rfl Tryz.underlying9 rfl rfl rfl (getBG (by omega))) ?_)))))))
   refine RG.pv rfl (PV.lss rfl rfl rfl) (RG.bl rfl rfl rfl ?_)
   refine RG.gs rfl rfl rfl (fun hp => (PV.mvS (.inl rfl) rfl)) ?_
   refine RG.gs rfl rfl rfl (fun hp => (PV.mvI (.inl rfl) rfl)) ?_
   refine RG.gs rfl rfl rfl (fun hp => (PV.idxStr rfl Tryz.underlying9 (gs_t hp) (gs_t hp) rfl (getBG (by first | omega | (simp at hp; omega))))) ?_
   refine RG.gs rfl rfl rfl (fun hp => (PV.gtr rfl (gs_t hp) rfl)) ?_
   refine RG.pv rfl (PV.pickO rfl rfl rfl (fun hq => gs_t (geqF hq))) (RG.bl rfl rfl rfl ?_)
   refine RG.gs rfl rfl rfl (fun hp => (PV.mvS (.inl rfl) rfl)) ?_
   refine RG.gs rfl rfl rfl (fun hp => (PV.mvI (.inl rfl) rfl)) ?_
   refine RG.gs rfl rfl rfl (fun hp => (PV.idxStr rfl Tryz.underlying9 (gs_t hp) (gs_t hp) rfl (getBG (by first | omega | (simp at hp; omega))))) ?_
   refine RG.gs rfl rfl rfl (fun hp => (PV.lss rfl (gs_t hp) rfl)) ?_
   refine RG.gs rfl rfl rfl (fun hp => (PV.mvB (.inl rfl) (gs_t hp))) ?_
   refine RG.gs2 rfl rfl rfl (fun hp => (PV.mvS (.inl rfl) rfl)) ?_
   refine RG.gs2 rfl rfl rfl (fun hp => (PV.mvI (.inl rfl) rfl)) ?_
   refine RG.gs2 rfl rfl rfl (fun hp => (PV.idxStr rfl Tryz.underlying9 (gs_t hp) (gs_t hp) rfl (getBG (by first | omega | (simp at hp; omega))))) ?_
   refine RG.gs2 rfl rfl rfl (fun hp => (PV.gtr rfl (gs_t hp) rfl)) ?_
   refine RG.gs rfl rfl rfl (fun hp => (PV.pickO rfl (gs_t hp) rfl (fun hq => gs_t (gandF hp hq)))) ?_
   refine RG.pv rfl (PV.pickA rfl rfl (fun hq => gs_t (geqT hq)) rfl) (RG.nil ?_)
   refine WP.cond rfl (fun h2 => ?_) (fun h2 => ?_)
   · have e : isName s = false := isName_not (i := i) (by omega) (by simp [nameByte] at h2 ⊢; omega)
     rw [e] at k
     refine WP.seq (WP.region (RG.br rfl rfl rfl (RG.nil ?_)))
     refine WP.ret ?_
     exact ⟨_, _, ResV.one rfl rfl, Cv.p, k⟩
   · have h3 : nameByte (bt s i) = true := by
       simp [nameByte] at h2 ⊢; omega
     have hj : ∀ j, j < i + 1 → nameByte (bt s j) = true := fun j h => by
       by_cases e : j = i
       · subst e; exact h3
       · exact hb j (by omega)
     refine WP.skip (WP.region (RG.ml rfl rfl rfl (RG.pv rfl (PV.add rfl rfl rfl (by omega)) (RG.mr rfl rfl rfl (RG.nil ?_)))))
     exact ⟨rfl, i + 1, ⟨by omega, hj⟩, ⟨rfl, trivial⟩, ⟨rfl, trivial⟩, Cv.p, by omega⟩
 · have h1 := of_decide_eq_false h1
   have e := isName_all (s := s) (fun j h => hb j (by omega))
   rw [e] at k
   refine WP.exit ?_
   refine WP.seq (WP.region (RG.pv rfl (PV.mvS (.inl rfl) rfl) (RG.pv rfl (PV.lenS rfl Tryz.underlying9 rfl) (RG.pv rfl (PV.geq rfl rfl rfl) (RG.bl rfl rfl rfl ?_)))))
   refine RG.gs rfl rfl rfl (fun hp => (PV.mvS (.inl rfl) rfl)) ?_
   refine RG.gs rfl rfl rfl (fun hp => (PV.lenS rfl Tryz.underlying9 (gs_t hp))) ?_
   refine RG.gs rfl rfl rfl (fun hp => (PV.leq rfl (gs_t hp) rfl)) ?_
   refine RG.pv rfl (PV.pickA rfl rfl (fun hq => gs_t (geqT hq)) rfl) (RG.br rfl rfl rfl (RG.nil ?_))
   refine WP.ret ?_
   exact ⟨_, _, ResV.one rfl rfl, Cv.p, k⟩
theorem isName_r {s : ByteArray} (hs : s.size ≤ 9223372036854775807) (k : R (.bool (isName s)) G L) : CallT Tryz.prog 197 #[.string s] G L R := by
 refine CallT.enter (args := _) Tryz.func197 rfl rfl (by kernel_rfl) rfl ?_
 refine WP.seq (WP.region (RG.br rfl rfl rfl (RG.nil (WP.seq (WP.seq (WP.region (RG.mr rfl rfl rfl ?_)))))))
 refine RG.nil (WP.block ?_)
 refine WP.loop1 [0] (fun i => i ≤ s.size ∧ ∀ j, j < i → nameByte (bt s j) = true) (fun i => [(3, vi i)]) (fun i => L) (fun i => s.size - i) 0 ⟨by omega, fun j h => by omega⟩ ⟨rfl, trivial⟩ Cv.p ?_
 rintro i τ ⟨hi, hb⟩
 refine WP.seq (WP.seq (WP.region (RG.ml rfl rfl rfl (RG.pv rfl (PV.mvS (.inl rfl) rfl) (RG.pv rfl (PV.lenS rfl Tryz.underlying9 rfl) (RG.pv rfl (PV.lss rfl rfl rfl) (RG.nil ?_)))))))
 refine WP.cond rfl (fun h1 => ?_) (fun h1 => ?_)
 · have h1 := of_decide_eq_true h1
   refine WP.skip (WP.seq (WP.block (WP.seq (WP.region (RG.pv rfl (PV.mvS (.inl rfl) rfl) (RG.ml rfl rfl rfl (RG.pv rfl (PV.idxStr rfl Tryz.underlying9 rfl rfl rfl (getBG (by omega))) ?_)))))))
   refine RG.pv rfl (PV.geq rfl rfl rfl) (RG.bl rfl rfl rfl ?_)
   refine RG.gs rfl rfl rfl (fun hp => (PV.mvS (.inl rfl) rfl)) ?_
   refine RG.gs rfl rfl rfl (fun hp => (PV.mvI (.inl rfl) rfl)) ?_
   refine RG.gs rfl rfl rfl (fun hp => (PV.idxStr rfl Tryz.underlying9 (gs_t hp) (gs_t hp) rfl (getBG (by first | omega | (simp at hp; omega))))) ?_
   refine RG.gs rfl rfl rfl (fun hp => (PV.leq rfl (gs_t hp) rfl)) ?_
   refine RG.pv rfl (PV.pickA rfl rfl (fun hq => gs_t (geqT hq)) rfl) (RG.bl rfl rfl rfl ?_)
   refine RG.gs rfl rfl rfl (fun hp => (PV.mvS (.inl rfl) rfl)) ?_
   refine RG.gs rfl rfl rfl (fun hp => (PV.mvI (.inl rfl) rfl)) ?_
   refine RG.gs rfl rfl rfl (fun hp => (PV.idxStr rfl Tryz.underlying9 (gs_t hp) (gs_t hp) rfl (getBG (by first | omega | (simp at hp; omega))))) ?_
   refine RG.gs rfl rfl rfl (fun hp => (PV.geq rfl (gs_t hp) rfl)) ?_
   refine RG.gs rfl rfl rfl (fun hp => (PV.mvB (.inl rfl) (gs_t hp))) ?_
   refine RG.gs2 rfl rfl rfl (fun hp => (PV.mvS (.inl rfl) rfl)) ?_
   refine RG.gs2 rfl rfl rfl (fun hp => (PV.mvI (.inl rfl) rfl)) ?_
   refine RG.gs2 rfl rfl rfl (fun hp => (PV.idxStr rfl Tryz.underlying9 (gs_t hp) (gs_t hp) rfl (getBG (by first | omega | (simp at hp; omega))))) ?_
   refine RG.gs2 rfl rfl rfl (fun hp => (PV.leq rfl (gs_t hp) rfl)) ?_
   refine RG.gs rfl rfl rfl (fun hp => (PV.pickA rfl (gs_t hp) (fun hq => gs_t (gandT hp hq)) rfl)) ?_
   refine RG.pv rfl (PV.pickO rfl rfl rfl (fun hq => gs_t (geqF hq))) (RG.pv rfl (PV.not rfl rfl) (RG.nil ?_))
   refine WP.cond rfl (fun h2 => ?_) (fun h2 => ?_)
   · have e : isName s = false := isName_not (i := i) (by omega) (by simp [nameByte] at h2 ⊢; omega)
     rw [e] at k
     refine WP.seq (WP.region (RG.br rfl rfl rfl (RG.nil ?_)))
     refine WP.ret ?_
     exact ⟨_, _, ResV.one rfl rfl, Cv.p, k⟩
   · have h3 : nameByte (bt s i) = true := by
       simp [nameByte] at h2 ⊢; omega
     have hj : ∀ j, j < i + 1 → nameByte (bt s j) = true := fun j h => by
       by_cases e : j = i
       · subst e; exact h3
       · exact hb j (by omega)
     refine WP.skip (WP.region (RG.ml rfl rfl rfl (RG.pv rfl (PV.add rfl rfl rfl (by omega)) (RG.mr rfl rfl rfl (RG.nil ?_)))))
     exact ⟨rfl, i + 1, ⟨by omega, hj⟩, ⟨rfl, trivial⟩, ⟨rfl, trivial⟩, Cv.p, by omega⟩
 · have h1 := of_decide_eq_false h1
   have e := isName_all (s := s) (fun j h => hb j (by omega))
   rw [e] at k
   refine WP.exit ?_
   refine WP.seq (WP.region (RG.pv rfl (PV.mvS (.inl rfl) rfl) (RG.pv rfl (PV.lenS rfl Tryz.underlying9 rfl) (RG.pv rfl (PV.geq rfl rfl rfl) (RG.bl rfl rfl rfl ?_)))))
   refine RG.gs rfl rfl rfl (fun hp => (PV.mvS (.inl rfl) rfl)) ?_
   refine RG.gs rfl rfl rfl (fun hp => (PV.lenS rfl Tryz.underlying9 (gs_t hp))) ?_
   refine RG.gs rfl rfl rfl (fun hp => (PV.leq rfl (gs_t hp) rfl)) ?_
   refine RG.pv rfl (PV.pickA rfl rfl (fun hq => gs_t (geqT hq)) rfl) (RG.br rfl rfl rfl (RG.nil ?_))
   refine WP.ret ?_
   exact ⟨_, _, ResV.one rfl rfl, Cv.p, k⟩
def unitB (p : Pt) : Bool := within p.x (-40) 39 && within p.y (-40) 39
def validLb (l : Label) : Bool := (within l.layer 0 7 && unitB l.at_) && isName l.name
theorem validLb_i {l : Label} (hs : l.name.size ≤ 9223372036854775807) (k : R (.bool (validLb l)) G L) : CallT Tryz.prog 239 #[vT labelT l] G L R := by
 refine CallT.enter (args := _) Tryz.func239 rfl rfl (by kernel_rfl) rfl ?_
 refine WP.seq (WP.region ?_)
 refine RG.ot rfl (OT.box (cs := labelT.enc l) rfl rfl rfl fun b1 => ?_)
 refine RG.br rfl rfl rfl (RG.nil (WP.seq (WP.region (RG.pv rfl (PV.field rfl Fo193_0 rfl) (RG.pv rfl (PV.load1 rfl Sc2 rfl (Rd.blk rfl)) ?_)))))
 refine RG.callF (vs := [_, _, _]) rfl rfl En43 rfl (within_s ?_)
 refine RG.bl rfl rfl rfl ?_
 refine RG.gs rfl rfl rfl (fun hp => (PV.field rfl Fo193_1 rfl)) ?_
 refine RG.gs rfl rfl rfl (fun hp => (PV.loadB (vs := [_, _]) rfl Ag183 (gs_t hp) rfl rfl)) ?_
 refine RG.gsC rfl rfl rfl rfl En250 (fun hp => ⟨_, (acons (gs_t hp) anil), unitCell_s ⟨rfl, rfl, rfl⟩⟩) ?_
 refine RG.pv rfl (PV.pickA rfl rfl (fun hq => gs_t (geqT hq)) rfl) (RG.bl rfl rfl rfl ?_)
 refine RG.gs rfl rfl rfl (fun hp => (PV.field rfl Fo193_2 rfl)) ?_
 refine RG.gs rfl rfl rfl (fun hp => (PV.load1 rfl Sc9 (gs_t hp) (Rd.blk rfl))) ?_
 refine RG.gsC rfl rfl rfl rfl En233 (fun hp => ⟨_, (acons (gs_t hp) anil), isName_i hs ⟨rfl, rfl, rfl⟩⟩) ?_
 refine RG.pv rfl (PV.pickA rfl rfl (fun hq => gs_t (geqT hq)) rfl) (RG.br rfl rfl rfl (RG.nil ?_))
 refine WP.ret ?_
 exact ⟨_, _, ResV.one rfl rfl, Cv.p, k⟩
theorem l09In_s {a b c : Int} (k : R (.bool (within a b c)) G L) : CallT Tryz.prog 151 #[vi a, vi b, vi c] G L R := by
 refine CallT.enter (args := _) Tryz.func151 rfl rfl (by kernel_rfl) rfl ?_
 refine WP.seq (WP.region (RG.br rfl rfl rfl (RG.nil (WP.seq (WP.region (RG.ml rfl rfl rfl (RG.ml rfl rfl rfl ?_)))))))
 refine RG.pv rfl (PV.geq rfl rfl rfl) (RG.bl rfl rfl rfl ?_)
 refine RG.gs rfl rfl rfl (fun hp => (PV.mvI (.inl rfl) rfl)) ?_
 refine RG.gs rfl rfl rfl (fun hp => (PV.mvI (.inl rfl) rfl)) ?_
 refine RG.gs rfl rfl rfl (fun hp => (PV.leq rfl (gs_t hp) (gs_t hp))) ?_
 refine RG.pv rfl (PV.pickA rfl rfl (fun hq => gs_t (geqT hq)) rfl) (RG.br rfl rfl rfl (RG.nil ?_))
 refine WP.ret ?_
 exact ⟨_, _, ResV.one rfl rfl, Cv.p, k⟩
theorem l09Layer_s {a : Int} (k : R (.bool (within a 0 7)) G L) : CallT Tryz.prog 222 #[vi a] G L R := by
 refine CallT.enter (args := _) Tryz.func222 rfl rfl (by kernel_rfl) rfl ?_
 refine WP.seq (WP.region (RG.br rfl rfl rfl (RG.nil (WP.seq (WP.region (RG.ml rfl rfl rfl ?_))))))
 refine RG.callF (vs := [_, _, _]) rfl rfl En151 rfl (l09In_s ?_)
 refine RG.br rfl rfl rfl (RG.nil ?_)
 refine WP.ret ?_
 exact ⟨_, _, ResV.one rfl rfl, Cv.p, k⟩
theorem l09Unit_s {p : Pt} (k : R (.bool (unitB p)) G L) : CallT Tryz.prog 223 #[vpt p] G L R := by
 refine CallT.enter (args := _) Tryz.func223 rfl rfl (by kernel_rfl) rfl ?_
 refine WP.seq (WP.region ?_)
 refine RG.ot rfl (OT.box (cs := ptT.enc p) rfl rfl rfl fun b1 => ?_)
 refine RG.br rfl rfl rfl (RG.nil (WP.seq (WP.region (RG.pv rfl (PV.field rfl Fo183_0 rfl) (RG.pv rfl (PV.load1 rfl Sc2 rfl (Rd.blk rfl)) ?_)))))
 refine RG.callF (vs := [_, _, _]) rfl rfl En151 rfl (l09In_s ?_)
 refine RG.bl rfl rfl rfl ?_
 refine RG.gs rfl rfl rfl (fun hp => (PV.field rfl Fo183_1 rfl)) ?_
 refine RG.gs rfl rfl rfl (fun hp => (PV.load1 rfl Sc2 (gs_t hp) (Rd.blk rfl))) ?_
 refine RG.gsC rfl rfl rfl rfl En151 (fun hp => ⟨_, (acons (gs_t hp) (acons rfl (acons rfl anil))), l09In_s ⟨rfl, rfl, rfl⟩⟩) ?_
 refine RG.pv rfl (PV.pickA rfl rfl (fun hq => gs_t (geqT hq)) rfl) (RG.br rfl rfl rfl (RG.nil ?_))
 refine WP.ret ?_
 exact ⟨_, _, ResV.one rfl rfl, Cv.p, k⟩
theorem validLb_r {l : Label} (hs : l.name.size ≤ 9223372036854775807) (k : R (.bool (validLb l)) G L) : CallT Tryz.prog 199 #[vT labelT l] G L R := by
 refine CallT.enter (args := _) Tryz.func199 rfl rfl (by kernel_rfl) rfl ?_
 refine WP.seq (WP.region ?_)
 refine RG.ot rfl (OT.box (cs := labelT.enc l) rfl rfl rfl fun b1 => ?_)
 refine RG.br rfl rfl rfl (RG.nil (WP.seq (WP.region (RG.pv rfl (PV.field rfl Fo193_0 rfl) (RG.pv rfl (PV.load1 rfl Sc2 rfl (Rd.blk rfl)) ?_)))))
 refine RG.callF (vs := [_]) rfl rfl En222 rfl (l09Layer_s ?_)
 refine RG.bl rfl rfl rfl ?_
 refine RG.gs rfl rfl rfl (fun hp => (PV.field rfl Fo193_1 rfl)) ?_
 refine RG.gs rfl rfl rfl (fun hp => (PV.loadB (vs := [_, _]) rfl Ag183 (gs_t hp) rfl rfl)) ?_
 refine RG.gsC rfl rfl rfl rfl En223 (fun hp => ⟨_, (acons (gs_t hp) anil), l09Unit_s ⟨rfl, rfl, rfl⟩⟩) ?_
 refine RG.pv rfl (PV.pickA rfl rfl (fun hq => gs_t (geqT hq)) rfl) (RG.bl rfl rfl rfl ?_)
 refine RG.gs rfl rfl rfl (fun hp => (PV.field rfl Fo193_2 rfl)) ?_
 refine RG.gs rfl rfl rfl (fun hp => (PV.load1 rfl Sc9 (gs_t hp) (Rd.blk rfl))) ?_
 refine RG.gsC rfl rfl rfl rfl En197 (fun hp => ⟨_, (acons (gs_t hp) anil), isName_r hs ⟨rfl, rfl, rfl⟩⟩) ?_
 refine RG.pv rfl (PV.pickA rfl rfl (fun hq => gs_t (geqT hq)) rfl) (RG.br rfl rfl rfl (RG.nil ?_))
 refine WP.ret ?_
 exact ⟨_, _, ResV.one rfl rfl, Cv.p, k⟩
theorem indexF_label {v fv : Value} {xs : List (Label)} {p : (Label) → Bool} (h1 : Rs G L labelT v xs) (hf : ∀ i, i < xs.length → CB Tryz.prog G L fv [vT labelT (gd xs i)] (.bool (p (gd xs i)))) (k : R (vi (idxI p xs)) G L) : CallT Tryz.prog 249 #[v, fv] G L R := by
 refine CallT.bd h1 fun hb => ?_
 refine CallT.enter (args := _) Tryz.func249 rfl rfl (by kernel_rfl) rfl ?_
 refine WP.seq (WP.region (RG.mr rfl rfl rfl (RG.nil (WP.seq (WP.seq (WP.region (RG.pv rfl (PV.move (v := v) rfl rfl) ?_)))))))
 refine RG.pv rfl (PV.len (v := v) rfl Tryz.underlying113 rfl (SlF.r h1)) (RG.ml rfl rfl rfl (RG.nil (WP.block ?_)))
 refine WP.loop1 [0, 1, 7] (fun i => i ≤ xs.length ∧ ∀ j, j < i → p (gd xs j) = false) (fun i => [(8, vi i)]) (fun i => L) (fun i => xs.length - i) 0 ⟨by omega, fun j h => by omega⟩ ⟨rfl, trivial⟩ Cv.p ?_
 rintro i τ ⟨hi, hj⟩
 refine WP.seq (WP.region (RG.pv rfl (PV.lss rfl rfl rfl) (RG.nil (WP.seq ?_))))
 refine WP.cond rfl (fun h2 => ?_) (fun h2 => ?_)
 · have h2 := of_decide_eq_true h2
   refine WP.skip (WP.seq (WP.block (WP.seq (WP.region (RG.ml rfl rfl rfl (RG.mr rfl rfl rfl (RG.nil ?_)))))))
   refine WP.seq (WP.region (RG.pv rfl (PV.move (v := fv) rfl rfl) (RG.pv rfl (PV.move (v := v) rfl rfl) (RG.ml rfl rfl rfl (RG.pv rfl (PV.idxS (v := v) rfl Is113 rfl (SlF.r h1) rfl rfl (by omega)) (RG.pv rfl (PV.loadE rfl Ag193 rfl rfl (El.r h1 (getG (by omega)))) ?_))))))
   refine RG.callB (vs := [_]) rfl rfl rfl rfl (CB.up (hf i (by omega))) ?_
   refine RG.nil ?_
   refine WP.cond rfl (fun h3 => ?_) (fun h3 => ?_)
   · rw [idxI_at (by omega) h3 hj] at k
     refine WP.seq (WP.region (RG.ml rfl rfl rfl (RG.mr rfl rfl rfl (RG.nil ?_))))
     refine WP.ret ?_
     exact ⟨_, _, ResV.one rfl rfl, Cv.p, k⟩
   · have hj' : ∀ j, j < i + 1 → p (gd xs j) = false := fun j h => by
       by_cases c : j = i
       · rw [c]; exact h3
       · exact hj j (by omega)
     refine WP.skip (WP.region (RG.pv rfl (PV.add rfl rfl rfl (by omega)) (RG.ml rfl rfl rfl (RG.nil ?_))))
     exact ⟨rfl, i + 1, ⟨by omega, hj'⟩, ⟨rfl, trivial⟩, ⟨rfl, rfl, rfl, trivial⟩, Cv.p, by omega⟩
 · have h2 := of_decide_eq_false h2
   rw [idxI_none (fun j h => hj j (by omega))] at k
   refine WP.exit ?_
   refine WP.seq (WP.region (RG.mr rfl rfl rfl (RG.nil ?_)))
   refine WP.ret ?_
   exact ⟨_, _, ResV.one rfl rfl, Cv.p, k⟩
theorem containsF_label {v fv : Value} {xs : List (Label)} {p : (Label) → Bool} (h1 : Rs G L labelT v xs) (hf : ∀ i, i < xs.length → CB Tryz.prog G L fv [vT labelT (gd xs i)] (.bool (p (gd xs i)))) (k : R (.bool (xs.any p)) G L) : CallT Tryz.prog 237 #[v, fv] G L R := by
 rw [← idxI_any] at k
 refine CallT.enter (args := _) Tryz.func237 rfl rfl (by kernel_rfl) rfl ?_
 refine WP.seq (WP.region (RG.br rfl rfl rfl (RG.nil (WP.seq (WP.region (RG.pv rfl (PV.move (v := v) rfl rfl) (RG.pv rfl (PV.move (v := fv) rfl rfl) ?_)))))))
 refine RG.callF (vs := [v, fv]) rfl rfl En249 rfl (indexF_label (Rs.up h1) (fun i hi => (hf i hi).up) ?_)
 refine RG.pv rfl (PV.geq rfl rfl rfl) (RG.br rfl rfl rfl (RG.nil ?_))
 refine WP.ret ?_
 exact ⟨_, _, ResV.one rfl rfl, Cv.p, k⟩
theorem toLabel_s {l : Label} (k : R (vT labelT l) G L) : CallT Tryz.prog 162 #[vT labelT l] G L R := by
 refine CallT.enter (args := _) Tryz.func162 rfl rfl (by kernel_rfl) rfl ?_
 refine WP.seq (WP.region ?_)
 refine RG.ot rfl (OT.box (cs := labelT.enc l) rfl rfl rfl fun b1 => ?_)
 refine RG.ot rfl (OT.alloc rfl Zr193 fun b2 => ?_)
 refine RG.nil (WP.seq (WP.region ?_))
 refine RG.ot rfl (OT.alloc rfl Zr193 fun b3 => ?_)
 refine RG.nil (WP.seq (WP.region (RG.pv rfl (PV.field rfl Fo225_0 rfl) (RG.pv rfl (PV.load1 rfl Sc2 rfl (Rd.blk rfl)) (RG.pv rfl (PV.field rfl Fo193_0 rfl) ?_)))))
 refine RG.ot rfl (OT.storeB (vs := [vi _]) (cs' := [_, _, _, _]) rfl Sz2 rfl rfl (Cl.c rfl) rfl (OneC.c rfl) rfl rfl ?_)
 refine RG.nil (WP.seq (WP.region (RG.pv rfl (PV.field rfl Fo225_1 rfl) (RG.pv rfl (PV.loadB (vs := [_, _]) rfl Ag223 rfl rfl rfl) ?_))))
 refine RG.callF (vs := [_]) rfl rfl En204 rfl (toPoint_s ?_)
 refine RG.pv rfl (PV.field rfl Fo193_1 rfl) ?_
 refine RG.ot rfl (OT.storeB (vs := [vi _, vi _]) (cs' := [_, _, _, _]) rfl Sz183 rfl rfl (Cl.c rfl) rfl (OneC.c rfl) rfl rfl ?_)
 refine RG.nil (WP.seq (WP.region (RG.pv rfl (PV.field rfl Fo225_2 rfl) (RG.pv rfl (PV.load1 rfl Sc9 rfl (Rd.blk rfl)) (RG.pv rfl (PV.field rfl Fo193_2 rfl) ?_)))))
 refine RG.ot rfl (OT.storeB (vs := [.string _]) (cs' := [_, _, _, _]) rfl Sz9 rfl rfl (Cl.c rfl) rfl (OneC.c rfl) rfl rfl ?_)
 refine RG.nil (WP.seq (WP.region (RG.pv rfl (PV.loadW rfl Ag193 rfl rfl) ?_)))
 refine RG.ot rfl (OT.storeW (vs := [vi _, vi _, vi _, .string _]) rfl Sz193 rfl rfl (Cl.c rfl) rfl rfl (OneC.c rfl) ?_)
 refine RG.nil ?_
 refine WP.ret ?_
 exact ⟨_, _, ResV.one rfl (RV1.cell rfl Ag193 rfl), Cv.p, k⟩
theorem toLabelS_s {v : Value} {xs : List Label} (h1 : Rs G L labelT v xs) (hb : xs.length ≤ 1048576) (k : ∀ v', R v' G (osl 193 labelT v' xs :: L)) : CallT Tryz.prog 116 #[v] G L R := by
 refine CallT.enter (args := _) Tryz.func116 rfl rfl (by kernel_rfl) rfl ?_
 refine WP.seq (WP.region (RG.pv rfl (PV.asg rfl rfl) (RG.nil (WP.seq (WP.region (RG.pv rfl (PV.move (v := v) rfl rfl) (RG.pv rfl (PV.len (v := v) rfl Tryz.underlying104 rfl (SlF.r h1)) ?_)))))))
 refine RG.ot rfl (OT.make (F := labelT) (a0 := default) rfl El113 rfl (by decide) rfl rfl (by omega) (by omega) fun v7 => ?_)
 refine RG.pv rfl (PV.asg (v := v7) rfl rfl) (RG.nil (WP.seq (WP.seq (WP.region (RG.mr rfl rfl rfl (RG.nil (WP.block ?_)))))))
 refine WP.loop2 [0, 3] (fun i ys => i ≤ xs.length ∧ ys.length = xs.length ∧ ∀ j, j < i → ys[j]? = xs[j]?) (fun i ys => [(4, vi i)]) (fun i ys => osl 193 labelT v7 ys :: L) (fun i ys => xs.length - i) 0 (List.replicate xs.length default) ⟨by omega, by simp, fun j h => by omega⟩ ⟨rfl, trivial⟩ Cv.p ?_
 rintro i ys τ ⟨hi, hl, he⟩
 refine WP.seq (WP.seq (WP.region (RG.ml rfl rfl rfl (RG.pv rfl (PV.move (v := v) rfl rfl) (RG.pv rfl (PV.len (v := v) rfl Tryz.underlying104 rfl (SlF.r h1)) (RG.pv rfl (PV.lss rfl rfl rfl) (RG.nil ?_)))))))
 refine WP.cond rfl (fun h2 => ?_) (fun h2 => ?_)
 · have h2 := of_decide_eq_true h2
   refine WP.skip (WP.seq (WP.block (WP.region (RG.pv rfl (PV.move (v := v7) rfl rfl) (RG.ml rfl rfl rfl (RG.pv rfl (PV.move (v := v) rfl rfl) (RG.ml rfl rfl rfl ?_)))))))
   refine RG.pv rfl (PV.idxS (v := v) rfl Is104 rfl (SlF.r h1) rfl rfl (by omega)) (RG.pv rfl (PV.loadE rfl Ag225 rfl rfl (El.r h1 (getG (by omega)))) ?_)
   refine RG.callF (vs := [_]) rfl rfl En162 rfl (toLabel_s ?_)
   refine RG.pv rfl (PV.idxS (v := v7) rfl Is113 rfl SlF.o rfl rfl (by omega)) ?_
   refine RG.ot rfl (OT.storeE (F := labelT) rfl Sz193 rfl rfl rfl (Cl.c rfl) (OneC.c rfl) (by omega) ?_)
   refine RG.nil (WP.region (RG.ml rfl rfl rfl (RG.pv rfl (PV.add rfl rfl rfl (by omega)) (RG.mr rfl rfl rfl (RG.nil ?_)))))
   exact ⟨rfl, i + 1, _, ⟨by omega, by simpa using hl, set_pre he (getG (by omega)) hl⟩, ⟨rfl, trivial⟩, ⟨rfl, rfl, trivial⟩, Cv.p, by omega⟩
 · have h2 := of_decide_eq_false h2
   obtain rfl := pre_eq he hl (by omega)
   refine WP.exit ?_
   refine WP.seq (WP.region (RG.pv rfl (PV.move (v := v7) rfl rfl) (RG.pv rfl (PV.asg (v := v7) rfl rfl) (RG.nil ?_))))
   refine WP.ret ?_
   exact ⟨_, _, ResV.one rfl rfl, Cv.p, k v7⟩
theorem eqPoint_s {p q : Pt} (k : R (.bool (decide (p = q))) G L) : CallT Tryz.prog 207 #[vpt p, vpt q] G L R := by
 refine CallT.enter (args := _) Tryz.func207 rfl rfl (by kernel_rfl) rfl ?_
 refine WP.seq (WP.region ?_)
 refine RG.ot rfl (OT.box (cs := ptT.enc p) rfl rfl rfl fun b2 => ?_)
 refine RG.ot rfl (OT.box (cs := ptT.enc q) rfl rfl rfl fun b3 => ?_)
 refine RG.br rfl rfl rfl (RG.nil (WP.seq (WP.seq (WP.region (RG.pv rfl (PV.field rfl Fo183_0 rfl) (RG.pv rfl (PV.load1 rfl Sc2 rfl (Rd.blk rfl)) (RG.pv rfl (PV.field rfl Fo183_0 rfl) ?_)))))))
 refine RG.pv rfl (PV.load1 rfl Sc2 rfl (Rd.blk rfl)) (RG.pv rfl (PV.neq rfl rfl rfl) (RG.nil ?_))
 refine WP.cond rfl (fun h1 => ?_) (fun h1 => ?_)
 · have e : decide (p = q) = false := by
     obtain ⟨a1, a2⟩ := p; obtain ⟨b1, b2⟩ := q
     simp at h1 ⊢; intro e; exact absurd e h1
   rw [e] at k
   refine WP.seq (WP.region (RG.br rfl rfl rfl (RG.nil ?_)))
   refine WP.ret ?_
   exact ⟨_, _, ResV.one rfl rfl, Cv.p, k⟩
 · refine WP.skip ?_
   refine WP.seq (WP.seq (WP.region (RG.pv rfl (PV.field rfl Fo183_1 rfl) (RG.pv rfl (PV.load1 rfl Sc2 rfl (Rd.blk rfl)) (RG.pv rfl (PV.field rfl Fo183_1 rfl) (RG.pv rfl (PV.load1 rfl Sc2 rfl (Rd.blk rfl)) (RG.pv rfl (PV.neq rfl rfl rfl) ?_)))))))
   refine RG.nil ?_
   refine WP.cond rfl (fun h2 => ?_) (fun h2 => ?_)
   · have e : decide (p = q) = false := by
       obtain ⟨a1, a2⟩ := p; obtain ⟨b1, b2⟩ := q
       simp at h2 ⊢; exact fun _ => h2
     rw [e] at k
     refine WP.seq (WP.region (RG.br rfl rfl rfl (RG.nil ?_)))
     refine WP.ret ?_
     exact ⟨_, _, ResV.one rfl rfl, Cv.p, k⟩
   · have e : decide (p = q) = true := by
       obtain ⟨a1, a2⟩ := p; obtain ⟨b1, b2⟩ := q
       simp at h1 h2 ⊢; exact ⟨h1, h2⟩
     rw [e] at k
     refine WP.skip (WP.seq (WP.region (RG.br rfl rfl rfl (RG.nil ?_))))
     refine WP.ret ?_
     exact ⟨_, _, ResV.one rfl rfl, Cv.p, k⟩
theorem eqLabel_s {a b : Label} (k : R (.bool (decide (a = b))) G L) : CallT Tryz.prog 167 #[vT labelT a, vT labelT b] G L R := by
 refine CallT.enter (args := _) Tryz.func167 rfl rfl (by kernel_rfl) rfl ?_
 refine WP.seq (WP.region ?_)
 refine RG.ot rfl (OT.box (cs := labelT.enc a) rfl rfl rfl fun b2 => ?_)
 refine RG.ot rfl (OT.box (cs := labelT.enc b) rfl rfl rfl fun b3 => ?_)
 refine RG.br rfl rfl rfl (RG.nil (WP.seq (WP.seq (WP.region (RG.pv rfl (PV.field rfl Fo193_0 rfl) (RG.pv rfl (PV.load1 rfl Sc2 rfl (Rd.blk rfl)) (RG.pv rfl (PV.field rfl Fo193_0 rfl) ?_)))))))
 refine RG.pv rfl (PV.load1 rfl Sc2 rfl (Rd.blk rfl)) (RG.pv rfl (PV.neq rfl rfl rfl) (RG.nil ?_))
 refine WP.cond rfl (fun h1 => ?_) (fun h1 => ?_)
 · have e : decide (a = b) = false := by
     rw [decide_eq_false_iff_not]; rintro rfl; simp at h1
   rw [e] at k
   refine WP.seq (WP.region (RG.br rfl rfl rfl (RG.nil ?_)))
   refine WP.ret ?_
   exact ⟨_, _, ResV.one rfl rfl, Cv.p, k⟩
 · refine WP.skip ?_
   refine WP.seq (WP.seq (WP.region (RG.pv rfl (PV.field rfl Fo193_1 rfl) (RG.pv rfl (PV.loadB (vs := [_, _]) rfl Ag183 rfl rfl rfl) (RG.pv rfl (PV.field rfl Fo193_1 rfl) (RG.pv rfl (PV.loadB (vs := [_, _]) rfl Ag183 rfl rfl rfl) ?_))))))
   refine RG.callF (vs := [_, _]) rfl rfl En207 rfl (eqPoint_s ?_)
   refine RG.pv rfl (PV.not rfl rfl) (RG.nil ?_)
   refine WP.cond rfl (fun h2 => ?_) (fun h2 => ?_)
   · have e : decide (a = b) = false := by
       rw [decide_eq_false_iff_not]; rintro rfl; simp at h2
     rw [e] at k
     refine WP.seq (WP.region (RG.br rfl rfl rfl (RG.nil ?_)))
     refine WP.ret ?_
     exact ⟨_, _, ResV.one rfl rfl, Cv.p, k⟩
   · refine WP.skip ?_
     refine WP.seq (WP.seq (WP.region (RG.pv rfl (PV.field rfl Fo193_2 rfl) (RG.pv rfl (PV.load1 rfl Sc9 rfl (Rd.blk rfl)) (RG.pv rfl (PV.field rfl Fo193_2 rfl) (RG.pv rfl (PV.load1 rfl Sc9 rfl (Rd.blk rfl)) (RG.pv rfl (PV.neqS rfl rfl rfl) ?_)))))))
     refine RG.nil ?_
     refine WP.cond rfl (fun h3 => ?_) (fun h3 => ?_)
     · have e : decide (a = b) = false := by
         rw [decide_eq_false_iff_not]; rintro rfl; simp at h3
       rw [e] at k
       refine WP.seq (WP.region (RG.br rfl rfl rfl (RG.nil ?_)))
       refine WP.ret ?_
       exact ⟨_, _, ResV.one rfl rfl, Cv.p, k⟩
     · have e : decide (a = b) = true := by
         obtain ⟨a1, a2, a3⟩ := a; obtain ⟨b1, b2, b3⟩ := b
         simp at h1 h2 h3 ⊢; exact ⟨h1, h2, h3⟩
       rw [e] at k
       refine WP.skip (WP.seq (WP.region (RG.br rfl rfl rfl (RG.nil ?_))))
       refine WP.ret ?_
       exact ⟨_, _, ResV.one rfl rfl, Cv.p, k⟩
theorem eqLabelS_s {v u : Value} {xs ys : List Label} (h1 : Rs G L labelT v xs) (h2 : Rs G L labelT u ys) (k : R (.bool (decide (xs = ys))) G L) : CallT Tryz.prog 122 #[v, u] G L R := by
 refine CallT.bd h1 fun hb => ?_
 refine CallT.bd h2 fun hb' => ?_
 refine CallT.enter (args := _) Tryz.func122 rfl rfl (by kernel_rfl) rfl ?_
 refine WP.seq (WP.region (RG.br rfl rfl rfl (RG.nil (WP.seq (WP.seq (WP.region (RG.pv rfl (PV.move (v := v) rfl rfl) ?_)))))))
 refine RG.pv rfl (PV.len (v := v) rfl Tryz.underlying113 rfl (SlF.r h1)) (RG.pv rfl (PV.move (v := u) rfl rfl) (RG.pv rfl (PV.len (v := u) rfl Tryz.underlying113 rfl (SlF.r h2)) (RG.pv rfl (PV.neq rfl rfl rfl) (RG.nil ?_))))
 refine WP.cond rfl (fun h3 => ?_) (fun h3 => ?_)
 · have e : decide (xs = ys) = false := by
     rw [decide_eq_false_iff_not]; rintro rfl; simp at h3
   rw [e] at k
   refine WP.seq (WP.region (RG.br rfl rfl rfl (RG.nil ?_)))
   refine WP.ret ?_
   exact ⟨_, _, ResV.one rfl rfl, Cv.p, k⟩
 · have hl : xs.length = ys.length := by simp at h3; omega
   refine WP.skip (WP.seq (WP.seq (WP.region (RG.mr rfl rfl rfl (RG.nil (WP.block ?_))))))
   refine WP.loop1 [0, 1] (fun i => i ≤ xs.length ∧ ∀ j, j < i → xs[j]? = ys[j]?) (fun i => [(5, vi i)]) (fun i => L) (fun i => xs.length - i) 0 ⟨by omega, fun j h => by omega⟩ ⟨rfl, trivial⟩ Cv.p ?_
   rintro i τ ⟨hi, he⟩
   refine WP.seq (WP.seq (WP.region (RG.ml rfl rfl rfl (RG.pv rfl (PV.move (v := v) rfl rfl) (RG.pv rfl (PV.len (v := v) rfl Tryz.underlying113 rfl (SlF.r h1)) (RG.pv rfl (PV.lss rfl rfl rfl) (RG.nil ?_)))))))
   refine WP.cond rfl (fun h4 => ?_) (fun h4 => ?_)
   · have h4 := of_decide_eq_true h4
     have h5 : i < xs.length := by omega
     refine WP.skip (WP.seq (WP.block (WP.seq ?_)))
     refine WP.regionQ (by kernel_rfl) (by kernel_rfl) ?_
     refine RQ.pv rfl (PV.move (v := v) rfl rfl) ?_
     refine RQ.pv rfl (PV.mvI (.inl rfl) rfl) ?_
     refine RQ.pv rfl (PV.idxS (v := v) rfl Is113 rfl (SlF.r h1) rfl rfl (by omega)) ?_
     refine RQ.pv rfl (PV.loadE rfl Ag193 rfl rfl (El.r h1 (getG (by omega)))) ?_
     refine RQ.pv rfl (PV.move (v := u) rfl rfl) ?_
     refine RQ.pv rfl (PV.mvI (.inl rfl) rfl) ?_
     refine RQ.pv rfl (PV.idxS (v := u) rfl Is113 rfl (SlF.r h2) rfl rfl (by omega)) ?_
     refine RQ.pv rfl (PV.loadE rfl Ag193 rfl rfl (El.r h2 (getG (by omega)))) ?_
     refine RQ.callF (vs := [_, _]) rfl rfl En167 rfl (eqLabel_s ⟨rfl, rfl, rfl⟩) ?_
     refine RQ.pv rfl (PV.not rfl rfl) ?_
     refine RQ.nil ?_
     refine WP.cond rfl (fun h6 => ?_) (fun h6 => ?_)
     · have e : decide (xs = ys) = false := by
         rw [decide_eq_false_iff_not]; rintro rfl; simp at h6
       rw [e] at k
       refine WP.seq (WP.region (RG.br rfl rfl rfl (RG.nil ?_)))
       refine WP.ret ?_
       exact ⟨_, _, ResV.one rfl rfl, Cv.p, k⟩
     · have e : gd xs i = gd ys i := by simpa using h6
       have he' : ∀ j, j < i + 1 → xs[j]? = ys[j]? := fun j h => by
         by_cases c : j = i
         · rw [c, getG h5, getG (show i < ys.length by omega), e]
         · exact he j (by omega)
       refine WP.skip (WP.region (RG.ml rfl rfl rfl (RG.pv rfl (PV.add rfl rfl rfl (by omega)) (RG.mr rfl rfl rfl (RG.nil ?_)))))
       exact ⟨rfl, i + 1, ⟨by omega, he'⟩, ⟨rfl, trivial⟩, ⟨rfl, rfl, trivial⟩, Cv.p, by omega⟩
   · have h4 := of_decide_eq_false h4
     have e : decide (xs = ys) = true := by
       rw [decide_eq_true_iff]; exact pre_eq he hl (by omega)
     rw [e] at k
     refine WP.exit ?_
     refine WP.seq (WP.region (RG.br rfl rfl rfl (RG.nil ?_)))
     refine WP.ret ?_
     exact ⟨_, _, ResV.one rfl rfl, Cv.p, k⟩
def szLb : List Label → Int → Int
  | [], n => n
  | w :: l, n => if n - w.name.size < 0 then -1 else szLb l (n - w.name.size)
theorem szLabel_s {w : Label} {n : Int} (hn : n ≤ 1048576) (h0 : 0 ≤ n) (hs : w.name.size ≤ 9223372036854775807) (k : ∀ r : Int, (r = if n - w.name.size < 0 then -1 else n - w.name.size) → R (vi r) G L) : CallT Tryz.prog 159 #[vT labelT w, vi n] G L R := by
 refine CallT.enter (args := _) Tryz.func159 rfl rfl (by kernel_rfl) rfl ?_
 refine WP.seq (WP.region ?_)
 refine RG.ot rfl (OT.box (cs := labelT.enc w) rfl rfl rfl fun b2 => ?_)
 refine RG.mr rfl rfl rfl (RG.nil (WP.seq (WP.region (RG.ml rfl rfl rfl (RG.pv rfl (PV.field rfl Fo225_2 rfl) (RG.pv rfl (PV.load1 rfl Sc9 rfl (Rd.blk rfl)) (RG.pv rfl (PV.lenS rfl Tryz.underlying9 rfl) ?_)))))))
 refine RG.pv rfl (PV.sub rfl rfl rfl (by omega)) (RG.mr rfl rfl rfl (RG.nil (WP.seq (WP.seq (WP.region (RG.ml rfl rfl rfl (RG.pv rfl (PV.lss rfl rfl rfl) ?_)))))))
 refine RG.nil ?_
 refine WP.cond rfl (fun h1 => ?_) (fun h1 => ?_)
 · have h1 := of_decide_eq_true h1
   refine WP.seq (WP.region (RG.mr rfl rfl rfl (RG.nil ?_)))
   refine WP.ret ?_
   exact ⟨_, _, ResV.one rfl rfl, Cv.p, k _ (by rw [if_pos h1])⟩
 · have h1 := of_decide_eq_false h1
   refine WP.skip (WP.seq (WP.region (RG.ml rfl rfl rfl (RG.mr rfl rfl rfl (RG.nil ?_)))))
   refine WP.ret ?_
   exact ⟨_, _, ResV.one rfl rfl, Cv.p, k _ (by rw [if_neg h1])⟩
def szLbS (xs : List Label) (n : Int) : Int := if n - xs.length < 0 then -1 else szLb xs (n - xs.length)
theorem szLb_drop {xs : List Label} {i : Nat} {n : Int} (h : i < xs.length) : szLb (xs.drop i) n = if n - (gd xs i).name.size < 0 then -1 else szLb (xs.drop (i + 1)) (n - (gd xs i).name.size) := by
 rw [List.drop_eq_getElem_cons h, szLb, gd_eq h]
theorem szLbS_len {xs : List Label} {n : Int} (h : 0 ≤ szLbS xs n) : (xs.length : Int) ≤ n := by
 unfold szLbS at h; split at h <;> omega
theorem szLabelS_s {v : Value} {xs : List Label} {n : Int} (h1 : Rs G L labelT v xs) (hn : n ≤ 1048576) (h0 : 0 ≤ n) (hlen : ∀ i, i < xs.length → (gd xs i).name.size ≤ 9223372036854775807) (k : R (vi (szLbS xs n)) G L) : CallT Tryz.prog 109 #[v, vi n] G L R := by
 refine CallT.bd h1 fun hb => ?_
 refine CallT.enter (args := _) Tryz.func109 rfl rfl (by kernel_rfl) rfl ?_
 refine WP.seq (WP.region (RG.mr rfl rfl rfl (RG.nil (WP.seq (WP.region (RG.ml rfl rfl rfl (RG.pv rfl (PV.move (v := v) rfl rfl) ?_)))))))
 refine RG.pv rfl (PV.len (v := v) rfl Tryz.underlying104 rfl (SlF.r h1)) (RG.pv rfl (PV.sub rfl rfl rfl (by omega)) (RG.mr rfl rfl rfl (RG.nil (WP.seq (WP.seq (WP.region (RG.ml rfl rfl rfl ?_)))))))
 refine RG.pv rfl (PV.lss rfl rfl rfl) (RG.nil ?_)
 refine WP.cond rfl (fun h2 => ?_) (fun h2 => ?_)
 · have h2 := of_decide_eq_true h2
   rw [szLbS, if_pos h2] at k
   refine WP.seq (WP.region (RG.mr rfl rfl rfl (RG.nil ?_)))
   refine WP.ret ?_
   exact ⟨_, _, ResV.one rfl rfl, Cv.p, k⟩
 · have h2 := of_decide_eq_false h2
   rw [szLbS, if_neg h2] at k
   refine WP.skip (WP.seq (WP.seq (WP.region (RG.mr rfl rfl rfl (RG.nil (WP.block ?_))))))
   refine WP.loop2 [0] (fun i m => i ≤ xs.length ∧ 0 ≤ m ∧ m ≤ 1048576 ∧ szLb xs (n - xs.length) = szLb (xs.drop i) m) (fun i m => [(5, vi i), (1, vi m)]) (fun i m => L) (fun i m => xs.length - i) 0 (n - xs.length) ⟨by omega, by omega, by omega, by simp⟩ ⟨rfl, rfl, trivial⟩ Cv.p ?_
   rintro i m τ ⟨hi, hm0, hm1, he⟩
   refine WP.seq (WP.seq (WP.region (RG.ml rfl rfl rfl (RG.pv rfl (PV.move (v := v) rfl rfl) (RG.pv rfl (PV.len (v := v) rfl Tryz.underlying104 rfl (SlF.r h1)) (RG.pv rfl (PV.lss rfl rfl rfl) (RG.nil ?_)))))))
   refine WP.cond rfl (fun h3 => ?_) (fun h3 => ?_)
   · have h3 := of_decide_eq_true h3
     have h4 : i < xs.length := by omega
     rw [szLb_drop h4] at he
     refine WP.skip (WP.seq (WP.block (WP.seq (WP.region (RG.pv rfl (PV.move (v := v) rfl rfl) (RG.ml rfl rfl rfl (RG.pv rfl (PV.idxS (v := v) rfl Is104 rfl (SlF.r h1) rfl rfl (by omega)) ?_)))))))
     refine RG.pv rfl (PV.loadE rfl Ag225 rfl rfl (El.r h1 (getG (by omega)))) (RG.ml rfl rfl rfl ?_)
     refine RG.callF (vs := [_, _]) rfl rfl En159 rfl (szLabel_s (by omega) (by omega) (hlen _ (by assumption)) (fun r hr => ?_))
     refine RG.mr rfl rfl rfl (RG.nil (WP.seq (WP.region (RG.ml rfl rfl rfl (RG.pv rfl (PV.lss rfl rfl rfl) (RG.nil ?_))))))
     refine WP.cond rfl (fun h5 => ?_) (fun h5 => ?_)
     · have h5 := of_decide_eq_true h5
       have h6 : m - (gd xs i).name.size < 0 := by
         by_cases c : m - (gd xs i).name.size < 0
         · exact c
         · rw [if_neg c] at hr; omega
       rw [he, if_pos h6] at k
       refine WP.seq (WP.region (RG.mr rfl rfl rfl (RG.nil ?_)))
       refine WP.ret ?_
       exact ⟨_, _, ResV.one rfl rfl, Cv.p, k⟩
     · have h5 := of_decide_eq_false h5
       have h6 : ¬ m - (gd xs i).name.size < 0 := fun c => by rw [if_pos c] at hr; omega
       rw [if_neg h6] at he hr
       subst hr
       refine WP.skip (WP.region (RG.ml rfl rfl rfl (RG.pv rfl (PV.add rfl rfl rfl (by omega)) (RG.mr rfl rfl rfl (RG.nil ?_)))))
       exact ⟨rfl, i + 1, _, ⟨by omega, by omega, by omega, he⟩, ⟨rfl, rfl, trivial⟩, ⟨rfl, trivial⟩, Cv.p, by omega⟩
   · have h3 := of_decide_eq_false h3
     rw [he, List.drop_eq_nil_of_le (by omega), szLb] at k
     refine WP.exit ?_
     refine WP.seq (WP.region (RG.ml rfl rfl rfl (RG.mr rfl rfl rfl (RG.nil ?_))))
     refine WP.ret ?_
     exact ⟨_, _, ResV.one rfl rfl, Cv.p, k⟩
def mkLb (_ : Label) (k : Int) : Label := ⟨k, ⟨k + 1, k + 1 + 1⟩, mText (k + 1 + 1 + 1)⟩
def nLb (_ : Label) : Int := 4
theorem nLb_cost (xs : List Label) : costL nLb xs = 4 * xs.length := costL_const 4 xs
theorem mkLb_at {xs : List Label} {i : Nat} {k0 kk : Int} (h : i < xs.length) (e : kk = k0 + 4 * i) : mkLb (gd xs i) (k0 + costL nLb (xs.take i)) = ⟨kk, ⟨kk + 1, kk + 1 + 1⟩, mText (kk + 1 + 1 + 1)⟩ := by
 rw [mkLb, nLb_cost, List.length_take, Nat.min_eq_left (by omega), e]
theorem markLabelS_s {v : Value} {xs : List Label} {k0 : Int} (hk : 0 ≤ k0) (hb : k0 + costL nLb xs ≤ 4611686018427387904) (k : R (vi (k0 + costL nLb xs)) G (osl 193 labelT v (markL mkLb nLb xs k0) :: L)) : CallT Tryz.prog 70 #[v, vi k0] G (osl 193 labelT v xs :: L) R := by
 have hc := nLb_cost xs
 refine CallT.cv (Cv.eqS (markTo_zero (mk := mkLb) (n := nLb) (k := k0)).symm) ?_
 refine CallT.enter (args := _) Tryz.func70 rfl rfl (by kernel_rfl) rfl ?_
 refine WP.seq (WP.region (RG.mr rfl rfl rfl (RG.nil (WP.seq (WP.seq (WP.region (RG.mr rfl rfl rfl ?_)))))))
 refine RG.nil (WP.block ?_)
 refine WP.loop2 [0] (fun (i : Nat) (kk : Int) => i ≤ xs.length ∧ kk = k0 + 4 * i) (fun (i : Nat) (kk : Int) => [(5, vi i), (1, vi kk)]) (fun (i : Nat) (kk : Int) => osl 193 labelT v (markTo mkLb nLb xs k0 i) :: L) (fun (i : Nat) (kk : Int) => xs.length - i) 0 k0 ⟨by omega, by omega⟩ ⟨rfl, rfl, trivial⟩ Cv.p ?_
 rintro i kk τ ⟨hi, hkk⟩
 refine WP.seq (WP.seq (WP.region (RG.ml rfl rfl rfl (RG.pv rfl (PV.move (v := v) rfl rfl) (RG.pv rfl (PV.len (v := v) rfl Tryz.underlying113 rfl SlF.o) (RG.pv rfl (PV.lss rfl rfl rfl) (RG.nil ?_)))))))
 have hml := markTo_len (mk := mkLb) (n := nLb) (k := k0) hi
 refine WP.cond rfl (fun h1 => ?_) (fun h1 => ?_)
 · have h1 := of_decide_eq_true h1
   have h2 : i < xs.length := by omega
   refine WP.skip (WP.seq (WP.block (WP.seq (WP.region (RG.pv rfl (PV.move (v := v) rfl rfl) (RG.ml rfl rfl rfl (RG.ml rfl rfl rfl ?_)))))))
   refine RG.pv rfl (PV.idxS (v := v) rfl Is113 rfl SlF.o rfl rfl (by omega)) (RG.pv rfl (PV.field rfl Fo193_0 rfl) ?_)
   refine RG.ot rfl (OT.storeF (F := labelT) (val := vi) (cv := fun u => [vi u]) (st := Label.s0) rfl Sz2 rfl rfl rfl (Cl.c rfl) rfl (OneC.c rfl) (by exact set_self (by omega)) (by first | omega | (simp; omega)) rfl (fun _ _ => rfl) ?_)
   refine RG.nil (WP.seq (WP.region (RG.ml rfl rfl rfl (RG.pv rfl (PV.add rfl rfl rfl (by first | omega | (simp only [List.length_set]; omega))) (RG.mr rfl rfl rfl (RG.nil (WP.seq ?_)))))))
   refine WP.region (RG.pv rfl (PV.move (v := v) rfl rfl) (RG.ml rfl rfl rfl (RG.ml rfl rfl rfl (RG.pv rfl (PV.idxS (v := v) rfl Is113 rfl SlF.o rfl rfl (by first | omega | (simp only [List.length_set]; omega))) (RG.pv rfl (PV.field rfl Fo193_1 rfl) (RG.pv rfl (PV.field rfl Fo183_0 rfl) ?_))))))
   refine RG.ot rfl (OT.storeF (F := labelT) (val := vi) (cv := fun u => [vi u]) (j := 1) (st := Label.s1_0) rfl Sz2 rfl rfl rfl (Cl.c rfl) rfl (OneC.c rfl) (by rfl) (by first | omega | (simp; omega)) rfl (fun _ _ => rfl) ?_)
   refine RG.nil (WP.seq (WP.region (RG.ml rfl rfl rfl (RG.pv rfl (PV.add rfl rfl rfl (by first | omega | (simp only [List.length_set]; omega))) (RG.mr rfl rfl rfl (RG.nil (WP.seq ?_)))))))
   refine WP.region (RG.pv rfl (PV.move (v := v) rfl rfl) (RG.ml rfl rfl rfl (RG.ml rfl rfl rfl (RG.pv rfl (PV.idxS (v := v) rfl Is113 rfl SlF.o rfl rfl (by first | omega | (simp only [List.length_set]; omega))) (RG.pv rfl (PV.field rfl Fo193_1 rfl) (RG.pv rfl (PV.field rfl Fo183_1 rfl) ?_))))))
   refine RG.ot rfl (OT.storeF (F := labelT) (val := vi) (cv := fun u => [vi u]) (j := 2) (st := Label.s1_1) rfl Sz2 rfl rfl rfl (Cl.c rfl) rfl (OneC.c rfl) (by rfl) (by first | omega | (simp; omega)) rfl (fun _ _ => rfl) ?_)
   refine RG.nil (WP.seq (WP.region (RG.ml rfl rfl rfl (RG.pv rfl (PV.add rfl rfl rfl (by first | omega | (simp only [List.length_set]; omega))) (RG.mr rfl rfl rfl (RG.nil (WP.seq ?_)))))))
   refine WP.region (RG.pv rfl (PV.move (v := v) rfl rfl) (RG.ml rfl rfl rfl (RG.ml rfl rfl rfl ?_)))
   refine RG.callF (vs := [_]) rfl rfl En68 rfl (markText_s (by omega) ?_)
   refine RG.pv rfl (PV.idxS (v := v) rfl Is113 rfl SlF.o rfl rfl (by first | omega | (simp only [List.length_set]; omega))) (RG.pv rfl (PV.field rfl Fo193_2 rfl) ?_)
   refine RG.ot rfl (OT.storeF (F := labelT) (val := Value.string) (cv := fun u => [.string u]) (st := Label.s2) rfl Sz9 rfl rfl rfl (Cl.c rfl) rfl (OneC.c rfl) (by rfl) (by first | omega | (simp; omega)) rfl (fun _ _ => rfl) ?_)
   refine RG.nil (WP.region (RG.ml rfl rfl rfl (RG.pv rfl (PV.add rfl rfl rfl (by first | omega | (simp only [List.length_set]; omega))) (RG.mr rfl rfl rfl (RG.nil (WP.region (RG.ml rfl rfl rfl ?_)))))))
   refine RG.pv rfl (PV.add rfl rfl rfl (by first | omega | (simp only [List.length_set]; omega))) (RG.mr rfl rfl rfl (RG.nil ?_))
   exact ⟨rfl, i + 1, _, ⟨by omega, by omega⟩, ⟨rfl, rfl, trivial⟩, ⟨rfl, trivial⟩, (Cv.eqS (by rw [← markTo_set h2, mkLb_at h2 hkk])), by omega⟩
 · have h1 := of_decide_eq_false h1
   have e : kk = k0 + costL nLb xs := by omega
   rw [← e] at k
   refine WP.exit ?_
   refine WP.seq (WP.region (RG.ml rfl rfl rfl (RG.mr rfl rfl rfl (RG.nil ?_))))
   refine WP.ret ?_
   exact ⟨_, _, ResV.one rfl rfl, (Cv.eqS (markTo_all (by omega))), k⟩
end Go.Proofs.YthhjapiggekjbaaGreat
namespace Go.Proofs.YthhjapiggekjbaaGreat
set_option linter.unusedVariables false
set_option linter.unusedSimpArgs false
open Go
set_option linter.unusedSimpArgs false
set_option linter.unusedVariables false
set_option maxRecDepth 20000
/-- a cell, without its memory -/
structure ECell where
  name : ByteArray
  shapes : List Shape
  labels : List Label
  insts : List Inst
  deriving DecidableEq, Inhabited
def erCl (c : Cell) : ECell := ⟨c.name, c.shapes.xs, c.labels.xs, c.insts.xs⟩
def erCls (xs : List Cell) : List ECell := xs.map erCl
theorem erCls_len (xs : List Cell) : (erCls xs).length = xs.length := by simp [erCls]
theorem erCls_gd {xs : List Cell} {i : Nat} (h : i < xs.length) : gd (erCls xs) i = erCl (gd xs i) := gd_map _ h
def okSh (s : Shape) : Bool := within s.layer 0 7 && validRect s.box
def okIn (k : Int) (n : Inst) : Bool :=
  within n.cell 0 (k - 1) && validT n.place && within n.cols 1 4 && within n.rows 1 4 && within n.sx (-80) 80 && within n.sy (-80) 80 && (decide (n.sx = 0) || decide (1 < n.cols)) && (decide (n.sy = 0) || decide (1 < n.rows))
def okCell (k : Int) (c : ECell) : Bool :=
  isName c.name && decide ((c.shapes.length : Int) ≤ 24) && decide ((c.labels.length : Int) ≤ 8) && decide ((c.insts.length : Int) ≤ 8) && !(c.shapes.any fun s => !okSh s) && !(c.labels.any fun l => !validLb l) && !(c.insts.any fun n => !okIn k n)
def nameAt (cs : List ECell) (i : Nat) : Bool := decide (∀ j, j < i → (gd cs j).name ≠ (gd cs i).name)
def cellAt (cs : List ECell) (i : Nat) : Bool := okCell i (gd cs i) && nameAt cs i
def okLib (cs : List ECell) : Bool := decide (1 ≤ cs.length) && decide (cs.length ≤ 8) && decide (∀ i, i < cs.length → cellAt cs i = true)
theorem okLib_false {cs : List ECell} {i : Nat} (h : i < cs.length) (e : cellAt cs i = false) : okLib cs = false := by
 simp only [okLib, Bool.and_eq_false_iff, decide_eq_false_iff_not]
 exact .inr fun hh => by rw [hh i h] at e; cases e
theorem okLib_all {cs : List ECell} (h1 : 1 ≤ cs.length) (h2 : cs.length ≤ 8) (h : ∀ i, i < cs.length → cellAt cs i = true) : okLib cs = true := by
 simp only [okLib, Bool.and_eq_true, decide_eq_true_eq]
 exact ⟨⟨h1, h2⟩, h⟩
theorem okLib_len {cs : List ECell} (h : okLib cs = true) : 1 ≤ cs.length ∧ cs.length ≤ 8 := by
 simp only [okLib, Bool.and_eq_true, decide_eq_true_eq] at h; exact h.1
theorem okLib_cell {cs : List ECell} (h : okLib cs = true) {i : Nat} (hi : i < cs.length) : okCell i (gd cs i) = true := by
 simp only [okLib, Bool.and_eq_true, decide_eq_true_eq] at h
 have := h.2 i hi
 simp only [cellAt, Bool.and_eq_true] at this; exact this.1
theorem any_not {α : Type} [Inhabited α] {p : α → Bool} {xs : List α} (h : (xs.any fun a => !p a) = false) {i : Nat} (hi : i < xs.length) : p (gd xs i) = true := by
 rw [List.any_eq_false] at h
 have := h (gd xs i) (gd_mem hi)
 simpa using this
theorem okLib_inst {cs : List ECell} (h : okLib cs = true) {i j : Nat} (hi : i < cs.length) (hj : j < (gd cs i).insts.length) : okIn i (gd (gd cs i).insts j) = true := by
 have := okLib_cell h hi
 simp only [okCell, Bool.and_eq_true, Bool.not_eq_true'] at this
 exact any_not this.2 hj
theorem okLib_shape {cs : List ECell} (h : okLib cs = true) {i j : Nat} (hi : i < cs.length) (hj : j < (gd cs i).shapes.length) : okSh (gd (gd cs i).shapes j) = true := by
 have := okLib_cell h hi
 simp only [okCell, Bool.and_eq_true, Bool.not_eq_true'] at this
 exact any_not this.1.1.2 hj
theorem okLib_cnt {cs : List ECell} (h : okLib cs = true) {i : Nat} (hi : i < cs.length) : (gd cs i).insts.length ≤ 8 ∧ (gd cs i).shapes.length ≤ 24 := by
 have := okLib_cell h hi
 simp only [okCell, Bool.and_eq_true, decide_eq_true_eq] at this
 omega
/-- what an instance of a valid library gives -/
theorem okIn_bd {k : Int} {n : Inst} (h : okIn k n = true) : (0 ≤ n.cell ∧ n.cell ≤ k - 1) ∧ validT n.place = true ∧ (1 ≤ n.cols ∧ n.cols ≤ 4) ∧ (1 ≤ n.rows ∧ n.rows ≤ 4) ∧ (-80 ≤ n.sx ∧ n.sx ≤ 80) ∧ (-80 ≤ n.sy ∧ n.sy ≤ 80) := by
 simp only [okIn, within, Bool.and_eq_true, decide_eq_true_eq] at h
 exact ⟨h.1.1.1.1.1.1.1, h.1.1.1.1.1.1.2, h.1.1.1.1.1.2, h.1.1.1.1.2, h.1.1.1.2, h.1.1.2⟩
theorem range_gd {n q : Nat} (h : q < n) : gd (List.range n) q = q := by unfold gd; simp [h]
def elPlace (n : Inst) (c r : Int) : Trans := ⟨n.place.o, n.place.x + c * n.sx, n.place.y + r * n.sy⟩
def elsOf (n : Inst) : List HElem := (List.range (n.rows.toNat * n.cols.toNat)).map fun q => ⟨n.cell, elPlace n ((q % n.cols.toNat : Nat) : Int) ((q / n.cols.toNat : Nat) : Int)⟩
def elems (ns : List Inst) : List HElem := ns.flatMap elsOf
theorem elsOf_len (n : Inst) : (elsOf n).length = n.rows.toNat * n.cols.toNat := by simp [elsOf]
theorem elsOf_gd {n : Inst} {c r : Nat} (hc : c < n.cols.toNat) (hr : r < n.rows.toNat) : r * n.cols.toNat + c < (elsOf n).length ∧ gd (elsOf n) (r * n.cols.toNat + c) = ⟨n.cell, elPlace n c r⟩ := by
 have h1 : r * n.cols.toNat + c < n.rows.toNat * n.cols.toNat := by
   have := Nat.mul_le_mul_right n.cols.toNat (show r + 1 ≤ n.rows.toNat by omega)
   rw [Nat.add_mul] at this; omega
 refine ⟨by rw [elsOf_len]; exact h1, ?_⟩
 have hm : (r * n.cols.toNat + c) % n.cols.toNat = c := by rw [Nat.add_comm, Nat.add_mul_mod_self_right, Nat.mod_eq_of_lt hc]
 have hd : (r * n.cols.toNat + c) / n.cols.toNat = r := by rw [Nat.add_comm, Nat.add_mul_div_right _ _ (by omega), Nat.div_eq_of_lt hc, Nat.zero_add]
 have hr : gd (List.range (n.rows.toNat * n.cols.toNat)) (r * n.cols.toNat + c) = r * n.cols.toNat + c := range_gd h1
 rw [elsOf, gd_map _ (by simpa using h1), hr, hm, hd]
theorem elsOf_step {n : Inst} {c r : Nat} (hc : c < n.cols.toNat) (hr : r < n.rows.toNat) : (elsOf n).take (r * n.cols.toNat + (c + 1)) = (elsOf n).take (r * n.cols.toNat + c) ++ [⟨n.cell, elPlace n c r⟩] := by
 obtain ⟨h1, h2⟩ := elsOf_gd hc hr
 rw [← Nat.add_assoc, List.take_add_one, getG h1, h2]; rfl
theorem elems_take {ns : List Inst} {i : Nat} (h : i < ns.length) : elems (ns.take (i + 1)) = elems (ns.take i) ++ elsOf (gd ns i) := by
 rw [elems, elems, List.take_add_one, getG h, List.flatMap_append]; simp
theorem elems_split {ns : List Inst} {i : Nat} (h : i < ns.length) : elems ns = elems (ns.take i) ++ elsOf (gd ns i) ++ elems (ns.drop (i + 1)) := by
 conv => lhs; rw [← List.take_append_drop (i + 1) ns]
 rw [elems, List.flatMap_append]
 have := elems_take h
 rw [elems] at this
 rw [this]; rfl
theorem elems_at {ns : List Inst} {i c r : Nat} (h : i < ns.length) (hc : c < (gd ns i).cols.toNat) (hr : r < (gd ns i).rows.toNat) :
   (elems (ns.take i)).length + (r * (gd ns i).cols.toNat + c) < (elems ns).length ∧ gd (elems ns) ((elems (ns.take i)).length + (r * (gd ns i).cols.toNat + c)) = ⟨(gd ns i).cell, elPlace (gd ns i) c r⟩ := by
 obtain ⟨h1, h2⟩ := elsOf_gd hc hr
 rw [elems_split h]
 refine ⟨by simp only [List.length_append]; omega, ?_⟩
 rw [List.append_assoc, gd_app_at, gd_app_l h1, h2]
/-- each element is one of an instance -/
theorem elems_mem {ns : List Inst} {e : HElem} (h : e ∈ elems ns) : ∃ j c r : Nat, j < ns.length ∧ c < (gd ns j).cols.toNat ∧ r < (gd ns j).rows.toNat ∧ e = ⟨(gd ns j).cell, elPlace (gd ns j) c r⟩ := by
 obtain ⟨n, hn, he⟩ := List.mem_flatMap.1 h
 obtain ⟨j, hj, rfl⟩ := List.getElem_of_mem hn
 rw [← gd_eq hj] at he
 obtain ⟨q, hq, rfl⟩ := List.mem_map.1 he
 have hq := List.mem_range.1 hq
 have h0 : 0 < (gd ns j).cols.toNat := by
   rcases Nat.eq_zero_or_pos (gd ns j).cols.toNat with h | h
   · rw [h] at hq; omega
   · exact h
 exact ⟨j, q % (gd ns j).cols.toNat, q / (gd ns j).cols.toNat, hj, Nat.mod_lt _ h0, (Nat.div_lt_iff_lt_mul h0).2 hq, rfl⟩
theorem mul_bd {a b A B : Int} (ha : 0 ≤ a ∧ a ≤ A) (hb : -B ≤ b ∧ b ≤ B) (hB : 0 ≤ B) : -(A * B) ≤ a * b ∧ a * b ≤ A * B := by
 have h1 : a * b ≤ a * B := Int.mul_le_mul_of_nonneg_left hb.2 ha.1
 have h2 : a * -B ≤ a * b := Int.mul_le_mul_of_nonneg_left hb.1 ha.1
 have h3 : a * B ≤ A * B := Int.mul_le_mul_of_nonneg_right ha.2 hB
 rw [Int.mul_neg] at h2
 omega
theorem elPlace_bd {k : Int} {n : Inst} (h : okIn k n = true) {c r : Nat} (hc : c < n.cols.toNat) (hr : r < n.rows.toNat) : (0 ≤ (elPlace n c r).o ∧ (elPlace n c r).o ≤ 7) ∧ (-320 ≤ (elPlace n c r).x ∧ (elPlace n c r).x ≤ 320) ∧ -320 ≤ (elPlace n c r).y ∧ (elPlace n c r).y ≤ 320 := by
 obtain ⟨_, h2, h3, h4, h5, h6⟩ := okIn_bd h
 obtain ⟨q1, q2, q3⟩ := validT_iff.1 h2
 have e1 := mul_bd (a := (c : Int)) (b := n.sx) (A := 3) (B := 80) (by omega) h5 (by omega)
 have e2 := mul_bd (a := (r : Int)) (b := n.sy) (A := 3) (B := 80) (by omega) h6 (by omega)
 refine ⟨q1, ?_, ?_⟩ <;> simp only [elPlace] <;> omega
theorem elem_bd {cs : List ECell} (h : okLib cs = true) {k : Nat} (hk : k < cs.length) {i : Nat} (hi : i < (elems (gd cs k).insts).length) :
   (0 ≤ (gd (elems (gd cs k).insts) i).cell ∧ (gd (elems (gd cs k).insts) i).cell < k) ∧ (0 ≤ (gd (elems (gd cs k).insts) i).place.o ∧ (gd (elems (gd cs k).insts) i).place.o ≤ 7) ∧ (-320 ≤ (gd (elems (gd cs k).insts) i).place.x ∧ (gd (elems (gd cs k).insts) i).place.x ≤ 320) ∧ -320 ≤ (gd (elems (gd cs k).insts) i).place.y ∧ (gd (elems (gd cs k).insts) i).place.y ≤ 320 := by
 obtain ⟨j, c, r, hj, hc, hr, e⟩ := elems_mem (gd_mem hi)
 have ho := okLib_inst h hk hj
 rw [e]
 exact ⟨by have := (okIn_bd ho).1; simp only; omega, elPlace_bd ho hc hr⟩
theorem elems_bd {cs : List ECell} (h : okLib cs = true) {k : Nat} (hk : k < cs.length) : ∀ i, i ≤ (gd cs k).insts.length → (elems ((gd cs k).insts.take i)).length ≤ 16 * i
 | 0, _ => by simp [elems]
 | i + 1, hi => by
   have ih := elems_bd h hk i (by omega)
   obtain ⟨_, _, h3, h4, _, _⟩ := okIn_bd (okLib_inst h hk (j := i) (by omega))
   have := Nat.mul_le_mul (show (gd (gd cs k).insts i).rows.toNat ≤ 4 by omega) (show (gd (gd cs k).insts i).cols.toNat ≤ 4 by omega)
   rw [elems_take (by omega), List.length_append, elsOf_len]; omega
theorem elems_len_bd {cs : List ECell} (h : okLib cs = true) {k : Nat} (hk : k < cs.length) : (elems (gd cs k).insts).length ≤ 128 := by
 have := elems_bd h hk _ (Nat.le_refl _)
 rw [List.take_of_length_le (Nat.le_refl _)] at this
 have := (okLib_cnt h hk).1
 omega
def cntI (ks : List Int) (n : Inst) : Int := n.cols * n.rows * gd ks n.cell.toNat
def ownCnt (ks : List Int) (ns : List Inst) : Int := 1 + costL (cntI ks) ns
def cnts (cs : List ECell) : Nat → List Int
  | 0 => []
  | n + 1 => cnts cs n ++ [ownCnt (cnts cs n) (gd cs n).insts]
theorem cnts_len (cs : List ECell) : ∀ n, (cnts cs n).length = n
 | 0 => rfl
 | n + 1 => by simp [cnts, cnts_len cs n]
def cntOf (cs : List ECell) (k : Nat) : Int := ownCnt (cnts cs k) (gd cs k).insts
theorem cnts_gd (cs : List ECell) : ∀ {n i : Nat}, i < n → gd (cnts cs n) i = cntOf cs i
 | n + 1, i, h => by
   rw [cnts]
   by_cases e : i < n
   · rw [gd_app_l (by rw [cnts_len]; exact e), cnts_gd cs e]
   · obtain rfl : i = n := by omega
     have := gd_app_r (xs := cnts cs i) (a := ownCnt (cnts cs i) (gd cs i).insts)
     rw [cnts_len] at this
     rw [this]; rfl
theorem costL_bdH {α : Type} [Inhabited α] {n : α → Int} {B : Int} (hB : 0 ≤ B) {xs : List α} (h : ∀ i, i < xs.length → 0 ≤ n (gd xs i) ∧ n (gd xs i) ≤ B) : ∀ i, i ≤ xs.length → 0 ≤ costL n (xs.take i) ∧ costL n (xs.take i) ≤ B * i
 | 0, _ => by simp [costL]
 | i + 1, hi => by
   have ih := costL_bdH hB h i (by omega)
   have := h i (by omega)
   rw [costL_take n (by omega)]
   have e : B * ((i + 1 : Nat) : Int) = B * i + B := by rw [Int.natCast_add, Int.mul_add]; simp
   omega
theorem cntI_bd {k M : Int} {ks : List Int} {n : Inst} (h : okIn k n = true) (hk : 0 ≤ gd ks n.cell.toNat ∧ gd ks n.cell.toNat ≤ M) : 0 ≤ cntI ks n ∧ cntI ks n ≤ 16 * M := by
 obtain ⟨_, _, h3, h4, _, _⟩ := okIn_bd h
 have e1 := mul_bd (a := n.cols) (b := n.rows) (A := 4) (B := 4) (by omega) (by omega) (by omega)
 have e0 : 0 ≤ n.cols * n.rows := Int.mul_nonneg (by omega) (by omega)
 have e2 := mul_bd (a := n.cols * n.rows) (b := gd ks n.cell.toNat) (A := 16) (B := M) (by omega) (by omega) (by omega)
 have e3 : 0 ≤ n.cols * n.rows * gd ks n.cell.toNat := Int.mul_nonneg e0 hk.1
 simp only [cntI]; omega
theorem ownCnt_bd {cs : List ECell} (h : okLib cs = true) {M : Int} (hM : 0 ≤ M) {k : Nat} (hk : k < cs.length) (hh : ∀ i, i < k → 0 ≤ gd (cnts cs k) i ∧ gd (cnts cs k) i ≤ M) : ∀ i, i ≤ (gd cs k).insts.length → 1 ≤ 1 + costL (cntI (cnts cs k)) ((gd cs k).insts.take i) ∧ 1 + costL (cntI (cnts cs k)) ((gd cs k).insts.take i) ≤ 1 + 128 * M := by
 intro i hi
 have hc := (okLib_cnt h hk).1
 have := costL_bdH (n := cntI (cnts cs k)) (B := 16 * M) (by omega) (xs := (gd cs k).insts) (fun j hj => cntI_bd (okLib_inst h hk hj) (hh _ (by have := (okIn_bd (okLib_inst h hk hj)).1; omega))) i hi
 have e : 16 * M * i ≤ 16 * M * 8 := Int.mul_le_mul_of_nonneg_left (by omega) (by omega)
 omega
theorem cntOf_bd {cs : List ECell} (h : okLib cs = true) : ∀ k, k < cs.length → 1 ≤ cntOf cs k ∧ cntOf cs k ≤ 129 ^ (k + 1) := by
 intro k
 induction k using Nat.strongRecOn with
 | ind k ih =>
   intro hk
   have := ownCnt_bd h (M := 129 ^ k) (Int.le_of_lt (Int.pow_pos (show (0 : Int) < 129 by omega))) hk (fun i hi => by
     have hb := ih i hi (by omega)
     rw [cnts_gd cs hi]
     refine ⟨by omega, Int.le_trans hb.2 ?_⟩
     have := Nat.pow_le_pow_right (n := 129) (by omega) (show i + 1 ≤ k by omega)
     exact_mod_cast this) _ (Nat.le_refl _)
   rw [List.take_of_length_le (Nat.le_refl _)] at this
   refine ⟨this.1, Int.le_trans this.2 ?_⟩
   have h1 : (1 : Int) ≤ 129 ^ k := by
     have : (0 : Int) < 129 ^ k := Int.pow_pos (show (0 : Int) < 129 by omega)
     omega
   rw [Int.pow_succ]; omega
theorem cnts_big {cs : List ECell} (h : okLib cs = true) {k : Nat} (hk : k < cs.length) : ∀ i, i < k → 0 ≤ gd (cnts cs k) i ∧ gd (cnts cs k) i ≤ 594467302491009 := by
 intro i hi
 rw [cnts_gd cs hi]
 have h1 := cntOf_bd h i (by omega)
 have h2 := (okLib_len h).2
 have : (129 : Nat) ^ (i + 1) ≤ 129 ^ 7 := Nat.pow_le_pow_right (by omega) (by omega)
 have h3' : ((129 : Int) ^ (i + 1)) ≤ 129 ^ 7 := by exact_mod_cast this
 have h3 : ((129 : Int) ^ (i + 1)) ≤ 594467302491009 := Int.le_trans h3' (by decide)
 omega
structure EOcc where
  cell : Int
  place : Trans
  path : List Int
  deriving DecidableEq, Inhabited
def erO (o : Occ) : EOcc := ⟨o.cell, o.place, o.path.xs⟩
def erOs (xs : List Occ) : List EOcc := xs.map erO
theorem erOs_len (xs : List Occ) : (erOs xs).length = xs.length := by simp [erOs]
theorem erOs_gd {xs : List Occ} {i : Nat} (h : i < xs.length) : gd (erOs xs) i = erO (gd xs i) := gd_map _ h
def cmpo (a b : Int) : Int := (if 4 ≤ b then b % 4 + 4 - a % 4 else b % 4 + a % 4) % 4 + (if decide (4 ≤ a) = decide (4 ≤ b) then 0 else 4)
theorem cmpo_in {a b : Int} : 0 ≤ cmpo a b ∧ cmpo a b ≤ 7 := by
 unfold cmpo
 generalize (if 4 ≤ b then b % 4 + 4 - a % 4 else b % 4 + a % 4) = z
 split <;> omega
def cmpT (t u : Trans) : Trans := ⟨cmpo t.o u.o, (moveP u ⟨t.x, t.y⟩).x, (moveP u ⟨t.x, t.y⟩).y⟩
def kid (o : EOcc) (e : HElem) (n : Nat) : EOcc := ⟨e.cell, cmpT e.place o.place, o.path ++ [(n : Int)]⟩
def occF (cs : List ECell) : Nat → EOcc → List EOcc
  | 0, o => [o]
  | f + 1, o => o :: ((List.range (elems (gd cs o.cell.toNat).insts).length).flatMap fun n => occF cs f (kid o (gd (elems (gd cs o.cell.toNat).insts) n) n))
/-- an occurrence and those below its first elements -/
def occTo (cs : List ECell) (f : Nat) (o : EOcc) (i : Nat) : List EOcc := o :: ((List.range i).flatMap fun n => occF cs f (kid o (gd (elems (gd cs o.cell.toNat).insts) n) n))
theorem occTo_zero (cs : List ECell) (f : Nat) (o : EOcc) : occTo cs f o 0 = [o] := rfl
theorem occTo_succ (cs : List ECell) (f : Nat) (o : EOcc) (i : Nat) : occTo cs f o (i + 1) = occTo cs f o i ++ occF cs f (kid o (gd (elems (gd cs o.cell.toNat).insts) i) i) := by
 simp [occTo, List.range_succ, List.flatMap_append]
theorem occTo_all (cs : List ECell) (f : Nat) (o : EOcc) : occTo cs f o (elems (gd cs o.cell.toNat).insts).length = occF cs (f + 1) o := rfl
def oIn (f : Nat) (o : EOcc) : Prop := (0 ≤ o.cell ∧ o.cell < f) ∧ (0 ≤ o.place.o ∧ o.place.o ≤ 7) ∧ (-(320 * (8 - (f : Int))) ≤ o.place.x ∧ o.place.x ≤ 320 * (8 - f)) ∧ -(320 * (8 - (f : Int))) ≤ o.place.y ∧ o.place.y ≤ 320 * (8 - f)
theorem kid_in {cs : List ECell} (h : okLib cs = true) {f : Nat} {o : EOcc} (ho : oIn (f + 1) o) (hl : o.cell.toNat < cs.length) {i : Nat} (hi : i < (elems (gd cs o.cell.toNat).insts).length) : oIn f (kid o (gd (elems (gd cs o.cell.toNat).insts) i) i) := by
 obtain ⟨h1, h2, h3, h4⟩ := elem_bd h hl hi
 obtain ⟨⟨k1, k2⟩, k3, k4, k5⟩ := ho
 obtain ⟨t1, t2, t3, t4⟩ : InB 320 (turnP o.place.o ⟨(gd (elems (gd cs o.cell.toNat).insts) i).place.x, (gd (elems (gd cs o.cell.toNat).insts) i).place.y⟩) := turnP_in ⟨h3.1, h3.2, h4.1, h4.2⟩
 refine ⟨?_, ?_, ?_, ?_⟩
 · simp only [kid]; omega
 · exact cmpo_in
 · simp only [kid, cmpT, moveP]; omega
 · simp only [kid, cmpT, moveP]; omega
theorem flatMap_len {α : Type} (g : Nat → List α) : ∀ n, (((List.range n).flatMap g).length : Int) = ((List.range n).map fun i => ((g i).length : Int)).sum
 | 0 => rfl
 | n + 1 => by
   have ih := flatMap_len g n
   simp only [List.range_succ, List.flatMap_append, List.length_append, List.map_append, List.sum_append, Int.natCast_add, ih]
   simp
/-- the sum over the elements is the sum over the instances -/
theorem sum_elems (g : Int → Int) : ∀ ns : List Inst, (∀ i, i < ns.length → 1 ≤ (gd ns i).cols ∧ 1 ≤ (gd ns i).rows) → (((elems ns).map fun e => g e.cell).sum : Int) = costL (fun n => n.cols * n.rows * g n.cell) ns
 | [], _ => rfl
 | n :: ns, h => by
   have ih := sum_elems g ns (fun i hi => by have := h (i + 1) (by simpa using hi); simpa [gd] using this)
   have h0 := h 0 (by simp)
   have e0 : gd (n :: ns) 0 = n := by simp [gd]
   rw [e0] at h0
   have e : elems (n :: ns) = elsOf n ++ elems ns := rfl
   rw [e, List.map_append, List.sum_append, ih, costL]
   congr 1
   have : (elsOf n).map (fun e => g e.cell) = List.replicate (n.rows.toNat * n.cols.toNat) (g n.cell) := by
     rw [elsOf, List.map_map, List.eq_replicate_iff]
     simp [Function.comp_def]
   rw [this, List.sum_replicate_int]
   rw [Int.natCast_mul, Int.toNat_of_nonneg (by omega), Int.toNat_of_nonneg (by omega), Int.mul_comm n.rows]
theorem map_range_gd {α β : Type} [Inhabited α] (g : α → β) (xs : List α) : (List.range xs.length).map (fun i => g (gd xs i)) = xs.map g := by
 apply List.ext_getElem?
 intro i
 by_cases hi : i < xs.length
 · simp [hi, gd_eq hi]
 · simp [List.getElem?_eq_none (Nat.le_of_not_lt hi), List.getElem?_eq_none (l := List.range xs.length) (by simpa using Nat.le_of_not_lt hi)]
theorem occF_len {cs : List ECell} (h : okLib cs = true) : ∀ (f : Nat) (o : EOcc), 0 ≤ o.cell → o.cell.toNat < f → o.cell.toNat < cs.length → ((occF cs f o).length : Int) = cntOf cs o.cell.toNat
 | 0, _, _, h, _ => by omega
 | f + 1, o, h0, hf, hl => by
   rw [occF, List.length_cons, Int.natCast_add, flatMap_len]
   have e1 : ∀ i ∈ List.range (elems (gd cs o.cell.toNat).insts).length, ((occF cs f (kid o (gd (elems (gd cs o.cell.toNat).insts) i) i)).length : Int) = cntOf cs (gd (elems (gd cs o.cell.toNat).insts) i).cell.toNat := fun i hi => by
     have hi := List.mem_range.1 hi
     have hb := (elem_bd h hl hi).1
     exact occF_len h f _ hb.1 (by simp only [kid]; omega) (by simp only [kid]; omega)
   rw [List.map_congr_left e1, map_range_gd (fun e : HElem => cntOf cs e.cell.toNat), sum_elems (fun c => cntOf cs c.toNat) _ (fun i hi => by have := okIn_bd (okLib_inst h hl hi); omega), cntOf, ownCnt]
   have e2 : ∀ ns : List Inst, (∀ n ∈ ns, n.cell.toNat < o.cell.toNat) → costL (fun n => n.cols * n.rows * cntOf cs n.cell.toNat) ns = costL (cntI (cnts cs o.cell.toNat)) ns := by
     intro ns
     induction ns with
     | nil => intro _; rfl
     | cons n ns ih =>
       intro hn
       rw [costL, costL, ih (fun m hm => hn m (.tail _ hm)), cntI, cnts_gd cs (hn n (.head _))]
   rw [e2 _ (fun n hn => by
     obtain ⟨j, hj, rfl⟩ := List.getElem_of_mem hn
     have := (okIn_bd (okLib_inst h hl hj)).1
     rw [gd_eq hj] at this
     omega)]
   omega
theorem occTo_le {cs : List ECell} {f : Nat} {o : EOcc} {i : Nat} (hi : i ≤ (elems (gd cs o.cell.toNat).insts).length) : (occTo cs f o i).length ≤ (occF cs (f + 1) o).length := by
 rw [← occTo_all, occTo, occTo, List.length_cons, List.length_cons]
 have : (List.range i).flatMap (fun n => occF cs f (kid o (gd (elems (gd cs o.cell.toNat).insts) n) n)) = ((List.range (elems (gd cs o.cell.toNat).insts).length).take i).flatMap (fun n => occF cs f (kid o (gd (elems (gd cs o.cell.toNat).insts) n) n)) := by
   rw [List.take_range, Nat.min_eq_left hi]
 rw [this]
 have h2 := congrArg List.length (congrArg (List.flatMap (fun n => occF cs f (kid o (gd (elems (gd cs o.cell.toNat).insts) n) n))) (List.take_append_drop i (List.range (elems (gd cs o.cell.toNat).insts).length)))
 rw [List.flatMap_append, List.length_append] at h2
 omega
def top (cell : Int) : EOcc := ⟨cell, ⟨0, 0, 0⟩, []⟩
def occAll (cs : List ECell) (cell : Int) : List EOcc := occF cs (cell.toNat + 1) (top cell)
def hasCl (cs : List ECell) (cell : Int) : Bool := okLib cs && within cell 0 ((cs.length : Int) - 1)
def occE (cs : List ECell) (cell : Int) : Int :=
  bif !okLib cs then 1 else bif !within cell 0 ((cs.length : Int) - 1) then 5 else bif decide (200 < cntOf cs cell.toNat) then 3 else bif (occAll cs cell).any fun o => !validT o.place then 2 else 0
def occR (cs : List ECell) (cell : Int) : List EOcc := bif decide (occE cs cell = 0) then occAll cs cell else []
theorem occE_zero {cs : List ECell} {cell : Int} (h : occE cs cell = 0) : okLib cs = true ∧ (0 ≤ cell ∧ cell < cs.length) ∧ cntOf cs cell.toNat ≤ 200 ∧ ∀ o ∈ occAll cs cell, validT o.place = true := by
 unfold occE at h
 cases h1 : okLib cs with
 | false => rw [h1] at h; cases h
 | true =>
   cases h2 : within cell 0 ((cs.length : Int) - 1) with
   | false => rw [h1, h2] at h; cases h
   | true =>
     cases h3 : decide (200 < cntOf cs cell.toNat) with
     | true => rw [h1, h2, h3] at h; cases h
     | false =>
       cases h4 : (occAll cs cell).any fun o => !validT o.place with
       | true => rw [h1, h2, h3, h4] at h; cases h
       | false =>
         refine ⟨rfl, ?_, ?_, fun o ho => ?_⟩
         · simp only [within, Bool.and_eq_true, decide_eq_true_eq] at h2; omega
         · have := of_decide_eq_false h3; omega
         · rw [List.any_eq_false] at h4
           simpa using h4 o ho
theorem occR_ok {cs : List ECell} {cell : Int} (h : occE cs cell = 0) : occR cs cell = occAll cs cell := by rw [occR, h]; rfl
theorem occR_no {cs : List ECell} {cell : Int} (h : occE cs cell ≠ 0) : occR cs cell = [] := by rw [occR, decide_eq_false h]; rfl
theorem occAll_len {cs : List ECell} {cell : Int} (h : okLib cs = true) (hc : 0 ≤ cell ∧ cell < cs.length) : ((occAll cs cell).length : Int) = cntOf cs cell.toNat := occF_len h _ (top cell) hc.1 (by simp [top]) (by simp only [top]; omega)
/-- the cells of occurrences are those of the library -/
theorem occF_cell {cs : List ECell} (h : okLib cs = true) : ∀ (f : Nat) (o : EOcc), 0 ≤ o.cell → o.cell.toNat < f → o.cell.toNat < cs.length → ∀ q ∈ occF cs f o, 0 ≤ q.cell ∧ q.cell ≤ o.cell
 | 0, _, _, h, _, _, _ => by omega
 | f + 1, o, h0, hf, hl, q, hq => by
   rw [occF, List.mem_cons] at hq
   rcases hq with rfl | hq
   · exact ⟨h0, Int.le_refl _⟩
   · obtain ⟨i, hi, hq⟩ := List.mem_flatMap.1 hq
     have hb := (elem_bd h hl (List.mem_range.1 hi)).1
     have := occF_cell h f _ hb.1 (by simp only [kid]; omega) (by simp only [kid]; omega) q hq
     simp only [kid] at this
     omega
theorem occR_cell {cs : List ECell} {cell : Int} {i : Nat} (hi : i < (occR cs cell).length) : okLib cs = true ∧ (0 ≤ (gd (occR cs cell) i).cell ∧ (gd (occR cs cell) i).cell < cs.length) ∧ validT (gd (occR cs cell) i).place = true ∧ (occR cs cell).length ≤ 200 := by
 by_cases h : occE cs cell = 0
 · have hm := gd_mem hi
   rw [occR_ok h] at hm ⊢
   obtain ⟨h1, h2, h3, h4⟩ := occE_zero h
   have := occF_cell h1 _ (top cell) h2.1 (by simp [top]) (by simp only [top]; omega) _ hm
   have hl := occAll_len h1 h2
   exact ⟨h1, by simp only [top] at this; omega, h4 _ hm, by omega⟩
 · rw [occR_no h] at hi; simp at hi
def flatOf (cs : List ECell) (o : EOcc) : List Shape := (gd cs o.cell.toNat).shapes.map fun s => ⟨s.layer, moveR o.place s.box⟩
def flatL (cs : List ECell) (os : List EOcc) : List Shape := os.flatMap (flatOf cs)
theorem flatOf_len (cs : List ECell) (o : EOcc) : (flatOf cs o).length = (gd cs o.cell.toNat).shapes.length := by simp [flatOf]
theorem flatL_take {cs : List ECell} {os : List EOcc} {i : Nat} (h : i < os.length) : flatL cs (os.take (i + 1)) = flatL cs (os.take i) ++ flatOf cs (gd os i) := by
 rw [flatL, flatL, List.take_add_one, getG h, List.flatMap_append]; simp
theorem flatOf_step {cs : List ECell} {o : EOcc} {k : Nat} (h : k < (gd cs o.cell.toNat).shapes.length) : (flatOf cs o).take (k + 1) = (flatOf cs o).take k ++ [⟨(gd (gd cs o.cell.toNat).shapes k).layer, moveR o.place (gd (gd cs o.cell.toNat).shapes k).box⟩] := by
 rw [List.take_add_one, getG (by rw [flatOf_len]; exact h), flatOf, gd_map _ h]; rfl
theorem flatL_bd {cs : List ECell} {cell : Int} : ∀ i, i ≤ (occR cs cell).length → (flatL cs ((occR cs cell).take i)).length ≤ 24 * i
 | 0, _ => by simp [flatL]
 | i + 1, hi => by
   have ih := flatL_bd (cs := cs) (cell := cell) i (by omega)
   obtain ⟨h1, h2, _, _⟩ := occR_cell (cs := cs) (cell := cell) (i := i) (by omega)
   have := (okLib_cnt h1 (i := (gd (occR cs cell) i).cell.toNat) (by omega)).2
   rw [flatL_take (by omega), List.length_append, flatOf_len]; omega
def shE (cs : List ECell) (cell : Int) : Int := bif decide (occE cs cell = 0) then (bif (flatL cs (occR cs cell)).any fun s => !validRect s.box then 2 else 0) else occE cs cell
def shR (cs : List ECell) (cell : Int) : List Shape := bif decide (shE cs cell = 0) then flatL cs (occR cs cell) else []
theorem shE_zero {cs : List ECell} {cell : Int} (h : shE cs cell = 0) : occE cs cell = 0 ∧ ∀ s ∈ flatL cs (occR cs cell), validRect s.box = true := by
 unfold shE at h
 by_cases h1 : occE cs cell = 0
 · rw [decide_eq_true h1, cond_true] at h
   cases h2 : (flatL cs (occR cs cell)).any fun s => !validRect s.box with
   | true => rw [h2] at h; cases h
   | false =>
     refine ⟨h1, fun s hs => ?_⟩
     rw [List.any_eq_false] at h2
     simpa using h2 s hs
 · rw [decide_eq_false h1, cond_false] at h; exact absurd h h1
theorem shR_ok {cs : List ECell} {cell : Int} (h : shE cs cell = 0) : shR cs cell = flatL cs (occR cs cell) := by rw [shR, h]; rfl
theorem shR_no {cs : List ECell} {cell : Int} (h : shE cs cell ≠ 0) : shR cs cell = [] := by rw [shR, decide_eq_false h]; rfl
theorem shR_valid {cs : List ECell} {cell : Int} {i : Nat} (hi : i < (shR cs cell).length) : validRect (gd (shR cs cell) i).box = true := by
 by_cases h : shE cs cell = 0
 · have hm := gd_mem hi
   rw [shR_ok h] at hm ⊢
   exact (shE_zero h).2 _ hm
 · rw [shR_no h] at hi; simp at hi
def boxesOf (ss : List Shape) (l : Nat) : List Rect := (ss.filter fun s => decide (s.layer = (l : Int))).map Shape.box
def layL (ss : List Shape) : List (List Rect) := (List.range 8).map fun l => canon (bits (boxesOf ss l))
theorem boxesOf_step {ss : List Shape} {i l : Nat} (h : i < ss.length) : boxesOf (ss.take (i + 1)) l = boxesOf (ss.take i) l ++ (if (gd ss i).layer = (l : Int) then [(gd ss i).box] else []) := by
 rw [boxesOf, boxesOf, List.take_add_one, getG h, List.filter_append, List.map_append]
 by_cases e : (gd ss i).layer = (l : Int) <;> simp [e]
theorem validR_in {r : Rect} (h : validRect r = true) : RIn 40 r := by
 have := valid_bd h; exact this
def rootOf (o : EOcc) : Int := match o.path with | [] => -1 | a :: _ => a
def rootAt (cs : List ECell) (o : EOcc) : List RShape := (flatOf cs o).map fun s => ⟨rootOf o, s⟩
def rootL (cs : List ECell) (os : List EOcc) : List RShape := os.flatMap (rootAt cs)
theorem rootL_flat (cs : List ECell) (os : List EOcc) : (rootL cs os).map RShape.shape = flatL cs os := by
 induction os with
 | nil => rfl
 | cons o os ih =>
   have e1 : rootL cs (o :: os) = rootAt cs o ++ rootL cs os := rfl
   have e2 : flatL cs (o :: os) = flatOf cs o ++ flatL cs os := rfl
   rw [e1, e2, List.map_append, ih]
   congr 1
   simp [rootAt, Function.comp_def]
theorem rootAt_len (cs : List ECell) (o : EOcc) : (rootAt cs o).length = (gd cs o.cell.toNat).shapes.length := by rw [rootAt, List.length_map, flatOf_len]
theorem rootL_len (cs : List ECell) (os : List EOcc) : (rootL cs os).length = (flatL cs os).length := by rw [← rootL_flat, List.length_map]
theorem flatL_split {cs : List ECell} {os : List EOcc} {i : Nat} (h : i < os.length) : flatL cs os = flatL cs (os.take i) ++ (flatOf cs (gd os i) ++ flatL cs (os.drop (i + 1))) := by
 conv => lhs; rw [← List.take_append_drop (i + 1) os]
 rw [flatL, List.flatMap_append]
 have := flatL_take (cs := cs) h
 rw [flatL] at this
 rw [this, List.append_assoc]; rfl
/-- the next rooted shape -/
theorem rootAt_step {cs : List ECell} {os : List EOcc} {i k : Nat} (h : i < os.length) (hk : k < (gd cs (gd os i).cell.toNat).shapes.length) :
   (rootL cs (os.take i) ++ (rootAt cs (gd os i)).take k).length < (flatL cs os).length ∧ (rootAt cs (gd os i)).take (k + 1) = (rootAt cs (gd os i)).take k ++ [⟨rootOf (gd os i), gd (flatL cs os) (rootL cs (os.take i) ++ (rootAt cs (gd os i)).take k).length⟩] := by
 have hl : ((rootAt cs (gd os i)).take k).length = k := by rw [List.length_take, rootAt_len]; omega
 have hf : k < (flatOf cs (gd os i)).length := by rw [flatOf_len]; exact hk
 have e : gd (flatL cs os) (rootL cs (os.take i) ++ (rootAt cs (gd os i)).take k).length = gd (flatOf cs (gd os i)) k := by
   rw [List.length_append, hl, rootL_len, flatL_split h, gd_app_at, gd_app_l hf]
 refine ⟨?_, ?_⟩
 · rw [List.length_append, hl, rootL_len, flatL_split h, List.length_append, List.length_append]; omega
 · rw [e, List.take_add_one, getG (by rw [rootAt_len]; exact hk), rootAt, gd_map _ hf]; rfl
def elN (cs : List ECell) (cell : Int) : Nat := (elems (gd cs cell.toNat).insts).length
theorem shE_lib {cs : List ECell} {cell : Int} (h : shE cs cell = 0) : okLib cs = true ∧ 0 ≤ cell ∧ cell < cs.length := by
 have := occE_zero (shE_zero h).1
 exact ⟨this.1, this.2.1⟩
/-- the composed orientation as the reference writes it -/
theorem cmpo_r {a b : Int} (ha : 0 ≤ a ∧ a ≤ 7) (hb : 0 ≤ b ∧ b ≤ 7) : cmpo a b = (b % 4 + (if 4 ≤ b then -(a % 4) else a % 4) + 4) % 4 + 4 * (if 4 ≤ b then 1 - a / 4 else a / 4) := by
 have ea : a = 0 ∨ a = 1 ∨ a = 2 ∨ a = 3 ∨ a = 4 ∨ a = 5 ∨ a = 6 ∨ a = 7 := by omega
 have eb : b = 0 ∨ b = 1 ∨ b = 2 ∨ b = 3 ∨ b = 4 ∨ b = 5 ∨ b = 6 ∨ b = 7 := by omega
 rcases ea with rfl | rfl | rfl | rfl | rfl | rfl | rfl | rfl <;> rcases eb with rfl | rfl | rfl | rfl | rfl | rfl | rfl | rfl <;> decide
end Go.Proofs.YthhjapiggekjbaaGreat
namespace Go.Proofs.YthhjapiggekjbaaGreat
set_option linter.unusedVariables false
set_option linter.unusedSimpArgs false
open Go
set_option maxRecDepth 20000
set_option linter.unusedSimpArgs false
variable {G : Gh} {L : List Ch} {R : Value → Gh → List Ch → Prop}
theorem toShape_s {l : Shape} (k : R (vT shapeT l) G L) : CallT Tryz.prog 161 #[vT shapeT l] G L R := by
 refine CallT.enter (args := _) Tryz.func161 rfl rfl (by kernel_rfl) rfl ?_
 refine WP.seq (WP.region ?_)
 refine RG.ot rfl (OT.box (cs := shapeT.enc l) rfl rfl rfl fun b1 => ?_)
 refine RG.ot rfl (OT.alloc rfl Zr142 fun b2 => ?_)
 refine RG.nil (WP.seq (WP.region ?_))
 refine RG.ot rfl (OT.alloc rfl Zr142 fun b3 => ?_)
 refine RG.nil (WP.seq (WP.region (RG.pv rfl (PV.field rfl Fo230_0 rfl) (RG.pv rfl (PV.load1 rfl Sc2 rfl (Rd.blk rfl)) (RG.pv rfl (PV.field rfl Fo142_0 rfl) ?_)))))
 refine RG.ot rfl (OT.storeB (vs := [vi _]) (cs' := [_, _, _, _, _]) rfl Sz2 rfl rfl (Cl.c rfl) rfl (OneC.c rfl) rfl rfl ?_)
 refine RG.nil (WP.seq (WP.region (RG.pv rfl (PV.field rfl Fo230_1 rfl) (RG.pv rfl (PV.loadB (vs := [_, _, _, _]) rfl Ag228 rfl rfl rfl) ?_))))
 refine RG.callF (vs := [_]) rfl rfl En203 rfl (toRect_s ?_)
 refine RG.pv rfl (PV.field rfl Fo142_1 rfl) ?_
 refine RG.ot rfl (OT.storeB (vs := [vi _, vi _, vi _, vi _]) (cs' := [_, _, _, _, _]) rfl Sz140 rfl rfl (Cl.c rfl) rfl (OneC.c rfl) rfl rfl ?_)
 refine RG.nil (WP.seq (WP.region (RG.pv rfl (PV.loadW rfl Ag142 rfl rfl) ?_)))
 refine RG.ot rfl (OT.storeW (vs := [vi _, vi _, vi _, vi _, vi _]) rfl Sz142 rfl rfl (Cl.c rfl) rfl rfl (OneC.c rfl) ?_)
 refine RG.nil ?_
 refine WP.ret ?_
 exact ⟨_, _, ResV.one rfl (RV1.cell rfl Ag142 rfl), Cv.p, k⟩
theorem toShapeS_s {v : Value} {xs : List Shape} (h1 : Rs G L shapeT v xs) (hb : xs.length ≤ 1048576) (k : ∀ v', R v' G (osl 142 shapeT v' xs :: L)) : CallT Tryz.prog 115 #[v] G L R := by
 refine CallT.enter (args := _) Tryz.func115 rfl rfl (by kernel_rfl) rfl ?_
 refine WP.seq (WP.region (RG.pv rfl (PV.asg rfl rfl) (RG.nil (WP.seq (WP.region (RG.pv rfl (PV.move (v := v) rfl rfl) (RG.pv rfl (PV.len (v := v) rfl Tryz.underlying103 rfl (SlF.r h1)) ?_)))))))
 refine RG.ot rfl (OT.make (F := shapeT) (a0 := default) rfl El83 rfl (by decide) rfl rfl (by omega) (by omega) fun v7 => ?_)
 refine RG.pv rfl (PV.asg (v := v7) rfl rfl) (RG.nil (WP.seq (WP.seq (WP.region (RG.mr rfl rfl rfl (RG.nil (WP.block ?_)))))))
 refine WP.loop2 [0, 3] (fun i ys => i ≤ xs.length ∧ ys.length = xs.length ∧ ∀ j, j < i → ys[j]? = xs[j]?) (fun i ys => [(4, vi i)]) (fun i ys => osl 142 shapeT v7 ys :: L) (fun i ys => xs.length - i) 0 (List.replicate xs.length default) ⟨by omega, by simp, fun j h => by omega⟩ ⟨rfl, trivial⟩ Cv.p ?_
 rintro i ys τ ⟨hi, hl, he⟩
 refine WP.seq (WP.seq (WP.region (RG.ml rfl rfl rfl (RG.pv rfl (PV.move (v := v) rfl rfl) (RG.pv rfl (PV.len (v := v) rfl Tryz.underlying103 rfl (SlF.r h1)) (RG.pv rfl (PV.lss rfl rfl rfl) (RG.nil ?_)))))))
 refine WP.cond rfl (fun h2 => ?_) (fun h2 => ?_)
 · have h2 := of_decide_eq_true h2
   refine WP.skip (WP.seq (WP.block (WP.region (RG.pv rfl (PV.move (v := v7) rfl rfl) (RG.ml rfl rfl rfl (RG.pv rfl (PV.move (v := v) rfl rfl) (RG.ml rfl rfl rfl ?_)))))))
   refine RG.pv rfl (PV.idxS (v := v) rfl Is103 rfl (SlF.r h1) rfl rfl (by omega)) (RG.pv rfl (PV.loadE rfl Ag230 rfl rfl (El.r h1 (getG (by omega)))) ?_)
   refine RG.callF (vs := [_]) rfl rfl En161 rfl (toShape_s ?_)
   refine RG.pv rfl (PV.idxS (v := v7) rfl Is83 rfl SlF.o rfl rfl (by omega)) ?_
   refine RG.ot rfl (OT.storeE (F := shapeT) rfl Sz142 rfl rfl rfl (Cl.c rfl) (OneC.c rfl) (by omega) ?_)
   refine RG.nil (WP.region (RG.ml rfl rfl rfl (RG.pv rfl (PV.add rfl rfl rfl (by omega)) (RG.mr rfl rfl rfl (RG.nil ?_)))))
   exact ⟨rfl, i + 1, _, ⟨by omega, by simpa using hl, set_pre he (getG (by omega)) hl⟩, ⟨rfl, trivial⟩, ⟨rfl, rfl, trivial⟩, Cv.p, by omega⟩
 · have h2 := of_decide_eq_false h2
   obtain rfl := pre_eq he hl (by omega)
   refine WP.exit ?_
   refine WP.seq (WP.region (RG.pv rfl (PV.move (v := v7) rfl rfl) (RG.pv rfl (PV.asg (v := v7) rfl rfl) (RG.nil ?_))))
   refine WP.ret ?_
   exact ⟨_, _, ResV.one rfl rfl, Cv.p, k v7⟩
theorem szShapeS_s {v : Value} {xs : List Shape} {n : Int} (h1 : Rs G L shapeT v xs) (hn : n ≤ 1048576) (h0 : 0 ≤ n) (k : ∀ r : Int, r ≤ n → (0 ≤ r → r = n - xs.length) → R (vi r) G L) : CallT Tryz.prog 108 #[v, vi n] G L R := by
 refine CallT.bd h1 fun hb => ?_
 refine CallT.enter (args := _) Tryz.func108 rfl rfl (by kernel_rfl) rfl ?_
 refine WP.seq (WP.region (RG.mr rfl rfl rfl (RG.nil (WP.seq (WP.region (RG.ml rfl rfl rfl (RG.pv rfl (PV.move (v := v) rfl rfl) ?_)))))))
 refine RG.pv rfl (PV.len (v := v) rfl Tryz.underlying103 rfl (SlF.r h1)) (RG.pv rfl (PV.sub rfl rfl rfl (by omega)) (RG.mr rfl rfl rfl (RG.nil (WP.seq (WP.seq (WP.region (RG.ml rfl rfl rfl ?_)))))))
 refine RG.pv rfl (PV.lss rfl rfl rfl) (RG.nil ?_)
 refine WP.cond rfl (fun h2 => ?_) (fun h2 => ?_)
 · refine WP.seq ?_
   refine WP.region (RG.mr rfl rfl rfl (RG.nil ?_))
   refine WP.ret ?_
   exact ⟨_, _, ResV.one rfl rfl, Cv.p, k _ (by omega) (fun h => by omega)⟩
 · refine WP.skip ?_
   refine WP.seq (WP.region (RG.ml rfl rfl rfl (RG.mr rfl rfl rfl (RG.nil ?_))))
   refine WP.ret ?_
   exact ⟨_, _, ResV.one rfl rfl, Cv.p, k _ (by omega) (fun h => by omega)⟩
theorem toTrans_s {l : Trans} (k : R (vT transT l) G L) : CallT Tryz.prog 205 #[vT transT l] G L R := by
 refine CallT.enter (args := _) Tryz.func205 rfl rfl (by kernel_rfl) rfl ?_
 refine WP.seq (WP.region ?_)
 refine RG.ot rfl (OT.box (cs := transT.enc l) rfl rfl rfl fun b1 => ?_)
 refine RG.ot rfl (OT.alloc rfl Zr136 fun b2 => ?_)
 refine RG.nil (WP.seq (WP.region ?_))
 refine RG.ot rfl (OT.alloc rfl Zr136 fun b3 => ?_)
 refine RG.nil (WP.seq (WP.region (RG.pv rfl (PV.field rfl Fo233_0 rfl) (RG.pv rfl (PV.load1 rfl Sc2 rfl (Rd.blk rfl)) (RG.pv rfl (PV.field rfl Fo136_0 rfl) ?_)))))
 refine RG.ot rfl (OT.storeB (vs := [vi _]) (cs' := [_, _, _]) rfl Sz2 rfl rfl (Cl.c rfl) rfl (OneC.c rfl) rfl rfl ?_)
 refine RG.nil (WP.seq (WP.region (RG.pv rfl (PV.field rfl Fo233_1 rfl) (RG.pv rfl (PV.load1 rfl Sc2 rfl (Rd.blk rfl)) (RG.pv rfl (PV.field rfl Fo136_1 rfl) ?_)))))
 refine RG.ot rfl (OT.storeB (vs := [vi _]) (cs' := [_, _, _]) rfl Sz2 rfl rfl (Cl.c rfl) rfl (OneC.c rfl) rfl rfl ?_)
 refine RG.nil (WP.seq (WP.region (RG.pv rfl (PV.field rfl Fo233_2 rfl) (RG.pv rfl (PV.load1 rfl Sc2 rfl (Rd.blk rfl)) (RG.pv rfl (PV.field rfl Fo136_2 rfl) ?_)))))
 refine RG.ot rfl (OT.storeB (vs := [vi _]) (cs' := [_, _, _]) rfl Sz2 rfl rfl (Cl.c rfl) rfl (OneC.c rfl) rfl rfl ?_)
 refine RG.nil (WP.seq (WP.region (RG.pv rfl (PV.loadW rfl Ag136 rfl rfl) ?_)))
 refine RG.ot rfl (OT.storeW (vs := [vi _, vi _, vi _]) rfl Sz136 rfl rfl (Cl.c rfl) rfl rfl (OneC.c rfl) ?_)
 refine RG.nil ?_
 refine WP.ret ?_
 exact ⟨_, _, ResV.one rfl (RV1.cell rfl Ag136 rfl), Cv.p, k⟩
theorem toInst_s {l : Inst} (k : R (vT instT l) G L) : CallT Tryz.prog 163 #[vT instT l] G L R := by
 refine CallT.enter (args := _) Tryz.func163 rfl rfl (by kernel_rfl) rfl ?_
 refine WP.seq (WP.region ?_)
 refine RG.ot rfl (OT.box (cs := instT.enc l) rfl rfl rfl fun b1 => ?_)
 refine RG.ot rfl (OT.alloc rfl Zr195 fun b2 => ?_)
 refine RG.nil (WP.seq (WP.region ?_))
 refine RG.ot rfl (OT.alloc rfl Zr195 fun b3 => ?_)
 refine RG.nil (WP.seq (WP.region (RG.pv rfl (PV.field rfl Fo235_0 rfl) (RG.pv rfl (PV.load1 rfl Sc2 rfl (Rd.blk rfl)) (RG.pv rfl (PV.field rfl Fo195_0 rfl) ?_)))))
 refine RG.ot rfl (OT.storeB (vs := [vi _]) (cs' := [_, _, _, _, _, _, _, _]) rfl Sz2 rfl rfl (Cl.c rfl) rfl (OneC.c rfl) rfl rfl ?_)
 refine RG.nil (WP.seq (WP.region (RG.pv rfl (PV.field rfl Fo235_1 rfl) (RG.pv rfl (PV.loadB (vs := [_, _, _]) rfl Ag233 rfl rfl rfl) ?_))))
 refine RG.callF (vs := [_]) rfl rfl En205 rfl (toTrans_s ?_)
 refine RG.pv rfl (PV.field rfl Fo195_1 rfl) ?_
 refine RG.ot rfl (OT.storeB (vs := [vi _, vi _, vi _]) (cs' := [_, _, _, _, _, _, _, _]) rfl Sz136 rfl rfl (Cl.c rfl) rfl (OneC.c rfl) rfl rfl ?_)
 refine RG.nil (WP.seq (WP.region (RG.pv rfl (PV.field rfl Fo235_2 rfl) (RG.pv rfl (PV.load1 rfl Sc2 rfl (Rd.blk rfl)) (RG.pv rfl (PV.field rfl Fo195_2 rfl) ?_)))))
 refine RG.ot rfl (OT.storeB (vs := [vi _]) (cs' := [_, _, _, _, _, _, _, _]) rfl Sz2 rfl rfl (Cl.c rfl) rfl (OneC.c rfl) rfl rfl ?_)
 refine RG.nil (WP.seq (WP.region (RG.pv rfl (PV.field rfl Fo235_3 rfl) (RG.pv rfl (PV.load1 rfl Sc2 rfl (Rd.blk rfl)) (RG.pv rfl (PV.field rfl Fo195_3 rfl) ?_)))))
 refine RG.ot rfl (OT.storeB (vs := [vi _]) (cs' := [_, _, _, _, _, _, _, _]) rfl Sz2 rfl rfl (Cl.c rfl) rfl (OneC.c rfl) rfl rfl ?_)
 refine RG.nil (WP.seq (WP.region (RG.pv rfl (PV.field rfl Fo235_4 rfl) (RG.pv rfl (PV.load1 rfl Sc2 rfl (Rd.blk rfl)) (RG.pv rfl (PV.field rfl Fo195_4 rfl) ?_)))))
 refine RG.ot rfl (OT.storeB (vs := [vi _]) (cs' := [_, _, _, _, _, _, _, _]) rfl Sz2 rfl rfl (Cl.c rfl) rfl (OneC.c rfl) rfl rfl ?_)
 refine RG.nil (WP.seq (WP.region (RG.pv rfl (PV.field rfl Fo235_5 rfl) (RG.pv rfl (PV.load1 rfl Sc2 rfl (Rd.blk rfl)) (RG.pv rfl (PV.field rfl Fo195_5 rfl) ?_)))))
 refine RG.ot rfl (OT.storeB (vs := [vi _]) (cs' := [_, _, _, _, _, _, _, _]) rfl Sz2 rfl rfl (Cl.c rfl) rfl (OneC.c rfl) rfl rfl ?_)
 refine RG.nil (WP.seq (WP.region (RG.pv rfl (PV.loadW rfl Ag195 rfl rfl) ?_)))
 refine RG.ot rfl (OT.storeW (vs := [vi _, vi _, vi _, vi _, vi _, vi _, vi _, vi _]) rfl Sz195 rfl rfl (Cl.c rfl) rfl rfl (OneC.c rfl) ?_)
 refine RG.nil ?_
 refine WP.ret ?_
 exact ⟨_, _, ResV.one rfl (RV1.cell rfl Ag195 rfl), Cv.p, k⟩
theorem eqShape_s {a b : Shape} (k : R (.bool (decide (a = b))) G L) : CallT Tryz.prog 166 #[vT shapeT a, vT shapeT b] G L R := by
 refine CallT.enter (args := _) Tryz.func166 rfl rfl (by kernel_rfl) rfl ?_
 refine WP.seq (WP.region ?_)
 refine RG.ot rfl (OT.box (cs := shapeT.enc a) rfl rfl rfl fun b2 => ?_)
 refine RG.ot rfl (OT.box (cs := shapeT.enc b) rfl rfl rfl fun b3 => ?_)
 refine RG.br rfl rfl rfl (RG.nil (WP.seq (WP.seq (WP.region (RG.pv rfl (PV.field rfl Fo142_0 rfl) (RG.pv rfl (PV.load1 rfl Sc2 rfl (Rd.blk rfl)) (RG.pv rfl (PV.field rfl Fo142_0 rfl) ?_)))))))
 refine RG.pv rfl (PV.load1 rfl Sc2 rfl (Rd.blk rfl)) (RG.pv rfl (PV.neq rfl rfl rfl) (RG.nil ?_))
 refine WP.cond rfl (fun h1 => ?_) (fun h1 => ?_)
 · have e : decide (a = b) = false := by rw [decide_eq_false_iff_not]; rintro rfl; simp at h1
   rw [e] at k
   refine WP.seq (WP.region (RG.br rfl rfl rfl (RG.nil ?_)))
   refine WP.ret ?_
   exact ⟨_, _, ResV.one rfl rfl, Cv.p, k⟩
 · refine WP.skip ?_
   refine WP.seq (WP.seq (WP.region (RG.pv rfl (PV.field rfl Fo142_1 rfl) (RG.pv rfl (PV.loadB (vs := [_, _, _, _]) rfl Ag140 rfl rfl rfl) (RG.pv rfl (PV.field rfl Fo142_1 rfl) (RG.pv rfl (PV.loadB (vs := [_, _, _, _]) rfl Ag140 rfl rfl rfl) ?_))))))
   refine RG.callF (vs := [_, _]) rfl rfl En206 rfl (eqRect_s ?_)
   refine RG.pv rfl (PV.not rfl rfl) (RG.nil ?_)
   refine WP.cond rfl (fun h2 => ?_) (fun h2 => ?_)
   · have e : decide (a = b) = false := by rw [decide_eq_false_iff_not]; rintro rfl; simp at h2
     rw [e] at k
     refine WP.seq (WP.region (RG.br rfl rfl rfl (RG.nil ?_)))
     refine WP.ret ?_
     exact ⟨_, _, ResV.one rfl rfl, Cv.p, k⟩
   · have e : decide (a = b) = true := by
       obtain ⟨a1, a2⟩ := a; obtain ⟨b1, b2⟩ := b
       simp at h1 h2 ⊢; exact ⟨h1, h2⟩
     rw [e] at k
     refine WP.skip (WP.seq (WP.region (RG.br rfl rfl rfl (RG.nil ?_))))
     refine WP.ret ?_
     exact ⟨_, _, ResV.one rfl rfl, Cv.p, k⟩
theorem eqShapeS_s {v u : Value} {xs ys : List Shape} (h1 : Rs G L shapeT v xs) (h2 : Rs G L shapeT u ys) (k : R (.bool (decide (xs = ys))) G L) : CallT Tryz.prog 121 #[v, u] G L R := by
 refine CallT.bd h1 fun hb => ?_
 refine CallT.bd h2 fun hb' => ?_
 refine CallT.enter (args := _) Tryz.func121 rfl rfl (by kernel_rfl) rfl ?_
 refine WP.seq (WP.region (RG.br rfl rfl rfl (RG.nil (WP.seq (WP.seq (WP.region (RG.pv rfl (PV.move (v := v) rfl rfl) ?_)))))))
 refine RG.pv rfl (PV.len (v := v) rfl Tryz.underlying83 rfl (SlF.r h1)) (RG.pv rfl (PV.move (v := u) rfl rfl) (RG.pv rfl (PV.len (v := u) rfl Tryz.underlying83 rfl (SlF.r h2)) (RG.pv rfl (PV.neq rfl rfl rfl) (RG.nil ?_))))
 refine WP.cond rfl (fun h3 => ?_) (fun h3 => ?_)
 · have e : decide (xs = ys) = false := by
     rw [decide_eq_false_iff_not]; rintro rfl; simp at h3
   rw [e] at k
   refine WP.seq (WP.region (RG.br rfl rfl rfl (RG.nil ?_)))
   refine WP.ret ?_
   exact ⟨_, _, ResV.one rfl rfl, Cv.p, k⟩
 · have hl : xs.length = ys.length := by simp at h3; omega
   refine WP.skip (WP.seq (WP.seq (WP.region (RG.mr rfl rfl rfl (RG.nil (WP.block ?_))))))
   refine WP.loop1 [0, 1] (fun i => i ≤ xs.length ∧ ∀ j, j < i → xs[j]? = ys[j]?) (fun i => [(5, vi i)]) (fun i => L) (fun i => xs.length - i) 0 ⟨by omega, fun j h => by omega⟩ ⟨rfl, trivial⟩ Cv.p ?_
   rintro i τ ⟨hi, he⟩
   refine WP.seq (WP.seq (WP.region (RG.ml rfl rfl rfl (RG.pv rfl (PV.move (v := v) rfl rfl) (RG.pv rfl (PV.len (v := v) rfl Tryz.underlying83 rfl (SlF.r h1)) (RG.pv rfl (PV.lss rfl rfl rfl) (RG.nil ?_)))))))
   refine WP.cond rfl (fun h4 => ?_) (fun h4 => ?_)
   · have h4 := of_decide_eq_true h4
     have h5 : i < xs.length := by omega
     refine WP.skip (WP.seq (WP.block (WP.seq ?_)))
     refine WP.regionQ (by kernel_rfl) (by kernel_rfl) ?_
     refine RQ.pv rfl (PV.move (v := v) rfl rfl) ?_
     refine RQ.pv rfl (PV.mvI (.inl rfl) rfl) ?_
     refine RQ.pv rfl (PV.idxS (v := v) rfl Is83 rfl (SlF.r h1) rfl rfl (by omega)) ?_
     refine RQ.pv rfl (PV.loadE rfl Ag142 rfl rfl (El.r h1 (getG (by omega)))) ?_
     refine RQ.pv rfl (PV.move (v := u) rfl rfl) ?_
     refine RQ.pv rfl (PV.mvI (.inl rfl) rfl) ?_
     refine RQ.pv rfl (PV.idxS (v := u) rfl Is83 rfl (SlF.r h2) rfl rfl (by omega)) ?_
     refine RQ.pv rfl (PV.loadE rfl Ag142 rfl rfl (El.r h2 (getG (by omega)))) ?_
     refine RQ.callF (vs := [_, _]) rfl rfl En166 rfl (eqShape_s ⟨rfl, rfl, rfl⟩) ?_
     refine RQ.pv rfl (PV.not rfl rfl) ?_
     refine RQ.nil ?_
     refine WP.cond rfl (fun h6 => ?_) (fun h6 => ?_)
     · have e : decide (xs = ys) = false := by
         rw [decide_eq_false_iff_not]; rintro rfl; simp at h6
       rw [e] at k
       refine WP.seq (WP.region (RG.br rfl rfl rfl (RG.nil ?_)))
       refine WP.ret ?_
       exact ⟨_, _, ResV.one rfl rfl, Cv.p, k⟩
     · have e : gd xs i = gd ys i := by simpa using h6
       have he' : ∀ j, j < i + 1 → xs[j]? = ys[j]? := fun j h => by
         by_cases c : j = i
         · rw [c, getG h5, getG (show i < ys.length by omega), e]
         · exact he j (by omega)
       refine WP.skip (WP.region (RG.ml rfl rfl rfl (RG.pv rfl (PV.add rfl rfl rfl (by omega)) (RG.mr rfl rfl rfl (RG.nil ?_)))))
       exact ⟨rfl, i + 1, ⟨by omega, he'⟩, ⟨rfl, trivial⟩, ⟨rfl, rfl, trivial⟩, Cv.p, by omega⟩
   · have h4 := of_decide_eq_false h4
     have e : decide (xs = ys) = true := by
       rw [decide_eq_true_iff]; exact pre_eq he hl (by omega)
     rw [e] at k
     refine WP.exit ?_
     refine WP.seq (WP.region (RG.br rfl rfl rfl (RG.nil ?_)))
     refine WP.ret ?_
     exact ⟨_, _, ResV.one rfl rfl, Cv.p, k⟩
theorem eqTrans_s {a b : Trans} (k : R (.bool (decide (a = b))) G L) : CallT Tryz.prog 208 #[vT transT a, vT transT b] G L R := by
 refine CallT.enter (args := _) Tryz.func208 rfl rfl (by kernel_rfl) rfl ?_
 refine WP.seq (WP.region ?_)
 refine RG.ot rfl (OT.box (cs := transT.enc a) rfl rfl rfl fun b2 => ?_)
 refine RG.ot rfl (OT.box (cs := transT.enc b) rfl rfl rfl fun b3 => ?_)
 refine RG.br rfl rfl rfl (RG.nil (WP.seq (WP.seq (WP.region (RG.pv rfl (PV.field rfl Fo136_0 rfl) (RG.pv rfl (PV.load1 rfl Sc2 rfl (Rd.blk rfl)) (RG.pv rfl (PV.field rfl Fo136_0 rfl) ?_)))))))
 refine RG.pv rfl (PV.load1 rfl Sc2 rfl (Rd.blk rfl)) (RG.pv rfl (PV.neq rfl rfl rfl) (RG.nil ?_))
 refine WP.cond rfl (fun h1 => ?_) (fun h1 => ?_)
 · have e : decide (a = b) = false := by rw [decide_eq_false_iff_not]; rintro rfl; simp at h1
   rw [e] at k
   refine WP.seq (WP.region (RG.br rfl rfl rfl (RG.nil ?_)))
   refine WP.ret ?_
   exact ⟨_, _, ResV.one rfl rfl, Cv.p, k⟩
 · refine WP.skip ?_
   refine WP.seq (WP.seq (WP.region (RG.pv rfl (PV.field rfl Fo136_1 rfl) (RG.pv rfl (PV.load1 rfl Sc2 rfl (Rd.blk rfl)) (RG.pv rfl (PV.field rfl Fo136_1 rfl) (RG.pv rfl (PV.load1 rfl Sc2 rfl (Rd.blk rfl)) (RG.pv rfl (PV.neq rfl rfl rfl) ?_)))))))
   refine RG.nil ?_
   refine WP.cond rfl (fun h2 => ?_) (fun h2 => ?_)
   · have e : decide (a = b) = false := by rw [decide_eq_false_iff_not]; rintro rfl; simp at h2
     rw [e] at k
     refine WP.seq (WP.region (RG.br rfl rfl rfl (RG.nil ?_)))
     refine WP.ret ?_
     exact ⟨_, _, ResV.one rfl rfl, Cv.p, k⟩
   · refine WP.skip ?_
     refine WP.seq (WP.seq (WP.region (RG.pv rfl (PV.field rfl Fo136_2 rfl) (RG.pv rfl (PV.load1 rfl Sc2 rfl (Rd.blk rfl)) (RG.pv rfl (PV.field rfl Fo136_2 rfl) (RG.pv rfl (PV.load1 rfl Sc2 rfl (Rd.blk rfl)) (RG.pv rfl (PV.neq rfl rfl rfl) ?_)))))))
     refine RG.nil ?_
     refine WP.cond rfl (fun h3 => ?_) (fun h3 => ?_)
     · have e : decide (a = b) = false := by rw [decide_eq_false_iff_not]; rintro rfl; simp at h3
       rw [e] at k
       refine WP.seq (WP.region (RG.br rfl rfl rfl (RG.nil ?_)))
       refine WP.ret ?_
       exact ⟨_, _, ResV.one rfl rfl, Cv.p, k⟩
     · have e : decide (a = b) = true := by
         obtain ⟨a1, a2, a3⟩ := a; obtain ⟨b1, b2, b3⟩ := b
         simp at h1 h2 h3 ⊢; exact ⟨h1, h2, h3⟩
       rw [e] at k
       refine WP.skip (WP.seq (WP.region (RG.br rfl rfl rfl (RG.nil ?_))))
       refine WP.ret ?_
       exact ⟨_, _, ResV.one rfl rfl, Cv.p, k⟩
theorem eqInst_s {a b : Inst} (k : R (.bool (decide (a = b))) G L) : CallT Tryz.prog 168 #[vT instT a, vT instT b] G L R := by
 refine CallT.enter (args := _) Tryz.func168 rfl rfl (by kernel_rfl) rfl ?_
 refine WP.seq (WP.region ?_)
 refine RG.ot rfl (OT.box (cs := instT.enc a) rfl rfl rfl fun b2 => ?_)
 refine RG.ot rfl (OT.box (cs := instT.enc b) rfl rfl rfl fun b3 => ?_)
 refine RG.br rfl rfl rfl (RG.nil (WP.seq (WP.seq (WP.region (RG.pv rfl (PV.field rfl Fo195_0 rfl) (RG.pv rfl (PV.load1 rfl Sc2 rfl (Rd.blk rfl)) (RG.pv rfl (PV.field rfl Fo195_0 rfl) ?_)))))))
 refine RG.pv rfl (PV.load1 rfl Sc2 rfl (Rd.blk rfl)) (RG.pv rfl (PV.neq rfl rfl rfl) (RG.nil ?_))
 refine WP.cond rfl (fun h1 => ?_) (fun h1 => ?_)
 · have e : decide (a = b) = false := by rw [decide_eq_false_iff_not]; rintro rfl; simp at h1
   rw [e] at k
   refine WP.seq (WP.region (RG.br rfl rfl rfl (RG.nil ?_)))
   refine WP.ret ?_
   exact ⟨_, _, ResV.one rfl rfl, Cv.p, k⟩
 · refine WP.skip ?_
   refine WP.seq (WP.seq (WP.region (RG.pv rfl (PV.field rfl Fo195_1 rfl) (RG.pv rfl (PV.loadB (vs := [_, _, _]) rfl Ag136 rfl rfl rfl) (RG.pv rfl (PV.field rfl Fo195_1 rfl) (RG.pv rfl (PV.loadB (vs := [_, _, _]) rfl Ag136 rfl rfl rfl) ?_))))))
   refine RG.callF (vs := [_, _]) rfl rfl En208 rfl (eqTrans_s ?_)
   refine RG.pv rfl (PV.not rfl rfl) (RG.nil ?_)
   refine WP.cond rfl (fun h2 => ?_) (fun h2 => ?_)
   · have e : decide (a = b) = false := by rw [decide_eq_false_iff_not]; rintro rfl; simp at h2
     rw [e] at k
     refine WP.seq (WP.region (RG.br rfl rfl rfl (RG.nil ?_)))
     refine WP.ret ?_
     exact ⟨_, _, ResV.one rfl rfl, Cv.p, k⟩
   · refine WP.skip ?_
     refine WP.seq (WP.seq (WP.region (RG.pv rfl (PV.field rfl Fo195_2 rfl) (RG.pv rfl (PV.load1 rfl Sc2 rfl (Rd.blk rfl)) (RG.pv rfl (PV.field rfl Fo195_2 rfl) (RG.pv rfl (PV.load1 rfl Sc2 rfl (Rd.blk rfl)) (RG.pv rfl (PV.neq rfl rfl rfl) ?_)))))))
     refine RG.nil ?_
     refine WP.cond rfl (fun h3 => ?_) (fun h3 => ?_)
     · have e : decide (a = b) = false := by rw [decide_eq_false_iff_not]; rintro rfl; simp at h3
       rw [e] at k
       refine WP.seq (WP.region (RG.br rfl rfl rfl (RG.nil ?_)))
       refine WP.ret ?_
       exact ⟨_, _, ResV.one rfl rfl, Cv.p, k⟩
     · refine WP.skip ?_
       refine WP.seq (WP.seq (WP.region (RG.pv rfl (PV.field rfl Fo195_3 rfl) (RG.pv rfl (PV.load1 rfl Sc2 rfl (Rd.blk rfl)) (RG.pv rfl (PV.field rfl Fo195_3 rfl) (RG.pv rfl (PV.load1 rfl Sc2 rfl (Rd.blk rfl)) (RG.pv rfl (PV.neq rfl rfl rfl) ?_)))))))
       refine RG.nil ?_
       refine WP.cond rfl (fun h4 => ?_) (fun h4 => ?_)
       · have e : decide (a = b) = false := by rw [decide_eq_false_iff_not]; rintro rfl; simp at h4
         rw [e] at k
         refine WP.seq (WP.region (RG.br rfl rfl rfl (RG.nil ?_)))
         refine WP.ret ?_
         exact ⟨_, _, ResV.one rfl rfl, Cv.p, k⟩
       · refine WP.skip ?_
         refine WP.seq (WP.seq (WP.region (RG.pv rfl (PV.field rfl Fo195_4 rfl) (RG.pv rfl (PV.load1 rfl Sc2 rfl (Rd.blk rfl)) (RG.pv rfl (PV.field rfl Fo195_4 rfl) (RG.pv rfl (PV.load1 rfl Sc2 rfl (Rd.blk rfl)) (RG.pv rfl (PV.neq rfl rfl rfl) ?_)))))))
         refine RG.nil ?_
         refine WP.cond rfl (fun h5 => ?_) (fun h5 => ?_)
         · have e : decide (a = b) = false := by rw [decide_eq_false_iff_not]; rintro rfl; simp at h5
           rw [e] at k
           refine WP.seq (WP.region (RG.br rfl rfl rfl (RG.nil ?_)))
           refine WP.ret ?_
           exact ⟨_, _, ResV.one rfl rfl, Cv.p, k⟩
         · refine WP.skip ?_
           refine WP.seq (WP.seq (WP.region (RG.pv rfl (PV.field rfl Fo195_5 rfl) (RG.pv rfl (PV.load1 rfl Sc2 rfl (Rd.blk rfl)) (RG.pv rfl (PV.field rfl Fo195_5 rfl) (RG.pv rfl (PV.load1 rfl Sc2 rfl (Rd.blk rfl)) (RG.pv rfl (PV.neq rfl rfl rfl) ?_)))))))
           refine RG.nil ?_
           refine WP.cond rfl (fun h6 => ?_) (fun h6 => ?_)
           · have e : decide (a = b) = false := by rw [decide_eq_false_iff_not]; rintro rfl; simp at h6
             rw [e] at k
             refine WP.seq (WP.region (RG.br rfl rfl rfl (RG.nil ?_)))
             refine WP.ret ?_
             exact ⟨_, _, ResV.one rfl rfl, Cv.p, k⟩
           · have e : decide (a = b) = true := by
               obtain ⟨a1, a2, a3, a4, a5, a6⟩ := a; obtain ⟨b1, b2, b3, b4, b5, b6⟩ := b
               simp at h1 h2 h3 h4 h5 h6 ⊢; exact ⟨h1, h2, h3, h4, h5, h6⟩
             rw [e] at k
             refine WP.skip (WP.seq (WP.region (RG.br rfl rfl rfl (RG.nil ?_))))
             refine WP.ret ?_
             exact ⟨_, _, ResV.one rfl rfl, Cv.p, k⟩
theorem toInstS_s {v : Value} {xs : List Inst} (h1 : Rs G L instT v xs) (hb : xs.length ≤ 1048576) (k : ∀ v', R v' G (osl 195 instT v' xs :: L)) : CallT Tryz.prog 117 #[v] G L R := by
 refine CallT.enter (args := _) Tryz.func117 rfl rfl (by kernel_rfl) rfl ?_
 refine WP.seq (WP.region (RG.pv rfl (PV.asg rfl rfl) (RG.nil (WP.seq (WP.region (RG.pv rfl (PV.move (v := v) rfl rfl) (RG.pv rfl (PV.len (v := v) rfl Tryz.underlying105 rfl (SlF.r h1)) ?_)))))))
 refine RG.ot rfl (OT.make (F := instT) (a0 := default) rfl El114 rfl (by decide) rfl rfl (by omega) (by omega) fun v7 => ?_)
 refine RG.pv rfl (PV.asg (v := v7) rfl rfl) (RG.nil (WP.seq (WP.seq (WP.region (RG.mr rfl rfl rfl (RG.nil (WP.block ?_)))))))
 refine WP.loop2 [0, 3] (fun i ys => i ≤ xs.length ∧ ys.length = xs.length ∧ ∀ j, j < i → ys[j]? = xs[j]?) (fun i ys => [(4, vi i)]) (fun i ys => osl 195 instT v7 ys :: L) (fun i ys => xs.length - i) 0 (List.replicate xs.length default) ⟨by omega, by simp, fun j h => by omega⟩ ⟨rfl, trivial⟩ Cv.p ?_
 rintro i ys τ ⟨hi, hl, he⟩
 refine WP.seq (WP.seq (WP.region (RG.ml rfl rfl rfl (RG.pv rfl (PV.move (v := v) rfl rfl) (RG.pv rfl (PV.len (v := v) rfl Tryz.underlying105 rfl (SlF.r h1)) (RG.pv rfl (PV.lss rfl rfl rfl) (RG.nil ?_)))))))
 refine WP.cond rfl (fun h2 => ?_) (fun h2 => ?_)
 · have h2 := of_decide_eq_true h2
   refine WP.skip (WP.seq (WP.block (WP.region (RG.pv rfl (PV.move (v := v7) rfl rfl) (RG.ml rfl rfl rfl (RG.pv rfl (PV.move (v := v) rfl rfl) (RG.ml rfl rfl rfl ?_)))))))
   refine RG.pv rfl (PV.idxS (v := v) rfl Is105 rfl (SlF.r h1) rfl rfl (by omega)) (RG.pv rfl (PV.loadE rfl Ag235 rfl rfl (El.r h1 (getG (by omega)))) ?_)
   refine RG.callF (vs := [_]) rfl rfl En163 rfl (toInst_s ?_)
   refine RG.pv rfl (PV.idxS (v := v7) rfl Is114 rfl SlF.o rfl rfl (by omega)) ?_
   refine RG.ot rfl (OT.storeE (F := instT) rfl Sz195 rfl rfl rfl (Cl.c rfl) (OneC.c rfl) (by omega) ?_)
   refine RG.nil (WP.region (RG.ml rfl rfl rfl (RG.pv rfl (PV.add rfl rfl rfl (by omega)) (RG.mr rfl rfl rfl (RG.nil ?_)))))
   exact ⟨rfl, i + 1, _, ⟨by omega, by simpa using hl, set_pre he (getG (by omega)) hl⟩, ⟨rfl, trivial⟩, ⟨rfl, rfl, trivial⟩, Cv.p, by omega⟩
 · have h2 := of_decide_eq_false h2
   obtain rfl := pre_eq he hl (by omega)
   refine WP.exit ?_
   refine WP.seq (WP.region (RG.pv rfl (PV.move (v := v7) rfl rfl) (RG.pv rfl (PV.asg (v := v7) rfl rfl) (RG.nil ?_))))
   refine WP.ret ?_
   exact ⟨_, _, ResV.one rfl rfl, Cv.p, k v7⟩
theorem szInstanceS_s {v : Value} {xs : List Inst} {n : Int} (h1 : Rs G L instT v xs) (hn : n ≤ 1048576) (h0 : 0 ≤ n) (k : ∀ r : Int, r ≤ n → (0 ≤ r → r = n - xs.length) → R (vi r) G L) : CallT Tryz.prog 110 #[v, vi n] G L R := by
 refine CallT.bd h1 fun hb => ?_
 refine CallT.enter (args := _) Tryz.func110 rfl rfl (by kernel_rfl) rfl ?_
 refine WP.seq (WP.region (RG.mr rfl rfl rfl (RG.nil (WP.seq (WP.region (RG.ml rfl rfl rfl (RG.pv rfl (PV.move (v := v) rfl rfl) ?_)))))))
 refine RG.pv rfl (PV.len (v := v) rfl Tryz.underlying105 rfl (SlF.r h1)) (RG.pv rfl (PV.sub rfl rfl rfl (by omega)) (RG.mr rfl rfl rfl (RG.nil (WP.seq (WP.seq (WP.region (RG.ml rfl rfl rfl ?_)))))))
 refine RG.pv rfl (PV.lss rfl rfl rfl) (RG.nil ?_)
 refine WP.cond rfl (fun h2 => ?_) (fun h2 => ?_)
 · refine WP.seq ?_
   refine WP.region (RG.mr rfl rfl rfl (RG.nil ?_))
   refine WP.ret ?_
   exact ⟨_, _, ResV.one rfl rfl, Cv.p, k _ (by omega) (fun h => by omega)⟩
 · refine WP.skip ?_
   refine WP.seq (WP.region (RG.ml rfl rfl rfl (RG.mr rfl rfl rfl (RG.nil ?_))))
   refine WP.ret ?_
   exact ⟨_, _, ResV.one rfl rfl, Cv.p, k _ (by omega) (fun h => by omega)⟩
theorem eqInstS_s {v u : Value} {xs ys : List Inst} (h1 : Rs G L instT v xs) (h2 : Rs G L instT u ys) (k : R (.bool (decide (xs = ys))) G L) : CallT Tryz.prog 123 #[v, u] G L R := by
 refine CallT.bd h1 fun hb => ?_
 refine CallT.bd h2 fun hb' => ?_
 refine CallT.enter (args := _) Tryz.func123 rfl rfl (by kernel_rfl) rfl ?_
 refine WP.seq (WP.region (RG.br rfl rfl rfl (RG.nil (WP.seq (WP.seq (WP.region (RG.pv rfl (PV.move (v := v) rfl rfl) ?_)))))))
 refine RG.pv rfl (PV.len (v := v) rfl Tryz.underlying114 rfl (SlF.r h1)) (RG.pv rfl (PV.move (v := u) rfl rfl) (RG.pv rfl (PV.len (v := u) rfl Tryz.underlying114 rfl (SlF.r h2)) (RG.pv rfl (PV.neq rfl rfl rfl) (RG.nil ?_))))
 refine WP.cond rfl (fun h3 => ?_) (fun h3 => ?_)
 · have e : decide (xs = ys) = false := by
     rw [decide_eq_false_iff_not]; rintro rfl; simp at h3
   rw [e] at k
   refine WP.seq (WP.region (RG.br rfl rfl rfl (RG.nil ?_)))
   refine WP.ret ?_
   exact ⟨_, _, ResV.one rfl rfl, Cv.p, k⟩
 · have hl : xs.length = ys.length := by simp at h3; omega
   refine WP.skip (WP.seq (WP.seq (WP.region (RG.mr rfl rfl rfl (RG.nil (WP.block ?_))))))
   refine WP.loop1 [0, 1] (fun i => i ≤ xs.length ∧ ∀ j, j < i → xs[j]? = ys[j]?) (fun i => [(5, vi i)]) (fun i => L) (fun i => xs.length - i) 0 ⟨by omega, fun j h => by omega⟩ ⟨rfl, trivial⟩ Cv.p ?_
   rintro i τ ⟨hi, he⟩
   refine WP.seq (WP.seq (WP.region (RG.ml rfl rfl rfl (RG.pv rfl (PV.move (v := v) rfl rfl) (RG.pv rfl (PV.len (v := v) rfl Tryz.underlying114 rfl (SlF.r h1)) (RG.pv rfl (PV.lss rfl rfl rfl) (RG.nil ?_)))))))
   refine WP.cond rfl (fun h4 => ?_) (fun h4 => ?_)
   · have h4 := of_decide_eq_true h4
     have h5 : i < xs.length := by omega
     refine WP.skip (WP.seq (WP.block (WP.seq ?_)))
     refine WP.regionQ (by kernel_rfl) (by kernel_rfl) ?_
     refine RQ.pv rfl (PV.move (v := v) rfl rfl) ?_
     refine RQ.pv rfl (PV.mvI (.inl rfl) rfl) ?_
     refine RQ.pv rfl (PV.idxS (v := v) rfl Is114 rfl (SlF.r h1) rfl rfl (by omega)) ?_
     refine RQ.pv rfl (PV.loadE rfl Ag195 rfl rfl (El.r h1 (getG (by omega)))) ?_
     refine RQ.pv rfl (PV.move (v := u) rfl rfl) ?_
     refine RQ.pv rfl (PV.mvI (.inl rfl) rfl) ?_
     refine RQ.pv rfl (PV.idxS (v := u) rfl Is114 rfl (SlF.r h2) rfl rfl (by omega)) ?_
     refine RQ.pv rfl (PV.loadE rfl Ag195 rfl rfl (El.r h2 (getG (by omega)))) ?_
     refine RQ.callF (vs := [_, _]) rfl rfl En168 rfl (eqInst_s ⟨rfl, rfl, rfl⟩) ?_
     refine RQ.pv rfl (PV.not rfl rfl) ?_
     refine RQ.nil ?_
     refine WP.cond rfl (fun h6 => ?_) (fun h6 => ?_)
     · have e : decide (xs = ys) = false := by
         rw [decide_eq_false_iff_not]; rintro rfl; simp at h6
       rw [e] at k
       refine WP.seq (WP.region (RG.br rfl rfl rfl (RG.nil ?_)))
       refine WP.ret ?_
       exact ⟨_, _, ResV.one rfl rfl, Cv.p, k⟩
     · have e : gd xs i = gd ys i := by simpa using h6
       have he' : ∀ j, j < i + 1 → xs[j]? = ys[j]? := fun j h => by
         by_cases c : j = i
         · rw [c, getG h5, getG (show i < ys.length by omega), e]
         · exact he j (by omega)
       refine WP.skip (WP.region (RG.ml rfl rfl rfl (RG.pv rfl (PV.add rfl rfl rfl (by omega)) (RG.mr rfl rfl rfl (RG.nil ?_)))))
       exact ⟨rfl, i + 1, ⟨by omega, he'⟩, ⟨rfl, trivial⟩, ⟨rfl, rfl, trivial⟩, Cv.p, by omega⟩
   · have h4 := of_decide_eq_false h4
     have e : decide (xs = ys) = true := by
       rw [decide_eq_true_iff]; exact pre_eq he hl (by omega)
     rw [e] at k
     refine WP.exit ?_
     refine WP.seq (WP.region (RG.br rfl rfl rfl (RG.nil ?_)))
     refine WP.ret ?_
     exact ⟨_, _, ResV.one rfl rfl, Cv.p, k⟩
def mkSh (_ : Shape) (k : Int) : Shape := ⟨k, ⟨k + 1, k + 1 + 1, k + 1 + 1 + 1, k + 1 + 1 + 1 + 1⟩⟩
def nSh (_ : Shape) : Int := 5
theorem nSh_cost (xs : List Shape) : costL nSh xs = 5 * xs.length := costL_const 5 xs
theorem mkSh_at {xs : List Shape} {i : Nat} {k0 kk : Int} (h : i < xs.length) (e : kk = k0 + 5 * i) : mkSh (gd xs i) (k0 + costL nSh (xs.take i)) = ⟨kk, ⟨kk + 1, kk + 1 + 1, kk + 1 + 1 + 1, kk + 1 + 1 + 1 + 1⟩⟩ := by
 rw [mkSh, nSh_cost, List.length_take, Nat.min_eq_left (by omega), e]
def mkIn (_ : Inst) (k : Int) : Inst := ⟨k, ⟨k + 1, k + 1 + 1, k + 1 + 1 + 1⟩, k + 1 + 1 + 1 + 1, k + 1 + 1 + 1 + 1 + 1, k + 1 + 1 + 1 + 1 + 1 + 1, k + 1 + 1 + 1 + 1 + 1 + 1 + 1⟩
def nIn (_ : Inst) : Int := 8
theorem nIn_cost (xs : List Inst) : costL nIn xs = 8 * xs.length := costL_const 8 xs
theorem mkIn_at {xs : List Inst} {i : Nat} {k0 kk : Int} (h : i < xs.length) (e : kk = k0 + 8 * i) : mkIn (gd xs i) (k0 + costL nIn (xs.take i)) = ⟨kk, ⟨kk + 1, kk + 1 + 1, kk + 1 + 1 + 1⟩, kk + 1 + 1 + 1 + 1, kk + 1 + 1 + 1 + 1 + 1, kk + 1 + 1 + 1 + 1 + 1 + 1, kk + 1 + 1 + 1 + 1 + 1 + 1 + 1⟩ := by
 rw [mkIn, nIn_cost, List.length_take, Nat.min_eq_left (by omega), e]
theorem markShapeS_s {v : Value} {xs : List Shape} {k0 : Int} (hk : 0 ≤ k0) (hb : k0 + costL nSh xs ≤ 4611686018427387904) (k : R (vi (k0 + costL nSh xs)) G (osl 142 shapeT v (markL mkSh nSh xs k0) :: L)) : CallT Tryz.prog 69 #[v, vi k0] G (osl 142 shapeT v xs :: L) R := by
 have hc := nSh_cost xs
 refine CallT.cv (Cv.eqS (markTo_zero (mk := mkSh) (n := nSh) (k := k0)).symm) ?_
 refine CallT.enter (args := _) Tryz.func69 rfl rfl (by kernel_rfl) rfl ?_
 refine WP.seq (WP.region (RG.mr rfl rfl rfl (RG.nil (WP.seq (WP.seq (WP.region (RG.mr rfl rfl rfl ?_)))))))
 refine RG.nil (WP.block ?_)
 refine WP.loop2 [0] (fun (i : Nat) (kk : Int) => i ≤ xs.length ∧ kk = k0 + 5 * i) (fun (i : Nat) (kk : Int) => [(5, vi i), (1, vi kk)]) (fun (i : Nat) (kk : Int) => osl 142 shapeT v (markTo mkSh nSh xs k0 i) :: L) (fun (i : Nat) (kk : Int) => xs.length - i) 0 k0 ⟨by omega, by omega⟩ ⟨rfl, rfl, trivial⟩ Cv.p ?_
 rintro i kk τ ⟨hi, hkk⟩
 refine WP.seq (WP.seq (WP.region (RG.ml rfl rfl rfl (RG.pv rfl (PV.move (v := v) rfl rfl) (RG.pv rfl (PV.len (v := v) rfl Tryz.underlying83 rfl SlF.o) (RG.pv rfl (PV.lss rfl rfl rfl) (RG.nil ?_)))))))
 have hml := markTo_len (mk := mkSh) (n := nSh) (k := k0) hi
 refine WP.cond rfl (fun h1 => ?_) (fun h1 => ?_)
 · have h1 := of_decide_eq_true h1
   have h2 : i < xs.length := by omega
   refine WP.skip (WP.seq (WP.block (WP.seq (WP.region (RG.pv rfl (PV.move (v := v) rfl rfl) (RG.ml rfl rfl rfl (RG.ml rfl rfl rfl ?_)))))))
   refine RG.pv rfl (PV.idxS (v := v) rfl Is83 rfl SlF.o rfl rfl (by omega)) (RG.pv rfl (PV.field rfl Fo142_0 rfl) ?_)
   refine RG.ot rfl (OT.storeF (F := shapeT) (val := vi) (cv := fun u => [vi u]) (st := Shape.s0) rfl Sz2 rfl rfl rfl (Cl.c rfl) rfl (OneC.c rfl) (by exact set_self (by omega)) (by first | omega | (simp; omega)) rfl (fun _ _ => rfl) ?_)
   refine RG.nil (WP.seq (WP.region (RG.ml rfl rfl rfl (RG.pv rfl (PV.add rfl rfl rfl (by first | omega | (simp only [List.length_set]; omega))) (RG.mr rfl rfl rfl (RG.nil (WP.seq ?_)))))))
   refine WP.region (RG.pv rfl (PV.move (v := v) rfl rfl) (RG.ml rfl rfl rfl (RG.ml rfl rfl rfl (RG.pv rfl (PV.idxS (v := v) rfl Is83 rfl SlF.o rfl rfl (by first | omega | (simp only [List.length_set]; omega))) (RG.pv rfl (PV.field rfl Fo142_1 rfl) (RG.pv rfl (PV.field rfl Fo140_0 rfl) ?_))))))
   refine RG.ot rfl (OT.storeF (F := shapeT) (val := vi) (cv := fun u => [vi u]) (j := 1) (st := Shape.s1_0) rfl Sz2 rfl rfl rfl (Cl.c rfl) rfl (OneC.c rfl) (by rfl) (by first | omega | (simp; omega)) rfl (fun _ _ => rfl) ?_)
   refine RG.nil (WP.seq (WP.region (RG.ml rfl rfl rfl (RG.pv rfl (PV.add rfl rfl rfl (by first | omega | (simp only [List.length_set]; omega))) (RG.mr rfl rfl rfl (RG.nil (WP.seq ?_)))))))
   refine WP.region (RG.pv rfl (PV.move (v := v) rfl rfl) (RG.ml rfl rfl rfl (RG.ml rfl rfl rfl (RG.pv rfl (PV.idxS (v := v) rfl Is83 rfl SlF.o rfl rfl (by first | omega | (simp only [List.length_set]; omega))) (RG.pv rfl (PV.field rfl Fo142_1 rfl) (RG.pv rfl (PV.field rfl Fo140_1 rfl) ?_))))))
   refine RG.ot rfl (OT.storeF (F := shapeT) (val := vi) (cv := fun u => [vi u]) (j := 2) (st := Shape.s1_1) rfl Sz2 rfl rfl rfl (Cl.c rfl) rfl (OneC.c rfl) (by rfl) (by first | omega | (simp; omega)) rfl (fun _ _ => rfl) ?_)
   refine RG.nil (WP.seq (WP.region (RG.ml rfl rfl rfl (RG.pv rfl (PV.add rfl rfl rfl (by first | omega | (simp only [List.length_set]; omega))) (RG.mr rfl rfl rfl (RG.nil (WP.seq ?_)))))))
   refine WP.region (RG.pv rfl (PV.move (v := v) rfl rfl) (RG.ml rfl rfl rfl (RG.ml rfl rfl rfl (RG.pv rfl (PV.idxS (v := v) rfl Is83 rfl SlF.o rfl rfl (by first | omega | (simp only [List.length_set]; omega))) (RG.pv rfl (PV.field rfl Fo142_1 rfl) (RG.pv rfl (PV.field rfl Fo140_2 rfl) ?_))))))
   refine RG.ot rfl (OT.storeF (F := shapeT) (val := vi) (cv := fun u => [vi u]) (j := 3) (st := Shape.s1_2) rfl Sz2 rfl rfl rfl (Cl.c rfl) rfl (OneC.c rfl) (by rfl) (by first | omega | (simp; omega)) rfl (fun _ _ => rfl) ?_)
   refine RG.nil (WP.seq (WP.region (RG.ml rfl rfl rfl (RG.pv rfl (PV.add rfl rfl rfl (by first | omega | (simp only [List.length_set]; omega))) (RG.mr rfl rfl rfl (RG.nil (WP.seq ?_)))))))
   refine WP.region (RG.pv rfl (PV.move (v := v) rfl rfl) (RG.ml rfl rfl rfl (RG.ml rfl rfl rfl (RG.pv rfl (PV.idxS (v := v) rfl Is83 rfl SlF.o rfl rfl (by first | omega | (simp only [List.length_set]; omega))) (RG.pv rfl (PV.field rfl Fo142_1 rfl) (RG.pv rfl (PV.field rfl Fo140_3 rfl) ?_))))))
   refine RG.ot rfl (OT.storeF (F := shapeT) (val := vi) (cv := fun u => [vi u]) (j := 4) (st := Shape.s1_3) rfl Sz2 rfl rfl rfl (Cl.c rfl) rfl (OneC.c rfl) (by rfl) (by first | omega | (simp; omega)) rfl (fun _ _ => rfl) ?_)
   refine RG.nil (WP.region (RG.ml rfl rfl rfl (RG.pv rfl (PV.add rfl rfl rfl (by first | omega | (simp only [List.length_set]; omega))) (RG.mr rfl rfl rfl (RG.nil (WP.region (RG.ml rfl rfl rfl ?_)))))))
   refine RG.pv rfl (PV.add rfl rfl rfl (by first | omega | (simp only [List.length_set]; omega))) (RG.mr rfl rfl rfl (RG.nil ?_))
   exact ⟨rfl, i + 1, _, ⟨by omega, by omega⟩, ⟨rfl, rfl, trivial⟩, ⟨rfl, trivial⟩, (Cv.eqS (by rw [← markTo_set h2, mkSh_at h2 hkk])), by omega⟩
 · have h1 := of_decide_eq_false h1
   have e : kk = k0 + costL nSh xs := by omega
   rw [← e] at k
   refine WP.exit ?_
   refine WP.seq (WP.region (RG.ml rfl rfl rfl (RG.mr rfl rfl rfl (RG.nil ?_))))
   refine WP.ret ?_
   exact ⟨_, _, ResV.one rfl rfl, (Cv.eqS (markTo_all (by omega))), k⟩
theorem markInstS_s {v : Value} {xs : List Inst} {k0 : Int} (hk : 0 ≤ k0) (hb : k0 + costL nIn xs ≤ 4611686018427387904) (k : R (vi (k0 + costL nIn xs)) G (osl 195 instT v (markL mkIn nIn xs k0) :: L)) : CallT Tryz.prog 71 #[v, vi k0] G (osl 195 instT v xs :: L) R := by
 have hc := nIn_cost xs
 refine CallT.cv (Cv.eqS (markTo_zero (mk := mkIn) (n := nIn) (k := k0)).symm) ?_
 refine CallT.enter (args := _) Tryz.func71 rfl rfl (by kernel_rfl) rfl ?_
 refine WP.seq (WP.region (RG.mr rfl rfl rfl (RG.nil (WP.seq (WP.seq (WP.region (RG.mr rfl rfl rfl ?_)))))))
 refine RG.nil (WP.block ?_)
 refine WP.loop2 [0] (fun (i : Nat) (kk : Int) => i ≤ xs.length ∧ kk = k0 + 8 * i) (fun (i : Nat) (kk : Int) => [(5, vi i), (1, vi kk)]) (fun (i : Nat) (kk : Int) => osl 195 instT v (markTo mkIn nIn xs k0 i) :: L) (fun (i : Nat) (kk : Int) => xs.length - i) 0 k0 ⟨by omega, by omega⟩ ⟨rfl, rfl, trivial⟩ Cv.p ?_
 rintro i kk τ ⟨hi, hkk⟩
 refine WP.seq (WP.seq (WP.region (RG.ml rfl rfl rfl (RG.pv rfl (PV.move (v := v) rfl rfl) (RG.pv rfl (PV.len (v := v) rfl Tryz.underlying114 rfl SlF.o) (RG.pv rfl (PV.lss rfl rfl rfl) (RG.nil ?_)))))))
 have hml := markTo_len (mk := mkIn) (n := nIn) (k := k0) hi
 refine WP.cond rfl (fun h1 => ?_) (fun h1 => ?_)
 · have h1 := of_decide_eq_true h1
   have h2 : i < xs.length := by omega
   refine WP.skip (WP.seq (WP.block (WP.seq (WP.region (RG.pv rfl (PV.move (v := v) rfl rfl) (RG.ml rfl rfl rfl (RG.ml rfl rfl rfl ?_)))))))
   refine RG.pv rfl (PV.idxS (v := v) rfl Is114 rfl SlF.o rfl rfl (by omega)) (RG.pv rfl (PV.field rfl Fo195_0 rfl) ?_)
   refine RG.ot rfl (OT.storeF (F := instT) (val := vi) (cv := fun u => [vi u]) (st := Inst.s0) rfl Sz2 rfl rfl rfl (Cl.c rfl) rfl (OneC.c rfl) (by exact set_self (by omega)) (by first | omega | (simp; omega)) rfl (fun _ _ => rfl) ?_)
   refine RG.nil (WP.seq (WP.region (RG.ml rfl rfl rfl (RG.pv rfl (PV.add rfl rfl rfl (by first | omega | (simp only [List.length_set]; omega))) (RG.mr rfl rfl rfl (RG.nil (WP.seq ?_)))))))
   refine WP.region (RG.pv rfl (PV.move (v := v) rfl rfl) (RG.ml rfl rfl rfl (RG.ml rfl rfl rfl (RG.pv rfl (PV.idxS (v := v) rfl Is114 rfl SlF.o rfl rfl (by first | omega | (simp only [List.length_set]; omega))) (RG.pv rfl (PV.field rfl Fo195_1 rfl) (RG.pv rfl (PV.field rfl Fo136_0 rfl) ?_))))))
   refine RG.ot rfl (OT.storeF (F := instT) (val := vi) (cv := fun u => [vi u]) (j := 1) (st := Inst.s1_0) rfl Sz2 rfl rfl rfl (Cl.c rfl) rfl (OneC.c rfl) (by rfl) (by first | omega | (simp; omega)) rfl (fun _ _ => rfl) ?_)
   refine RG.nil (WP.seq (WP.region (RG.ml rfl rfl rfl (RG.pv rfl (PV.add rfl rfl rfl (by first | omega | (simp only [List.length_set]; omega))) (RG.mr rfl rfl rfl (RG.nil (WP.seq ?_)))))))
   refine WP.region (RG.pv rfl (PV.move (v := v) rfl rfl) (RG.ml rfl rfl rfl (RG.ml rfl rfl rfl (RG.pv rfl (PV.idxS (v := v) rfl Is114 rfl SlF.o rfl rfl (by first | omega | (simp only [List.length_set]; omega))) (RG.pv rfl (PV.field rfl Fo195_1 rfl) (RG.pv rfl (PV.field rfl Fo136_1 rfl) ?_))))))
   refine RG.ot rfl (OT.storeF (F := instT) (val := vi) (cv := fun u => [vi u]) (j := 2) (st := Inst.s1_1) rfl Sz2 rfl rfl rfl (Cl.c rfl) rfl (OneC.c rfl) (by rfl) (by first | omega | (simp; omega)) rfl (fun _ _ => rfl) ?_)
   refine RG.nil (WP.seq (WP.region (RG.ml rfl rfl rfl (RG.pv rfl (PV.add rfl rfl rfl (by first | omega | (simp only [List.length_set]; omega))) (RG.mr rfl rfl rfl (RG.nil (WP.seq ?_)))))))
   refine WP.region (RG.pv rfl (PV.move (v := v) rfl rfl) (RG.ml rfl rfl rfl (RG.ml rfl rfl rfl (RG.pv rfl (PV.idxS (v := v) rfl Is114 rfl SlF.o rfl rfl (by first | omega | (simp only [List.length_set]; omega))) (RG.pv rfl (PV.field rfl Fo195_1 rfl) (RG.pv rfl (PV.field rfl Fo136_2 rfl) ?_))))))
   refine RG.ot rfl (OT.storeF (F := instT) (val := vi) (cv := fun u => [vi u]) (j := 3) (st := Inst.s1_2) rfl Sz2 rfl rfl rfl (Cl.c rfl) rfl (OneC.c rfl) (by rfl) (by first | omega | (simp; omega)) rfl (fun _ _ => rfl) ?_)
   refine RG.nil (WP.seq (WP.region (RG.ml rfl rfl rfl (RG.pv rfl (PV.add rfl rfl rfl (by first | omega | (simp only [List.length_set]; omega))) (RG.mr rfl rfl rfl (RG.nil (WP.seq ?_)))))))
   refine WP.region (RG.pv rfl (PV.move (v := v) rfl rfl) (RG.ml rfl rfl rfl (RG.ml rfl rfl rfl (RG.pv rfl (PV.idxS (v := v) rfl Is114 rfl SlF.o rfl rfl (by first | omega | (simp only [List.length_set]; omega))) (RG.pv rfl (PV.field rfl Fo195_2 rfl) ?_)))))
   refine RG.ot rfl (OT.storeF (F := instT) (val := vi) (cv := fun u => [vi u]) (st := Inst.s2) rfl Sz2 rfl rfl rfl (Cl.c rfl) rfl (OneC.c rfl) (by rfl) (by first | omega | (simp; omega)) rfl (fun _ _ => rfl) ?_)
   refine RG.nil (WP.seq (WP.region (RG.ml rfl rfl rfl (RG.pv rfl (PV.add rfl rfl rfl (by first | omega | (simp only [List.length_set]; omega))) (RG.mr rfl rfl rfl (RG.nil (WP.seq ?_)))))))
   refine WP.region (RG.pv rfl (PV.move (v := v) rfl rfl) (RG.ml rfl rfl rfl (RG.ml rfl rfl rfl (RG.pv rfl (PV.idxS (v := v) rfl Is114 rfl SlF.o rfl rfl (by first | omega | (simp only [List.length_set]; omega))) (RG.pv rfl (PV.field rfl Fo195_3 rfl) ?_)))))
   refine RG.ot rfl (OT.storeF (F := instT) (val := vi) (cv := fun u => [vi u]) (st := Inst.s3) rfl Sz2 rfl rfl rfl (Cl.c rfl) rfl (OneC.c rfl) (by rfl) (by first | omega | (simp; omega)) rfl (fun _ _ => rfl) ?_)
   refine RG.nil (WP.seq (WP.region (RG.ml rfl rfl rfl (RG.pv rfl (PV.add rfl rfl rfl (by first | omega | (simp only [List.length_set]; omega))) (RG.mr rfl rfl rfl (RG.nil (WP.seq ?_)))))))
   refine WP.region (RG.pv rfl (PV.move (v := v) rfl rfl) (RG.ml rfl rfl rfl (RG.ml rfl rfl rfl (RG.pv rfl (PV.idxS (v := v) rfl Is114 rfl SlF.o rfl rfl (by first | omega | (simp only [List.length_set]; omega))) (RG.pv rfl (PV.field rfl Fo195_4 rfl) ?_)))))
   refine RG.ot rfl (OT.storeF (F := instT) (val := vi) (cv := fun u => [vi u]) (st := Inst.s4) rfl Sz2 rfl rfl rfl (Cl.c rfl) rfl (OneC.c rfl) (by rfl) (by first | omega | (simp; omega)) rfl (fun _ _ => rfl) ?_)
   refine RG.nil (WP.seq (WP.region (RG.ml rfl rfl rfl (RG.pv rfl (PV.add rfl rfl rfl (by first | omega | (simp only [List.length_set]; omega))) (RG.mr rfl rfl rfl (RG.nil (WP.seq ?_)))))))
   refine WP.region (RG.pv rfl (PV.move (v := v) rfl rfl) (RG.ml rfl rfl rfl (RG.ml rfl rfl rfl (RG.pv rfl (PV.idxS (v := v) rfl Is114 rfl SlF.o rfl rfl (by first | omega | (simp only [List.length_set]; omega))) (RG.pv rfl (PV.field rfl Fo195_5 rfl) ?_)))))
   refine RG.ot rfl (OT.storeF (F := instT) (val := vi) (cv := fun u => [vi u]) (st := Inst.s5) rfl Sz2 rfl rfl rfl (Cl.c rfl) rfl (OneC.c rfl) (by rfl) (by first | omega | (simp; omega)) rfl (fun _ _ => rfl) ?_)
   refine RG.nil (WP.region (RG.ml rfl rfl rfl (RG.pv rfl (PV.add rfl rfl rfl (by first | omega | (simp only [List.length_set]; omega))) (RG.mr rfl rfl rfl (RG.nil (WP.region (RG.ml rfl rfl rfl ?_)))))))
   refine RG.pv rfl (PV.add rfl rfl rfl (by first | omega | (simp only [List.length_set]; omega))) (RG.mr rfl rfl rfl (RG.nil ?_))
   exact ⟨rfl, i + 1, _, ⟨by omega, by omega⟩, ⟨rfl, rfl, trivial⟩, ⟨rfl, trivial⟩, (Cv.eqS (by rw [← markTo_set h2, mkIn_at h2 hkk])), by omega⟩
 · have h1 := of_decide_eq_false h1
   have e : kk = k0 + costL nIn xs := by omega
   rw [← e] at k
   refine WP.exit ?_
   refine WP.seq (WP.region (RG.ml rfl rfl rfl (RG.mr rfl rfl rfl (RG.nil ?_))))
   refine WP.ret ?_
   exact ⟨_, _, ResV.one rfl rfl, (Cv.eqS (markTo_all (by omega))), k⟩
theorem gd_setE' {α : Type} [Inhabited α] {xs : List α} {i : Nat} {a : α} (h : i < xs.length) : gd (xs.set i a) i = a := by unfold gd; simp [h]
theorem gd_setN {α : Type} [Inhabited α] {xs : List α} {i j : Nat} {a : α} (h : i ≠ j) : gd (xs.set i a) j = gd xs j := by unfold gd; rw [List.getElem?_set_ne h]
def shs (xs : List Cell) : List (Sl Shape) := xs.map Cell.shapes
def lbs (xs : List Cell) : List (Sl Label) := xs.map Cell.labels
def ins (xs : List Cell) : List (Sl Inst) := xs.map Cell.insts
/-- the library reads as xs -/
structure RLib (G : Gh) (L : List Ch) (v : Value) (xs : List Cell) : Prop where
  c : Rs G L cellT v xs
  s : RsE G L shapeT (shs xs)
  l : RsE G L labelT (lbs xs)
  n : RsE G L instT (ins xs)
theorem RLib.up {L' : List Ch} {v : Value} {xs : List Cell} (h : RLib G L v xs) [p : PickC L L'] : RLib G L' v xs := ⟨h.c.up, h.s.up, h.l.up, h.n.up⟩
theorem RLib.cv {L' : List Ch} {v : Value} {xs : List Cell} (c : Cv L' L) (h : RLib G L v xs) : RLib G L' v xs := ⟨h.c.cv c, h.s.cv c, h.l.cv c, h.n.cv c⟩
theorem RLib.sa {v : Value} {xs : List Cell} (h : RLib G L v xs) {i : Nat} (hi : i < xs.length) : Rs G L shapeT (gd xs i).shapes.v (gd xs i).shapes.xs := by
 have := h.s i (by simpa [shs] using hi); rwa [shs, gd_map _ hi] at this
theorem RLib.la {v : Value} {xs : List Cell} (h : RLib G L v xs) {i : Nat} (hi : i < xs.length) : Rs G L labelT (gd xs i).labels.v (gd xs i).labels.xs := by
 have := h.l i (by simpa [lbs] using hi); rwa [lbs, gd_map _ hi] at this
theorem RLib.na {v : Value} {xs : List Cell} (h : RLib G L v xs) {i : Nat} (hi : i < xs.length) : Rs G L instT (gd xs i).insts.v (gd xs i).insts.xs := by
 have := h.n i (by simpa [ins] using hi); rwa [ins, gd_map _ hi] at this
/-- the cells of a cell of the library are one each -/
theorem RLib.one {L' : List Ch} {v : Value} {xs : List Cell} (h : RLib G L v xs) {i : Nat} (hi : i < xs.length) [p : PickC L L'] : OneC G L' [.string (gd xs i).name, (gd xs i).shapes.v, (gd xs i).labels.v, (gd xs i).insts.v] :=
 OneC.val rfl (OneC.sl (SlF.r (h.sa hi)) (OneC.sl (SlF.r (h.la hi)) (OneC.sl (SlF.r (h.na hi)) OneC.nil)))
/-- names are no longer than a machine bears -/
def lenL (ls : List Label) : Prop := ∀ i, i < ls.length → (gd ls i).name.size ≤ 9223372036854775807
def lenC (cs : List ECell) : Prop := ∀ i, i < cs.length → (gd cs i).name.size ≤ 9223372036854775807 ∧ lenL (gd cs i).labels
/-- lists of at most 2^20 -/
def few (cs : List ECell) : Prop := cs.length ≤ 1048576 ∧ ∀ i, i < cs.length → (gd cs i).shapes.length ≤ 1048576 ∧ (gd cs i).labels.length ≤ 1048576 ∧ (gd cs i).insts.length ≤ 1048576
theorem toCell_s {c : Cell} (h1 : Rs G L shapeT c.shapes.v c.shapes.xs) (h2 : Rs G L labelT c.labels.v c.labels.xs) (h3 : Rs G L instT c.insts.v c.insts.xs) (hb : c.shapes.xs.length ≤ 1048576 ∧ c.labels.xs.length ≤ 1048576 ∧ c.insts.xs.length ≤ 1048576)
   (k : ∀ v1 v2 v3, R (vT cellT ⟨c.name, ⟨v1, c.shapes.xs⟩, ⟨v2, c.labels.xs⟩, ⟨v3, c.insts.xs⟩⟩) G (osl 142 shapeT v1 c.shapes.xs :: osl 193 labelT v2 c.labels.xs :: osl 195 instT v3 c.insts.xs :: L)) : CallT Tryz.prog 64 #[vT cellT c] G L R := by
 refine CallT.enter (args := _) Tryz.func64 rfl rfl (by kernel_rfl) rfl ?_
 refine WP.seq (WP.region ?_)
 refine RG.ot rfl (OT.box (cs := cellT.enc c) rfl rfl rfl fun b1 => ?_)
 refine RG.ot rfl (OT.alloc rfl Zr116 fun b2 => ?_)
 refine RG.nil (WP.seq (WP.region ?_))
 refine RG.ot rfl (OT.alloc rfl Zr116 fun b3 => ?_)
 refine RG.nil (WP.seq (WP.region (RG.pv rfl (PV.field rfl Fo107_0 rfl) (RG.pv rfl (PV.load1 rfl Sc9 rfl (Rd.blk rfl)) (RG.pv rfl (PV.field rfl Fo116_0 rfl) ?_)))))
 refine RG.ot rfl (OT.storeB (vs := [.string _]) (cs' := [_, _, _, _]) rfl Sz9 rfl rfl (Cl.c rfl) rfl (OneC.c rfl) rfl rfl ?_)
 refine RG.nil (WP.seq (WP.region (RG.pv rfl (PV.field rfl Fo107_1 rfl) (RG.pv rfl (PV.load1 rfl Sc103 rfl (Rd.blk rfl)) ?_))))
 refine RG.callF (vs := [_]) rfl rfl En115 rfl (toShapeS_s (Rs.up h1) (by omega) (fun v9 => ?_))
 refine RG.pv rfl (PV.field rfl Fo116_1 rfl) ?_
 refine RG.ot rfl (OT.storeB (v := v9) (vs := [_]) (cs' := [_, _, _, _]) rfl Sz83 rfl rfl (Cl.s (v := v9) SlF.o) rfl (OneC.sl SlF.o OneC.nil) rfl rfl ?_)
 refine RG.nil (WP.seq (WP.region (RG.pv rfl (PV.field rfl Fo107_2 rfl) (RG.pv rfl (PV.load1 rfl Sc104 rfl (Rd.blk rfl)) ?_))))
 refine RG.callF (vs := [_]) rfl rfl En116 rfl (toLabelS_s (Rs.up h2) (by omega) (fun v13 => ?_))
 refine RG.pv rfl (PV.field rfl Fo116_2 rfl) ?_
 refine RG.ot rfl (OT.storeB (v := v13) (vs := [_]) (cs' := [_, _, _, _]) rfl Sz113 rfl rfl (Cl.s (v := v13) SlF.o) rfl (OneC.sl SlF.o OneC.nil) rfl rfl ?_)
 refine RG.nil (WP.seq (WP.region (RG.pv rfl (PV.field rfl Fo107_3 rfl) (RG.pv rfl (PV.load1 rfl Sc105 rfl (Rd.blk rfl)) ?_))))
 refine RG.callF (vs := [_]) rfl rfl En117 rfl (toInstS_s (Rs.up h3) (by omega) (fun v17 => ?_))
 refine RG.pv rfl (PV.field rfl Fo116_3 rfl) ?_
 refine RG.ot rfl (OT.storeB (v := v17) (vs := [_]) (cs' := [_, _, _, _]) rfl Sz114 rfl rfl (Cl.s (v := v17) SlF.o) rfl (OneC.sl SlF.o OneC.nil) rfl rfl ?_)
 refine RG.nil (WP.seq (WP.region (RG.pv rfl (PV.loadW rfl Ag116 rfl rfl) ?_)))
 refine RG.ot rfl (OT.storeW (vs := [.string _, _, _, _]) rfl Sz116 rfl rfl (Cl.c rfl) rfl rfl (OneC.val rfl (OneC.sl SlF.o (OneC.sl SlF.o (OneC.sl SlF.o OneC.nil)))) ?_)
 refine RG.nil ?_
 refine WP.ret ?_
 exact ⟨_, _, ResV.one rfl (RV1.cell rfl Ag116 rfl), Cv.p, k v9 v13 v17⟩
theorem Cv.grow3 {α β γ : Type} {e1 e2 e3 : TypeId} {F1 : FT α} {F2 : FT β} {F3 : FT γ} {u1 u2 u3 : Value} {us1 : List α} {us2 : List β} {us3 : List γ} {y1 y1' : List (Sl α)} {y2 y2' : List (Sl β)} {y3 y3' : List (Sl γ)} (h1 : y1' = y1 ++ [⟨u1, us1⟩]) (h2 : y2' = y2 ++ [⟨u2, us2⟩]) (h3 : y3' = y3 ++ [⟨u3, us3⟩]) :
   Cv (osl e1 F1 u1 us1 :: osl e2 F2 u2 us2 :: osl e3 F3 u3 us3 :: bagS e1 F1 y1 :: bagS e2 F2 y2 :: bagS e3 F3 y3 :: L) (bagS e1 F1 y1' :: bagS e2 F2 y2' :: bagS e3 F3 y3' :: L) :=
 (Cv.p (C := osl e1 F1 u1 us1 :: bagS e1 F1 y1 :: osl e2 F2 u2 us2 :: bagS e2 F2 y2 :: osl e3 F3 u3 us3 :: bagS e3 F3 y3 :: L)).trans ((Cv.grow h1).trans (Cv.cons ((Cv.grow h2).trans (Cv.cons (Cv.grow h3)))))
/-- .. the same with the cells themselves -/
theorem few.one {xs : List Cell} {i : Nat} (hf : few (erCls xs)) (hi : i < xs.length) : (gd xs i).shapes.xs.length ≤ 1048576 ∧ (gd xs i).labels.xs.length ≤ 1048576 ∧ (gd xs i).insts.xs.length ≤ 1048576 := by
 have := hf.2 i (by rw [erCls_len]; exact hi)
 rwa [erCls_gd hi] at this
theorem erCls_of {xs ys : List Cell} (hl : xs.length = ys.length) (h : ∀ i, i < ys.length → erCl (gd xs i) = erCl (gd ys i)) : erCls xs = erCls ys := by
 apply List.ext_getElem?
 intro i
 by_cases hi : i < ys.length
 · rw [getG (by rw [erCls_len]; omega), getG (by rw [erCls_len]; omega), erCls_gd (by omega), erCls_gd hi, h i hi]
 · rw [List.getElem?_eq_none (by rw [erCls_len]; omega), List.getElem?_eq_none (by rw [erCls_len]; omega)]
theorem toCellS_s {v : Value} {xs : List Cell} (hL : RLib G L v xs) (hf : few (erCls xs)) (k : ∀ v' ys, erCls ys = erCls xs → R v' G (osl 116 cellT v' (ys) :: bagS 142 shapeT (shs (ys)) :: bagS 193 labelT (lbs (ys)) :: bagS 195 instT (ins (ys)) :: L)) : CallT Tryz.prog 37 #[v] G L R := by
 have hb : xs.length ≤ 1048576 := by have := hf.1; rwa [erCls_len] at this
 refine CallT.enter (args := _) Tryz.func37 rfl rfl (by kernel_rfl) rfl ?_
 refine WP.seq (WP.region (RG.pv rfl (PV.asg rfl rfl) (RG.nil (WP.seq (WP.region (RG.pv rfl (PV.move (v := v) rfl rfl) (RG.pv rfl (PV.len (v := v) rfl Tryz.underlying22 rfl (SlF.r hL.c)) ?_)))))))
 refine RG.ot rfl (OT.make (F := cellT) (a0 := default) rfl El29 rfl (by decide) rfl rfl (by omega) (by omega) fun v7 => ?_)
 refine RG.pv rfl (PV.asg (v := v7) rfl rfl) (RG.nil (WP.seq (WP.seq (WP.region (RG.mr rfl rfl rfl (RG.nil (WP.block ?_)))))))
 refine WP.cv (Cv.cons (((Cv.bag0 (e := 195) (F := instT) (xs := ins ((List.replicate xs.length default).take 0)) rfl).trans (Cv.bag0 (e := 193) (F := labelT) (xs := lbs ((List.replicate xs.length default).take 0)) rfl)).trans (Cv.bag0 (e := 142) (F := shapeT) (xs := shs ((List.replicate xs.length default).take 0)) rfl))) ?_
 refine WP.loop2 [0, 3] (fun (i : Nat) (ys : List Cell) => i ≤ xs.length ∧ ys.length = xs.length ∧ ∀ j, j < i → erCl (gd ys j) = erCl (gd xs j)) (fun (i : Nat) (ys : List Cell) => [(4, vi i)]) (fun (i : Nat) (ys : List Cell) => osl 116 cellT v7 ys :: bagS 142 shapeT (shs (ys.take i)) :: bagS 193 labelT (lbs (ys.take i)) :: bagS 195 instT (ins (ys.take i)) :: L) (fun (i : Nat) (ys : List Cell) => xs.length - i) 0 (List.replicate xs.length default) ⟨by omega, by simp, fun j h => by omega⟩ ⟨rfl, trivial⟩ Cv.p ?_
 rintro i ys τ ⟨hi, hl, he⟩
 refine WP.seq (WP.seq (WP.region (RG.ml rfl rfl rfl (RG.pv rfl (PV.move (v := v) rfl rfl) (RG.pv rfl (PV.len (v := v) rfl Tryz.underlying22 rfl (SlF.r hL.c)) (RG.pv rfl (PV.lss rfl rfl rfl) (RG.nil ?_)))))))
 refine WP.cond rfl (fun h2 => ?_) (fun h2 => ?_)
 · have h2 := of_decide_eq_true h2
   have h3 : i < ys.length := by omega
   refine WP.skip (WP.seq (WP.block (WP.region (RG.pv rfl (PV.move (v := v7) rfl rfl) (RG.ml rfl rfl rfl (RG.pv rfl (PV.move (v := v) rfl rfl) (RG.ml rfl rfl rfl ?_)))))))
   refine RG.pv rfl (PV.idxS (v := v) rfl Is22 rfl (SlF.r hL.c) rfl rfl (by omega)) (RG.pv rfl (PV.loadE rfl Ag107 rfl rfl (El.r hL.c (getG (by omega)))) ?_)
   refine RG.callF (vs := [_]) rfl rfl En64 rfl (toCell_s (hL.sa (by omega)).up (hL.la (by omega)).up (hL.na (by omega)).up (few.one hf (by omega)) (fun a1 a2 a3 => ?_))
   refine RG.pv rfl (PV.idxS (v := v7) rfl Is29 rfl SlF.o rfl rfl (by omega)) ?_
   refine RG.ot rfl (OT.storeE (a := ⟨(gd xs i).name, ⟨a1, (gd xs i).shapes.xs⟩, ⟨a2, (gd xs i).labels.xs⟩, ⟨a3, (gd xs i).insts.xs⟩⟩) (F := cellT) rfl Sz116 rfl rfl rfl (Cl.c rfl) (OneC.val rfl (OneC.sl (SlF.o (v := a1)) (OneC.sl (SlF.o (v := a2)) (OneC.sl (SlF.o (v := a3)) OneC.nil)))) (by omega) ?_)
   refine RG.nil (WP.region (RG.ml rfl rfl rfl (RG.pv rfl (PV.add rfl rfl rfl (by omega)) (RG.mr rfl rfl rfl (RG.nil ?_)))))
   refine ⟨rfl, i + 1, _, ⟨by omega, by simpa using hl, fun j hj => ?_⟩, ⟨rfl, trivial⟩, ⟨rfl, rfl, trivial⟩, (Cv.cons (Cv.grow3 (by rw [take_set_succ h3]; simp [shs]) (by rw [take_set_succ h3]; simp [lbs]) (by rw [take_set_succ h3]; simp [ins]))), by omega⟩
   by_cases c : j = i
   · subst c; simp [gd, h3, erCl]
   · have := he j (by omega)
     simpa [gd, List.getElem?_set, Ne.symm c] using this
 · have h2 := of_decide_eq_false h2
   have e : ys.take i = ys := List.take_of_length_le (by omega)
   rw [e]
   refine WP.exit ?_
   refine WP.seq (WP.region (RG.pv rfl (PV.move (v := v7) rfl rfl) (RG.pv rfl (PV.asg (v := v7) rfl rfl) (RG.nil ?_))))
   refine WP.ret ?_
   exact ⟨_, _, ResV.one rfl rfl, Cv.p, k v7 ys (erCls_of hl (fun j hj => he j (by omega)))⟩
theorem toLib_s {l : Lib} (hL : RLib G L l.cells.v l.cells.xs) (hf : few (erCls l.cells.xs)) (k : ∀ v' ys, erCls ys = erCls l.cells.xs → R (vT libT ⟨⟨v', ys⟩⟩) G (osl 116 cellT v' (ys) :: bagS 142 shapeT (shs (ys)) :: bagS 193 labelT (lbs (ys)) :: bagS 195 instT (ins (ys)) :: L)) : CallT Tryz.prog 10 #[vT libT l] G L R := by
 refine CallT.enter (args := _) Tryz.func10 rfl rfl (by kernel_rfl) rfl ?_
 refine WP.seq (WP.region ?_)
 refine RG.ot rfl (OT.box (cs := libT.enc l) rfl rfl rfl fun b1 => ?_)
 refine RG.ot rfl (OT.alloc rfl Zr31 fun b2 => ?_)
 refine RG.nil (WP.seq (WP.region ?_))
 refine RG.ot rfl (OT.alloc rfl Zr31 fun b3 => ?_)
 refine RG.nil (WP.seq (WP.region (RG.pv rfl (PV.field rfl Fo24_0 rfl) (RG.pv rfl (PV.load1 rfl Sc22 rfl (Rd.blk rfl)) ?_))))
 refine RG.callF (vs := [_]) rfl rfl En37 rfl (toCellS_s hL.up hf (fun v6 ysv6 hev6 => ?_))
 refine RG.pv rfl (PV.field rfl Fo31_0 rfl) ?_
 refine RG.ot rfl (OT.storeB (v := v6) (vs := [_]) (cs' := [_]) rfl Sz29 rfl rfl (Cl.s (v := v6) SlF.o) rfl (OneC.sl SlF.o OneC.nil) rfl rfl ?_)
 refine RG.nil (WP.seq (WP.region (RG.pv rfl (PV.loadW rfl Ag31 rfl rfl) ?_)))
 refine RG.ot rfl (OT.storeW (vs := [_]) rfl Sz31 rfl rfl (Cl.c rfl) rfl rfl (OneC.sl SlF.o OneC.nil) ?_)
 refine RG.nil ?_
 refine WP.ret ?_
 exact ⟨_, _, ResV.one rfl (RV1.cell rfl Ag31 rfl), Cv.p, k _ _ (by assumption)⟩
theorem szLbS_le {xs : List Label} {n : Int} (h0 : 0 ≤ n) : szLbS xs n ≤ n := by
 have : ∀ (l : List Label) (m : Int), szLb l m ≤ m ∨ szLb l m = -1 := by
   intro l
   induction l with
   | nil => intro m; exact .inl (Int.le_refl _)
   | cons w l ih =>
     intro m
     rw [szLb]
     split
     · exact .inr rfl
     · rcases ih (m - w.name.size) with h | h
       · exact .inl (by omega)
       · exact .inr h
 unfold szLbS; split
 · omega
 · rcases this xs (n - xs.length) with h | h <;> omega
theorem szCell_s {c : Cell} {n : Int} (h1 : Rs G L shapeT c.shapes.v c.shapes.xs) (h2 : Rs G L labelT c.labels.v c.labels.xs) (h3 : Rs G L instT c.insts.v c.insts.xs) (hs : c.name.size ≤ 9223372036854775807) (hlen : lenL c.labels.xs) (hn : n ≤ 1048576) (h0 : 0 ≤ n)
   (k : ∀ r : Int, r ≤ n → (0 ≤ r → (c.shapes.xs.length : Int) ≤ n ∧ (c.labels.xs.length : Int) ≤ n ∧ (c.insts.xs.length : Int) ≤ n) → R (vi r) G L) : CallT Tryz.prog 59 #[vT cellT c, vi n] G L R := by
 have hx := @szLbS_le c.labels.xs
 have hy := @szLbS_len c.labels.xs
 refine CallT.enter (args := _) Tryz.func59 rfl rfl (by kernel_rfl) rfl ?_
 refine WP.seq (WP.region ?_)
 refine RG.ot rfl (OT.box (cs := cellT.enc c) rfl rfl rfl fun b2 => ?_)
 refine RG.mr rfl rfl rfl (RG.nil (WP.seq (WP.region (RG.ml rfl rfl rfl (RG.pv rfl (PV.field rfl Fo107_0 rfl) (RG.pv rfl (PV.load1 rfl Sc9 rfl (Rd.blk rfl)) (RG.pv rfl (PV.lenS rfl Tryz.underlying9 rfl) ?_)))))))
 refine RG.pv rfl (PV.sub rfl rfl rfl (by omega)) (RG.mr rfl rfl rfl (RG.nil (WP.seq (WP.seq (WP.region (RG.ml rfl rfl rfl (RG.pv rfl (PV.lss rfl rfl rfl) ?_)))))))
 refine RG.nil ?_
 refine WP.cond rfl (fun h4 => ?_) (fun h4 => ?_)
 · refine WP.seq ?_
   refine WP.region (RG.mr rfl rfl rfl (RG.nil ?_))
   refine WP.ret ?_
   exact ⟨_, _, ResV.one rfl rfl, Cv.p, k _ (by omega) (fun h => by omega)⟩
 · have h4 := of_decide_eq_false h4
   refine WP.skip (WP.seq (WP.region (RG.pv rfl (PV.field rfl Fo107_1 rfl) (RG.pv rfl (PV.load1 rfl Sc103 rfl (Rd.blk rfl)) (RG.ml rfl rfl rfl ?_)))))
   refine RG.callF (vs := [_, _]) rfl rfl En108 rfl (szShapeS_s (Rs.up h1) (by omega) (by omega) (fun r1 hr1 hr1' => ?_))
   refine RG.mr rfl rfl rfl (RG.nil (WP.seq (WP.seq (WP.region (RG.ml rfl rfl rfl (RG.pv rfl (PV.lss rfl rfl rfl) (RG.nil ?_)))))))
   refine WP.cond rfl (fun h5 => ?_) (fun h5 => ?_)
   · refine WP.seq ?_
     refine WP.region (RG.mr rfl rfl rfl (RG.nil ?_))
     refine WP.ret ?_
     exact ⟨_, _, ResV.one rfl rfl, Cv.p, k _ (by omega) (fun h => by omega)⟩
   · have h5 := of_decide_eq_false h5
     refine WP.skip (WP.seq (WP.region (RG.pv rfl (PV.field rfl Fo107_2 rfl) (RG.pv rfl (PV.load1 rfl Sc104 rfl (Rd.blk rfl)) (RG.ml rfl rfl rfl ?_)))))
     refine RG.callF (vs := [_, _]) rfl rfl En109 rfl (szLabelS_s (Rs.up h2) (by omega) (by omega) hlen ?_)
     refine RG.mr rfl rfl rfl (RG.nil (WP.seq (WP.seq (WP.region (RG.ml rfl rfl rfl (RG.pv rfl (PV.lss rfl rfl rfl) (RG.nil ?_)))))))
     refine WP.cond rfl (fun h6 => ?_) (fun h6 => ?_)
     · refine WP.seq ?_
       refine WP.region (RG.mr rfl rfl rfl (RG.nil ?_))
       refine WP.ret ?_
       exact ⟨_, _, ResV.one rfl rfl, Cv.p, k _ (by omega) (fun h => by omega)⟩
     · have h6 := of_decide_eq_false h6
       have hx1 := hx (n := r1) (by omega)
       have hy1 := hy (n := r1) (by omega)
       refine WP.skip (WP.seq (WP.region (RG.pv rfl (PV.field rfl Fo107_3 rfl) (RG.pv rfl (PV.load1 rfl Sc105 rfl (Rd.blk rfl)) (RG.ml rfl rfl rfl ?_)))))
       refine RG.callF (vs := [_, _]) rfl rfl En110 rfl (szInstanceS_s (Rs.up h3) (by omega) (by omega) (fun r3 hr3 hr3' => ?_))
       refine RG.mr rfl rfl rfl (RG.nil (WP.seq (WP.seq (WP.region (RG.ml rfl rfl rfl (RG.pv rfl (PV.lss rfl rfl rfl) (RG.nil ?_)))))))
       refine WP.cond rfl (fun h7 => ?_) (fun h7 => ?_)
       · refine WP.seq ?_
         refine WP.region (RG.mr rfl rfl rfl (RG.nil ?_))
         refine WP.ret ?_
         exact ⟨_, _, ResV.one rfl rfl, Cv.p, k _ (by omega) (fun h => by omega)⟩
       · have h7 := of_decide_eq_false h7
         refine WP.skip (WP.seq (WP.region (RG.ml rfl rfl rfl (RG.mr rfl rfl rfl (RG.nil ?_)))))
         refine WP.ret ?_
         exact ⟨_, _, ResV.one rfl rfl, Cv.p, k _ (by omega) (fun h => ⟨by omega, by omega, by omega⟩)⟩
theorem lenC.one {xs : List Cell} (h : lenC (erCls xs)) {i : Nat} (hi : i < xs.length) : (gd xs i).name.size ≤ 9223372036854775807 ∧ lenL (gd xs i).labels.xs := by
 have := h i (by rw [erCls_len]; exact hi); rwa [erCls_gd hi] at this
theorem szCellS_s {v : Value} {xs : List Cell} {n : Int} (hL : RLib G L v xs) (hlen : lenC (erCls xs)) (hn : n ≤ 1048576) (h0 : 0 ≤ n) (k : ∀ r : Int, (0 ≤ r → few (erCls xs)) → R (vi r) G L) : CallT Tryz.prog 35 #[v, vi n] G L R := by
 refine CallT.bd hL.c fun hb => ?_
 refine CallT.enter (args := _) Tryz.func35 rfl rfl (by kernel_rfl) rfl ?_
 refine WP.seq (WP.region (RG.mr rfl rfl rfl (RG.nil (WP.seq (WP.region (RG.ml rfl rfl rfl (RG.pv rfl (PV.move (v := v) rfl rfl) ?_)))))))
 refine RG.pv rfl (PV.len (v := v) rfl Tryz.underlying22 rfl (SlF.r hL.c)) (RG.pv rfl (PV.sub rfl rfl rfl (by omega)) (RG.mr rfl rfl rfl (RG.nil (WP.seq (WP.seq (WP.region (RG.ml rfl rfl rfl ?_)))))))
 refine RG.pv rfl (PV.lss rfl rfl rfl) (RG.nil ?_)
 refine WP.cond rfl (fun h2 => ?_) (fun h2 => ?_)
 · have h2 := of_decide_eq_true h2
   refine WP.seq (WP.region (RG.mr rfl rfl rfl (RG.nil ?_)))
   refine WP.ret ?_
   exact ⟨_, _, ResV.one rfl rfl, Cv.p, k _ (fun h => by omega)⟩
 · have h2 := of_decide_eq_false h2
   refine WP.skip (WP.seq (WP.seq (WP.region (RG.mr rfl rfl rfl (RG.nil (WP.block ?_))))))
   refine WP.loop2 [0] (fun (i : Nat) (m : Int) => i ≤ xs.length ∧ 0 ≤ m ∧ m ≤ 1048576 ∧ ∀ j, j < i → (gd xs j).shapes.xs.length ≤ 1048576 ∧ (gd xs j).labels.xs.length ≤ 1048576 ∧ (gd xs j).insts.xs.length ≤ 1048576) (fun (i : Nat) (m : Int) => [(5, vi i), (1, vi m)]) (fun (i : Nat) (m : Int) => L) (fun (i : Nat) (m : Int) => xs.length - i) 0 (n - xs.length) ⟨by omega, by omega, by omega, fun j h => by omega⟩ ⟨rfl, rfl, trivial⟩ Cv.p ?_
   rintro i m τ ⟨hi, hm0, hm1, he⟩
   refine WP.seq (WP.seq (WP.region (RG.ml rfl rfl rfl (RG.pv rfl (PV.move (v := v) rfl rfl) (RG.pv rfl (PV.len (v := v) rfl Tryz.underlying22 rfl (SlF.r hL.c)) (RG.pv rfl (PV.lss rfl rfl rfl) (RG.nil ?_)))))))
   refine WP.cond rfl (fun h3 => ?_) (fun h3 => ?_)
   · have h3 := of_decide_eq_true h3
     have h4 : i < xs.length := by omega
     refine WP.skip (WP.seq (WP.block (WP.seq (WP.region (RG.pv rfl (PV.move (v := v) rfl rfl) (RG.ml rfl rfl rfl (RG.pv rfl (PV.idxS (v := v) rfl Is22 rfl (SlF.r hL.c) rfl rfl (by omega)) ?_)))))))
     refine RG.pv rfl (PV.loadE rfl Ag107 rfl rfl (El.r hL.c (getG (by omega)))) (RG.ml rfl rfl rfl ?_)
     refine RG.callF (vs := [_, _]) rfl rfl En59 rfl (szCell_s (hL.sa (by omega)).up (hL.la (by omega)).up (hL.na (by omega)).up (hlen.one (by omega)).1 (hlen.one (by omega)).2 (by omega) (by omega) (fun r hr hr' => ?_))
     refine RG.mr rfl rfl rfl (RG.nil (WP.seq (WP.region (RG.ml rfl rfl rfl (RG.pv rfl (PV.lss rfl rfl rfl) (RG.nil ?_))))))
     refine WP.cond rfl (fun h5 => ?_) (fun h5 => ?_)
     · have h5 := of_decide_eq_true h5
       refine WP.seq (WP.region (RG.mr rfl rfl rfl (RG.nil ?_)))
       refine WP.ret ?_
       exact ⟨_, _, ResV.one rfl rfl, Cv.p, k _ (fun h => by omega)⟩
     · have h5 := of_decide_eq_false h5
       have he' : ∀ j, j < i + 1 → (gd xs j).shapes.xs.length ≤ 1048576 ∧ (gd xs j).labels.xs.length ≤ 1048576 ∧ (gd xs j).insts.xs.length ≤ 1048576 := fun j hj => by
         by_cases c : j = i
         · subst c
           have := hr' (by omega)
           exact ⟨by omega, by omega, by omega⟩
         · exact he j (by omega)
       refine WP.skip (WP.region (RG.ml rfl rfl rfl (RG.pv rfl (PV.add rfl rfl rfl (by omega)) (RG.mr rfl rfl rfl (RG.nil ?_)))))
       exact ⟨rfl, i + 1, _, ⟨by omega, by omega, by omega, he'⟩, ⟨rfl, rfl, trivial⟩, ⟨rfl, trivial⟩, Cv.p, by omega⟩
   · have h3 := of_decide_eq_false h3
     refine WP.exit ?_
     refine WP.seq (WP.region (RG.ml rfl rfl rfl (RG.mr rfl rfl rfl (RG.nil ?_))))
     refine WP.ret ?_
     exact ⟨_, _, ResV.one rfl rfl, Cv.p, k _ (fun _ => ⟨by rw [erCls_len]; omega, fun j hj => by rw [erCls_len] at hj; rw [erCls_gd hj]; exact he j (by omega)⟩)⟩
theorem szLib_s {l : Lib} {n : Int} (hL : RLib G L l.cells.v l.cells.xs) (hlen : lenC (erCls l.cells.xs)) (hn : n ≤ 1048576) (h0 : 0 ≤ n) (k : ∀ r : Int, (0 ≤ r → few (erCls l.cells.xs)) → R (vi r) G L) : CallT Tryz.prog 8 #[vT libT l, vi n] G L R := by
 refine CallT.enter (args := _) Tryz.func8 rfl rfl (by kernel_rfl) rfl ?_
 refine WP.seq (WP.region ?_)
 refine RG.ot rfl (OT.box (cs := libT.enc l) rfl rfl rfl fun b2 => ?_)
 refine RG.mr rfl rfl rfl (RG.nil (WP.seq (WP.region (RG.pv rfl (PV.field rfl Fo24_0 rfl) (RG.pv rfl (PV.load1 rfl Sc22 rfl (Rd.blk rfl)) (RG.ml rfl rfl rfl ?_))))))
 refine RG.callF (vs := [_, _]) rfl rfl En35 rfl (szCellS_s hL.up hlen (by omega) (by omega) (fun r hr => ?_))
 refine RG.mr rfl rfl rfl (RG.nil (WP.seq (WP.seq (WP.region (RG.ml rfl rfl rfl (RG.pv rfl (PV.lss rfl rfl rfl) (RG.nil ?_)))))))
 refine WP.cond rfl (fun h2 => ?_) (fun h2 => ?_)
 · refine WP.seq ?_
   refine WP.region (RG.mr rfl rfl rfl (RG.nil ?_))
   refine WP.ret ?_
   exact ⟨_, _, ResV.one rfl rfl, Cv.p, k _ (fun h => by omega)⟩
 · have h2 := of_decide_eq_false h2
   refine WP.skip (WP.seq (WP.region (RG.ml rfl rfl rfl (RG.mr rfl rfl rfl (RG.nil ?_)))))
   refine WP.ret ?_
   exact ⟨_, _, ResV.one rfl rfl, Cv.p, k _ (fun h => hr h)⟩
theorem eqCell_s {c d : Cell} (h1 : Rs G L shapeT c.shapes.v c.shapes.xs) (h2 : Rs G L labelT c.labels.v c.labels.xs) (h3 : Rs G L instT c.insts.v c.insts.xs) (g1 : Rs G L shapeT d.shapes.v d.shapes.xs) (g2 : Rs G L labelT d.labels.v d.labels.xs) (g3 : Rs G L instT d.insts.v d.insts.xs) (he : erCl c = erCl d) (k : R (.bool true) G L) : CallT Tryz.prog 67 #[vT cellT c, vT cellT d] G L R := by
 have e0 : c.name = d.name := congrArg ECell.name he
 have e1 : c.shapes.xs = d.shapes.xs := congrArg ECell.shapes he
 have e2 : c.labels.xs = d.labels.xs := congrArg ECell.labels he
 have e3 : c.insts.xs = d.insts.xs := congrArg ECell.insts he
 refine CallT.enter (args := _) Tryz.func67 rfl rfl (by kernel_rfl) rfl ?_
 refine WP.seq (WP.region ?_)
 refine RG.ot rfl (OT.box (cs := cellT.enc c) rfl rfl rfl fun b2 => ?_)
 refine RG.ot rfl (OT.box (cs := cellT.enc d) rfl rfl rfl fun b3 => ?_)
 refine RG.br rfl rfl rfl (RG.nil (WP.seq (WP.seq (WP.region (RG.pv rfl (PV.field rfl Fo116_0 rfl) (RG.pv rfl (PV.load1 rfl Sc9 rfl (Rd.blk rfl)) (RG.pv rfl (PV.field rfl Fo116_0 rfl) ?_)))))))
 refine RG.pv rfl (PV.load1 rfl Sc9 rfl (Rd.blk rfl)) (RG.pv rfl (PV.neqS rfl rfl rfl) (RG.nil ?_))
 refine WP.cond rfl (fun h4 => ?_) (fun h4 => ?_)
 · exfalso; simp [e0] at h4
 refine WP.skip (WP.seq (WP.seq (WP.region (RG.pv rfl (PV.field rfl Fo116_1 rfl) (RG.pv rfl (PV.load1 rfl Sc83 rfl (Rd.blk rfl)) (RG.pv rfl (PV.field rfl Fo116_1 rfl) (RG.pv rfl (PV.load1 rfl Sc83 rfl (Rd.blk rfl)) ?_)))))))
 refine RG.callF (vs := [_, _]) rfl rfl En121 rfl (eqShapeS_s (Rs.up h1) (Rs.up g1) ?_)
 refine RG.pv rfl (PV.not rfl rfl) (RG.nil ?_)
 refine WP.cond rfl (fun h5 => ?_) (fun h5 => ?_)
 · exfalso; simp [e1] at h5
 refine WP.skip (WP.seq (WP.seq (WP.region (RG.pv rfl (PV.field rfl Fo116_2 rfl) (RG.pv rfl (PV.load1 rfl Sc113 rfl (Rd.blk rfl)) (RG.pv rfl (PV.field rfl Fo116_2 rfl) (RG.pv rfl (PV.load1 rfl Sc113 rfl (Rd.blk rfl)) ?_)))))))
 refine RG.callF (vs := [_, _]) rfl rfl En122 rfl (eqLabelS_s (Rs.up h2) (Rs.up g2) ?_)
 refine RG.pv rfl (PV.not rfl rfl) (RG.nil ?_)
 refine WP.cond rfl (fun h6 => ?_) (fun h6 => ?_)
 · exfalso; simp [e2] at h6
 refine WP.skip (WP.seq (WP.seq (WP.region (RG.pv rfl (PV.field rfl Fo116_3 rfl) (RG.pv rfl (PV.load1 rfl Sc114 rfl (Rd.blk rfl)) (RG.pv rfl (PV.field rfl Fo116_3 rfl) (RG.pv rfl (PV.load1 rfl Sc114 rfl (Rd.blk rfl)) ?_)))))))
 refine RG.callF (vs := [_, _]) rfl rfl En123 rfl (eqInstS_s (Rs.up h3) (Rs.up g3) ?_)
 refine RG.pv rfl (PV.not rfl rfl) (RG.nil ?_)
 refine WP.cond rfl (fun h7 => ?_) (fun h7 => ?_)
 · exfalso; simp [e3] at h7
 refine WP.skip (WP.seq (WP.region (RG.br rfl rfl rfl (RG.nil ?_))))
 refine WP.ret ?_
 exact ⟨_, _, ResV.one rfl rfl, Cv.p, k⟩
theorem eqCellS_s {v u : Value} {xs ys : List Cell} (hL : RLib G L v xs) (hM : RLib G L u ys) (he : erCls xs = erCls ys) (k : R (.bool true) G L) : CallT Tryz.prog 39 #[v, u] G L R := by
 have hl : xs.length = ys.length := by rw [← erCls_len, he, erCls_len]
 refine CallT.bd hL.c fun hb => ?_
 refine CallT.enter (args := _) Tryz.func39 rfl rfl (by kernel_rfl) rfl ?_
 refine WP.seq (WP.region (RG.br rfl rfl rfl (RG.nil (WP.seq (WP.seq (WP.region (RG.pv rfl (PV.move (v := v) rfl rfl) ?_)))))))
 refine RG.pv rfl (PV.len (v := v) rfl Tryz.underlying29 rfl (SlF.r hL.c)) (RG.pv rfl (PV.move (v := u) rfl rfl) (RG.pv rfl (PV.len (v := u) rfl Tryz.underlying29 rfl (SlF.r hM.c)) (RG.pv rfl (PV.neq rfl rfl rfl) (RG.nil ?_))))
 refine WP.cond rfl (fun h3 => ?_) (fun h3 => ?_)
 · exfalso; simp [hl] at h3
 refine WP.skip (WP.seq (WP.seq (WP.region (RG.mr rfl rfl rfl (RG.nil (WP.block ?_))))))
 refine WP.loop1 [0, 1] (fun i => i ≤ xs.length) (fun i => [(5, vi i)]) (fun i => L) (fun i => xs.length - i) 0 (by omega) ⟨rfl, trivial⟩ Cv.p ?_
 rintro i τ hi
 refine WP.seq (WP.seq (WP.region (RG.ml rfl rfl rfl (RG.pv rfl (PV.move (v := v) rfl rfl) (RG.pv rfl (PV.len (v := v) rfl Tryz.underlying29 rfl (SlF.r hL.c)) (RG.pv rfl (PV.lss rfl rfl rfl) (RG.nil ?_)))))))
 refine WP.cond rfl (fun h4 => ?_) (fun h4 => ?_)
 · have h4 := of_decide_eq_true h4
   refine WP.skip (WP.seq (WP.block (WP.seq ?_)))
   refine WP.regionQ (by kernel_rfl) (by kernel_rfl) ?_
   refine RQ.pv rfl (PV.move (v := v) rfl rfl) ?_
   refine RQ.pv rfl (PV.mvI (.inl rfl) rfl) ?_
   refine RQ.pv rfl (PV.idxS (v := v) rfl Is29 rfl (SlF.r hL.c) rfl rfl (by omega)) ?_
   refine RQ.pv rfl (PV.loadE rfl Ag116 rfl rfl (El.r hL.c (getG (by omega)))) ?_
   refine RQ.pv rfl (PV.move (v := u) rfl rfl) ?_
   refine RQ.pv rfl (PV.mvI (.inl rfl) rfl) ?_
   refine RQ.pv rfl (PV.idxS (v := u) rfl Is29 rfl (SlF.r hM.c) rfl rfl (by omega)) ?_
   refine RQ.pv rfl (PV.loadE rfl Ag116 rfl rfl (El.r hM.c (getG (by omega)))) ?_
   refine RQ.callF (vs := [_, _]) rfl rfl En67 rfl (eqCell_s (hL.sa (by omega)).up (hL.la (by omega)).up (hL.na (by omega)).up (hM.sa (by omega)).up (hM.la (by omega)).up (hM.na (by omega)).up (by rw [← erCls_gd (by omega), ← erCls_gd (by omega), he]) ⟨rfl, rfl, rfl⟩) ?_
   refine RQ.pv rfl (PV.not rfl rfl) ?_
   refine RQ.nil ?_
   refine WP.cond rfl (fun h6 => ?_) (fun h6 => ?_)
   · exfalso; simp at h6
   refine WP.skip (WP.region (RG.ml rfl rfl rfl (RG.pv rfl (PV.add rfl rfl rfl (by omega)) (RG.mr rfl rfl rfl (RG.nil ?_)))))
   exact ⟨rfl, i + 1, (by omega), ⟨rfl, trivial⟩, ⟨rfl, rfl, trivial⟩, Cv.p, by omega⟩
 · refine WP.exit ?_
   refine WP.seq (WP.region (RG.br rfl rfl rfl (RG.nil ?_)))
   refine WP.ret ?_
   exact ⟨_, _, ResV.one rfl rfl, Cv.p, k⟩
theorem eqLib_s {l m : Lib} (hL : RLib G L l.cells.v l.cells.xs) (hM : RLib G L m.cells.v m.cells.xs) (he : erCls l.cells.xs = erCls m.cells.xs) (k : R (.bool true) G L) : CallT Tryz.prog 13 #[vT libT l, vT libT m] G L R := by
 refine CallT.enter (args := _) Tryz.func13 rfl rfl (by kernel_rfl) rfl ?_
 refine WP.seq (WP.region ?_)
 refine RG.ot rfl (OT.box (cs := libT.enc l) rfl rfl rfl fun b2 => ?_)
 refine RG.ot rfl (OT.box (cs := libT.enc m) rfl rfl rfl fun b3 => ?_)
 refine RG.br rfl rfl rfl (RG.nil (WP.seq (WP.seq (WP.region (RG.pv rfl (PV.field rfl Fo31_0 rfl) (RG.pv rfl (PV.load1 rfl Sc29 rfl (Rd.blk rfl)) (RG.pv rfl (PV.field rfl Fo31_0 rfl) ?_)))))))
 refine RG.pv rfl (PV.load1 rfl Sc29 rfl (Rd.blk rfl)) ?_
 refine RG.callF (vs := [_, _]) rfl rfl En39 rfl (eqCellS_s hL.up hM.up he ?_)
 refine RG.pv rfl (PV.not rfl rfl) (RG.nil ?_)
 refine WP.cond rfl (fun h3 => ?_) (fun h3 => ?_)
 · exfalso; simp at h3
 refine WP.skip (WP.seq (WP.region (RG.br rfl rfl rfl (RG.nil ?_))))
 refine WP.ret ?_
 exact ⟨_, _, ResV.one rfl rfl, Cv.p, k⟩
theorem Cv.uncons {α : Type} {e : TypeId} {F : FT α} {s : Sl α} {ss : List (Sl α)} : Cv (bagS e F (s :: ss) :: L) (osl e F s.v s.xs :: bagS e F ss :: L) := by
 have h : Cv (bag ((s :: ss).map (ownS e F)) :: L) ((s :: ss).map (ownS e F) ++ L) := Cv.ofBag
 exact h.trans (Cv.cons (c := osl e F s.v s.xs) Cv.toBag)
theorem Cv.uncons3 {α β γ : Type} {e1 e2 e3 : TypeId} {F1 : FT α} {F2 : FT β} {F3 : FT γ} {y1 y1' : List (Sl α)} {y2 y2' : List (Sl β)} {y3 y3' : List (Sl γ)} {s1 : Sl α} {s2 : Sl β} {s3 : Sl γ} (h1 : y1 = s1 :: y1') (h2 : y2 = s2 :: y2') (h3 : y3 = s3 :: y3') :
   Cv (bagS e1 F1 y1 :: bagS e2 F2 y2 :: bagS e3 F3 y3 :: L) (osl e1 F1 s1.v s1.xs :: osl e2 F2 s2.v s2.xs :: osl e3 F3 s3.v s3.xs :: bagS e1 F1 y1' :: bagS e2 F2 y2' :: bagS e3 F3 y3' :: L) := by
 subst h1; subst h2; subst h3
 exact ((Cv.uncons.trans (Cv.cons (Cv.cons (Cv.uncons.trans (Cv.cons (Cv.cons Cv.uncons)))))).trans Cv.p)
theorem CallT.eqv {P : Program} {f : FuncId} {v v' u : Value} (h : v = v') (k : CallT P f #[v', u] G L R) : CallT P f #[v, u] G L R := h ▸ k
theorem markCellS_s {v : Value} {xs : List Cell} {k0 : Int} (hf : few (erCls xs)) (hk : 0 ≤ k0 ∧ k0 ≤ 1000) (k : ∀ r : Int, 0 ≤ r → R (vi r) G L) : CallT Tryz.prog 40 #[v, vi k0] G (osl 116 cellT v (xs) :: bagS 142 shapeT (shs (xs)) :: bagS 193 labelT (lbs (xs)) :: bagS 195 instT (ins (xs)) :: L) R := by
 refine CallT.bd (T := cellT) (v := v) (xs := xs) Rs.o fun hb2 => ?_
 have hb : xs.length ≤ 1048576 := by have := hf.1; rwa [erCls_len] at this
 refine CallT.cv (L' := osl 116 cellT v xs :: bagS 142 shapeT (shs (xs.drop 0)) :: bagS 193 labelT (lbs (xs.drop 0)) :: bagS 195 instT (ins (xs.drop 0)) :: L) (by rw [List.drop_zero]; exact Cv.refl _) ?_
 refine CallT.enter (args := _) Tryz.func40 rfl rfl (by kernel_rfl) rfl ?_
 refine WP.seq (WP.region (RG.mr rfl rfl rfl (RG.nil (WP.seq (WP.seq (WP.region (RG.mr rfl rfl rfl ?_)))))))
 refine RG.nil (WP.block ?_)
 refine WP.loop3 [0] (fun (i : Nat) (kk : Int) (ys : List Cell) => i ≤ xs.length ∧ (0 ≤ kk ∧ kk ≤ 1000 + 20000000 * i) ∧ ys.length = xs.length ∧ ∀ j, i ≤ j → j < xs.length → gd ys j = gd xs j) (fun (i : Nat) (kk : Int) (ys : List Cell) => [(5, vi i), (1, vi kk)]) (fun (i : Nat) (kk : Int) (ys : List Cell) => osl 116 cellT v ys :: bagS 142 shapeT (shs (xs.drop i)) :: bagS 193 labelT (lbs (xs.drop i)) :: bagS 195 instT (ins (xs.drop i)) :: L) (fun (i : Nat) (kk : Int) (ys : List Cell) => xs.length - i) 0 k0 xs ⟨by omega, by omega, rfl, fun j _ _ => rfl⟩ ⟨rfl, rfl, trivial⟩ Cv.p ?_
 rintro i kk ys τ ⟨hi, hkk, hl, he⟩
 refine WP.seq (WP.seq (WP.region (RG.ml rfl rfl rfl (RG.pv rfl (PV.move (v := v) rfl rfl) (RG.pv rfl (PV.len (v := v) rfl Tryz.underlying29 rfl SlF.o) (RG.pv rfl (PV.lss rfl rfl rfl) (RG.nil ?_)))))))
 refine WP.cond rfl (fun h1 => ?_) (fun h1 => ?_)
 · have h1 := of_decide_eq_true h1
   have h2 : i < xs.length := by omega
   have h3 : i < ys.length := by omega
   have hg := he i (by omega) h2
   obtain ⟨f1, f2, f3⟩ := few.one hf h2
   have hq := nLb_cost (gd xs i).labels.xs
   have hq1 := nSh_cost (gd xs i).shapes.xs
   have hq3 := nIn_cost (gd xs i).insts.xs
   have hs1 : (gd (ys.set i (Cell.s0 (mText kk) (gd ys i))) i).shapes.v = (gd xs i).shapes.v := by rw [gd_setE' h3]; simp [hg]
   have hs2 : (gd (ys.set i (Cell.s0 (mText kk) (gd ys i))) i).labels.v = (gd xs i).labels.v := by rw [gd_setE' h3]; simp [hg]
   have hs3 : (gd (ys.set i (Cell.s0 (mText kk) (gd ys i))) i).insts.v = (gd xs i).insts.v := by rw [gd_setE' h3]; simp [hg]
   refine WP.cv (Cv.cons (Cv.uncons3 (s1 := (gd xs i).shapes) (y1' := shs (xs.drop (i + 1))) (s2 := (gd xs i).labels) (y2' := lbs (xs.drop (i + 1))) (s3 := (gd xs i).insts) (y3' := ins (xs.drop (i + 1))) (by rw [drop_gd h2]; rfl) (by rw [drop_gd h2]; rfl) (by rw [drop_gd h2]; rfl))) ?_
   refine WP.skip (WP.seq (WP.block (WP.seq (WP.region (RG.pv rfl (PV.move (v := v) rfl rfl) (RG.ml rfl rfl rfl (RG.ml rfl rfl rfl ?_)))))))
   refine RG.callF (vs := [_]) rfl rfl En68 rfl (markText_s (by omega) ?_)
   refine RG.pv rfl (PV.idxS (v := v) rfl Is29 rfl SlF.o rfl rfl (by omega)) (RG.pv rfl (PV.field rfl Fo116_0 rfl) ?_)
   refine RG.ot rfl (OT.storeF (F := cellT) (val := Value.string) (cv := fun u => [.string u]) (st := Cell.s0) rfl Sz9 rfl rfl rfl (Cl.c rfl) rfl (OneC.c rfl) (by exact set_self (by omega)) (by first | omega | (simp; omega)) rfl (fun _ _ => rfl) ?_)
   refine RG.nil (WP.seq (WP.region (RG.ml rfl rfl rfl (RG.pv rfl (PV.add rfl rfl rfl (by first | omega | (simp only [List.length_set]; omega))) (RG.mr rfl rfl rfl (RG.nil (WP.seq ?_)))))))
   refine WP.region (RG.pv rfl (PV.move (v := v) rfl rfl) (RG.ml rfl rfl rfl (RG.pv rfl (PV.idxS (v := v) rfl Is29 rfl SlF.o rfl rfl (by first | omega | (simp only [List.length_set]; omega))) (RG.pv rfl (PV.field rfl Fo116_1 rfl) (RG.pv rfl (PV.loadF rfl Sc83 rfl rfl (El.o (getG (by first | omega | (simp only [List.length_set]; omega)))) rfl) (RG.ml rfl rfl rfl ?_))))))
   refine RG.callF (vs := [_, _]) rfl rfl En69 rfl (CallT.eqv hs1 (CallT.exS (gd xs i).shapes.v (markShapeS_s (by omega) (by omega) ?_)))
   refine RG.mr rfl rfl rfl (RG.nil (WP.seq (WP.region (RG.pv rfl (PV.move (v := v) rfl rfl) (RG.ml rfl rfl rfl (RG.pv rfl (PV.idxS (v := v) rfl Is29 rfl SlF.o rfl rfl (by first | omega | (simp only [List.length_set]; omega))) (RG.pv rfl (PV.field rfl Fo116_2 rfl) ?_)))))))
   refine RG.pv rfl (PV.loadF rfl Sc113 rfl rfl (El.o (getG (by first | omega | (simp only [List.length_set]; omega)))) rfl) (RG.ml rfl rfl rfl ?_)
   refine RG.callF (vs := [_, _]) rfl rfl En70 rfl (CallT.eqv hs2 (CallT.exS (gd xs i).labels.v (markLabelS_s (by omega) (by omega) ?_)))
   refine RG.mr rfl rfl rfl (RG.nil (WP.region (RG.pv rfl (PV.move (v := v) rfl rfl) (RG.ml rfl rfl rfl (RG.pv rfl (PV.idxS (v := v) rfl Is29 rfl SlF.o rfl rfl (by first | omega | (simp only [List.length_set]; omega))) (RG.pv rfl (PV.field rfl Fo116_3 rfl) (RG.pv rfl (PV.loadF rfl Sc114 rfl rfl (El.o (getG (by first | omega | (simp only [List.length_set]; omega)))) rfl) ?_)))))))
   refine RG.ml rfl rfl rfl ?_
   refine RG.callF (vs := [_, _]) rfl rfl En71 rfl (CallT.eqv hs3 (CallT.exS (gd xs i).insts.v (markInstS_s (by omega) (by omega) ?_)))
   refine RG.mr rfl rfl rfl (RG.nil (WP.region (RG.ml rfl rfl rfl (RG.pv rfl (PV.add rfl rfl rfl (by first | omega | (simp only [List.length_set]; omega))) (RG.mr rfl rfl rfl (RG.nil ?_))))))
   refine ⟨rfl, i + 1, _, (ys.set i (Cell.s0 (mText kk) (gd ys i))), ⟨by omega, by omega, by simpa using hl, fun j hj hj' => ?_⟩, ⟨rfl, rfl, trivial⟩, ⟨rfl, trivial⟩, Cv.p, by omega⟩
   rw [gd_setN (by omega)]; exact he j (by omega) hj'
 · have h1 := of_decide_eq_false h1
   refine WP.exit ?_
   refine WP.seq (WP.region (RG.ml rfl rfl rfl (RG.mr rfl rfl rfl (RG.nil ?_))))
   refine WP.ret ?_
   exact ⟨_, _, ResV.one rfl rfl, Cv.p, k _ (by omega)⟩
theorem markLib_s {l : Lib} {k0 : Int} (hf : few (erCls l.cells.xs)) (hk : 0 ≤ k0 ∧ k0 ≤ 1000) (k : ∀ r : Int, 0 ≤ r → R (vi r) G L) : CallT Tryz.prog 14 #[vT libT l, vi k0] G (osl 116 cellT l.cells.v (l.cells.xs) :: bagS 142 shapeT (shs (l.cells.xs)) :: bagS 193 labelT (lbs (l.cells.xs)) :: bagS 195 instT (ins (l.cells.xs)) :: L) R := by
 refine CallT.enter (args := _) Tryz.func14 rfl rfl (by kernel_rfl) rfl ?_
 refine WP.seq (WP.region ?_)
 refine RG.ot rfl (OT.box (cs := libT.enc l) rfl rfl rfl fun b2 => ?_)
 refine RG.mr rfl rfl rfl (RG.nil (WP.seq (WP.region (RG.pv rfl (PV.field rfl Fo31_0 rfl) (RG.pv rfl (PV.load1 rfl Sc29 rfl (Rd.blk rfl)) (RG.ml rfl rfl rfl ?_))))))
 refine RG.callF (vs := [_, _]) rfl rfl En40 rfl (CallT.cv (Cv.p (C := osl 116 cellT l.cells.v (l.cells.xs) :: bagS 142 shapeT (shs (l.cells.xs)) :: bagS 193 labelT (lbs (l.cells.xs)) :: bagS 195 instT (ins (l.cells.xs)) :: L)) (markCellS_s hf hk (fun r hr => ?_)))
 refine RG.mr rfl rfl rfl (RG.nil (WP.seq (WP.region (RG.ml rfl rfl rfl (RG.mr rfl rfl rfl (RG.nil ?_))))))
 refine WP.ret ?_
 exact ⟨_, _, ResV.one rfl rfl, Cv.p, k _ hr⟩
end Go.Proofs.YthhjapiggekjbaaGreat
