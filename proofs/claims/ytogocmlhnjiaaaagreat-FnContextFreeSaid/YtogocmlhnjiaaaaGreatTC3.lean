/-
  Contracts of functions and plain facts that the last text of this folder uses, part 3.
-/
import Derived.Test.YtogocmlhnjiaaaaGreatTC2
import Derived.Laws.BytesArg
set_option linter.unusedVariables false
set_option linter.unusedSimpArgs false
namespace Go.Proofs.YtogocmlhnjiaaaaGreat
open Go
set_option maxRecDepth 20000
set_option maxHeartbeats 2000000
variable {G : Gh} {L : List Ch} {R : Value -> Gh -> List Ch -> Prop}
abbrev Pl := Int × Int
def OkP (p : Pl) : Prop := 0 <= p.1 ∧ 0 <= p.2 ∧ p.2 < 2147483647
def nx (bs : List UInt8) (p : Pl) (n : Int) : Int × Pl :=
  if n <= 1 then (0, p) else if p.1 < (bs.length : Int) then
    (if 256 < n then (((p.2 * 48271 + ((gd bs p.1.toNat).toNat : Int) + 1) % 2147483647) % n, (p.1 + 1, (p.2 * 48271 + ((gd bs p.1.toNat).toNat : Int) + 1) % 2147483647)) else (((gd bs p.1.toNat).toNat : Int) % n, (p.1 + 1, p.2)))
  else (((p.2 * 48271 + 11) % 2147483647) / 7 % n, (p.1, (p.2 * 48271 + 11) % 2147483647))
abbrev sPl (b : Nat) (cv : Value) (p : Pl) : Ch := blk b 105 [cv, vi p.1, vi p.2]
theorem nextP_s {b : Nat} {n : Int} {cv : Value} {bs : List UInt8} {p : Pl} (hcode : SL G byteT cv bs) (hp : OkP p) (hn : n <= 4611686018427387904) (k : ∀ r p', nx bs p n = (r, p') -> OkP p' -> 0 <= r ∧ (r < n ∨ r = 0) -> R (vi r) G (sPl b cv p' :: L)) : CallT Tryz.prog 57 #[.pointer (some ⟨b, 0, none⟩), vi n] G (sPl b cv p :: L) R := by
 obtain ⟨x, y⟩ := p
 obtain ⟨hx, hy0, hy1⟩ := hp
 simp only at hx hy0 hy1
 have hbl := hcode.bound
 refine CallT.enter (args := _) Tryz.func57 rfl rfl (by kernel_rfl) rfl ?_
 refine WP.sr (RG.mr rfl (RG.nil (WP.seq (WP.sr (RG.ml rfl (RG.p (PV.leq rfl rfl rfl) (RG.nil ?_)))))))
 refine WP.cond rfl (fun h1 => ?_) fun h1 => ?_
 ·have h1 := odt h1
  refine WP.sr (RG.mr rfl (RG.nil ?_))
  exact WP.ret ⟨_, _, rv rfl rfl, Cv.p, k 0 (x, y) (by rw [nx, if_pos h1]) ⟨hx, hy0, hy1⟩ ⟨by omega, .inr rfl⟩⟩
 ·have h1 := odf h1
  refine WP.skip (WP.seq (WP.seq ?_))
  refine WP.regionQ (by kernel_rfl) (by kernel_rfl) ?_
  refine RQ.pv rfl (PV.mvP (.inl rfl) rfl) (RQ.pv rfl (PV.nilc rfl rfl) (RQ.pv rfl (PV.field rfl Fo105_1 rfl) (RQ.pv rfl (PV.load1 rfl Sc3 rfl (Rd.blk rfl)) (RQ.pv rfl (PV.mvP (.inl rfl) rfl) (RQ.pv rfl (PV.nilc rfl rfl) (RQ.pv rfl (PV.field rfl Fo105_0 rfl) (RQ.pv rfl (PV.load1 rfl Sc22 rfl (Rd.blk rfl)) (RQ.pv rfl (PV.len rfl Tryz.underlying22 rfl (SlF.r (Rs.g (L := []) hcode))) (RQ.pv rfl (PV.lss rfl rfl rfl) (RQ.nil ?_))))))))))
  refine WP.cond rfl (fun h2 => ?_) fun h2 => ?_
  ·have h2 := odt h2
   have hc := (gd bs x.toNat).toNat_lt
   refine WP.seq ?_
   refine WP.regionQ (by kernel_rfl) (by kernel_rfl) ?_
   refine RQ.pv rfl (PV.mvP (.inl rfl) rfl) (RQ.pv rfl (PV.nilc rfl rfl) (RQ.pv rfl (PV.field rfl Fo105_0 rfl) (RQ.pv rfl (PV.load1 rfl Sc22 rfl (Rd.blk rfl)) (RQ.pv rfl (PV.mvP (.inl rfl) rfl) (RQ.pv rfl (PV.nilc rfl rfl) (RQ.pv rfl (PV.field rfl Fo105_1 rfl) (RQ.pv rfl (PV.load1 rfl Sc3 rfl (Rd.blk rfl)) (RQ.pv rfl (PV.idxS (j := x.toNat) rfl Is22 rfl (SlF.r (Rs.g (L := []) hcode)) rfl (by omega) (by omega)) (RQ.pv rfl (PV.loadE1 rfl Sc5 rfl rfl (El.r (Rs.g (L := []) hcode) (getG (by omega))) rfl) (RQ.pv rfl (PV.conv rfl ⟨_, Tryz.underlying5⟩ Tryz.underlying2 rfl (u8i _)) (RQ.pv rfl (PV.mvI (.inr rfl) rfl) (RQ.nil (WP.seq ?_)))))))))))))
   refine WP.region (RG.p (PV.mvP (.inl rfl) rfl) (RG.p (PV.nilc rfl rfl) (RG.p (PV.field rfl Fo105_1 rfl) (RG.p (PV.load1 rfl Sc3 rfl (Rd.blk rfl)) (RG.p (PV.add rfl rfl rfl (by first | omega | exact u8add (by omega))) (RG.p (PV.nilc rfl rfl) (RG.p (PV.field rfl Fo105_1 rfl) ?_)))))))
   refine RG.ot rfl (OT.storeB (vs := [vi _]) (cs' := [_, _, _]) rfl Sz3 rfl rfl (Cl.c rfl) rfl (OneC.c rfl) rfl rfl ?_)
   refine RG.nil (WP.seq (WP.sr (RG.ml rfl (RG.p (PV.gtr rfl rfl rfl) (RG.nil ?_)))))
   refine WP.cond rfl (fun h3 => ?_) fun h3 => ?_
   ·have h3 := odt h3
    refine WP.sr (RG.p (PV.mvP (.inl rfl) rfl) (RG.p (PV.mvP (.inl rfl) rfl) (RG.p (PV.nilc rfl rfl) (RG.p (PV.field rfl Fo105_2 rfl) (RG.p (PV.load1 rfl Sc2 rfl (Rd.blk rfl)) (RG.p (PV.mul rfl rfl rfl (by omega)) (RG.ml rfl (RG.p (PV.add rfl rfl rfl (by first | omega | exact u8add (by omega))) (RG.p (PV.add rfl rfl rfl (by first | omega | exact u8add (by omega))) (RG.p (PV.rem rfl rfl rfl (by omega) (by omega) (by omega)) (RG.p (PV.nilc rfl rfl) (RG.p (PV.field rfl Fo105_2 rfl) ?_))))))))))))
    refine RG.ot rfl (OT.storeB (vs := [vi _]) (cs' := [_, _, _]) rfl Sz2 rfl rfl (Cl.c rfl) rfl (OneC.c rfl) rfl rfl ?_)
    refine RG.nil (WP.sr (RG.p (PV.mvP (.inl rfl) rfl) (RG.p (PV.nilc rfl rfl) (RG.p (PV.field rfl Fo105_2 rfl) (RG.p (PV.load1 rfl Sc2 rfl (Rd.blk rfl)) (RG.ml rfl (RG.p (PV.rem rfl rfl rfl (by omega) (by omega) (by omega)) (RG.mr rfl (RG.nil ?_)))))))))
    exact WP.ret ⟨_, _, rv rfl rfl, Cv.p, k (((y * 48271 + ((gd bs x.toNat).toNat : Int) + 1) % 2147483647) % n) (x + 1, (y * 48271 + ((gd bs x.toNat).toNat : Int) + 1) % 2147483647) (by rw [nx, if_neg h1, if_pos h2, if_pos h3]) ⟨by simp only; omega, by simp only; omega, by simp only; omega⟩ ⟨Int.emod_nonneg _ (by omega), .inl (Int.emod_lt_of_pos _ (by omega))⟩⟩
   ·have h3 := odf h3
    refine WP.skip (WP.sr (RG.ml rfl (RG.ml rfl (RG.p (PV.rem rfl rfl rfl (by omega) (by omega) (by omega)) (RG.mr rfl (RG.nil ?_))))))
    exact WP.ret ⟨_, _, rv rfl rfl, Cv.p, k (((gd bs x.toNat).toNat : Int) % n) (x + 1, y) (by rw [nx, if_neg h1, if_pos h2, if_neg h3]) ⟨by simp only; omega, by simp only; omega, by simp only; omega⟩ ⟨Int.emod_nonneg _ (by omega), .inl (Int.emod_lt_of_pos _ (by omega))⟩⟩
  ·have h2 := odf h2
   refine WP.skip (WP.sr (RG.p (PV.mvP (.inl rfl) rfl) (RG.p (PV.mvP (.inl rfl) rfl) (RG.p (PV.nilc rfl rfl) (RG.p (PV.field rfl Fo105_2 rfl) (RG.p (PV.load1 rfl Sc2 rfl (Rd.blk rfl)) (RG.p (PV.mul rfl rfl rfl (by omega)) (RG.p (PV.add rfl rfl rfl (by omega)) (RG.p (PV.rem rfl rfl rfl (by omega) (by omega) (by omega)) (RG.p (PV.nilc rfl rfl) (RG.p (PV.field rfl Fo105_2 rfl) ?_)))))))))))
   refine RG.ot rfl (OT.storeB (vs := [vi _]) (cs' := [_, _, _]) rfl Sz2 rfl rfl (Cl.c rfl) rfl (OneC.c rfl) rfl rfl ?_)
   refine RG.nil (WP.sr (RG.p (PV.mvP (.inl rfl) rfl) (RG.p (PV.nilc rfl rfl) (RG.p (PV.field rfl Fo105_2 rfl) (RG.p (PV.load1 rfl Sc2 rfl (Rd.blk rfl)) (RG.p (PV.quo rfl rfl rfl (by omega) (by omega) (by omega)) (RG.ml rfl (RG.p (PV.rem rfl rfl rfl (by omega) (by omega) (by omega)) (RG.mr rfl (RG.nil ?_))))))))))
   exact WP.ret ⟨_, _, rv rfl rfl, Cv.p, k (((y * 48271 + 11) % 2147483647) / 7 % n) (x, (y * 48271 + 11) % 2147483647) (by rw [nx, if_neg h1, if_neg h2]) ⟨by simp only; omega, by simp only; omega, by simp only; omega⟩ ⟨Int.emod_nonneg _ (by omega), .inl (Int.emod_lt_of_pos _ (by omega))⟩⟩
def seedS (y : Int) (c : UInt8) : Int := (y * 31 + (c.toNat : Int)) % 2147483647
def fr (bs : List UInt8) : Pl := (0, (bs.take 64).foldl seedS 12345)
theorem seed_bd (l : List UInt8) : ∀ y, 0 <= y ∧ y < 2147483647 -> 0 <= l.foldl seedS y ∧ l.foldl seedS y < 2147483647 := by
 induction l with
 | nil => exact fun y h => h
 | cons c l ih => exact fun y h => ih _ (by simp only [seedS]; omega)
theorem fr_ok (bs : List UInt8) : OkP (fr bs) := by
 have := seed_bd (bs.take 64) 12345 (by omega)
 exact ⟨by simp [fr], this.1, this.2⟩
theorem fromP_s {cv : Value} {bs : List UInt8} (hcode : SL G byteT cv bs) (k : ∀ b, R (.pointer (some ⟨b, 0, none⟩)) G (sPl b cv (fr bs) :: L)) : CallT Tryz.prog 25 #[cv] G L R := by
 have hbl := hcode.bound
 refine CallT.enter (args := _) Tryz.func25 rfl rfl (by kernel_rfl) rfl ?_
 refine WP.sr (RG.p (PV.asg rfl rfl) (RG.nil (WP.sr (RG.p (PV.move (v := cv) rfl rfl) (RG.p (PV.build (vs := [(0, [cv]), (2, [vi _])]) (out := [_, _, _]) rfl Zr105 Pl105 ⟨rfl, (Cl.s (SlF.r (Rs.g (L := []) hcode))), ⟨rfl, (Cl.c rfl), trivial⟩⟩ rfl) ?_)))))
 refine RG.ot rfl (OT.box (cs := [cv, vi 0, vi 12345]) rfl rfl rfl fun b7 => ?_)
 refine RG.p (PV.mvP (.inr rfl) rfl) (RG.nil (WP.seq (WP.sr (RG.mr rfl (RG.nil (WP.block ?_))))))
 refine WP.loop2 [0, 3] (fun (i : Nat) (y : Int) => (i <= 64 ∧ i <= bs.length) ∧ y = (bs.take i).foldl seedS 12345) (fun (i : Nat) (y : Int) => [(4, vi i)]) (fun (i : Nat) (y : Int) => blk b7 105 [cv, vi 0, vi y] :: L) (fun (i : Nat) (y : Int) => 64 - i) 0 12345 ⟨by omega, by simp⟩ ⟨rfl, trivial⟩ Cv.p ?_
 rintro i y τ ⟨hi, hy⟩
 refine WP.seq (WP.sr (RG.ml rfl (RG.p (PV.move (v := cv) rfl rfl) (RG.p (PV.len (v := cv) rfl Tryz.underlying22 rfl (SlF.r (Rs.g (L := []) hcode))) (RG.p (PV.lss rfl rfl rfl) (RG.bl rfl ?_))))))
 refine RG.g rfl (fun hp => (PV.mvI (.inl rfl) rfl)) ?_
 refine RG.g rfl (fun hp => (PV.lss rfl (gt' hp) rfl)) ?_
 refine RG.p (PV.pickA rfl rfl (fun hq => gt' (geqT hq)) rfl) (RG.nil ?_)
 have hyb := seed_bd (bs.take i) 12345 (by omega)
 rw [<- hy] at hyb
 refine WP.cond rfl (fun h2 => ?_) fun h2 => ?_
 ·simp only [Bool.and_eq_true, decide_eq_true_eq] at h2
  have hc := (gd bs i).toNat_lt
  have hn : (bs.take (i + 1)).foldl seedS 12345 = (y * 31 + ((gd bs i).toNat : Int)) % 2147483647 := by
   rw [List.take_add_one, getG (by omega), List.foldl_append, <- hy]; rfl
  refine WP.skip (WP.seq (WP.block ?_))
  refine WP.regionHD [.b b7] (.q 0 (.q 1 (.q 2 (.q 3 (.q 6 (.q 7 (.q 8 (.q 9 (.q 10 (.l 4 (.q 5 (.q 11 (.q 12 (.q 13 (.q 14 (.l 15 Sch.nil)))))))))))))))) (by kernel_rfl) (by kernel_rfl) (by kernel_rfl) rfl ?_
  refine RH.w rfl rfl (PV.mvP (.inl rfl) rfl) (RH.w rfl rfl (PV.mvP (.inl rfl) rfl) (RH.w rfl rfl (PV.nilc rfl rfl) (RH.w rfl rfl (PV.field rfl Fo105_2 rfl) (RH.w rfl rfl (PV.move (v := cv) rfl rfl) (RH.w rfl rfl (PV.mvI (.inl rfl) rfl) (RH.w rfl rfl (PV.idxS (v := cv) rfl Is22 rfl (SlF.r (Rs.g (L := []) hcode)) rfl rfl (by omega)) (RH.w rfl rfl (PV.loadE1 rfl Sc5 rfl rfl (El.r (Rs.g (L := []) hcode) (getG (by omega))) rfl) (RH.w rfl rfl (PV.conv rfl ⟨_, Tryz.underlying5⟩ Tryz.underlying2 rfl (u8i _)) ?_))))))))
  refine RH.ot rfl rfl (OT.pv (PV.load1 rfl Sc2 rfl (Rd.blk rfl)) (kp ?_))
  refine RH.w rfl rfl (PV.mul rfl rfl rfl (by omega)) (RH.w rfl rfl (PV.add rfl rfl rfl (by first | omega | exact u8add (by omega))) (RH.w rfl rfl (PV.rem rfl rfl rfl (by omega) (by omega) (by omega)) (RH.w rfl rfl (PV.nilc rfl rfl) (RH.w rfl rfl (PV.field rfl Fo105_2 rfl) ?_))))
  refine RH.ot rfl rfl (OT.storeB (vs := [vi _]) (cs' := [_, _, _]) rfl Sz2 rfl rfl (Cl.c rfl) rfl (OneC.c rfl) rfl rfl (kp ?_))
  refine RH.nil (WP.region (RG.ml rfl (RG.p (PV.add rfl rfl rfl (by first | omega | exact u8add (by omega))) (RG.mr rfl (RG.nil ?_)))))
  exact ⟨rfl, i + 1, ((y * 31 + ((gd bs i).toNat : Int)) % 2147483647), ⟨by omega, hn.symm⟩, ⟨rfl, trivial⟩, ⟨rfl, rfl, trivial⟩, Cv.p, by omega⟩
 ·have h2 : ¬ ((i : Int) < bs.length ∧ (i : Int) < 64) := by
   intro h3
   simp [h3.1, h3.2] at h2
  have e : fr bs = (0, y) := by
   rw [fr, hy]
   by_cases c : i = 64
   ·rw [c]
   ·rw [List.take_of_length_le (show bs.length <= 64 by omega), List.take_of_length_le (show bs.length <= i by omega)]
  rw [e] at k
  refine WP.exit (WP.sr (RG.p (PV.mvP (.inl rfl) rfl) (RG.p (PV.mvP (.inr rfl) rfl) (RG.nil ?_))))
  exact WP.ret ⟨_, _, rv rfl rfl, Cv.p, k b7⟩
def nps (zs : List Net) : List (Sl Piece) := zs.map Net.pieces
def one (b : Bool) : Int := bif b then 1 else 0
theorem one_and (a b : Bool) : one (a && b) = one a * one b := by cases a <;> cases b <;> rfl
theorem one_nn (b : Bool) : 0 <= one b ∧ one b <= 1 := by cases b <;> simp [one]
def sumF (f : Nat -> Int) : Nat -> Int
  | 0 => 0
  | n + 1 => sumF f n + f n
def cntF (f : Nat -> Bool) (n : Nat) : Int := sumF (fun k => one (f k)) n
theorem cntF_succ (f : Nat -> Bool) (n : Nat) : cntF f (n + 1) = cntF f n + one (f n) := rfl
theorem cntF_bd (f : Nat -> Bool) : ∀ n, 0 <= cntF f n ∧ cntF f n <= n
 | 0 => by simp [cntF, sumF]
 | n + 1 => by
  have := cntF_bd f n
  have := one_nn (f n)
  rw [cntF_succ]; omega
theorem sumF_congr {f g : Nat -> Int} : ∀ {n : Nat}, (∀ k, k < n -> f k = g k) -> sumF f n = sumF g n
 | 0, _ => rfl
 | n + 1, h => by rw [sumF, sumF, sumF_congr fun k hk => h k (by omega), h n (by omega)]
theorem sumF_mul (f : Nat -> Int) (c : Int) : ∀ n, sumF (fun k => f k * c) n = sumF f n * c
 | 0 => by simp [sumF]
 | n + 1 => by rw [sumF, sumF, sumF_mul f c n, Int.add_mul]
theorem sumF_bd {f : Nat -> Int} {B : Int} (h : ∀ k, 0 <= f k ∧ f k <= B) : ∀ n, 0 <= sumF f n ∧ sumF f n <= n * B
 | 0 => by simp [sumF]
 | n + 1 => by
  have h1 := sumF_bd h n
  have h2 := h n
  rw [sumF, Int.natCast_add, Int.add_mul]; omega
theorem cntF_between (a b c : Int) : ∀ n, cntF (fun k => decide (a <= b + k) && decide (b + k < c)) n = max 0 (min c (b + n) - max a b)
 | 0 => by simp only [cntF, sumF]; omega
 | n + 1 => by
  rw [cntF_succ, cntF_between a b c n]
  by_cases h1 : a <= b + n <;> by_cases h2 : b + (n : Int) < c
  ·rw [decide_eq_true h1, decide_eq_true h2]; simp only [one, Bool.and_self, cond_true]; omega
  ·rw [decide_eq_true h1, decide_eq_false h2]; simp only [one, Bool.and_false, cond_false]; omega
  ·rw [decide_eq_false h1, decide_eq_true h2]; simp only [one, Bool.false_and, cond_false]; omega
  ·rw [decide_eq_false h1, decide_eq_false h2]; simp only [one, Bool.false_and, cond_false]; omega
theorem costL_add {α : Type} (f g : α -> Int) : ∀ xs : List α, costL (fun x => f x + g x) xs = costL f xs + costL g xs
 | [] => by simp [costL]
 | x :: xs => by simp only [costL, costL_add f g xs]; omega
theorem costL_congr {α : Type} {f g : α -> Int} : ∀ {xs : List α}, (∀ x ∈ xs, f x = g x) -> costL f xs = costL g xs
 | [], _ => rfl
 | x :: xs, h => by rw [costL, costL, h x (.head _), costL_congr fun y hy => h y (.tail _ hy)]
theorem costL_zero {α : Type} (xs : List α) : costL (fun _ => 0) xs = 0 := by rw [costL_const]; simp
theorem sumF_costL {α : Type} (f : Nat -> α -> Int) (xs : List α) : ∀ n, sumF (fun k => costL (f k) xs) n = costL (fun x => sumF (fun k => f k x) n) xs
 | 0 => by simp [sumF, costL_zero]
 | n + 1 => by rw [sumF, sumF_costL f xs n, <- costL_add]; rfl
theorem one_any {α : Type} {p : α -> Bool} : ∀ {xs : List α}, xs.Pairwise (fun a b => ¬ (p a = true ∧ p b = true)) -> one (xs.any p) = costL (fun x => one (p x)) xs
 | [], _ => rfl
 | x :: xs, h => by
  rw [List.pairwise_cons] at h
  rw [List.any_cons, costL, <- one_any h.2]
  cases hp : p x
  ·simp [one]
  ·have : xs.any p = false := by
    rw [List.any_eq_false]; intro y hy hq; exact h.1 y hy ⟨hp, hq⟩
   rw [this]; rfl
theorem runs_ge (r : Nat -> Bool) (x : Nat) : ∀ p ∈ runsFrom r x, x <= p.1 := by
 intro p hp
 rw [runsFrom] at hp
 by_cases h : x < 80
 ·rw [if_pos h] at hp
  by_cases hr : r x = true
  ·rw [if_pos hr] at hp
   have h1 := runEnd_ge r (x + 1)
   rcases List.mem_cons.1 hp with rfl | hp
   ·exact Nat.le_refl _
   ·have := runs_ge r _ p hp; omega
  ·rw [if_neg hr] at hp; have := runs_ge r _ p hp; omega
 ·rw [if_neg h] at hp; cases hp
termination_by 80 - x
decreasing_by
 ·have := runEnd_ge r (x + 1); omega
 ·omega
theorem runs_apart (r : Nat -> Bool) (x : Nat) : (runsFrom r x).Pairwise fun p q => p.2 <= q.1 := by
 rw [runsFrom]
 split
 ·split
  ·rw [List.pairwise_cons]
   have h1 := runEnd_ge r (x + 1)
   refine ⟨fun q hq => ?_, runs_apart r _⟩
   have := runs_ge r _ q hq; simp only; omega
  ·exact runs_apart r (x + 1)
 ·exact .nil
termination_by 80 - x
decreasing_by
 ·have := runEnd_ge r (x + 1); omega
 ·omega
theorem canonFrom_ge (bs : List Bool) (y : Nat) : ∀ r ∈ canonFrom bs y, (y : Int) - 40 <= r.y0 := by
 intro r hr
 rw [canonFrom] at hr
 by_cases h : y < 80
 ·rw [if_pos h] at hr
  have h1 := endFrom_ge bs y (y + 1)
  rcases List.mem_append.1 hr with hr | hr
  ·obtain ⟨p, hp, rfl⟩ := List.mem_map.1 hr
   simp only [mkR]; omega
  ·have := canonFrom_ge bs _ r hr; omega
 ·rw [if_neg h] at hr; cases hr
termination_by 80 - y
decreasing_by have := endFrom_ge bs y (y + 1); omega
theorem canonFrom_apart (bs : List Bool) (y : Nat) : (canonFrom bs y).Pairwise fun r q => ∀ v u, ¬ (inR r v u = true ∧ inR q v u = true) := by
 rw [canonFrom]
 split
 ·rename_i h
  have h1 := endFrom_ge bs y (y + 1)
  rw [List.pairwise_append]
  refine ⟨?_, canonFrom_apart bs _, fun r hr q hq v u => ?_⟩
  ·rw [List.pairwise_map]
   refine (runs_apart (gb bs y) 0).imp ?_
   intro p q hpq v u ⟨h1, h2⟩
   rw [inR_iff] at h1 h2; simp only [mkR] at h1 h2; omega
  ·obtain ⟨p, _, rfl⟩ := List.mem_map.1 hr
   have := canonFrom_ge bs _ q hq
   rintro ⟨h1, h2⟩
   rw [inR_iff] at h1 h2; simp only [mkR] at h1; omega
 ·exact .nil
termination_by 80 - y
decreasing_by have := endFrom_ge bs y (y + 1); omega
theorem reg_apart {xs : List Rect} (h : isReg xs = true) (v u : Nat) : xs.Pairwise fun r q => ¬ (inR r v u = true ∧ inR q v u = true) := by
 have := canonFrom_apart (bits xs) 0
 rw [show canonFrom (bits xs) 0 = canon (bits xs) from rfl, isReg_eq h] at this
 exact this.imp fun k => k v u
def wR (r : Rect) : Nat := (r.x1 - r.x0).toNat
def hR (r : Rect) : Nat := (r.y1 - r.y0).toNat
def tH (D : List Bool) (y x0 : Int) (n : Nat) : Int := cntF (fun k => cellB D (x0 + k) y) n
def covB (S : List Bool) (r : Rect) : Int := sumF (fun j => tH S (r.y0 + j) r.x0 (wR r)) (hR r)
def covI (xs : List Rect) (r : Rect) : Int := costL (fun q => if validRect (cmn q r) = true then areaR (cmn q r) else 0) xs
theorem box_count {q r : Rect} (hq : validRect q = true) (hr : validRect r = true) : sumF (fun j => cntF (fun k => (decide (q.x0 <= r.x0 + k) && decide (r.x0 + (k : Int) < q.x1)) && (decide (q.y0 <= r.y0 + j) && decide (r.y0 + (j : Int) < q.y1))) (wR r)) (hR r) = if validRect (cmn q r) = true then areaR (cmn q r) else 0 := by
 have e : ∀ j : Nat, cntF (fun k => (decide (q.x0 <= r.x0 + k) && decide (r.x0 + (k : Int) < q.x1)) && (decide (q.y0 <= r.y0 + j) && decide (r.y0 + (j : Int) < q.y1))) (wR r) = one (decide (q.y0 <= r.y0 + j) && decide (r.y0 + (j : Int) < q.y1)) * cntF (fun k => decide (q.x0 <= r.x0 + k) && decide (r.x0 + (k : Int) < q.x1)) (wR r) := fun j => by
  simp only [cntF, one_and]
  rw [<- one_and (decide (q.y0 <= r.y0 + j)), Int.mul_comm, <- sumF_mul]
 rw [sumF_congr fun j _ => e j, sumF_mul]
 show cntF _ _ * _ = _
 rw [cntF_between, cntF_between]
 rw [validR_iff] at hq hr
 have h1 : (wR r : Int) = r.x1 - r.x0 := by simp only [wR]; omega
 have h2 : (hR r : Int) = r.y1 - r.y0 := by simp only [hR]; omega
 rw [h1, h2]
 by_cases c : validRect (cmn q r) = true
 ·rw [if_pos c]
  rw [validR_iff] at c; simp only [cmn] at c
  simp only [areaR, cmn]
  rw [Int.mul_comm, show max 0 (min q.x1 (r.x0 + (r.x1 - r.x0)) - max q.x0 r.x0) = min q.x1 r.x1 - max q.x0 r.x0 by omega, show max 0 (min q.y1 (r.y0 + (r.y1 - r.y0)) - max q.y0 r.y0) = min q.y1 r.y1 - max q.y0 r.y0 by omega]
 ·rw [if_neg c]
  rw [validR_iff] at c; simp only [cmn] at c
  by_cases d : min q.x1 r.x1 <= max q.x0 r.x0
  ·rw [show max 0 (min q.x1 (r.x0 + (r.x1 - r.x0)) - max q.x0 r.x0) = 0 by omega, Int.mul_zero]
  ·rw [show max 0 (min q.y1 (r.y0 + (r.y1 - r.y0)) - max q.y0 r.y0) = 0 by omega, Int.zero_mul]
theorem cov_eq {xs : List Rect} {r : Rect} (hx : isReg xs = true) (hr : validRect r = true) : covI xs r = covB (bits xs) r := by
 have hv := isReg_valid hx
 have hr2 := validR_iff.1 hr
 have e : ∀ j, j < hR r -> tH (bits xs) (r.y0 + j) r.x0 (wR r) = costL (fun q => cntF (fun k => (decide (q.x0 <= r.x0 + k) && decide (r.x0 + (k : Int) < q.x1)) && (decide (q.y0 <= r.y0 + j) && decide (r.y0 + (j : Int) < q.y1))) (wR r)) xs := fun j hj => by
  simp only [tH, cntF]
  rw [<- sumF_costL]
  refine sumF_congr fun k hk => ?_
  have hin : -40 <= r.x0 + (k : Int) ∧ r.x0 + (k : Int) < 40 ∧ -40 <= r.y0 + (j : Int) ∧ r.y0 + (j : Int) < 40 := by
   simp only [hR, wR] at hj hk; omega
  rw [cellB_in hin, gb_bits' _ (by omega) (by omega), one_any (reg_apart hx _ _)]
  refine costL_congr fun q hq => ?_
  congr 1
  rw [Bool.eq_iff_iff, inR_iff]
  simp only [Bool.and_eq_true, decide_eq_true_eq]
  omega
 rw [covB, sumF_congr e, sumF_costL, covI]
 exact costL_congr fun q hq => (box_count (valid_mem hv hq) hr).symm
theorem unitCell_s {p : Pt} (k : R (.bool (within p.x (-40) 39 && within p.y (-40) 39)) G L) : CallT Tryz.prog 205 #[vpt p] G L R := by
 refine CallT.enter (args := _) Tryz.func205 rfl rfl (by kernel_rfl) rfl ?_
 refine WP.sr ?_
 refine RG.ot rfl (OT.box (cs := ptT.enc p) rfl rfl rfl fun b1 => ?_)
 refine RG.br rfl (RG.nil (WP.sr (RG.p (PV.field rfl Fo156_0 rfl) (RG.p (PV.load1 rfl Sc2 rfl (Rd.blk rfl)) ?_))))
 refine RG.callF (vs := [_, _, _]) rfl rfl En56 rfl (within_s ?_)
 refine RG.bl rfl ?_
 refine RG.g rfl (fun hp => (PV.field rfl Fo156_1 rfl)) ?_
 refine RG.g rfl (fun hp => (PV.load1 rfl Sc2 (gt' hp) (Rd.blk rfl))) ?_
 refine RG.gsC rfl rfl rfl rfl En56 (fun hp => ⟨_, (acons (gt' hp) (acons rfl (acons rfl anil))), within_s ⟨rfl, rfl, rfl⟩⟩) ?_
 refine RG.p (PV.pickA rfl rfl (fun hq => gt' (geqT hq)) rfl) (RG.br rfl (RG.nil ?_))
 exact WP.ret ⟨_, _, rv rfl rfl, Cv.p, k⟩
theorem cellB_within {D : List Bool} {x y : Int} : cellB D x y = (within x (-40) 39 && within y (-40) 39 && gd D (0 + (y + 40).toNat * 80 + (x + 40).toNat * 1)) := by
 by_cases h : -40 <= x ∧ x < 40 ∧ -40 <= y ∧ y < 40
 ·rw [cellB_in h, show within x (-40) 39 = true by simp [within]; omega, show within y (-40) 39 = true by simp [within]; omega, Nat.zero_add, Nat.mul_one]; rfl
 ·rw [cellB_out h]
  by_cases c : -40 <= x ∧ x < 40
  ·rw [show within y (-40) 39 = false by simp [within]; omega]; simp
  ·rw [show within x (-40) 39 = false by simp [within]; omega]; simp
theorem has_s {b : Nat} {D : List Bool} {x y : Int} (hD : D.length = 6400) (k : R (.bool (cellB D x y)) G (grd b D :: L)) : CallT Tryz.prog 194 #[.pointer (some ⟨b, 0, none⟩), vi x, vi y] G (grd b D :: L) R := by
 rw [cellB_within] at k
 refine CallT.enter (args := _) Tryz.func194 rfl rfl (by kernel_rfl) rfl ?_
 refine WP.sr (RG.br rfl (RG.nil (WP.sr (RG.ml rfl (RG.ml rfl (RG.p (PV.build (vs := [(0, [vi _]), (1, [vi _])]) (out := [_, _]) rfl Zr156 Pl156 ⟨rfl, (Cl.c rfl), ⟨rfl, (Cl.c rfl), trivial⟩⟩ rfl) ?_))))))
 refine RG.callF (vs := [_]) rfl rfl En205 rfl (unitCell_s (p := ⟨x, y⟩) ?_)
 refine RG.bl rfl ?_
 refine RG.g rfl (fun hp => (PV.mvP (.inl rfl) rfl)) ?_
 refine RG.g rfl (fun hp => (PV.mvI (.inl rfl) rfl)) ?_
 refine RG.g rfl (fun hp => (PV.add rfl (gt' hp) rfl (by first | omega | (simp [within] at hp; omega)))) ?_
 refine RG.g rfl (fun hp => (PV.mvI (.inl rfl) rfl)) ?_
 refine RG.g rfl (fun hp => (PV.add rfl (gt' hp) rfl (by first | omega | (simp [within] at hp; omega)))) ?_
 refine RG.g rfl (fun hp => (PV.nilc rfl (gt' hp))) ?_
 refine RG.g rfl (fun hp => (PV.idxA (j := (y + 40).toNat) rfl Ia125 (gt' hp) (gt' hp) (by first | omega | (simp [within] at hp; omega)) (by first | omega | (simp [within] at hp; omega)))) ?_
 refine RG.g rfl (fun hp => (PV.idxA (j := (x + 40).toNat) rfl Ia123 (gt' hp) (gt' hp) (by first | omega | (simp [within] at hp; omega)) (by first | omega | (simp [within] at hp; omega)))) ?_
 refine RG.g rfl (fun hp => (PV.loadGr rfl Sc4 (gt' hp) rfl (by first | omega | (simp [within] at hp; omega)))) ?_
 refine RG.p (PV.pickA rfl rfl (fun hq => gt' (geqT hq)) rfl) (RG.br rfl (RG.nil ?_))
 exact WP.ret ⟨_, _, rv rfl rfl, Cv.p, k⟩
theorem covered_s {v : Value} {xs : List Rect} {r : Rect} (h1 : Rs G L rectT v xs) (hl : xs.length <= 3200) (k : R (vi (covI xs r)) G L) : CallT Tryz.prog 144 #[v, vrect r] G L R := by
 have hcb : ∀ q, 0 <= (if validRect (cmn q r) = true then areaR (cmn q r) else 0) ∧ (if validRect (cmn q r) = true then areaR (cmn q r) else 0) <= 6400 := fun q => by
  split
  ·rename_i h; exact area_bd h
  ·omega
 have hnn : ∀ ys : List Rect, 0 <= covI ys r ∧ covI ys r <= 6400 * ys.length := fun ys => ⟨costL_nonneg (fun q => (hcb q).1) ys, costL_bd fun q _ => (hcb q).2⟩
 refine CallT.enter (args := _) Tryz.func144 rfl rfl (by kernel_rfl) rfl ?_
 refine WP.sr ?_
 refine RG.ot rfl (OT.box (cs := rectT.enc r) rfl rfl rfl fun b3 => ?_)
 refine RG.mr rfl (RG.nil (WP.sr (RG.mr rfl (RG.nil (WP.seq (WP.sr (RG.p (PV.move (v := v) rfl rfl) (RG.p (PV.len (v := v) rfl Tryz.underlying50 rfl (SlF.r h1)) (RG.ml rfl (RG.nil (WP.block ?_)))))))))))
 refine WP.loop2 [3, 9, 10] (fun (i : Nat) (s : Int) => i <= xs.length ∧ s = covI (xs.take i) r) (fun (i : Nat) (s : Int) => [(11, vi i), (5, vi s)]) (fun (i : Nat) (s : Int) => blk b3 101 (rectT.enc r) :: L) (fun (i : Nat) (s : Int) => xs.length - i) 0 0 ⟨by omega, by simp [covI, costL]⟩ ⟨rfl, rfl, trivial⟩ Cv.p ?_
 rintro i s τ ⟨hi, hs⟩
 refine WP.sr (RG.p (PV.lss rfl rfl rfl) (RG.nil (WP.seq ?_)))
 refine WP.cond rfl (fun h2 => ?_) fun h2 => ?_
 ·have h2 := odt h2
  have hct := costL_take (fun q => if validRect (cmn q r) = true then areaR (cmn q r) else 0) (xs := xs) (i := i) (by omega)
  have hb := hnn (xs.take i)
  have hlt : (xs.take i).length = i := by simp; omega
  rw [hlt] at hb
  refine WP.skip (WP.seq (WP.block (WP.sr (RG.p (PV.idxS (v := v) rfl Is50 rfl (SlF.r h1) rfl rfl (by omega)) (RG.p (PV.loadE rfl Ag101 rfl rfl (El.r h1 (getG (by omega)))) ?_)))))
  refine RG.ot rfl (OT.alloc rfl Zr101 fun b7 => ?_)
  refine RG.ot rfl (OT.storeW (vs := [vi _, vi _, vi _, vi _]) rfl Sz101 rfl rfl (Cl.c rfl) rfl rfl (OneC.c rfl) ?_)
  refine RG.nil (WP.sr (RG.p (PV.loadW rfl Ag101 rfl rfl) (RG.p (PV.loadW rfl Ag101 rfl rfl) ?_)))
  refine RG.callF (vs := [_, _]) rfl rfl En200 rfl (common_s ?_)
  refine RG.ot rfl (OT.alloc rfl Zr101 fun b8 => ?_)
  refine RG.ot rfl (OT.storeW (vs := [vi _, vi _, vi _, vi _]) rfl Sz101 rfl rfl (Cl.c rfl) rfl rfl (OneC.c rfl) ?_)
  refine RG.nil (WP.sr (RG.p (PV.loadW rfl Ag101 rfl rfl) ?_))
  refine RG.callF (vs := [_]) rfl rfl En67 rfl (validRect_s ?_)
  refine RG.nil ?_
  refine WP.cond rfl (fun h3 => ?_) fun h3 => ?_
  ·have hab := area_bd h3
   rw [if_pos h3] at hct
   refine WP.region (RG.ml rfl (RG.p (PV.loadW rfl Ag101 rfl rfl) ?_))
   refine RG.callF (vs := [_]) rfl rfl En145 rfl (area_s (by assumption) ?_)
   refine RG.p (PV.add rfl rfl rfl (by omega)) (RG.mr rfl (RG.nil (WP.region (RG.p (PV.add rfl rfl rfl (by omega)) (RG.ml rfl (RG.nil ?_))))))
   exact ⟨rfl, i + 1, _, ⟨by omega, by rw [hs]; exact hct.symm⟩, ⟨rfl, rfl, trivial⟩, ⟨rfl, rfl, rfl, trivial⟩, Cv.p, by omega⟩
  ·rw [if_neg (by simp [h3])] at hct
   refine WP.skip (WP.region (RG.p (PV.add rfl rfl rfl (by omega)) (RG.ml rfl (RG.nil ?_))))
   exact ⟨rfl, i + 1, _, ⟨by omega, by rw [hs]; simp only [covI]; omega⟩, ⟨rfl, rfl, trivial⟩, ⟨rfl, rfl, rfl, trivial⟩, Cv.p, by omega⟩
 ·have h2 := odf h2
  have e : covI xs r = s := by rw [hs, List.take_of_length_le (by omega)]
  rw [e] at k
  refine WP.exit (WP.sr (RG.ml rfl (RG.mr rfl (RG.nil ?_))))
  exact WP.ret ⟨_, _, rv rfl rfl, Cv.p, k⟩
def txt (bs : List UInt8) : ByteArray := ⟨bs.toArray⟩
theorem txt_size (bs : List UInt8) : (txt bs).size = bs.length := by simp [txt, ByteArray.size]
section
variable {P : Program} {σ : Nat -> Value} {G : Gh} {L : List Ch} {o : Oper}
theorem PV.convBS {T T' e : TypeId} {x : Operand} {v : Value} {bs : List UInt8} (ho : o.op = .convert T T' x) (hu : P.underlying T = some (.slice e)) (he : P.underlying e = some (.int .u8)) (hd : P.underlying T' = some .string) (hx : ev σ x = v) (h : Rs G L byteT v bs) : PV P o σ G L (.string (txt bs)) := by
 intro w hw
 obtain ⟨⟨c, hc1, hc2, hsl⟩, hg⟩ := h w hw
 rcases hsl with ⟨b, k, rfl⟩ | ⟨⟨a, rfl⟩, h0⟩
 ·have hr := run_convert_bytes_arg w T e hu he b k bs.length c (bs.map fun b => (b.toNat : Int)) (by simp) (fun i hi => by
   have := hg i (.int .u8 ((bs.map fun b => (b.toNat : Int)).getD i 0)) (by
    rw [show i = i * byteT.sz + 0 by simp [byteT]]
    refine byteT.flat_get (x := bs[i]) (List.getElem?_eq_getElem hi) ?_
    simp [byteT, hi])
   simpa [sb, so] using this) T' hd
  have e1 : strOfNums (bs.map fun b => (b.toNat : Int)) = txt bs := by
   simp only [strOfNums, txt, List.map_map]
   congr 2
   conv => rhs; rw [<- List.map_id bs]
   apply List.map_congr_left
   intro b _
   simp
  simp [execOp, ho, hx, hr, e1]
 ·have hb : bs = [] := List.eq_nil_of_length_eq_zero h0
  subst hb
  cases a with
  | none => simp [execOp, ho, hx, run_convert_bytes_nil w T e hu he _ _ T' hd, txt, ByteArray.empty, ByteArray.emptyWithCapacity]; rfl
  | some a =>
   simp only [List.length_nil] at hx
   simp [execOp, ho, hx, run_convert_bytes_string w T T' e _ _ _ hu he hd, Conv.bytesToString, loadCells, loadCellsFrom, txt, ByteArray.empty, ByteArray.emptyWithCapacity]; rfl
end
def nameByte (c : UInt8) : Bool := decide (97 <= c.toNat) && decide (c.toNat <= 122) || decide (48 <= c.toNat) && decide (c.toNat <= 57)
def isName (s : ByteArray) : Bool := decide (1 <= s.size) && decide (s.size <= 8) && decide (∀ i, i < s.size -> nameByte (bt s i) = true)
theorem isName_all {s : ByteArray} (h : ∀ i, i < s.size -> nameByte (bt s i) = true) : isName s = (decide (1 <= (s.size : Int)) && decide ((s.size : Int) <= 8)) := by
 simp only [isName, decide_eq_true h, Bool.and_true]
 congr 1 <;> (rw [decide_eq_decide]; omega)
theorem isName_not {s : ByteArray} {i : Nat} (h : i < s.size) (e : nameByte (bt s i) = false) : isName s = false := by
 simp only [isName, Bool.and_eq_false_iff, decide_eq_false_iff_not]
 exact .inr fun hh => by rw [hh i h] at e; cases e
theorem isName_i {s : ByteArray} (hs : s.size <= 9223372036854775807) (k : R (.bool (isName s)) G L) : CallT Tryz.prog 152 #[.string s] G L R := by
 refine CallT.enter (args := _) Tryz.func152 rfl rfl (by kernel_rfl) rfl ?_
 refine WP.sr (RG.br rfl (RG.nil (WP.seq (WP.sr (RG.mr rfl (RG.nil (WP.block ?_)))))))
 refine WP.loop1 [0] (fun i => i <= s.size ∧ ∀ j, j < i -> nameByte (bt s j) = true) (fun i => [(3, vi i)]) (fun i => L) (fun i => s.size - i) 0 ⟨by omega, fun j h => by omega⟩ ⟨rfl, trivial⟩ Cv.p ?_
 rintro i τ ⟨hi, hb⟩
 refine WP.seq (WP.sr (RG.ml rfl (RG.p (PV.mvS (.inl rfl) rfl) (RG.p (PV.lenS rfl Tryz.underlying9 rfl) (RG.p (PV.lss rfl rfl rfl) (RG.nil ?_))))))
 refine WP.cond rfl (fun h1 => ?_) fun h1 => ?_
 ·have h1 := odt h1
  refine WP.skip (WP.seq (WP.block (WP.sr (RG.p (PV.mvS (.inl rfl) rfl) (RG.ml rfl (RG.p (PV.idxStr rfl Tryz.underlying9 rfl rfl rfl (getBG (by omega))) (RG.p (PV.lss rfl rfl rfl) (RG.bl rfl ?_))))))))
  refine RG.g rfl (fun hp => (PV.mvS (.inl rfl) rfl)) ?_
  refine RG.g rfl (fun hp => (PV.mvI (.inl rfl) rfl)) ?_
  refine RG.g rfl (fun hp => (PV.idxStr rfl Tryz.underlying9 (gt' hp) (gt' hp) rfl (getBG (by first | omega | (simp at hp; omega))))) ?_
  refine RG.g rfl (fun hp => (PV.gtr rfl (gt' hp) rfl)) ?_
  refine RG.p (PV.pickO rfl rfl rfl (fun hq => gt' (geqF hq))) (RG.bl rfl ?_)
  refine RG.g rfl (fun hp => (PV.mvS (.inl rfl) rfl)) ?_
  refine RG.g rfl (fun hp => (PV.mvI (.inl rfl) rfl)) ?_
  refine RG.g rfl (fun hp => (PV.idxStr rfl Tryz.underlying9 (gt' hp) (gt' hp) rfl (getBG (by first | omega | (simp at hp; omega))))) ?_
  refine RG.g rfl (fun hp => (PV.lss rfl (gt' hp) rfl)) ?_
  refine RG.g rfl (fun hp => (PV.mvB (.inl rfl) (gt' hp))) ?_
  refine RG.gs2 rfl rfl rfl (fun hp => (PV.mvS (.inl rfl) rfl)) (RG.gs2 rfl rfl rfl (fun hp => (PV.mvI (.inl rfl) rfl)) (RG.gs2 rfl rfl rfl (fun hp => (PV.idxStr rfl Tryz.underlying9 (gt' hp) (gt' hp) rfl (getBG (by first | omega | (simp at hp; omega))))) (RG.gs2 rfl rfl rfl (fun hp => (PV.gtr rfl (gt' hp) rfl)) ?_)))
  refine RG.g rfl (fun hp => (PV.pickO rfl (gt' hp) rfl (fun hq => gt' (gandF hp hq)))) ?_
  refine RG.p (PV.pickA rfl rfl (fun hq => gt' (geqT hq)) rfl) (RG.nil ?_)
  refine WP.cond rfl (fun h2 => ?_) fun h2 => ?_
  ·have e : isName s = false := isName_not (i := i) (by omega) (by simp [nameByte] at h2 ⊢; omega)
   rw [e] at k
   refine WP.sr (RG.br rfl (RG.nil ?_))
   exact WP.ret ⟨_, _, rv rfl rfl, Cv.p, k⟩
  ·have h3 : nameByte (bt s i) = true := by
    simp [nameByte] at h2 ⊢; omega
   have hj : ∀ j, j < i + 1 -> nameByte (bt s j) = true := fun j h => by
    by_cases e : j = i
    ·subst e; exact h3
    ·exact hb j (by omega)
   refine WP.skip (WP.region (RG.ml rfl (RG.p (PV.add rfl rfl rfl (by omega)) (RG.mr rfl (RG.nil ?_)))))
   exact ⟨rfl, i + 1, ⟨by omega, hj⟩, ⟨rfl, trivial⟩, ⟨rfl, trivial⟩, Cv.p, by omega⟩
 ·have h1 := odf h1
  have e := isName_all (s := s) (fun j h => hb j (by omega))
  rw [e] at k
  refine WP.exit (WP.sr (RG.p (PV.mvS (.inl rfl) rfl) (RG.p (PV.lenS rfl Tryz.underlying9 rfl) (RG.p (PV.geq rfl rfl rfl) (RG.bl rfl ?_)))))
  refine RG.g rfl (fun hp => (PV.mvS (.inl rfl) rfl)) ?_
  refine RG.g rfl (fun hp => (PV.lenS rfl Tryz.underlying9 (gt' hp))) ?_
  refine RG.g rfl (fun hp => (PV.leq rfl (gt' hp) rfl)) ?_
  refine RG.p (PV.pickA rfl rfl (fun hq => gt' (geqT hq)) rfl) (RG.br rfl (RG.nil ?_))
  exact WP.ret ⟨_, _, rv rfl rfl, Cv.p, k⟩
theorem isName_r {s : ByteArray} (hs : s.size <= 9223372036854775807) (k : R (.bool (isName s)) G L) : CallT Tryz.prog 227 #[.string s] G L R := by
 refine CallT.enter (args := _) Tryz.func227 rfl rfl (by kernel_rfl) rfl ?_
 refine WP.sr (RG.br rfl (RG.nil (WP.seq (WP.sr (RG.mr rfl (RG.nil (WP.block ?_)))))))
 refine WP.loop1 [0] (fun i => i <= s.size ∧ ∀ j, j < i -> nameByte (bt s j) = true) (fun i => [(3, vi i)]) (fun i => L) (fun i => s.size - i) 0 ⟨by omega, fun j h => by omega⟩ ⟨rfl, trivial⟩ Cv.p ?_
 rintro i τ ⟨hi, hb⟩
 refine WP.seq (WP.sr (RG.ml rfl (RG.p (PV.mvS (.inl rfl) rfl) (RG.p (PV.lenS rfl Tryz.underlying9 rfl) (RG.p (PV.lss rfl rfl rfl) (RG.nil ?_))))))
 refine WP.cond rfl (fun h1 => ?_) fun h1 => ?_
 ·have h1 := odt h1
  refine WP.skip (WP.seq (WP.block (WP.sr (RG.p (PV.mvS (.inl rfl) rfl) (RG.ml rfl (RG.p (PV.idxStr rfl Tryz.underlying9 rfl rfl rfl (getBG (by omega))) (RG.p (PV.geq rfl rfl rfl) (RG.bl rfl ?_))))))))
  refine RG.g rfl (fun hp => (PV.mvS (.inl rfl) rfl)) ?_
  refine RG.g rfl (fun hp => (PV.mvI (.inl rfl) rfl)) ?_
  refine RG.g rfl (fun hp => (PV.idxStr rfl Tryz.underlying9 (gt' hp) (gt' hp) rfl (getBG (by first | omega | (simp at hp; omega))))) ?_
  refine RG.g rfl (fun hp => (PV.leq rfl (gt' hp) rfl)) ?_
  refine RG.p (PV.pickA rfl rfl (fun hq => gt' (geqT hq)) rfl) (RG.bl rfl ?_)
  refine RG.g rfl (fun hp => (PV.mvS (.inl rfl) rfl)) ?_
  refine RG.g rfl (fun hp => (PV.mvI (.inl rfl) rfl)) ?_
  refine RG.g rfl (fun hp => (PV.idxStr rfl Tryz.underlying9 (gt' hp) (gt' hp) rfl (getBG (by first | omega | (simp at hp; omega))))) ?_
  refine RG.g rfl (fun hp => (PV.geq rfl (gt' hp) rfl)) ?_
  refine RG.g rfl (fun hp => (PV.mvB (.inl rfl) (gt' hp))) ?_
  refine RG.gs2 rfl rfl rfl (fun hp => (PV.mvS (.inl rfl) rfl)) (RG.gs2 rfl rfl rfl (fun hp => (PV.mvI (.inl rfl) rfl)) (RG.gs2 rfl rfl rfl (fun hp => (PV.idxStr rfl Tryz.underlying9 (gt' hp) (gt' hp) rfl (getBG (by first | omega | (simp at hp; omega))))) (RG.gs2 rfl rfl rfl (fun hp => (PV.leq rfl (gt' hp) rfl)) ?_)))
  refine RG.g rfl (fun hp => (PV.pickA rfl (gt' hp) (fun hq => gt' (gandT hp hq)) rfl)) ?_
  refine RG.p (PV.pickO rfl rfl rfl (fun hq => gt' (geqF hq))) (RG.p (PV.not rfl rfl) (RG.nil ?_))
  refine WP.cond rfl (fun h2 => ?_) fun h2 => ?_
  ·have e : isName s = false := isName_not (i := i) (by omega) (by simp [nameByte] at h2 ⊢; omega)
   rw [e] at k
   refine WP.sr (RG.br rfl (RG.nil ?_))
   exact WP.ret ⟨_, _, rv rfl rfl, Cv.p, k⟩
  ·have h3 : nameByte (bt s i) = true := by
    simp [nameByte] at h2 ⊢; omega
   have hj : ∀ j, j < i + 1 -> nameByte (bt s j) = true := fun j h => by
    by_cases e : j = i
    ·subst e; exact h3
    ·exact hb j (by omega)
   refine WP.skip (WP.region (RG.ml rfl (RG.p (PV.add rfl rfl rfl (by omega)) (RG.mr rfl (RG.nil ?_)))))
   exact ⟨rfl, i + 1, ⟨by omega, hj⟩, ⟨rfl, trivial⟩, ⟨rfl, trivial⟩, Cv.p, by omega⟩
 ·have h1 := odf h1
  have e := isName_all (s := s) (fun j h => hb j (by omega))
  rw [e] at k
  refine WP.exit (WP.sr (RG.p (PV.mvS (.inl rfl) rfl) (RG.p (PV.lenS rfl Tryz.underlying9 rfl) (RG.p (PV.geq rfl rfl rfl) (RG.bl rfl ?_)))))
  refine RG.g rfl (fun hp => (PV.mvS (.inl rfl) rfl)) ?_
  refine RG.g rfl (fun hp => (PV.lenS rfl Tryz.underlying9 (gt' hp))) ?_
  refine RG.g rfl (fun hp => (PV.leq rfl (gt' hp) rfl)) ?_
  refine RG.p (PV.pickA rfl rfl (fun hq => gt' (geqT hq)) rfl) (RG.br rfl (RG.nil ?_))
  exact WP.ret ⟨_, _, rv rfl rfl, Cv.p, k⟩
def unitB (p : Pt) : Bool := within p.x (-40) 39 && within p.y (-40) 39
def validLb (l : Label) : Bool := (within l.layer 0 7 && unitB l.at_) && isName l.name
theorem validLb_i {l : Label} (hs : l.name.size <= 9223372036854775807) (k : R (.bool (validLb l)) G L) : CallT Tryz.prog 158 #[vT labelT l] G L R := by
 refine CallT.enter (args := _) Tryz.func158 rfl rfl (by kernel_rfl) rfl ?_
 refine WP.sr ?_
 refine RG.ot rfl (OT.box (cs := labelT.enc l) rfl rfl rfl fun b1 => ?_)
 refine RG.br rfl (RG.nil (WP.sr (RG.p (PV.field rfl Fo182_0 rfl) (RG.p (PV.load1 rfl Sc2 rfl (Rd.blk rfl)) ?_))))
 refine RG.callF (vs := [_, _, _]) rfl rfl En56 rfl (within_s ?_)
 refine RG.bl rfl ?_
 refine RG.g rfl (fun hp => (PV.field rfl Fo182_1 rfl)) ?_
 refine RG.g rfl (fun hp => (PV.loadB (vs := [_, _]) rfl Ag156 (gt' hp) rfl rfl)) ?_
 refine RG.gsC rfl rfl rfl rfl En205 (fun hp => ⟨_, (acons (gt' hp) anil), unitCell_s ⟨rfl, rfl, rfl⟩⟩) ?_
 refine RG.p (PV.pickA rfl rfl (fun hq => gt' (geqT hq)) rfl) (RG.bl rfl ?_)
 refine RG.g rfl (fun hp => (PV.field rfl Fo182_2 rfl)) ?_
 refine RG.g rfl (fun hp => (PV.load1 rfl Sc9 (gt' hp) (Rd.blk rfl))) ?_
 refine RG.gsC rfl rfl rfl rfl En152 (fun hp => ⟨_, (acons (gt' hp) anil), isName_i hs ⟨rfl, rfl, rfl⟩⟩) ?_
 refine RG.p (PV.pickA rfl rfl (fun hq => gt' (geqT hq)) rfl) (RG.br rfl (RG.nil ?_))
 exact WP.ret ⟨_, _, rv rfl rfl, Cv.p, k⟩
theorem l09In_s {a b c : Int} (k : R (.bool (within a b c)) G L) : CallT Tryz.prog 184 #[vi a, vi b, vi c] G L R := by
 refine CallT.enter (args := _) Tryz.func184 rfl rfl (by kernel_rfl) rfl ?_
 refine WP.sr (RG.br rfl (RG.nil (WP.sr (RG.ml rfl (RG.ml rfl (RG.p (PV.geq rfl rfl rfl) (RG.bl rfl ?_)))))))
 refine RG.g rfl (fun hp => (PV.mvI (.inl rfl) rfl)) ?_
 refine RG.g rfl (fun hp => (PV.mvI (.inl rfl) rfl)) ?_
 refine RG.g rfl (fun hp => (PV.leq rfl (gt' hp) (gt' hp))) ?_
 refine RG.p (PV.pickA rfl rfl (fun hq => gt' (geqT hq)) rfl) (RG.br rfl (RG.nil ?_))
 exact WP.ret ⟨_, _, rv rfl rfl, Cv.p, k⟩
theorem l09Layer_s {a : Int} (k : R (.bool (within a 0 7)) G L) : CallT Tryz.prog 254 #[vi a] G L R := by
 refine CallT.enter (args := _) Tryz.func254 rfl rfl (by kernel_rfl) rfl ?_
 refine WP.sr (RG.br rfl (RG.nil (WP.sr (RG.ml rfl ?_))))
 refine RG.callF (vs := [_, _, _]) rfl rfl En184 rfl (l09In_s ?_)
 refine RG.br rfl (RG.nil ?_)
 exact WP.ret ⟨_, _, rv rfl rfl, Cv.p, k⟩
theorem l09Unit_s {p : Pt} (k : R (.bool (unitB p)) G L) : CallT Tryz.prog 255 #[vpt p] G L R := by
 refine CallT.enter (args := _) Tryz.func255 rfl rfl (by kernel_rfl) rfl ?_
 refine WP.sr ?_
 refine RG.ot rfl (OT.box (cs := ptT.enc p) rfl rfl rfl fun b1 => ?_)
 refine RG.br rfl (RG.nil (WP.sr (RG.p (PV.field rfl Fo156_0 rfl) (RG.p (PV.load1 rfl Sc2 rfl (Rd.blk rfl)) ?_))))
 refine RG.callF (vs := [_, _, _]) rfl rfl En184 rfl (l09In_s ?_)
 refine RG.bl rfl ?_
 refine RG.g rfl (fun hp => (PV.field rfl Fo156_1 rfl)) ?_
 refine RG.g rfl (fun hp => (PV.load1 rfl Sc2 (gt' hp) (Rd.blk rfl))) ?_
 refine RG.gsC rfl rfl rfl rfl En184 (fun hp => ⟨_, (acons (gt' hp) (acons rfl (acons rfl anil))), l09In_s ⟨rfl, rfl, rfl⟩⟩) ?_
 refine RG.p (PV.pickA rfl rfl (fun hq => gt' (geqT hq)) rfl) (RG.br rfl (RG.nil ?_))
 exact WP.ret ⟨_, _, rv rfl rfl, Cv.p, k⟩
theorem validLb_r {l : Label} (hs : l.name.size <= 9223372036854775807) (k : R (.bool (validLb l)) G L) : CallT Tryz.prog 229 #[vT labelT l] G L R := by
 refine CallT.enter (args := _) Tryz.func229 rfl rfl (by kernel_rfl) rfl ?_
 refine WP.sr ?_
 refine RG.ot rfl (OT.box (cs := labelT.enc l) rfl rfl rfl fun b1 => ?_)
 refine RG.br rfl (RG.nil (WP.sr (RG.p (PV.field rfl Fo182_0 rfl) (RG.p (PV.load1 rfl Sc2 rfl (Rd.blk rfl)) ?_))))
 refine RG.callF (vs := [_]) rfl rfl En254 rfl (l09Layer_s ?_)
 refine RG.bl rfl ?_
 refine RG.g rfl (fun hp => (PV.field rfl Fo182_1 rfl)) ?_
 refine RG.g rfl (fun hp => (PV.loadB (vs := [_, _]) rfl Ag156 (gt' hp) rfl rfl)) ?_
 refine RG.gsC rfl rfl rfl rfl En255 (fun hp => ⟨_, (acons (gt' hp) anil), l09Unit_s ⟨rfl, rfl, rfl⟩⟩) ?_
 refine RG.p (PV.pickA rfl rfl (fun hq => gt' (geqT hq)) rfl) (RG.bl rfl ?_)
 refine RG.g rfl (fun hp => (PV.field rfl Fo182_2 rfl)) ?_
 refine RG.g rfl (fun hp => (PV.load1 rfl Sc9 (gt' hp) (Rd.blk rfl))) ?_
 refine RG.gsC rfl rfl rfl rfl En227 (fun hp => ⟨_, (acons (gt' hp) anil), isName_r hs ⟨rfl, rfl, rfl⟩⟩) ?_
 refine RG.p (PV.pickA rfl rfl (fun hq => gt' (geqT hq)) rfl) (RG.br rfl (RG.nil ?_))
 exact WP.ret ⟨_, _, rv rfl rfl, Cv.p, k⟩
theorem indexF_label {v fv : Value} {xs : List (Label)} {p : (Label) -> Bool} (h1 : Rs G L labelT v xs) (hf : ∀ i, i < xs.length -> CB Tryz.prog G L fv [vT labelT (gd xs i)] (.bool (p (gd xs i)))) (k : R (vi (idxI p xs)) G L) : CallT Tryz.prog 204 #[v, fv] G L R := by
 refine CallT.bd h1 fun hb => ?_
 refine CallT.enter (args := _) Tryz.func204 rfl rfl (by kernel_rfl) rfl ?_
 refine WP.sr (RG.mr rfl (RG.nil (WP.seq (WP.sr (RG.p (PV.move (v := v) rfl rfl) (RG.p (PV.len (v := v) rfl Tryz.underlying92 rfl (SlF.r h1)) (RG.ml rfl (RG.nil (WP.block ?_)))))))))
 refine WP.loop1 [0, 1, 7] (fun i => i <= xs.length ∧ ∀ j, j < i -> p (gd xs j) = false) (fun i => [(8, vi i)]) (fun i => L) (fun i => xs.length - i) 0 ⟨by omega, fun j h => by omega⟩ ⟨rfl, trivial⟩ Cv.p ?_
 rintro i τ ⟨hi, hj⟩
 refine WP.sr (RG.p (PV.lss rfl rfl rfl) (RG.nil (WP.seq ?_)))
 refine WP.cond rfl (fun h2 => ?_) fun h2 => ?_
 ·have h2 := odt h2
  refine WP.skip (WP.seq (WP.block (WP.sr (RG.ml rfl (RG.mr rfl (RG.nil (WP.sr (RG.p (PV.move (v := fv) rfl rfl) (RG.p (PV.move (v := v) rfl rfl) (RG.ml rfl (RG.p (PV.idxS (v := v) rfl Is92 rfl (SlF.r h1) rfl rfl (by omega)) ?_)))))))))))
  refine RG.p (PV.loadE rfl Ag182 rfl rfl (El.r h1 (getG (by omega)))) ?_
  refine RG.callB (vs := [_]) rfl rfl rfl rfl (CB.up (hf i (by omega))) ?_
  refine RG.nil ?_
  refine WP.cond rfl (fun h3 => ?_) fun h3 => ?_
  ·rw [idxI_at (by omega) h3 hj] at k
   refine WP.sr (RG.ml rfl (RG.mr rfl (RG.nil ?_)))
   exact WP.ret ⟨_, _, rv rfl rfl, Cv.p, k⟩
  ·have hj' : ∀ j, j < i + 1 -> p (gd xs j) = false := fun j h => by
    by_cases c : j = i
    ·rw [c]; exact h3
    ·exact hj j (by omega)
   refine WP.skip (WP.region (RG.p (PV.add rfl rfl rfl (by omega)) (RG.ml rfl (RG.nil ?_))))
   exact ⟨rfl, i + 1, ⟨by omega, hj'⟩, ⟨rfl, trivial⟩, ⟨rfl, rfl, rfl, trivial⟩, Cv.p, by omega⟩
 ·have h2 := odf h2
  rw [idxI_none (fun j h => hj j (by omega))] at k
  refine WP.exit (WP.sr (RG.mr rfl (RG.nil ?_)))
  exact WP.ret ⟨_, _, rv rfl rfl, Cv.p, k⟩
theorem containsF_label {v fv : Value} {xs : List (Label)} {p : (Label) -> Bool} (h1 : Rs G L labelT v xs) (hf : ∀ i, i < xs.length -> CB Tryz.prog G L fv [vT labelT (gd xs i)] (.bool (p (gd xs i)))) (k : R (.bool (xs.any p)) G L) : CallT Tryz.prog 156 #[v, fv] G L R := by
 rw [<- idxI_any] at k
 refine CallT.enter (args := _) Tryz.func156 rfl rfl (by kernel_rfl) rfl ?_
 refine WP.sr (RG.br rfl (RG.nil (WP.sr (RG.p (PV.move (v := v) rfl rfl) (RG.p (PV.move (v := fv) rfl rfl) ?_)))))
 refine RG.callF (vs := [v, fv]) rfl rfl En204 rfl (indexF_label (Rs.up h1) (fun i hi => (hf i hi).up) ?_)
 refine RG.p (PV.geq rfl rfl rfl) (RG.br rfl (RG.nil ?_))
 exact WP.ret ⟨_, _, rv rfl rfl, Cv.p, k⟩
structure ECell where
  name : ByteArray
  shapes : List Shape
  labels : List Label
  insts : List Inst
  deriving DecidableEq, Inhabited
def erCl (c : Cell) : ECell := ⟨c.name, c.shapes.xs, c.labels.xs, c.insts.xs⟩
def erCls (xs : List Cell) : List ECell := xs.map erCl
theorem erCls_len (xs : List Cell) : (erCls xs).length = xs.length := by simp [erCls]
theorem erCls_gd {xs : List Cell} {i : Nat} (h : i < xs.length) : gd (erCls xs) i = erCl (gd xs i) := gd_map _ h
def okSh (s : Shape) : Bool := within s.layer 0 7 && validRect s.box
def okIn (k : Int) (n : Inst) : Bool :=
  within n.cell 0 (k - 1) && validT n.place && within n.cols 1 4 && within n.rows 1 4 && within n.sx (-80) 80 && within n.sy (-80) 80 && (decide (n.sx = 0) || decide (1 < n.cols)) && (decide (n.sy = 0) || decide (1 < n.rows))
def okCell (k : Int) (c : ECell) : Bool :=
  isName c.name && decide ((c.shapes.length : Int) <= 24) && decide ((c.labels.length : Int) <= 8) && decide ((c.insts.length : Int) <= 8) && !(c.shapes.any fun s => !okSh s) && !(c.labels.any fun l => !validLb l) && !(c.insts.any fun n => !okIn k n)
def nameAt (cs : List ECell) (i : Nat) : Bool := decide (∀ j, j < i -> (gd cs j).name ≠ (gd cs i).name)
def cellAt (cs : List ECell) (i : Nat) : Bool := okCell i (gd cs i) && nameAt cs i
def okLib (cs : List ECell) : Bool := decide (1 <= cs.length) && decide (cs.length <= 8) && decide (∀ i, i < cs.length -> cellAt cs i = true)
theorem okLib_false {cs : List ECell} {i : Nat} (h : i < cs.length) (e : cellAt cs i = false) : okLib cs = false := by
 simp only [okLib, Bool.and_eq_false_iff, decide_eq_false_iff_not]
 exact .inr fun hh => by rw [hh i h] at e; cases e
theorem okLib_all {cs : List ECell} (h1 : 1 <= cs.length) (h2 : cs.length <= 8) (h : ∀ i, i < cs.length -> cellAt cs i = true) : okLib cs = true := by
 simp only [okLib, Bool.and_eq_true, decide_eq_true_eq]
 exact ⟨⟨h1, h2⟩, h⟩
theorem okLib_len {cs : List ECell} (h : okLib cs = true) : 1 <= cs.length ∧ cs.length <= 8 := by
 simp only [okLib, Bool.and_eq_true, decide_eq_true_eq] at h; exact h.1
theorem okLib_cell {cs : List ECell} (h : okLib cs = true) {i : Nat} (hi : i < cs.length) : okCell i (gd cs i) = true := by
 simp only [okLib, Bool.and_eq_true, decide_eq_true_eq] at h
 have := h.2 i hi
 simp only [cellAt, Bool.and_eq_true] at this; exact this.1
theorem any_not {α : Type} [Inhabited α] {p : α -> Bool} {xs : List α} (h : (xs.any fun a => !p a) = false) {i : Nat} (hi : i < xs.length) : p (gd xs i) = true := by
 rw [List.any_eq_false] at h
 have := h (gd xs i) (gd_mem hi)
 simpa using this
theorem okLib_inst {cs : List ECell} (h : okLib cs = true) {i j : Nat} (hi : i < cs.length) (hj : j < (gd cs i).insts.length) : okIn i (gd (gd cs i).insts j) = true := by
 have := okLib_cell h hi
 simp only [okCell, Bool.and_eq_true, Bool.not_eq_true'] at this
 exact any_not this.2 hj
theorem okLib_shape {cs : List ECell} (h : okLib cs = true) {i j : Nat} (hi : i < cs.length) (hj : j < (gd cs i).shapes.length) : okSh (gd (gd cs i).shapes j) = true := by
 have := okLib_cell h hi
 simp only [okCell, Bool.and_eq_true, Bool.not_eq_true'] at this
 exact any_not this.1.1.2 hj
theorem okLib_cnt {cs : List ECell} (h : okLib cs = true) {i : Nat} (hi : i < cs.length) : (gd cs i).insts.length <= 8 ∧ (gd cs i).shapes.length <= 24 := by
 have := okLib_cell h hi
 simp only [okCell, Bool.and_eq_true, decide_eq_true_eq] at this
 omega
theorem okIn_bd {k : Int} {n : Inst} (h : okIn k n = true) : (0 <= n.cell ∧ n.cell <= k - 1) ∧ validT n.place = true ∧ (1 <= n.cols ∧ n.cols <= 4) ∧ (1 <= n.rows ∧ n.rows <= 4) ∧ (-80 <= n.sx ∧ n.sx <= 80) ∧ (-80 <= n.sy ∧ n.sy <= 80) := by
 simp only [okIn, within, Bool.and_eq_true, decide_eq_true_eq] at h
 exact ⟨h.1.1.1.1.1.1.1, h.1.1.1.1.1.1.2, h.1.1.1.1.1.2, h.1.1.1.1.2, h.1.1.1.2, h.1.1.2⟩
theorem range_gd {n q : Nat} (h : q < n) : gd (List.range n) q = q := by unfold gd; simp [h]
def elPlace (n : Inst) (c r : Int) : Trans := ⟨n.place.o, n.place.x + c * n.sx, n.place.y + r * n.sy⟩
def elsOf (n : Inst) : List HElem := (List.range (n.rows.toNat * n.cols.toNat)).map fun q => ⟨n.cell, elPlace n ((q % n.cols.toNat : Nat) : Int) ((q / n.cols.toNat : Nat) : Int)⟩
def elems (ns : List Inst) : List HElem := ns.flatMap elsOf
theorem elsOf_len (n : Inst) : (elsOf n).length = n.rows.toNat * n.cols.toNat := by simp [elsOf]
theorem elsOf_gd {n : Inst} {c r : Nat} (hc : c < n.cols.toNat) (hr : r < n.rows.toNat) : r * n.cols.toNat + c < (elsOf n).length ∧ gd (elsOf n) (r * n.cols.toNat + c) = ⟨n.cell, elPlace n c r⟩ := by
 have h1 : r * n.cols.toNat + c < n.rows.toNat * n.cols.toNat := by
  have := Nat.mul_le_mul_right n.cols.toNat (show r + 1 <= n.rows.toNat by omega)
  rw [Nat.add_mul] at this; omega
 refine ⟨by rw [elsOf_len]; exact h1, ?_⟩
 have hm : (r * n.cols.toNat + c) % n.cols.toNat = c := by rw [Nat.add_comm, Nat.add_mul_mod_self_right, Nat.mod_eq_of_lt hc]
 have hd : (r * n.cols.toNat + c) / n.cols.toNat = r := by rw [Nat.add_comm, Nat.add_mul_div_right _ _ (by omega), Nat.div_eq_of_lt hc, Nat.zero_add]
 have hr : gd (List.range (n.rows.toNat * n.cols.toNat)) (r * n.cols.toNat + c) = r * n.cols.toNat + c := range_gd h1
 rw [elsOf, gd_map _ (by simpa using h1), hr, hm, hd]
theorem elsOf_step {n : Inst} {c r : Nat} (hc : c < n.cols.toNat) (hr : r < n.rows.toNat) : (elsOf n).take (r * n.cols.toNat + (c + 1)) = (elsOf n).take (r * n.cols.toNat + c) ++ [⟨n.cell, elPlace n c r⟩] := by
 obtain ⟨h1, h2⟩ := elsOf_gd hc hr
 rw [<- Nat.add_assoc, List.take_add_one, getG h1, h2]; rfl
theorem elems_take {ns : List Inst} {i : Nat} (h : i < ns.length) : elems (ns.take (i + 1)) = elems (ns.take i) ++ elsOf (gd ns i) := by
 rw [elems, elems, List.take_add_one, getG h, List.flatMap_append]; simp
theorem elems_split {ns : List Inst} {i : Nat} (h : i < ns.length) : elems ns = elems (ns.take i) ++ elsOf (gd ns i) ++ elems (ns.drop (i + 1)) := by
 conv => lhs; rw [<- List.take_append_drop (i + 1) ns]
 rw [elems, List.flatMap_append]
 have := elems_take h
 rw [elems] at this
 rw [this]; rfl
theorem elems_at {ns : List Inst} {i c r : Nat} (h : i < ns.length) (hc : c < (gd ns i).cols.toNat) (hr : r < (gd ns i).rows.toNat) :
  (elems (ns.take i)).length + (r * (gd ns i).cols.toNat + c) < (elems ns).length ∧ gd (elems ns) ((elems (ns.take i)).length + (r * (gd ns i).cols.toNat + c)) = ⟨(gd ns i).cell, elPlace (gd ns i) c r⟩ := by
 obtain ⟨h1, h2⟩ := elsOf_gd hc hr
 rw [elems_split h]
 refine ⟨by simp only [List.length_append]; omega, ?_⟩
 rw [List.append_assoc, gd_app_at, gd_app_l h1, h2]
theorem elems_mem {ns : List Inst} {e : HElem} (h : e ∈ elems ns) : ∃ j c r : Nat, j < ns.length ∧ c < (gd ns j).cols.toNat ∧ r < (gd ns j).rows.toNat ∧ e = ⟨(gd ns j).cell, elPlace (gd ns j) c r⟩ := by
 obtain ⟨n, hn, he⟩ := List.mem_flatMap.1 h
 obtain ⟨j, hj, rfl⟩ := List.getElem_of_mem hn
 rw [<- gd_eq hj] at he
 obtain ⟨q, hq, rfl⟩ := List.mem_map.1 he
 have hq := List.mem_range.1 hq
 have h0 : 0 < (gd ns j).cols.toNat := by
  rcases Nat.eq_zero_or_pos (gd ns j).cols.toNat with h | h
  ·rw [h] at hq; omega
  ·exact h
 exact ⟨j, q % (gd ns j).cols.toNat, q / (gd ns j).cols.toNat, hj, Nat.mod_lt _ h0, (Nat.div_lt_iff_lt_mul h0).2 hq, rfl⟩
theorem mul_bd {a b A B : Int} (ha : 0 <= a ∧ a <= A) (hb : -B <= b ∧ b <= B) (hB : 0 <= B) : -(A * B) <= a * b ∧ a * b <= A * B := by
 have h1 : a * b <= a * B := Int.mul_le_mul_of_nonneg_left hb.2 ha.1
 have h2 : a * -B <= a * b := Int.mul_le_mul_of_nonneg_left hb.1 ha.1
 have h3 : a * B <= A * B := Int.mul_le_mul_of_nonneg_right ha.2 hB
 rw [Int.mul_neg] at h2
 omega
theorem elPlace_bd {k : Int} {n : Inst} (h : okIn k n = true) {c r : Nat} (hc : c < n.cols.toNat) (hr : r < n.rows.toNat) : (0 <= (elPlace n c r).o ∧ (elPlace n c r).o <= 7) ∧ (-320 <= (elPlace n c r).x ∧ (elPlace n c r).x <= 320) ∧ -320 <= (elPlace n c r).y ∧ (elPlace n c r).y <= 320 := by
 obtain ⟨_, h2, h3, h4, h5, h6⟩ := okIn_bd h
 obtain ⟨q1, q2, q3⟩ := validT_iff.1 h2
 have e1 := mul_bd (a := (c : Int)) (b := n.sx) (A := 3) (B := 80) (by omega) h5 (by omega)
 have e2 := mul_bd (a := (r : Int)) (b := n.sy) (A := 3) (B := 80) (by omega) h6 (by omega)
 refine ⟨q1, ?_, ?_⟩ <;> simp only [elPlace] <;> omega
theorem elem_bd {cs : List ECell} (h : okLib cs = true) {k : Nat} (hk : k < cs.length) {i : Nat} (hi : i < (elems (gd cs k).insts).length) :
  (0 <= (gd (elems (gd cs k).insts) i).cell ∧ (gd (elems (gd cs k).insts) i).cell < k) ∧ (0 <= (gd (elems (gd cs k).insts) i).place.o ∧ (gd (elems (gd cs k).insts) i).place.o <= 7) ∧ (-320 <= (gd (elems (gd cs k).insts) i).place.x ∧ (gd (elems (gd cs k).insts) i).place.x <= 320) ∧ -320 <= (gd (elems (gd cs k).insts) i).place.y ∧ (gd (elems (gd cs k).insts) i).place.y <= 320 := by
 obtain ⟨j, c, r, hj, hc, hr, e⟩ := elems_mem (gd_mem hi)
 have ho := okLib_inst h hk hj
 rw [e]
 exact ⟨by have := (okIn_bd ho).1; simp only; omega, elPlace_bd ho hc hr⟩
theorem elems_bd {cs : List ECell} (h : okLib cs = true) {k : Nat} (hk : k < cs.length) : ∀ i, i <= (gd cs k).insts.length -> (elems ((gd cs k).insts.take i)).length <= 16 * i
 | 0, _ => by simp [elems]
 | i + 1, hi => by
  have ih := elems_bd h hk i (by omega)
  obtain ⟨_, _, h3, h4, _, _⟩ := okIn_bd (okLib_inst h hk (j := i) (by omega))
  have := Nat.mul_le_mul (show (gd (gd cs k).insts i).rows.toNat <= 4 by omega) (show (gd (gd cs k).insts i).cols.toNat <= 4 by omega)
  rw [elems_take (by omega), List.length_append, elsOf_len]; omega
theorem elems_len_bd {cs : List ECell} (h : okLib cs = true) {k : Nat} (hk : k < cs.length) : (elems (gd cs k).insts).length <= 128 := by
 have := elems_bd h hk _ (Nat.le_refl _)
 rw [List.take_of_length_le (Nat.le_refl _)] at this
 have := (okLib_cnt h hk).1
 omega
def cntI (ks : List Int) (n : Inst) : Int := n.cols * n.rows * gd ks n.cell.toNat
def ownCnt (ks : List Int) (ns : List Inst) : Int := 1 + costL (cntI ks) ns
def cnts (cs : List ECell) : Nat -> List Int
  | 0 => []
  | n + 1 => cnts cs n ++ [ownCnt (cnts cs n) (gd cs n).insts]
theorem cnts_len (cs : List ECell) : ∀ n, (cnts cs n).length = n
 | 0 => rfl
 | n + 1 => by simp [cnts, cnts_len cs n]
def cntOf (cs : List ECell) (k : Nat) : Int := ownCnt (cnts cs k) (gd cs k).insts
theorem cnts_gd (cs : List ECell) : ∀ {n i : Nat}, i < n -> gd (cnts cs n) i = cntOf cs i
 | n + 1, i, h => by
  rw [cnts]
  by_cases e : i < n
  ·rw [gd_app_l (by rw [cnts_len]; exact e), cnts_gd cs e]
  ·obtain rfl : i = n := by omega
   have := gd_app_r (xs := cnts cs i) (a := ownCnt (cnts cs i) (gd cs i).insts)
   rw [cnts_len] at this
   rw [this]; rfl
theorem costL_bdH {α : Type} [Inhabited α] {n : α -> Int} {B : Int} (hB : 0 <= B) {xs : List α} (h : ∀ i, i < xs.length -> 0 <= n (gd xs i) ∧ n (gd xs i) <= B) : ∀ i, i <= xs.length -> 0 <= costL n (xs.take i) ∧ costL n (xs.take i) <= B * i
 | 0, _ => by simp [costL]
 | i + 1, hi => by
  have ih := costL_bdH hB h i (by omega)
  have := h i (by omega)
  rw [costL_take n (by omega)]
  have e : B * ((i + 1 : Nat) : Int) = B * i + B := by rw [Int.natCast_add, Int.mul_add]; simp
  omega
theorem cntI_bd {k M : Int} {ks : List Int} {n : Inst} (h : okIn k n = true) (hk : 0 <= gd ks n.cell.toNat ∧ gd ks n.cell.toNat <= M) : 0 <= cntI ks n ∧ cntI ks n <= 16 * M := by
 obtain ⟨_, _, h3, h4, _, _⟩ := okIn_bd h
 have e1 := mul_bd (a := n.cols) (b := n.rows) (A := 4) (B := 4) (by omega) (by omega) (by omega)
 have e0 : 0 <= n.cols * n.rows := Int.mul_nonneg (by omega) (by omega)
 have e2 := mul_bd (a := n.cols * n.rows) (b := gd ks n.cell.toNat) (A := 16) (B := M) (by omega) (by omega) (by omega)
 have e3 : 0 <= n.cols * n.rows * gd ks n.cell.toNat := Int.mul_nonneg e0 hk.1
 simp only [cntI]; omega
theorem ownCnt_bd {cs : List ECell} (h : okLib cs = true) {M : Int} (hM : 0 <= M) {k : Nat} (hk : k < cs.length) (hh : ∀ i, i < k -> 0 <= gd (cnts cs k) i ∧ gd (cnts cs k) i <= M) : ∀ i, i <= (gd cs k).insts.length -> 1 <= 1 + costL (cntI (cnts cs k)) ((gd cs k).insts.take i) ∧ 1 + costL (cntI (cnts cs k)) ((gd cs k).insts.take i) <= 1 + 128 * M := by
 intro i hi
 have hc := (okLib_cnt h hk).1
 have := costL_bdH (n := cntI (cnts cs k)) (B := 16 * M) (by omega) (xs := (gd cs k).insts) (fun j hj => cntI_bd (okLib_inst h hk hj) (hh _ (by have := (okIn_bd (okLib_inst h hk hj)).1; omega))) i hi
 have e : 16 * M * i <= 16 * M * 8 := Int.mul_le_mul_of_nonneg_left (by omega) (by omega)
 omega
theorem cntOf_bd {cs : List ECell} (h : okLib cs = true) : ∀ k, k < cs.length -> 1 <= cntOf cs k ∧ cntOf cs k <= 129 ^ (k + 1) := by
 intro k
 induction k using Nat.strongRecOn with
 | ind k ih =>
  intro hk
  have := ownCnt_bd h (M := 129 ^ k) (Int.le_of_lt (Int.pow_pos (show (0 : Int) < 129 by omega))) hk (fun i hi => by
   have hb := ih i hi (by omega)
   rw [cnts_gd cs hi]
   refine ⟨by omega, Int.le_trans hb.2 ?_⟩
   have := Nat.pow_le_pow_right (n := 129) (by omega) (show i + 1 <= k by omega)
   exact_mod_cast this) _ (Nat.le_refl _)
  rw [List.take_of_length_le (Nat.le_refl _)] at this
  refine ⟨this.1, Int.le_trans this.2 ?_⟩
  have h1 : (1 : Int) <= 129 ^ k := by
   have : (0 : Int) < 129 ^ k := Int.pow_pos (show (0 : Int) < 129 by omega)
   omega
  rw [Int.pow_succ]; omega
theorem cnts_big {cs : List ECell} (h : okLib cs = true) {k : Nat} (hk : k < cs.length) : ∀ i, i < k -> 0 <= gd (cnts cs k) i ∧ gd (cnts cs k) i <= 594467302491009 := by
 intro i hi
 rw [cnts_gd cs hi]
 have h1 := cntOf_bd h i (by omega)
 have h2 := (okLib_len h).2
 have : (129 : Nat) ^ (i + 1) <= 129 ^ 7 := Nat.pow_le_pow_right (by omega) (by omega)
 have h3' : ((129 : Int) ^ (i + 1)) <= 129 ^ 7 := by exact_mod_cast this
 have h3 : ((129 : Int) ^ (i + 1)) <= 594467302491009 := Int.le_trans h3' (by decide)
 omega
structure EOcc where
  cell : Int
  place : Trans
  path : List Int
  deriving DecidableEq, Inhabited
def erO (o : Occ) : EOcc := ⟨o.cell, o.place, o.path.xs⟩
def erOs (xs : List Occ) : List EOcc := xs.map erO
theorem erOs_len (xs : List Occ) : (erOs xs).length = xs.length := by simp [erOs]
theorem erOs_gd {xs : List Occ} {i : Nat} (h : i < xs.length) : gd (erOs xs) i = erO (gd xs i) := gd_map _ h
def cmpo (a b : Int) : Int := (if 4 <= b then b % 4 + 4 - a % 4 else b % 4 + a % 4) % 4 + (if decide (4 <= a) = decide (4 <= b) then 0 else 4)
theorem cmpo_in {a b : Int} : 0 <= cmpo a b ∧ cmpo a b <= 7 := by
 unfold cmpo
 generalize (if 4 <= b then b % 4 + 4 - a % 4 else b % 4 + a % 4) = z
 split <;> omega
def cmpT (t u : Trans) : Trans := ⟨cmpo t.o u.o, (moveP u ⟨t.x, t.y⟩).x, (moveP u ⟨t.x, t.y⟩).y⟩
def kid (o : EOcc) (e : HElem) (n : Nat) : EOcc := ⟨e.cell, cmpT e.place o.place, o.path ++ [(n : Int)]⟩
def occF (cs : List ECell) : Nat -> EOcc -> List EOcc
  | 0, o => [o]
  | f + 1, o => o :: ((List.range (elems (gd cs o.cell.toNat).insts).length).flatMap fun n => occF cs f (kid o (gd (elems (gd cs o.cell.toNat).insts) n) n))
def occTo (cs : List ECell) (f : Nat) (o : EOcc) (i : Nat) : List EOcc := o :: ((List.range i).flatMap fun n => occF cs f (kid o (gd (elems (gd cs o.cell.toNat).insts) n) n))
theorem occTo_zero (cs : List ECell) (f : Nat) (o : EOcc) : occTo cs f o 0 = [o] := rfl
theorem occTo_succ (cs : List ECell) (f : Nat) (o : EOcc) (i : Nat) : occTo cs f o (i + 1) = occTo cs f o i ++ occF cs f (kid o (gd (elems (gd cs o.cell.toNat).insts) i) i) := by
 simp [occTo, List.range_succ, List.flatMap_append]
theorem occTo_all (cs : List ECell) (f : Nat) (o : EOcc) : occTo cs f o (elems (gd cs o.cell.toNat).insts).length = occF cs (f + 1) o := rfl
def oIn (f : Nat) (o : EOcc) : Prop := (0 <= o.cell ∧ o.cell < f) ∧ (0 <= o.place.o ∧ o.place.o <= 7) ∧ (-(320 * (8 - (f : Int))) <= o.place.x ∧ o.place.x <= 320 * (8 - f)) ∧ -(320 * (8 - (f : Int))) <= o.place.y ∧ o.place.y <= 320 * (8 - f)
theorem kid_in {cs : List ECell} (h : okLib cs = true) {f : Nat} {o : EOcc} (ho : oIn (f + 1) o) (hl : o.cell.toNat < cs.length) {i : Nat} (hi : i < (elems (gd cs o.cell.toNat).insts).length) : oIn f (kid o (gd (elems (gd cs o.cell.toNat).insts) i) i) := by
 obtain ⟨h1, h2, h3, h4⟩ := elem_bd h hl hi
 obtain ⟨⟨k1, k2⟩, k3, k4, k5⟩ := ho
 obtain ⟨t1, t2, t3, t4⟩ : InB 320 (turnP o.place.o ⟨(gd (elems (gd cs o.cell.toNat).insts) i).place.x, (gd (elems (gd cs o.cell.toNat).insts) i).place.y⟩) := turnP_in ⟨h3.1, h3.2, h4.1, h4.2⟩
 refine ⟨?_, ?_, ?_, ?_⟩
 ·simp only [kid]; omega
 ·exact cmpo_in
 ·simp only [kid, cmpT, moveP]; omega
 ·simp only [kid, cmpT, moveP]; omega
theorem flatMap_len {α : Type} (g : Nat -> List α) : ∀ n, (((List.range n).flatMap g).length : Int) = ((List.range n).map fun i => ((g i).length : Int)).sum
 | 0 => rfl
 | n + 1 => by
  have ih := flatMap_len g n
  simp only [List.range_succ, List.flatMap_append, List.length_append, List.map_append, List.sum_append, Int.natCast_add, ih]
  simp
theorem sum_elems (g : Int -> Int) : ∀ ns : List Inst, (∀ i, i < ns.length -> 1 <= (gd ns i).cols ∧ 1 <= (gd ns i).rows) -> (((elems ns).map fun e => g e.cell).sum : Int) = costL (fun n => n.cols * n.rows * g n.cell) ns
 | [], _ => rfl
 | n :: ns, h => by
  have ih := sum_elems g ns (fun i hi => by have := h (i + 1) (by simpa using hi); simpa [gd] using this)
  have h0 := h 0 (by simp)
  have e0 : gd (n :: ns) 0 = n := by simp [gd]
  rw [e0] at h0
  have e : elems (n :: ns) = elsOf n ++ elems ns := rfl
  rw [e, List.map_append, List.sum_append, ih, costL]
  congr 1
  have : (elsOf n).map (fun e => g e.cell) = List.replicate (n.rows.toNat * n.cols.toNat) (g n.cell) := by
   rw [elsOf, List.map_map, List.eq_replicate_iff]
   simp [Function.comp_def]
  rw [this, List.sum_replicate_int]
  rw [Int.natCast_mul, Int.toNat_of_nonneg (by omega), Int.toNat_of_nonneg (by omega), Int.mul_comm n.rows]
theorem map_range_gd {α β : Type} [Inhabited α] (g : α -> β) (xs : List α) : (List.range xs.length).map (fun i => g (gd xs i)) = xs.map g := by
 apply List.ext_getElem?
 intro i
 by_cases hi : i < xs.length
 ·simp [hi, gd_eq hi]
 ·simp [List.getElem?_eq_none (Nat.le_of_not_lt hi), List.getElem?_eq_none (l := List.range xs.length) (by simpa using Nat.le_of_not_lt hi)]
theorem occF_len {cs : List ECell} (h : okLib cs = true) : ∀ (f : Nat) (o : EOcc), 0 <= o.cell -> o.cell.toNat < f -> o.cell.toNat < cs.length -> ((occF cs f o).length : Int) = cntOf cs o.cell.toNat
 | 0, _, _, h, _ => by omega
 | f + 1, o, h0, hf, hl => by
  rw [occF, List.length_cons, Int.natCast_add, flatMap_len]
  have e1 : ∀ i ∈ List.range (elems (gd cs o.cell.toNat).insts).length, ((occF cs f (kid o (gd (elems (gd cs o.cell.toNat).insts) i) i)).length : Int) = cntOf cs (gd (elems (gd cs o.cell.toNat).insts) i).cell.toNat := fun i hi => by
   have hi := List.mem_range.1 hi
   have hb := (elem_bd h hl hi).1
   exact occF_len h f _ hb.1 (by simp only [kid]; omega) (by simp only [kid]; omega)
  rw [List.map_congr_left e1, map_range_gd (fun e : HElem => cntOf cs e.cell.toNat), sum_elems (fun c => cntOf cs c.toNat) _ (fun i hi => by have := okIn_bd (okLib_inst h hl hi); omega), cntOf, ownCnt]
  have e2 : ∀ ns : List Inst, (∀ n ∈ ns, n.cell.toNat < o.cell.toNat) -> costL (fun n => n.cols * n.rows * cntOf cs n.cell.toNat) ns = costL (cntI (cnts cs o.cell.toNat)) ns := by
   intro ns
   induction ns with
   | nil => intro _; rfl
   | cons n ns ih =>
    intro hn
    rw [costL, costL, ih (fun m hm => hn m (.tail _ hm)), cntI, cnts_gd cs (hn n (.head _))]
  rw [e2 _ (fun n hn => by
   obtain ⟨j, hj, rfl⟩ := List.getElem_of_mem hn
   have := (okIn_bd (okLib_inst h hl hj)).1
   rw [gd_eq hj] at this
   omega)]
  omega
theorem occTo_le {cs : List ECell} {f : Nat} {o : EOcc} {i : Nat} (hi : i <= (elems (gd cs o.cell.toNat).insts).length) : (occTo cs f o i).length <= (occF cs (f + 1) o).length := by
 rw [<- occTo_all, occTo, occTo, List.length_cons, List.length_cons]
 have : (List.range i).flatMap (fun n => occF cs f (kid o (gd (elems (gd cs o.cell.toNat).insts) n) n)) = ((List.range (elems (gd cs o.cell.toNat).insts).length).take i).flatMap (fun n => occF cs f (kid o (gd (elems (gd cs o.cell.toNat).insts) n) n)) := by
  rw [List.take_range, Nat.min_eq_left hi]
 rw [this]
 have h2 := congrArg List.length (congrArg (List.flatMap (fun n => occF cs f (kid o (gd (elems (gd cs o.cell.toNat).insts) n) n))) (List.take_append_drop i (List.range (elems (gd cs o.cell.toNat).insts).length)))
 rw [List.flatMap_append, List.length_append] at h2
 omega
def top (cell : Int) : EOcc := ⟨cell, ⟨0, 0, 0⟩, []⟩
def occAll (cs : List ECell) (cell : Int) : List EOcc := occF cs (cell.toNat + 1) (top cell)
def hasCl (cs : List ECell) (cell : Int) : Bool := okLib cs && within cell 0 ((cs.length : Int) - 1)
def occE (cs : List ECell) (cell : Int) : Int :=
  bif !okLib cs then 1 else bif !within cell 0 ((cs.length : Int) - 1) then 5 else bif decide (200 < cntOf cs cell.toNat) then 3 else bif (occAll cs cell).any fun o => !validT o.place then 2 else 0
def occR (cs : List ECell) (cell : Int) : List EOcc := bif decide (occE cs cell = 0) then occAll cs cell else []
theorem occE_zero {cs : List ECell} {cell : Int} (h : occE cs cell = 0) : okLib cs = true ∧ (0 <= cell ∧ cell < cs.length) ∧ cntOf cs cell.toNat <= 200 ∧ ∀ o ∈ occAll cs cell, validT o.place = true := by
 unfold occE at h
 cases h1 : okLib cs with
 | false => rw [h1] at h; cases h
 | true =>
  cases h2 : within cell 0 ((cs.length : Int) - 1) with
  | false => rw [h1, h2] at h; cases h
  | true =>
   cases h3 : decide (200 < cntOf cs cell.toNat) with
   | true => rw [h1, h2, h3] at h; cases h
   | false =>
    cases h4 : (occAll cs cell).any fun o => !validT o.place with
    | true => rw [h1, h2, h3, h4] at h; cases h
    | false =>
     refine ⟨rfl, ?_, ?_, fun o ho => ?_⟩
     ·simp only [within, Bool.and_eq_true, decide_eq_true_eq] at h2; omega
     ·have := odf h3; omega
     ·rw [List.any_eq_false] at h4
      simpa using h4 o ho
theorem occR_ok {cs : List ECell} {cell : Int} (h : occE cs cell = 0) : occR cs cell = occAll cs cell := by rw [occR, h]; rfl
theorem occR_no {cs : List ECell} {cell : Int} (h : occE cs cell ≠ 0) : occR cs cell = [] := by rw [occR, decide_eq_false h]; rfl
theorem occAll_len {cs : List ECell} {cell : Int} (h : okLib cs = true) (hc : 0 <= cell ∧ cell < cs.length) : ((occAll cs cell).length : Int) = cntOf cs cell.toNat := occF_len h _ (top cell) hc.1 (by simp [top]) (by simp only [top]; omega)
theorem occF_cell {cs : List ECell} (h : okLib cs = true) : ∀ (f : Nat) (o : EOcc), 0 <= o.cell -> o.cell.toNat < f -> o.cell.toNat < cs.length -> ∀ q ∈ occF cs f o, 0 <= q.cell ∧ q.cell <= o.cell
 | 0, _, _, h, _, _, _ => by omega
 | f + 1, o, h0, hf, hl, q, hq => by
  rw [occF, List.mem_cons] at hq
  rcases hq with rfl | hq
  ·exact ⟨h0, Int.le_refl _⟩
  ·obtain ⟨i, hi, hq⟩ := List.mem_flatMap.1 hq
   have hb := (elem_bd h hl (List.mem_range.1 hi)).1
   have := occF_cell h f _ hb.1 (by simp only [kid]; omega) (by simp only [kid]; omega) q hq
   simp only [kid] at this
   omega
theorem occR_cell {cs : List ECell} {cell : Int} {i : Nat} (hi : i < (occR cs cell).length) : okLib cs = true ∧ (0 <= (gd (occR cs cell) i).cell ∧ (gd (occR cs cell) i).cell < cs.length) ∧ validT (gd (occR cs cell) i).place = true ∧ (occR cs cell).length <= 200 := by
 by_cases h : occE cs cell = 0
 ·have hm := gd_mem hi
  rw [occR_ok h] at hm ⊢
  obtain ⟨h1, h2, h3, h4⟩ := occE_zero h
  have := occF_cell h1 _ (top cell) h2.1 (by simp [top]) (by simp only [top]; omega) _ hm
  have hl := occAll_len h1 h2
  exact ⟨h1, by simp only [top] at this; omega, h4 _ hm, by omega⟩
 ·rw [occR_no h] at hi; simp at hi
def flatOf (cs : List ECell) (o : EOcc) : List Shape := (gd cs o.cell.toNat).shapes.map fun s => ⟨s.layer, moveR o.place s.box⟩
def flatL (cs : List ECell) (os : List EOcc) : List Shape := os.flatMap (flatOf cs)
theorem flatOf_len (cs : List ECell) (o : EOcc) : (flatOf cs o).length = (gd cs o.cell.toNat).shapes.length := by simp [flatOf]
theorem flatL_take {cs : List ECell} {os : List EOcc} {i : Nat} (h : i < os.length) : flatL cs (os.take (i + 1)) = flatL cs (os.take i) ++ flatOf cs (gd os i) := by
 rw [flatL, flatL, List.take_add_one, getG h, List.flatMap_append]; simp
theorem flatOf_step {cs : List ECell} {o : EOcc} {k : Nat} (h : k < (gd cs o.cell.toNat).shapes.length) : (flatOf cs o).take (k + 1) = (flatOf cs o).take k ++ [⟨(gd (gd cs o.cell.toNat).shapes k).layer, moveR o.place (gd (gd cs o.cell.toNat).shapes k).box⟩] := by
 rw [List.take_add_one, getG (by rw [flatOf_len]; exact h), flatOf, gd_map _ h]; rfl
theorem flatL_bd {cs : List ECell} {cell : Int} : ∀ i, i <= (occR cs cell).length -> (flatL cs ((occR cs cell).take i)).length <= 24 * i
 | 0, _ => by simp [flatL]
 | i + 1, hi => by
  have ih := flatL_bd (cs := cs) (cell := cell) i (by omega)
  obtain ⟨h1, h2, _, _⟩ := occR_cell (cs := cs) (cell := cell) (i := i) (by omega)
  have := (okLib_cnt h1 (i := (gd (occR cs cell) i).cell.toNat) (by omega)).2
  rw [flatL_take (by omega), List.length_append, flatOf_len]; omega
theorem flatL_len {cs : List ECell} {cell : Int} : (flatL cs (occR cs cell)).length <= 4800 := by
 have := flatL_bd (cs := cs) (cell := cell) _ (Nat.le_refl _)
 rw [List.take_of_length_le (Nat.le_refl _)] at this
 by_cases h : 0 < (occR cs cell).length
 ·have := (occR_cell h).2.2.2; omega
 ·omega
def shE (cs : List ECell) (cell : Int) : Int := bif decide (occE cs cell = 0) then (bif (flatL cs (occR cs cell)).any fun s => !validRect s.box then 2 else 0) else occE cs cell
def shR (cs : List ECell) (cell : Int) : List Shape := bif decide (shE cs cell = 0) then flatL cs (occR cs cell) else []
theorem shE_zero {cs : List ECell} {cell : Int} (h : shE cs cell = 0) : occE cs cell = 0 ∧ ∀ s ∈ flatL cs (occR cs cell), validRect s.box = true := by
 unfold shE at h
 by_cases h1 : occE cs cell = 0
 ·rw [decide_eq_true h1, cond_true] at h
  cases h2 : (flatL cs (occR cs cell)).any fun s => !validRect s.box with
  | true => rw [h2] at h; cases h
  | false =>
   refine ⟨h1, fun s hs => ?_⟩
   rw [List.any_eq_false] at h2
   simpa using h2 s hs
 ·rw [decide_eq_false h1, cond_false] at h; exact absurd h h1
theorem shR_ok {cs : List ECell} {cell : Int} (h : shE cs cell = 0) : shR cs cell = flatL cs (occR cs cell) := by rw [shR, h]; rfl
theorem shR_no {cs : List ECell} {cell : Int} (h : shE cs cell ≠ 0) : shR cs cell = [] := by rw [shR, decide_eq_false h]; rfl
theorem shR_len (cs : List ECell) (cell : Int) : (shR cs cell).length <= 4800 := by
 by_cases h : shE cs cell = 0
 ·rw [shR_ok h]; exact flatL_len
 ·rw [shR_no h]; simp
def boxesOf (ss : List Shape) (l : Nat) : List Rect := (ss.filter fun s => decide (s.layer = (l : Int))).map Shape.box
def layL (ss : List Shape) : List (List Rect) := (List.range 8).map fun l => canon (bits (boxesOf ss l))
theorem boxesOf_step {ss : List Shape} {i l : Nat} (h : i < ss.length) : boxesOf (ss.take (i + 1)) l = boxesOf (ss.take i) l ++ (if (gd ss i).layer = (l : Int) then [(gd ss i).box] else []) := by
 rw [boxesOf, boxesOf, List.take_add_one, getG h, List.filter_append, List.map_append]
 by_cases e : (gd ss i).layer = (l : Int) <;> simp [e]
def bndE (cs : List ECell) (cell : Int) : Int := bif decide (shE cs cell = 0) && decide ((shR cs cell).length = 0) then 5 else shE cs cell
def bndR (cs : List ECell) (cell : Int) : Rect := bif decide (bndE cs cell = 0) then boxL ((shR cs cell).map Shape.box) else ⟨0, 0, 0, 0⟩
theorem bndE_zero {cs : List ECell} {cell : Int} (h : bndE cs cell = 0) : shE cs cell = 0 ∧ 0 < (shR cs cell).length := by
 unfold bndE at h
 by_cases h1 : shE cs cell = 0
 ·by_cases h2 : (shR cs cell).length = 0
  ·rw [decide_eq_true h1, decide_eq_true h2] at h; cases h
  ·exact ⟨h1, by omega⟩
 ·rw [decide_eq_false h1, Bool.false_and, cond_false] at h; exact absurd h h1
theorem validR_in {r : Rect} (h : validRect r = true) : RIn 40 r := by
 have := valid_bd h; exact this
theorem bndR_in {cs : List ECell} {cell : Int} (h : bndE cs cell = 0) : RIn 40 (bndR cs cell) := by
 obtain ⟨h1, h2⟩ := bndE_zero h
 rw [bndR, decide_eq_true h, cond_true]
 refine boxL_in (by simpa using h2) fun r hr => ?_
 obtain ⟨s, hs, rfl⟩ := List.mem_map.1 hr
 rw [shR_ok h1] at hs
 exact validR_in ((shE_zero h1).2 s hs)
def rootOf (o : EOcc) : Int := match o.path with | [] => -1 | a :: _ => a
def rootAt (cs : List ECell) (o : EOcc) : List RShape := (flatOf cs o).map fun s => ⟨rootOf o, s⟩
def rootL (cs : List ECell) (os : List EOcc) : List RShape := os.flatMap (rootAt cs)
def rootR (cs : List ECell) (cell : Int) : List RShape := bif decide (shE cs cell = 0) then rootL cs (occR cs cell) else []
theorem rootL_take {cs : List ECell} {os : List EOcc} {i : Nat} (h : i < os.length) : rootL cs (os.take (i + 1)) = rootL cs (os.take i) ++ rootAt cs (gd os i) := by
 rw [rootL, rootL, List.take_add_one, getG h, List.flatMap_append]; simp
theorem rootL_flat (cs : List ECell) (os : List EOcc) : (rootL cs os).map RShape.shape = flatL cs os := by
 induction os with
 | nil => rfl
 | cons o os ih =>
  have e1 : rootL cs (o :: os) = rootAt cs o ++ rootL cs os := rfl
  have e2 : flatL cs (o :: os) = flatOf cs o ++ flatL cs os := rfl
  rw [e1, e2, List.map_append, ih]
  congr 1
  simp [rootAt, Function.comp_def]
theorem rootAt_len (cs : List ECell) (o : EOcc) : (rootAt cs o).length = (gd cs o.cell.toNat).shapes.length := by rw [rootAt, List.length_map, flatOf_len]
theorem rootL_len (cs : List ECell) (os : List EOcc) : (rootL cs os).length = (flatL cs os).length := by rw [<- rootL_flat, List.length_map]
theorem flatL_split {cs : List ECell} {os : List EOcc} {i : Nat} (h : i < os.length) : flatL cs os = flatL cs (os.take i) ++ (flatOf cs (gd os i) ++ flatL cs (os.drop (i + 1))) := by
 conv => lhs; rw [<- List.take_append_drop (i + 1) os]
 rw [flatL, List.flatMap_append]
 have := flatL_take (cs := cs) h
 rw [flatL] at this
 rw [this, List.append_assoc]; rfl
theorem rootAt_step {cs : List ECell} {os : List EOcc} {i k : Nat} (h : i < os.length) (hk : k < (gd cs (gd os i).cell.toNat).shapes.length) :
  (rootL cs (os.take i) ++ (rootAt cs (gd os i)).take k).length < (flatL cs os).length ∧ (rootAt cs (gd os i)).take (k + 1) = (rootAt cs (gd os i)).take k ++ [⟨rootOf (gd os i), gd (flatL cs os) (rootL cs (os.take i) ++ (rootAt cs (gd os i)).take k).length⟩] := by
 have hl : ((rootAt cs (gd os i)).take k).length = k := by rw [List.length_take, rootAt_len]; omega
 have hf : k < (flatOf cs (gd os i)).length := by rw [flatOf_len]; exact hk
 have e : gd (flatL cs os) (rootL cs (os.take i) ++ (rootAt cs (gd os i)).take k).length = gd (flatOf cs (gd os i)) k := by
  rw [List.length_append, hl, rootL_len, flatL_split h, gd_app_at, gd_app_l hf]
 refine ⟨?_, ?_⟩
 ·rw [List.length_append, hl, rootL_len, flatL_split h, List.length_append, List.length_append]; omega
 ·rw [e, List.take_add_one, getG (by rw [rootAt_len]; exact hk), rootAt, gd_map _ hf]; rfl
@[reducible] def wideR (r : Rect) (k : Int) : Rect := ⟨r.x0 - k, r.y0 - k, r.x1 + k, r.y1 + k⟩
def distR (a b : Rect) : Int := max (max (max (max 0 (b.x0 - a.x1 + 1)) (a.x0 - b.x1 + 1)) (b.y0 - a.y1 + 1)) (a.y0 - b.y1 + 1)
def nearS (n reach : Int) (p : Rect) (x : RShape) : Bool := !decide (x.root = n) && decide (distR x.shape.box p <= 2 * reach)
def freeB (cs : List ECell) (cell n reach : Int) : Bool :=
  let e := gd (elems (gd cs cell.toNat).insts) n.toNat
  decide (bndE cs e.cell = 0) && (validRect (wideR (bndR cs e.cell) reach) && validRect (wideR (moveR e.place (bndR cs e.cell)) reach)) && !((rootL cs (occR cs cell)).any (nearS n reach (moveR e.place (bndR cs e.cell))))
def elN (cs : List ECell) (cell : Int) : Nat := (elems (gd cs cell.toNat).insts).length
def elE (cs : List ECell) (cell n : Int) : Int := bif decide (shE cs cell = 0) then (bif within n 0 ((elN cs cell : Int) - 1) then 0 else 5) else shE cs cell
theorem shE_lib {cs : List ECell} {cell : Int} (h : shE cs cell = 0) : okLib cs = true ∧ 0 <= cell ∧ cell < cs.length := by
 have := occE_zero (shE_zero h).1
 exact ⟨this.1, this.2.1⟩
theorem occF_head (cs : List ECell) (f : Nat) (o : EOcc) : o ∈ occF cs f o := by
 cases f <;> simp [occF]
theorem cmpT_top {t : Trans} (h : 0 <= t.o ∧ t.o <= 7) : cmpT t ⟨0, 0, 0⟩ = t := by
 obtain ⟨o, x, y⟩ := t
 have ho : o = 0 ∨ o = 1 ∨ o = 2 ∨ o = 3 ∨ o = 4 ∨ o = 5 ∨ o = 6 ∨ o = 7 := by simp only at h; omega
 rcases ho with rfl | rfl | rfl | rfl | rfl | rfl | rfl | rfl <;> simp [cmpT, cmpo, moveP, turnP, flip, rot]
theorem elems_valid {cs : List ECell} {cell : Int} (h : occE cs cell = 0) {i : Nat} (hi : i < elN cs cell) : validT (gd (elems (gd cs cell.toNat).insts) i).place = true := by
 obtain ⟨h1, h2, h3, h4⟩ := occE_zero h
 have hb := elem_bd h1 (k := cell.toNat) (by omega) hi
 have hm : kid (top cell) (gd (elems (gd cs cell.toNat).insts) i) i ∈ occAll cs cell := by
  rw [occAll, occF]
  refine List.mem_cons_of_mem _ (List.mem_flatMap.2 ⟨i, List.mem_range.2 hi, occF_head _ _ _⟩)
 have := h4 _ hm
 simp only [kid, top] at this
 rwa [cmpT_top hb.2.1] at this
theorem cmpo_r {a b : Int} (ha : 0 <= a ∧ a <= 7) (hb : 0 <= b ∧ b <= 7) : cmpo a b = (b % 4 + (if 4 <= b then -(a % 4) else a % 4) + 4) % 4 + 4 * (if 4 <= b then 1 - a / 4 else a / 4) := by
 have ea : a = 0 ∨ a = 1 ∨ a = 2 ∨ a = 3 ∨ a = 4 ∨ a = 5 ∨ a = 6 ∨ a = 7 := by omega
 have eb : b = 0 ∨ b = 1 ∨ b = 2 ∨ b = 3 ∨ b = 4 ∨ b = 5 ∨ b = 6 ∨ b = 7 := by omega
 rcases ea with rfl | rfl | rfl | rfl | rfl | rfl | rfl | rfl <;> rcases eb with rfl | rfl | rfl | rfl | rfl | rfl | rfl | rfl <;> decide
theorem elems_found {ns : List Inst} {i q : Nat} (h : i < ns.length) (hq : q < (elsOf (gd ns i)).length) : gd (elems ns) ((elems (ns.take i)).length + q) = ⟨(gd ns i).cell, elPlace (gd ns i) ((q % (gd ns i).cols.toNat : Nat) : Int) ((q / (gd ns i).cols.toNat : Nat) : Int)⟩ := by
 rw [elems_split h, List.append_assoc, gd_app_at, gd_app_l hq]
 have hr : gd (List.range ((gd ns i).rows.toNat * (gd ns i).cols.toNat)) q = q := range_gd (by rw [elsOf_len] at hq; exact hq)
 rw [elsOf, gd_map _ (by rw [elsOf_len] at hq; simpa using hq), hr]
def shs (xs : List Cell) : List (Sl Shape) := xs.map Cell.shapes
def lbs (xs : List Cell) : List (Sl Label) := xs.map Cell.labels
def ins (xs : List Cell) : List (Sl Inst) := xs.map Cell.insts
structure RLib (G : Gh) (L : List Ch) (v : Value) (xs : List Cell) : Prop where
  c : Rs G L cellT v xs
  s : RsE G L shapeT (shs xs)
  l : RsE G L labelT (lbs xs)
  n : RsE G L instT (ins xs)
theorem RLib.up {L' : List Ch} {v : Value} {xs : List Cell} (h : RLib G L v xs) [p : PickC L L'] : RLib G L' v xs := ⟨h.c.up, h.s.up, h.l.up, h.n.up⟩
theorem RLib.sa {v : Value} {xs : List Cell} (h : RLib G L v xs) {i : Nat} (hi : i < xs.length) : Rs G L shapeT (gd xs i).shapes.v (gd xs i).shapes.xs := by
 have := h.s i (by simpa [shs] using hi); rwa [shs, gd_map _ hi] at this
theorem RLib.la {v : Value} {xs : List Cell} (h : RLib G L v xs) {i : Nat} (hi : i < xs.length) : Rs G L labelT (gd xs i).labels.v (gd xs i).labels.xs := by
 have := h.l i (by simpa [lbs] using hi); rwa [lbs, gd_map _ hi] at this
theorem RLib.na {v : Value} {xs : List Cell} (h : RLib G L v xs) {i : Nat} (hi : i < xs.length) : Rs G L instT (gd xs i).insts.v (gd xs i).insts.xs := by
 have := h.n i (by simpa [ins] using hi); rwa [ins, gd_map _ hi] at this
theorem RLib.one {L' : List Ch} {v : Value} {xs : List Cell} (h : RLib G L v xs) {i : Nat} (hi : i < xs.length) [p : PickC L L'] : OneC G L' [.string (gd xs i).name, (gd xs i).shapes.v, (gd xs i).labels.v, (gd xs i).insts.v] :=
 OneC.val rfl (OneC.sl (SlF.r (h.sa hi)) (OneC.sl (SlF.r (h.la hi)) (OneC.sl (SlF.r (h.na hi)) OneC.nil)))
def lenL (ls : List Label) : Prop := ∀ i, i < ls.length -> (gd ls i).name.size <= 9223372036854775807
def lenC (cs : List ECell) : Prop := ∀ i, i < cs.length -> (gd cs i).name.size <= 9223372036854775807 ∧ lenL (gd cs i).labels
def few (cs : List ECell) : Prop := cs.length <= 1048576 ∧ ∀ i, i < cs.length -> (gd cs i).shapes.length <= 1048576 ∧ (gd cs i).labels.length <= 1048576 ∧ (gd cs i).insts.length <= 1048576
theorem Cv.grow3 {α β γ : Type} {e1 e2 e3 : TypeId} {F1 : FT α} {F2 : FT β} {F3 : FT γ} {u1 u2 u3 : Value} {us1 : List α} {us2 : List β} {us3 : List γ} {y1 y1' : List (Sl α)} {y2 y2' : List (Sl β)} {y3 y3' : List (Sl γ)} (h1 : y1' = y1 ++ [⟨u1, us1⟩]) (h2 : y2' = y2 ++ [⟨u2, us2⟩]) (h3 : y3' = y3 ++ [⟨u3, us3⟩]) :
  Cv (osl e1 F1 u1 us1 :: osl e2 F2 u2 us2 :: osl e3 F3 u3 us3 :: bagS e1 F1 y1 :: bagS e2 F2 y2 :: bagS e3 F3 y3 :: L) (bagS e1 F1 y1' :: bagS e2 F2 y2' :: bagS e3 F3 y3' :: L) :=
 (Cv.p (C := osl e1 F1 u1 us1 :: bagS e1 F1 y1 :: osl e2 F2 u2 us2 :: bagS e2 F2 y2 :: osl e3 F3 u3 us3 :: bagS e3 F3 y3 :: L)).trans ((Cv.grow h1).trans (Cv.cons ((Cv.grow h2).trans (Cv.cons (Cv.grow h3)))))
theorem lenC.one {xs : List Cell} (h : lenC (erCls xs)) {i : Nat} (hi : i < xs.length) : (gd xs i).name.size <= 9223372036854775807 ∧ lenL (gd xs i).labels.xs := by
 have := h i (by rw [erCls_len]; exact hi); rwa [erCls_gd hi] at this
set_option maxHeartbeats 1000000
def CellOk (c : Cell) : Prop := c.name.size <= 9 ∧ c.labels.xs = [] ∧ c.shapes.xs.length <= 101
def CellsOk (xs : List Cell) : Prop := ∀ i, i < xs.length -> CellOk (gd xs i)
def CellsL (xs : List Cell) : Prop := ∀ i, i < xs.length -> (gd xs i).name.size <= 9 ∧ (gd xs i).labels.xs = []
theorem map_set_same {α β : Type} [Inhabited α] {f : α -> β} {xs : List α} {i : Nat} {c : α} (hi : i < xs.length) (h : f c = f (gd xs i)) : (xs.set i c).map f = xs.map f := by
 rw [List.map_set, h]
 apply List.ext_getElem?
 intro j
 rw [List.getElem?_set]
 by_cases e : i = j
 ·subst e; simp [gd, hi]
 ·simp [e]
set_option maxHeartbeats 2000000
abbrev nmS : ByteArray := ByteArray.mk #[97, 98, 99, 100, 120, 121, 122, 48, 49, 57]
def dNm (bs : List UInt8) : Nat -> List UInt8 -> Pl -> List UInt8 × Pl
  | 0, l, p => (l, p)
  | n + 1, l, p => dNm bs n (l ++ [bt nmS (nx bs p 10).1.toNat]) (nx bs p 10).2
def dName (bs : List UInt8) (p : Pl) : ByteArray × Pl :=
  match nx bs p 3 with
  | (a, p1) => match dNm bs (1 + a).toNat [] p1 with
  | (l, p2) => (txt l, p2)
def dBox (bs : List UInt8) (p : Pl) : Rect × Pl :=
  match nx bs p 16 with
  | (a, p1) => match nx bs p1 16 with
  | (b, p2) => match nx bs p2 6 with
  | (c, p3) => match nx bs p3 6 with
  | (d, p4) => (⟨a - 8, b - 8, a - 8 + 1 + c, b - 8 + 1 + d⟩, p4)
def dShp (bs : List UInt8) (p : Pl) : Shape × Pl :=
  match nx bs p 8 with
  | (a, p1) => match dBox bs p1 with
  | (r, p2) => (⟨a, r⟩, p2)
def dLbl (bs : List UInt8) (p : Pl) : Label × Pl :=
  match nx bs p 8 with
  | (a, p1) => match nx bs p1 16 with
  | (x, p2) => match nx bs p2 16 with
  | (y, p3) => match dName bs p3 with
  | (n, p4) => (⟨a, ⟨x - 8, y - 8⟩, n⟩, p4)
def dCol (bs : List UInt8) (i : Inst) (p : Pl) : Inst × Pl :=
  match nx bs p 3 with
  | (a, p1) => if a = 0 then (match nx bs p1 2 with | (c, p2) => match nx bs p2 15 with | (d, p3) => (⟨i.cell, i.place, 2 + c, i.rows, d - 7, i.sy⟩, p3)) else (i, p1)
def dRow (bs : List UInt8) (i : Inst) (p : Pl) : Inst × Pl :=
  match nx bs p 4 with
  | (a, p1) => if a = 0 then (match nx bs p1 15 with | (d, p2) => (⟨i.cell, i.place, i.cols, 2, i.sx, d - 7⟩, p2)) else (i, p1)
def dFar (bs : List UInt8) (i : Inst) (p : Pl) : Inst × Pl :=
  match nx bs p 24 with
  | (a, p1) => if a = 0 then (⟨i.cell, ⟨i.place.o, i.place.x * 6, i.place.y⟩, i.cols, i.rows, i.sx, i.sy⟩, p1) else (i, p1)
def dIns (bs : List UInt8) (k : Int) (p : Pl) : Inst × Pl :=
  match nx bs p k with
  | (c, p1) => match nx bs p1 8 with
  | (o, p2) => match nx bs p2 24 with
  | (x, p3) => match nx bs p3 24 with
  | (y, p4) => match dCol bs ⟨c, ⟨o, x - 12, y - 12⟩, 1, 1, 0, 0⟩ p4 with
  | (i1, p5) => match dRow bs i1 p5 with
  | (i2, p6) => dFar bs i2 p6
def dShps (bs : List UInt8) : Nat -> List Shape -> Pl -> List Shape × Pl
  | 0, l, p => (l, p)
  | n + 1, l, p => dShps bs n (l ++ [(dShp bs p).1]) (dShp bs p).2
def dLbls (bs : List UInt8) : Nat -> List Label -> Pl -> List Label × Pl
  | 0, l, p => (l, p)
  | n + 1, l, p => dLbls bs n (l ++ [(dLbl bs p).1]) (dLbl bs p).2
def dInss (bs : List UInt8) (k : Int) : Nat -> List Inst -> Pl -> List Inst × Pl
  | 0, l, p => (l, p)
  | n + 1, l, p => dInss bs k n (l ++ [(dIns bs k p).1]) (dIns bs k p).2
def dCel (bs : List UInt8) (i : Int) (p : Pl) : ECell × Pl :=
  match dName bs p with
  | (nm, p1) => match nx bs p1 4 with
  | (a, p2) => match dShps bs a.toNat [] p2 with
  | (ss, p3) => match nx bs p3 3 with
  | (b, p4) => match dLbls bs b.toNat [] p4 with
  | (ls, p5) => match nx bs p5 3 with
  | (c, p6) => match (if 0 < i then dInss bs i c.toNat [] p6 else ([], p6)) with
  | (is, p7) => (⟨txt [UInt8.ofNat (97 + i.toNat)] ++ nm, ss, ls, is⟩, p7)
def dCels (bs : List UInt8) : Nat -> Int -> List ECell -> Pl -> List ECell × Pl
  | 0, _, l, p => (l, p)
  | n + 1, i, l, p => dCels bs n (i + 1) (l ++ [(dCel bs i p).1]) (dCel bs i p).2
def dLibF (bs : List UInt8) (p : Pl) : List ECell × Pl :=
  match nx bs p 4 with
  | (a, p1) => dCels bs (1 + a).toNat 0 [] p1
theorem dBox_s {b : Nat} {cv : Value} {bs : List UInt8} {p : Pl} (hcode : SL G byteT cv bs) (hp : OkP p) (k : ∀ r p', dBox bs p = (r, p') -> OkP p' -> R (vrect r) G (sPl b cv p' :: L)) : CallT Tryz.prog 58 #[.pointer (some ⟨b, 0, none⟩)] G (sPl b cv p :: L) R := by
 refine CallT.enter (args := _) Tryz.func58 rfl rfl (by kernel_rfl) rfl ?_
 refine WP.sr ?_
 refine RG.ot rfl (OT.alloc rfl Zr101 fun b2 => ?_)
 refine RG.nil (WP.sr (RG.p (PV.move rfl rfl) ?_))
 refine RG.callF (vs := [_, _]) rfl rfl En57 rfl (CallT.exB (b := b) (nextP_s hcode (by assumption) (by omega) (fun w6 pw6 ew6 ow6 hw6 => ?_)))
 refine RG.p (PV.sub rfl rfl rfl (by omega)) (RG.mr rfl (RG.nil (WP.sr (RG.p (PV.move rfl rfl) ?_))))
 refine RG.callF (vs := [_, _]) rfl rfl En57 rfl (CallT.exB (b := b) (nextP_s hcode (by assumption) (by omega) (fun w9 pw9 ew9 ow9 hw9 => ?_)))
 refine RG.p (PV.sub rfl rfl rfl (by omega)) (RG.mr rfl (RG.nil (WP.sr (RG.ml rfl (RG.ml rfl (RG.ml rfl (RG.p (PV.add rfl rfl rfl (by omega)) (RG.p (PV.move rfl rfl) ?_))))))))
 refine RG.callF (vs := [_, _]) rfl rfl En57 rfl (CallT.exB (b := b) (nextP_s hcode (by assumption) (by omega) (fun w16 pw16 ew16 ow16 hw16 => ?_)))
 refine RG.p (PV.add rfl rfl rfl (by omega)) (RG.ml rfl (RG.p (PV.add rfl rfl rfl (by omega)) (RG.p (PV.move rfl rfl) ?_)))
 refine RG.callF (vs := [_, _]) rfl rfl En57 rfl (CallT.exB (b := b) (nextP_s hcode (by assumption) (by omega) (fun w21 pw21 ew21 ow21 hw21 => ?_)))
 refine RG.p (PV.add rfl rfl rfl (by omega)) (RG.p (PV.build (vs := [(0, [vi _]), (1, [vi _]), (2, [vi _]), (3, [vi _])]) (out := [_, _, _, _]) rfl Zr101 Pl101 ⟨rfl, (Cl.c rfl), ⟨rfl, (Cl.c rfl), ⟨rfl, (Cl.c rfl), ⟨rfl, (Cl.c rfl), trivial⟩⟩⟩⟩ rfl) ?_)
 refine RG.ot rfl (OT.storeW (vs := [vi _, vi _, vi _, vi _]) rfl Sz101 rfl rfl (Cl.c rfl) rfl rfl (OneC.c rfl) ?_)
 refine RG.nil ?_
 exact WP.ret ⟨_, _, ResV.one rfl (RV1.cell rfl Ag101 rfl), Cv.p, k ⟨w6 - 8, w9 - 8, w6 - 8 + 1 + w16, w9 - 8 + 1 + w21⟩ pw21 (by simp only [dBox, ew6, ew9, ew16, ew21]) (by assumption)⟩
theorem nmS_len : nmS.size = 10 := rfl
theorem dName_s {b : Nat} {cv : Value} {bs : List UInt8} {p : Pl} (hcode : SL G byteT cv bs) (hp : OkP p) (k : ∀ n p', dName bs p = (n, p') -> OkP p' -> n.size <= 4 -> R (.string n) G (sPl b cv p' :: L)) : CallT Tryz.prog 166 #[.pointer (some ⟨b, 0, none⟩)] G (sPl b cv p :: L) R := by
 have hl10 : (ByteArray.mk #[97, 98, 99, 100, 120, 121, 122, 48, 49, 57]).size = 10 := nmS_len
 refine CallT.enter (args := _) Tryz.func166 rfl rfl (by kernel_rfl) rfl ?_
 refine WP.sr (RG.p (PV.mvS (.inr rfl) rfl) (RG.nil (WP.sr ?_)))
 refine RG.ot rfl (OT.bslice (F := byteT) (els := []) rfl El22 rfl (by decide) rfl (by decide) trivial fun v5 => ?_)
 refine RG.p (PV.asg (v := v5) rfl rfl) (RG.nil (WP.seq (WP.sr (RG.p (PV.move rfl rfl) ?_))))
 refine RG.callF (vs := [_, _]) rfl rfl En57 rfl (CallT.exB (b := b) (nextP_s hcode (by assumption) (by omega) (fun w7 pw7 ew7 ow7 hw7 => ?_)))
 refine RG.p (PV.add rfl rfl rfl (by omega)) (RG.mr rfl (RG.nil (WP.block ?_)))
 refine WP.loop4 [0] (fun (n : Int) (ys : List UInt8) (u : Value) (pp : Pl) => (0 <= n ∧ n <= 4) ∧ (ys.length : Int) + n <= 4 ∧ OkP pp ∧ dNm bs n.toNat ys pp = dNm bs (1 + w7).toNat [] pw7) (fun (n : Int) (ys : List UInt8) (u : Value) (pp : Pl) => [(4, vi n), (3, u)]) (fun (n : Int) (ys : List UInt8) (u : Value) (pp : Pl) => osl 5 byteT u ys :: sPl b cv pp :: L) (fun (n : Int) (ys : List UInt8) (u : Value) (pp : Pl) => n.toNat) (1 + w7) [] v5 pw7 ⟨by omega, by simp; omega, by assumption, rfl⟩ ⟨rfl, rfl, trivial⟩ Cv.p ?_
 rintro n ys u pp τ ⟨hn, hyl, hpp, hd⟩
 refine WP.seq (WP.sr (RG.ml rfl (RG.p (PV.gtr rfl rfl rfl) (RG.nil ?_))))
 refine WP.cond rfl (fun h2 => ?_) fun h2 => ?_
 ·have h2 := odt h2
  refine WP.skip (WP.seq (WP.block (WP.region (RG.p (PV.move (v := u) rfl rfl) (RG.p (PV.move rfl rfl) ?_)))))
  refine RG.callF (vs := [_, _]) rfl rfl En57 rfl (CallT.exB (b := b) (nextP_s hcode (by assumption) (by omega) (fun w15 pw15 ew15 ow15 hw15 => ?_)))
  refine RG.p (PV.idxStr (j := w15.toNat) rfl Tryz.underlying9 rfl rfl (by omega) (getBG (by omega))) ?_
  refine RG.ot rfl (OT.bslice (F := byteT) (els := [_]) rfl El22 rfl (by decide) rfl (by decide) ⟨rfl, (Cl.c rfl), trivial⟩ fun v17 => ?_)
  refine RG.ot rfl (OT.append (v := u) (u := v17) (F := byteT) rfl El22 rfl (by decide) rfl rfl Rs.o (OneL.c (fun _ => rfl)) rfl (by first | omega | (simp <;> omega)) fun v18 => ?_)
  refine RG.p (PV.asg (v := v18) rfl rfl) (RG.nil (WP.region (RG.ml rfl (RG.p (PV.sub rfl rfl rfl (by omega)) (RG.mr rfl (RG.nil ?_))))))
  have hd2 : dNm bs (n - 1).toNat (ys ++ [bt nmS w15.toNat]) pw15 = dNm bs (1 + w7).toNat [] pw7 := by
   rw [<- hd, show n.toNat = (n - 1).toNat + 1 by omega, dNm, ew15]
  exact ⟨rfl, n - 1, (ys ++ [bt nmS w15.toNat]), v18, pw15, ⟨by omega, by simp; omega, by assumption, hd2⟩, ⟨rfl, rfl, trivial⟩, ⟨rfl, trivial⟩, Cv.p, by omega⟩
 ·have h2 := odf h2
  rw [show n.toNat = 0 by omega, dNm] at hd
  have e : dName bs p = (txt ys, pp) := by simp only [dName, ew7, <- hd]
  refine WP.exit (WP.sr (RG.p (PV.move (v := u) rfl rfl) (RG.p (PV.convBS (v := u) rfl Tryz.underlying22 Tryz.underlying5 Tryz.underlying9 rfl Rs.o) (RG.p (PV.mvS (.inr rfl) rfl) (RG.nil ?_)))))
  exact WP.ret ⟨_, _, rv rfl rfl, Cv.p, k (txt ys) pp e hpp (by rw [txt_size]; omega)⟩
theorem dShp_s {b : Nat} {cv : Value} {bs : List UInt8} {p : Pl} (hcode : SL G byteT cv bs) (hp : OkP p) (k : ∀ r p', dShp bs p = (r, p') -> OkP p' -> -2 <= r.layer ∧ r.layer <= 9 -> R (vT shapeT r) G (sPl b cv p' :: L)) : CallT Tryz.prog 167 #[.pointer (some ⟨b, 0, none⟩)] G (sPl b cv p :: L) R := by
 refine CallT.enter (args := _) Tryz.func167 rfl rfl (by kernel_rfl) rfl ?_
 refine WP.sr ?_
 refine RG.ot rfl (OT.alloc rfl Zr109 fun b2 => ?_)
 refine RG.nil (WP.sr (RG.p (PV.move rfl rfl) ?_))
 refine RG.callF (vs := [_, _]) rfl rfl En57 rfl (CallT.exB (b := b) (nextP_s hcode (by assumption) (by omega) (fun w4 pw4 ew4 ow4 hw4 => ?_)))
 refine RG.p (PV.move rfl rfl) ?_
 refine RG.callF (vs := [_]) rfl rfl En58 rfl (CallT.exB (b := b) (dBox_s hcode (by assumption) (fun w6 pw6 ew6 ow6 => ?_)))
 refine RG.p (PV.build (vs := [(0, [vi _]), (1, [vi _, vi _, vi _, vi _])]) (out := [_, _, _, _, _]) rfl Zr109 Pl109 ⟨rfl, (Cl.c rfl), ⟨rfl, (Cl.c rfl), trivial⟩⟩ rfl) ?_
 refine RG.ot rfl (OT.storeW (vs := [vi _, vi _, vi _, vi _, vi _]) rfl Sz109 rfl rfl (Cl.c rfl) rfl rfl (OneC.c rfl) ?_)
 refine RG.nil ?_
 exact WP.ret ⟨_, _, ResV.one rfl (RV1.cell rfl Ag109 rfl), Cv.p, k ⟨w4, w6⟩ pw6 (by simp only [dShp, ew4, ew6]) (by assumption) ⟨by simp only; omega, by simp only; omega⟩⟩
theorem dLbl_s {b : Nat} {cv : Value} {bs : List UInt8} {p : Pl} (hcode : SL G byteT cv bs) (hp : OkP p) (k : ∀ r p', dLbl bs p = (r, p') -> OkP p' -> r.name.size <= 4 -> R (vT labelT r) G (sPl b cv p' :: L)) : CallT Tryz.prog 207 #[.pointer (some ⟨b, 0, none⟩)] G (sPl b cv p :: L) R := by
 refine CallT.enter (args := _) Tryz.func207 rfl rfl (by kernel_rfl) rfl ?_
 refine WP.sr ?_
 refine RG.ot rfl (OT.alloc rfl Zr182 fun b2 => ?_)
 refine RG.nil (WP.sr (RG.p (PV.move rfl rfl) ?_))
 refine RG.callF (vs := [_, _]) rfl rfl En57 rfl (CallT.exB (b := b) (nextP_s hcode (by assumption) (by omega) (fun w4 pw4 ew4 ow4 hw4 => ?_)))
 refine RG.p (PV.move rfl rfl) ?_
 refine RG.callF (vs := [_, _]) rfl rfl En57 rfl (CallT.exB (b := b) (nextP_s hcode (by assumption) (by omega) (fun w6 pw6 ew6 ow6 hw6 => ?_)))
 refine RG.p (PV.sub rfl rfl rfl (by omega)) (RG.p (PV.move rfl rfl) ?_)
 refine RG.callF (vs := [_, _]) rfl rfl En57 rfl (CallT.exB (b := b) (nextP_s hcode (by assumption) (by omega) (fun w9 pw9 ew9 ow9 hw9 => ?_)))
 refine RG.p (PV.sub rfl rfl rfl (by omega)) (RG.p (PV.build (vs := [(0, [vi _]), (1, [vi _])]) (out := [_, _]) rfl Zr156 Pl156 ⟨rfl, (Cl.c rfl), ⟨rfl, (Cl.c rfl), trivial⟩⟩ rfl) (RG.p (PV.move rfl rfl) ?_))
 refine RG.callF (vs := [_]) rfl rfl En166 rfl (CallT.exB (b := b) (dName_s hcode (by assumption) (fun w13 pw13 ew13 ow13 hw13 => ?_)))
 refine RG.p (PV.build (vs := [(0, [vi _]), (1, [vi _, vi _]), (2, [.string _])]) (out := [_, _, _, _]) rfl Zr182 Pl182 ⟨rfl, (Cl.c rfl), ⟨rfl, (Cl.c rfl), ⟨rfl, (Cl.c rfl), trivial⟩⟩⟩ rfl) ?_
 refine RG.ot rfl (OT.storeW (vs := [vi _, vi _, vi _, .string _]) rfl Sz182 rfl rfl (Cl.c rfl) rfl rfl (OneC.c rfl) ?_)
 refine RG.nil ?_
 exact WP.ret ⟨_, _, ResV.one rfl (RV1.cell rfl Ag182 rfl), Cv.p, k ⟨w4, ⟨w6 - 8, w9 - 8⟩, w13⟩ pw13 (by simp only [dLbl, ew4, ew6, ew9, ew13]) (by assumption) hw13⟩
theorem dIns_s {b : Nat} {cv : Value} {bs : List UInt8} {n : Int} {p : Pl} (hcode : SL G byteT cv bs) (hn : n <= 100) (hp : OkP p) (k : ∀ i p', dIns bs n p = (i, p') -> OkP p' -> R (vT instT i) G (sPl b cv p' :: L)) : CallT Tryz.prog 165 #[.pointer (some ⟨b, 0, none⟩), vi n] G (sPl b cv p :: L) R := by
 refine CallT.enter (args := _) Tryz.func165 rfl rfl (by kernel_rfl) rfl ?_
 refine WP.sr ?_
 refine RG.ot rfl (OT.alloc rfl Zr111 fun b4 => ?_)
 refine RG.nil (WP.sr (RG.p (PV.move rfl rfl) (RG.ml rfl ?_)))
 refine RG.callF (vs := [_, _]) rfl rfl En57 rfl (CallT.exB (b := b) (nextP_s hcode (by assumption) (by omega) (fun w8 pw8 ew8 ow8 hw8 => ?_)))
 refine RG.p (PV.move rfl rfl) ?_
 refine RG.callF (vs := [_, _]) rfl rfl En57 rfl (CallT.exB (b := b) (nextP_s hcode (by assumption) (by omega) (fun w10 pw10 ew10 ow10 hw10 => ?_)))
 refine RG.p (PV.move rfl rfl) ?_
 refine RG.callF (vs := [_, _]) rfl rfl En57 rfl (CallT.exB (b := b) (nextP_s hcode (by assumption) (by omega) (fun w12 pw12 ew12 ow12 hw12 => ?_)))
 refine RG.p (PV.sub rfl rfl rfl (by omega)) (RG.p (PV.move rfl rfl) ?_)
 refine RG.callF (vs := [_, _]) rfl rfl En57 rfl (CallT.exB (b := b) (nextP_s hcode (by assumption) (by omega) (fun w15 pw15 ew15 ow15 hw15 => ?_)))
 refine RG.p (PV.sub rfl rfl rfl (by omega)) (RG.p (PV.build (vs := [(0, [vi _]), (1, [vi _]), (2, [vi _])]) (out := [_, _, _]) rfl Zr87 Pl87 ⟨rfl, (Cl.c rfl), ⟨rfl, (Cl.c rfl), ⟨rfl, (Cl.c rfl), trivial⟩⟩⟩ rfl) (RG.p (PV.build (vs := [(0, [vi _]), (1, [vi _, vi _, vi _]), (2, [vi _]), (3, [vi _])]) (out := [_, _, _, _, _, _, _, _]) rfl Zr111 Pl111 ⟨rfl, (Cl.c rfl), ⟨rfl, (Cl.c rfl), ⟨rfl, (Cl.c rfl), ⟨rfl, (Cl.c rfl), trivial⟩⟩⟩⟩ rfl) ?_))
 refine RG.ot rfl (OT.alloc rfl Zr111 fun b5 => ?_)
 refine RG.ot rfl (OT.storeW (vs := [vi _, vi _, vi _, vi _, vi _, vi _, vi _, vi _]) rfl Sz111 rfl rfl (Cl.c rfl) rfl rfl (OneC.c rfl) ?_)
 refine RG.nil ?_
 refine WP.cut2 [0, 4, 5] (fun (x : Inst) (p1 : Pl) => OkP p1 ∧ dCol bs ⟨w8, ⟨w10, w12 - 12, w15 - 12⟩, 1, 1, 0, 0⟩ pw15 = (x, p1) ∧ x.place.x = w12 - 12) (fun (x : Inst) (p1 : Pl) => []) (fun (x : Inst) (p1 : Pl) => blk b5 111 (instT.enc x) :: sPl b cv p1 :: blk b4 111 [vi 0, vi 0, vi 0, vi 0, vi 0, vi 0, vi 0, vi 0] :: L) ?_ ?_
 refine WP.sr (RG.p (PV.move rfl rfl) ?_)
 refine RG.callF (vs := [_, _]) rfl rfl En57 rfl (CallT.exB (b := b) (nextP_s hcode (by assumption) (by omega) (fun w20 pw20 ew20 ow20 hw20 => ?_)))
 refine RG.p (PV.eql rfl rfl rfl) (RG.nil ?_)
 ·refine WP.cond rfl (fun h2 => ?_) fun h2 => ?_
  ·have h2 := odt h2
   refine WP.sr (RG.p (PV.move rfl rfl) ?_)
   refine RG.callF (vs := [_, _]) rfl rfl En57 rfl (CallT.exB (b := b) (nextP_s hcode (by assumption) (by omega) (fun w23 pw23 ew23 ow23 hw23 => ?_)))
   refine RG.p (PV.add rfl rfl rfl (by omega)) (RG.p (PV.field rfl Fo111_2 rfl) ?_)
   refine RG.ot rfl (OT.storeB (vs := [vi _]) (cs' := [_, _, _, _, _, _, _, _]) rfl Sz2 rfl rfl (Cl.c rfl) rfl (OneC.c rfl) rfl rfl ?_)
   refine RG.nil (WP.region (RG.p (PV.move rfl rfl) ?_))
   refine RG.callF (vs := [_, _]) rfl rfl En57 rfl (CallT.exB (b := b) (nextP_s hcode (by assumption) (by omega) (fun w27 pw27 ew27 ow27 hw27 => ?_)))
   refine RG.p (PV.sub rfl rfl rfl (by omega)) (RG.p (PV.field rfl Fo111_4 rfl) ?_)
   refine RG.ot rfl (OT.storeB (vs := [vi _]) (cs' := [_, _, _, _, _, _, _, _]) rfl Sz2 rfl rfl (Cl.c rfl) rfl (OneC.c rfl) rfl rfl ?_)
   refine RG.nil ?_
   exact ⟨rfl, ⟨w8, ⟨w10, w12 - 12, w15 - 12⟩, 2 + w23, 1, w27 - 7, 0⟩, pw27, ⟨by assumption, by simp only [dCol, ew20, h2, if_true, ew23, ew27], rfl⟩, trivial, ⟨rfl, rfl, rfl, trivial⟩, Cv.p⟩
  ·have h2 := odf h2
   refine WP.skip ?_
   exact ⟨rfl, ⟨w8, ⟨w10, w12 - 12, w15 - 12⟩, 1, 1, 0, 0⟩, pw20, ⟨by assumption, by simp only [dCol, ew20, h2, if_false], rfl⟩, trivial, ⟨rfl, rfl, rfl, trivial⟩, Cv.p⟩
 rintro x p1 τ1 ⟨g1, g2, gx⟩
 refine WP.cut2 [0, 4, 5] (fun (y : Inst) (p2 : Pl) => OkP p2 ∧ dRow bs x p1 = (y, p2) ∧ y.place.x = w12 - 12) (fun (y : Inst) (p2 : Pl) => []) (fun (y : Inst) (p2 : Pl) => blk b5 111 (instT.enc y) :: sPl b cv p2 :: blk b4 111 [vi 0, vi 0, vi 0, vi 0, vi 0, vi 0, vi 0, vi 0] :: L) ?_ ?_
 refine WP.sr (RG.p (PV.move rfl rfl) ?_)
 refine RG.callF (vs := [_, _]) rfl rfl En57 rfl (CallT.exB (b := b) (nextP_s hcode (by assumption) (by omega) (fun w31 pw31 ew31 ow31 hw31 => ?_)))
 refine RG.p (PV.eql rfl rfl rfl) (RG.nil ?_)
 ·refine WP.cond rfl (fun h3 => ?_) fun h3 => ?_
  ·have h3 := odt h3
   refine WP.sr (RG.p (PV.field rfl Fo111_3 rfl) ?_)
   refine RG.ot rfl (OT.storeB (vs := [vi _]) (cs' := [_, _, _, _, _, _, _, _]) rfl Sz2 rfl rfl (Cl.c rfl) rfl (OneC.c rfl) rfl rfl ?_)
   refine RG.nil (WP.region (RG.p (PV.move rfl rfl) ?_))
   refine RG.callF (vs := [_, _]) rfl rfl En57 rfl (CallT.exB (b := b) (nextP_s hcode (by assumption) (by omega) (fun w35 pw35 ew35 ow35 hw35 => ?_)))
   refine RG.p (PV.sub rfl rfl rfl (by omega)) (RG.p (PV.field rfl Fo111_5 rfl) ?_)
   refine RG.ot rfl (OT.storeB (vs := [vi _]) (cs' := [_, _, _, _, _, _, _, _]) rfl Sz2 rfl rfl (Cl.c rfl) rfl (OneC.c rfl) rfl rfl ?_)
   refine RG.nil ?_
   exact ⟨rfl, ⟨x.cell, x.place, x.cols, 2, x.sx, w35 - 7⟩, pw35, ⟨by assumption, by simp only [dRow, ew31, h3, if_true, ew35], gx⟩, trivial, ⟨rfl, rfl, rfl, trivial⟩, Cv.p⟩
  ·have h3 := odf h3
   refine WP.skip ?_
   exact ⟨rfl, x, pw31, ⟨by assumption, by simp only [dRow, ew31, h3, if_false], gx⟩, trivial, ⟨rfl, rfl, rfl, trivial⟩, Cv.p⟩
 rintro y p2 τ2 ⟨g3, g4, gy⟩
 refine WP.cut2 [4, 5] (fun (z : Inst) (p3 : Pl) => OkP p3 ∧ dFar bs y p2 = (z, p3)) (fun (z : Inst) (p3 : Pl) => []) (fun (z : Inst) (p3 : Pl) => blk b5 111 (instT.enc z) :: sPl b cv p3 :: blk b4 111 [vi 0, vi 0, vi 0, vi 0, vi 0, vi 0, vi 0, vi 0] :: L) ?_ ?_
 refine WP.sr (RG.p (PV.move rfl rfl) ?_)
 refine RG.callF (vs := [_, _]) rfl rfl En57 rfl (CallT.exB (b := b) (nextP_s hcode (by assumption) (by omega) (fun w39 pw39 ew39 ow39 hw39 => ?_)))
 refine RG.p (PV.eql rfl rfl rfl) (RG.nil ?_)
 ·refine WP.cond rfl (fun h4 => ?_) fun h4 => ?_
  ·have h4 := odt h4
   refine WP.region (RG.p (PV.field rfl Fo111_1 rfl) (RG.p (PV.field rfl Fo87_1 rfl) (RG.p (PV.load1 rfl Sc2 rfl (Rd.blk rfl)) (RG.p (PV.mul rfl rfl rfl (by omega)) (RG.p (PV.field rfl Fo111_1 rfl) (RG.p (PV.field rfl Fo87_1 rfl) ?_))))))
   refine RG.ot rfl (OT.storeB (vs := [vi _]) (cs' := [_, _, _, _, _, _, _, _]) rfl Sz2 rfl rfl (Cl.c rfl) rfl (OneC.c rfl) rfl rfl ?_)
   refine RG.nil ?_
   exact ⟨rfl, ⟨y.cell, ⟨y.place.o, y.place.x * 6, y.place.y⟩, y.cols, y.rows, y.sx, y.sy⟩, pw39, ⟨by assumption, by simp only [dFar, ew39, h4, if_true]⟩, trivial, ⟨rfl, rfl, trivial⟩, Cv.p⟩
  ·have h4 := odf h4
   refine WP.skip ?_
   exact ⟨rfl, y, pw39, ⟨by assumption, by simp only [dFar, ew39, h4, if_false]⟩, trivial, ⟨rfl, rfl, trivial⟩, Cv.p⟩
 rintro z p3 τ3 ⟨g5, g6⟩
 refine WP.sr (RG.p (PV.loadW rfl Ag111 rfl rfl) ?_)
 refine RG.ot rfl (OT.storeW (vs := [vi _, vi _, vi _, vi _, vi _, vi _, vi _, vi _]) rfl Sz111 rfl rfl (Cl.c rfl) rfl rfl (OneC.c rfl) ?_)
 refine RG.nil ?_
 exact WP.ret ⟨_, _, ResV.one rfl (RV1.cell rfl Ag111 rfl), Cv.p, k z p3 (by simp only [dIns, ew8, ew10, ew12, ew15, g2, g4, g6]) g5⟩
abbrev vrule (r : Rule) : Value := vT ruleT r
def paired (k : Int) : Bool := decide (k = 2) || decide (k = 3)
def okVal (r : Rule) : Bool := if r.kind = 4 then within r.value 1 6400 else if r.kind = 5 then within r.value 4 40 else within r.value 1 8
def okPct (r : Rule) : Bool := if r.kind = 5 then within r.percent 1 100 else decide (r.percent = 0)
def okOther (r : Rule) : Bool := bif paired r.kind then within r.other 0 7 && !decide (r.other = r.layer) else decide (r.other = 0)
def validRule (r : Rule) : Bool := within r.kind 0 5 && within r.layer 0 7 && okOther r && okVal r && okPct r
theorem l16In_s {a b c : Int} (k : R (.bool (within a b c)) G L) : CallT Tryz.prog 82 #[vi a, vi b, vi c] G L R := by
 refine CallT.enter (args := _) Tryz.func82 rfl rfl (by kernel_rfl) rfl ?_
 refine WP.sr (RG.br rfl (RG.nil (WP.sr (RG.ml rfl (RG.ml rfl (RG.p (PV.geq rfl rfl rfl) (RG.bl rfl ?_)))))))
 refine RG.g rfl (fun hp => (PV.mvI (.inl rfl) rfl)) ?_
 refine RG.g rfl (fun hp => (PV.mvI (.inl rfl) rfl)) ?_
 refine RG.g rfl (fun hp => (PV.leq rfl (gt' hp) (gt' hp))) ?_
 refine RG.p (PV.pickA rfl rfl (fun hq => gt' (geqT hq)) rfl) (RG.br rfl (RG.nil ?_))
 exact WP.ret ⟨_, _, rv rfl rfl, Cv.p, k⟩
theorem l16Paired_s {a : Int} (k : R (.bool (paired a)) G L) : CallT Tryz.prog 84 #[vi a] G L R := by
 refine CallT.enter (args := _) Tryz.func84 rfl rfl (by kernel_rfl) rfl ?_
 refine WP.sr (RG.br rfl (RG.nil (WP.sr (RG.ml rfl (RG.p (PV.eql rfl rfl rfl) (RG.bl rfl ?_))))))
 refine RG.g rfl (fun hp => (PV.mvI (.inl rfl) rfl)) ?_
 refine RG.g rfl (fun hp => (PV.eql rfl (gt' hp) rfl)) ?_
 refine RG.p (PV.pickO rfl rfl rfl (fun hq => gt' (geqF hq))) (RG.br rfl (RG.nil ?_))
 exact WP.ret ⟨_, _, rv rfl rfl, Cv.p, k⟩
theorem hasOther_s {a : Int} (k : R (.bool (paired a)) G L) : CallT Tryz.prog 86 #[vi a] G L R := by
 refine CallT.enter (args := _) Tryz.func86 rfl rfl (by kernel_rfl) rfl ?_
 refine WP.sr (RG.br rfl (RG.nil (WP.sr (RG.ml rfl (RG.p (PV.eql rfl rfl rfl) (RG.bl rfl ?_))))))
 refine RG.g rfl (fun hp => (PV.mvI (.inl rfl) rfl)) ?_
 refine RG.g rfl (fun hp => (PV.eql rfl (gt' hp) rfl)) ?_
 refine RG.p (PV.pickO rfl rfl rfl (fun hq => gt' (geqF hq))) (RG.br rfl (RG.nil ?_))
 exact WP.ret ⟨_, _, rv rfl rfl, Cv.p, k⟩
theorem l20Paired_s {r : Rule} (k : R (.bool (paired r.kind)) G L) : CallT Tryz.prog 75 #[vrule r] G L R := by
 refine CallT.enter (args := _) Tryz.func75 rfl rfl (by kernel_rfl) rfl ?_
 refine WP.sr ?_
 refine RG.ot rfl (OT.box (cs := ruleT.enc r) rfl rfl rfl fun b1 => ?_)
 refine RG.br rfl (RG.nil (WP.sr (RG.p (PV.field rfl Fo42_0 rfl) (RG.p (PV.load1 rfl Sc2 rfl (Rd.blk rfl)) (RG.p (PV.eql rfl rfl rfl) (RG.bl rfl ?_))))))
 refine RG.g rfl (fun hp => (PV.field rfl Fo42_0 rfl)) ?_
 refine RG.g rfl (fun hp => (PV.load1 rfl Sc2 (gt' hp) (Rd.blk rfl))) ?_
 refine RG.g rfl (fun hp => (PV.eql rfl (gt' hp) rfl)) ?_
 refine RG.p (PV.pickO rfl rfl rfl (fun hq => gt' (geqF hq))) (RG.br rfl (RG.nil ?_))
 exact WP.ret ⟨_, _, rv rfl rfl, Cv.p, k⟩
theorem l16Value_s {r : Rule} (k : R (.bool (okVal r)) G L) : CallT Tryz.prog 83 #[vrule r] G L R := by
 refine CallT.enter (args := _) Tryz.func83 rfl rfl (by kernel_rfl) rfl ?_
 refine WP.sr ?_
 refine RG.ot rfl (OT.box (cs := ruleT.enc r) rfl rfl rfl fun b1 => ?_)
 refine RG.br rfl (RG.nil (WP.seq (WP.sr (RG.p (PV.field rfl Fo42_0 rfl) (RG.p (PV.load1 rfl Sc2 rfl (Rd.blk rfl)) (RG.nil (WP.block (WP.sr (RG.p (PV.eql rfl rfl rfl) (RG.br rfl (RG.nil ?_)))))))))))
 refine WP.cond rfl (fun h1 => ?_) fun h1 => ?_
 ·have h1 := odt h1
  rw [okVal, if_pos h1] at k
  refine WP.sr (RG.p (PV.field rfl Fo42_3 rfl) (RG.p (PV.load1 rfl Sc2 rfl (Rd.blk rfl)) ?_))
  refine RG.callF (vs := [_, _, _]) rfl rfl En82 rfl (l16In_s ?_)
  refine RG.br rfl (RG.nil ?_)
  exact WP.ret ⟨_, _, rv rfl rfl, Cv.p, k⟩
 ·have h1 := odf h1
  rw [okVal, if_neg h1] at k
  refine WP.sr (RG.p (PV.eql rfl rfl rfl) (RG.br rfl (RG.nil ?_)))
  refine WP.cond rfl (fun h2 => ?_) fun h2 => ?_
  ·have h2 := odt h2
   rw [if_pos h2] at k
   refine WP.sr (RG.p (PV.field rfl Fo42_3 rfl) (RG.p (PV.load1 rfl Sc2 rfl (Rd.blk rfl)) ?_))
   refine RG.callF (vs := [_, _, _]) rfl rfl En82 rfl (l16In_s ?_)
   refine RG.br rfl (RG.nil ?_)
   exact WP.ret ⟨_, _, rv rfl rfl, Cv.p, k⟩
  ·have h2 := odf h2
   rw [if_neg h2] at k
   refine WP.skip (WP.sr (RG.p (PV.field rfl Fo42_3 rfl) (RG.p (PV.load1 rfl Sc2 rfl (Rd.blk rfl)) ?_)))
   refine RG.callF (vs := [_, _, _]) rfl rfl En82 rfl (l16In_s ?_)
   refine RG.br rfl (RG.nil ?_)
   exact WP.ret ⟨_, _, rv rfl rfl, Cv.p, k⟩
theorem okOther_false {r : Rule} (h : (paired r.kind && (!within r.other 0 7 || decide (r.other = r.layer)) || !paired r.kind && !decide (r.other = 0)) = true) : okOther r = false := by
 unfold okOther; revert h
 cases paired r.kind <;> cases within r.other 0 7 <;> cases decide (r.other = r.layer) <;> cases decide (r.other = 0) <;> simp
theorem okOther_true {r : Rule} (h : (paired r.kind && (!within r.other 0 7 || decide (r.other = r.layer)) || !paired r.kind && !decide (r.other = 0)) = false) : okOther r = true := by
 unfold okOther; revert h
 cases paired r.kind <;> cases within r.other 0 7 <;> cases decide (r.other = r.layer) <;> cases decide (r.other = 0) <;> simp
theorem validRule_s {r : Rule} (k : R (.bool (validRule r)) G L) : CallT Tryz.prog 41 #[vrule r] G L R := by
 refine CallT.enter (args := _) Tryz.func41 rfl rfl (by kernel_rfl) rfl ?_
 refine WP.sr ?_
 refine RG.ot rfl (OT.box (cs := ruleT.enc r) rfl rfl rfl fun b1 => ?_)
 refine RG.br rfl (RG.nil (WP.seq (WP.sr (RG.p (PV.field rfl Fo42_0 rfl) (RG.p (PV.load1 rfl Sc2 rfl (Rd.blk rfl)) ?_)))))
 refine RG.callF (vs := [_, _, _]) rfl rfl En82 rfl (l16In_s ?_)
 refine RG.p (PV.not rfl rfl) (RG.bl rfl ?_)
 refine RG.g rfl (fun hp => (PV.field rfl Fo42_1 rfl)) ?_
 refine RG.g rfl (fun hp => (PV.load1 rfl Sc2 (gt' hp) (Rd.blk rfl))) ?_
 refine RG.gsC rfl rfl rfl rfl En82 (fun hp => ⟨_, (acons (gt' hp) (acons rfl (acons rfl anil))), l16In_s ⟨rfl, rfl, rfl⟩⟩) ?_
 refine RG.g rfl (fun hp => (PV.not rfl (gt' hp))) ?_
 refine RG.p (PV.pickO rfl rfl rfl (fun hq => gt' (geqF hq))) (RG.bl rfl ?_)
 refine RG.g rfl (fun hp => (PV.loadW rfl Ag42 rfl rfl)) ?_
 refine RG.gsC rfl rfl rfl rfl En83 (fun hp => ⟨_, (acons (gt' hp) anil), l16Value_s ⟨rfl, rfl, rfl⟩⟩) ?_
 refine RG.g rfl (fun hp => (PV.not rfl (gt' hp))) ?_
 refine RG.p (PV.pickO rfl rfl rfl (fun hq => gt' (geqF hq))) (RG.nil ?_)
 refine WP.cond rfl (fun h1 => ?_) fun h1 => ?_
 ·have e : validRule r = false := by
   unfold validRule; revert h1
   cases within r.kind 0 5 <;> cases within r.layer 0 7 <;> cases okVal r <;> simp
  rw [e] at k
  refine WP.sr (RG.br rfl (RG.nil ?_))
  exact WP.ret ⟨_, _, rv rfl rfl, Cv.p, k⟩
 ·have e : validRule r = (okOther r && okPct r) := by
   unfold validRule; revert h1
   cases within r.kind 0 5 <;> cases within r.layer 0 7 <;> cases okVal r <;> simp
  rw [e] at k
  refine WP.skip (WP.seq (WP.sr (RG.p (PV.field rfl Fo42_0 rfl) (RG.p (PV.load1 rfl Sc2 rfl (Rd.blk rfl)) ?_))))
  refine RG.callF (vs := [_]) rfl rfl En84 rfl (l16Paired_s ?_)
  refine RG.bl rfl ?_
  refine RG.g rfl (fun hp => (PV.field rfl Fo42_2 rfl)) ?_
  refine RG.g rfl (fun hp => (PV.load1 rfl Sc2 (gt' hp) (Rd.blk rfl))) ?_
  refine RG.gsC rfl rfl rfl rfl En82 (fun hp => ⟨_, (acons (gt' hp) (acons rfl (acons rfl anil))), l16In_s ⟨rfl, rfl, rfl⟩⟩) ?_
  refine RG.g rfl (fun hp => (PV.not rfl (gt' hp))) ?_
  refine RG.g rfl (fun hp => (PV.mvB (.inl rfl) (gt' hp))) ?_
  refine RG.gs2 rfl rfl rfl (fun hp => (PV.field rfl Fo42_2 rfl)) (RG.gs2 rfl rfl rfl (fun hp => (PV.load1 rfl Sc2 (gt' hp) (Rd.blk rfl))) (RG.gs2 rfl rfl rfl (fun hp => (PV.field rfl Fo42_1 rfl)) (RG.gs2 rfl rfl rfl (fun hp => (PV.load1 rfl Sc2 (gt' hp) (Rd.blk rfl))) (RG.gs2 rfl rfl rfl (fun hp => (PV.eql rfl (gt' hp) (gt' hp))) ?_))))
  refine RG.g rfl (fun hp => (PV.pickO rfl (gt' hp) rfl (fun hq => gt' (gandF hp hq)))) ?_
  refine RG.p (PV.pickA rfl rfl (fun hq => gt' (geqT hq)) rfl) (RG.bl rfl ?_)
  refine RG.g rfl (fun hp => (PV.field rfl Fo42_0 rfl)) ?_
  refine RG.g rfl (fun hp => (PV.load1 rfl Sc2 (gt' hp) (Rd.blk rfl))) ?_
  refine RG.gsC rfl rfl rfl rfl En84 (fun hp => ⟨_, (acons (gt' hp) anil), l16Paired_s ⟨rfl, rfl, rfl⟩⟩) ?_
  refine RG.g rfl (fun hp => (PV.not rfl (gt' hp))) ?_
  refine RG.g rfl (fun hp => (PV.mvB (.inl rfl) (gt' hp))) ?_
  refine RG.gs2 rfl rfl rfl (fun hp => (PV.field rfl Fo42_2 rfl)) (RG.gs2 rfl rfl rfl (fun hp => (PV.load1 rfl Sc2 (gt' hp) (Rd.blk rfl))) (RG.gs2 rfl rfl rfl (fun hp => (PV.neq rfl (gt' hp) rfl)) ?_))
  refine RG.g rfl (fun hp => (PV.pickA rfl (gt' hp) (fun hq => gt' (gandT hp hq)) rfl)) ?_
  refine RG.p (PV.pickO rfl rfl rfl (fun hq => gt' (geqF hq))) (RG.nil ?_)
  refine WP.cond rfl (fun h2 => ?_) fun h2 => ?_
  ·rw [okOther_false h2, Bool.false_and] at k
   refine WP.sr (RG.br rfl (RG.nil ?_))
   exact WP.ret ⟨_, _, rv rfl rfl, Cv.p, k⟩
  ·rw [okOther_true h2, Bool.true_and] at k
   refine WP.skip (WP.seq (WP.sr (RG.p (PV.field rfl Fo42_0 rfl) (RG.p (PV.load1 rfl Sc2 rfl (Rd.blk rfl)) (RG.p (PV.eql rfl rfl rfl) (RG.nil ?_))))))
   refine WP.cond rfl (fun h3 => ?_) fun h3 => ?_
   ·have h3 := odt h3
    rw [okPct, if_pos h3] at k
    refine WP.sr (RG.p (PV.field rfl Fo42_4 rfl) (RG.p (PV.load1 rfl Sc2 rfl (Rd.blk rfl)) ?_))
    refine RG.callF (vs := [_, _, _]) rfl rfl En82 rfl (l16In_s ?_)
    refine RG.br rfl (RG.nil ?_)
    exact WP.ret ⟨_, _, rv rfl rfl, Cv.p, k⟩
   ·have h3 := odf h3
    rw [okPct, if_neg h3] at k
    refine WP.skip (WP.sr (RG.p (PV.field rfl Fo42_4 rfl) (RG.p (PV.load1 rfl Sc2 rfl (Rd.blk rfl)) (RG.p (PV.eql rfl rfl rfl) (RG.br rfl (RG.nil ?_))))))
    exact WP.ret ⟨_, _, rv rfl rfl, Cv.p, k⟩
theorem validRule_i {r : Rule} (k : R (.bool (validRule r)) G L) : CallT Tryz.prog 47 #[vrule r] G L R := by
 refine CallT.enter (args := _) Tryz.func47 rfl rfl (by kernel_rfl) rfl ?_
 refine WP.sr ?_
 refine RG.ot rfl (OT.box (cs := ruleT.enc r) rfl rfl rfl fun b1 => ?_)
 refine RG.br rfl (RG.nil (WP.seq (WP.sr (RG.p (PV.field rfl Fo42_0 rfl) (RG.p (PV.load1 rfl Sc2 rfl (Rd.blk rfl)) ?_)))))
 refine RG.callF (vs := [_, _, _]) rfl rfl En56 rfl (within_s ?_)
 refine RG.p (PV.not rfl rfl) (RG.bl rfl ?_)
 refine RG.g rfl (fun hp => (PV.field rfl Fo42_1 rfl)) ?_
 refine RG.g rfl (fun hp => (PV.load1 rfl Sc2 (gt' hp) (Rd.blk rfl))) ?_
 refine RG.gsC rfl rfl rfl rfl En56 (fun hp => ⟨_, (acons (gt' hp) (acons rfl (acons rfl anil))), within_s ⟨rfl, rfl, rfl⟩⟩) ?_
 refine RG.g rfl (fun hp => (PV.not rfl (gt' hp))) ?_
 refine RG.p (PV.pickO rfl rfl rfl (fun hq => gt' (geqF hq))) (RG.nil ?_)
 refine WP.cond rfl (fun h1 => ?_) fun h1 => ?_
 ·have e : validRule r = false := by
   unfold validRule; revert h1
   cases within r.kind 0 5 <;> cases within r.layer 0 7 <;> simp
  rw [e] at k
  refine WP.sr (RG.br rfl (RG.nil ?_))
  exact WP.ret ⟨_, _, rv rfl rfl, Cv.p, k⟩
 ·have e : validRule r = (okOther r && (okVal r && okPct r)) := by
   unfold validRule; revert h1
   cases within r.kind 0 5 <;> cases within r.layer 0 7 <;> simp [Bool.and_assoc]
  rw [e] at k
  refine WP.skip (WP.seq (WP.sr (RG.p (PV.field rfl Fo42_0 rfl) (RG.p (PV.load1 rfl Sc2 rfl (Rd.blk rfl)) ?_))))
  refine RG.callF (vs := [_]) rfl rfl En86 rfl (hasOther_s ?_)
  refine RG.bl rfl ?_
  refine RG.g rfl (fun hp => (PV.field rfl Fo42_2 rfl)) ?_
  refine RG.g rfl (fun hp => (PV.load1 rfl Sc2 (gt' hp) (Rd.blk rfl))) ?_
  refine RG.gsC rfl rfl rfl rfl En56 (fun hp => ⟨_, (acons (gt' hp) (acons rfl (acons rfl anil))), within_s ⟨rfl, rfl, rfl⟩⟩) ?_
  refine RG.g rfl (fun hp => (PV.not rfl (gt' hp))) ?_
  refine RG.g rfl (fun hp => (PV.mvB (.inl rfl) (gt' hp))) ?_
  refine RG.gs2 rfl rfl rfl (fun hp => (PV.field rfl Fo42_2 rfl)) (RG.gs2 rfl rfl rfl (fun hp => (PV.load1 rfl Sc2 (gt' hp) (Rd.blk rfl))) (RG.gs2 rfl rfl rfl (fun hp => (PV.field rfl Fo42_1 rfl)) (RG.gs2 rfl rfl rfl (fun hp => (PV.load1 rfl Sc2 (gt' hp) (Rd.blk rfl))) (RG.gs2 rfl rfl rfl (fun hp => (PV.eql rfl (gt' hp) (gt' hp))) ?_))))
  refine RG.g rfl (fun hp => (PV.pickO rfl (gt' hp) rfl (fun hq => gt' (gandF hp hq)))) ?_
  refine RG.p (PV.pickA rfl rfl (fun hq => gt' (geqT hq)) rfl) (RG.bl rfl ?_)
  refine RG.g rfl (fun hp => (PV.field rfl Fo42_0 rfl)) ?_
  refine RG.g rfl (fun hp => (PV.load1 rfl Sc2 (gt' hp) (Rd.blk rfl))) ?_
  refine RG.gsC rfl rfl rfl rfl En86 (fun hp => ⟨_, (acons (gt' hp) anil), hasOther_s ⟨rfl, rfl, rfl⟩⟩) ?_
  refine RG.g rfl (fun hp => (PV.not rfl (gt' hp))) ?_
  refine RG.g rfl (fun hp => (PV.mvB (.inl rfl) (gt' hp))) ?_
  refine RG.gs2 rfl rfl rfl (fun hp => (PV.field rfl Fo42_2 rfl)) (RG.gs2 rfl rfl rfl (fun hp => (PV.load1 rfl Sc2 (gt' hp) (Rd.blk rfl))) (RG.gs2 rfl rfl rfl (fun hp => (PV.neq rfl (gt' hp) rfl)) ?_))
  refine RG.g rfl (fun hp => (PV.pickA rfl (gt' hp) (fun hq => gt' (gandT hp hq)) rfl)) ?_
  refine RG.p (PV.pickO rfl rfl rfl (fun hq => gt' (geqF hq))) (RG.nil ?_)
  refine WP.cond rfl (fun h2 => ?_) fun h2 => ?_
  ·rw [okOther_false h2, Bool.false_and] at k
   refine WP.sr (RG.br rfl (RG.nil ?_))
   exact WP.ret ⟨_, _, rv rfl rfl, Cv.p, k⟩
  ·rw [okOther_true h2, Bool.true_and] at k
   refine WP.skip (WP.seq (WP.sr (RG.p (PV.field rfl Fo42_0 rfl) (RG.p (PV.load1 rfl Sc2 rfl (Rd.blk rfl)) (RG.nil (WP.block (WP.sr (RG.p (PV.eql rfl rfl rfl) (RG.br rfl (RG.nil ?_))))))))))
   refine WP.cond rfl (fun h3 => ?_) fun h3 => ?_
   ·have h3 := odt h3
    rw [okVal, if_pos h3, okPct, if_neg (by omega)] at k
    refine WP.sr (RG.p (PV.field rfl Fo42_3 rfl) (RG.p (PV.load1 rfl Sc2 rfl (Rd.blk rfl)) ?_))
    refine RG.callF (vs := [_, _, _]) rfl rfl En56 rfl (within_s ?_)
    refine RG.bl rfl ?_
    refine RG.g rfl (fun hp => (PV.field rfl Fo42_4 rfl)) ?_
    refine RG.g rfl (fun hp => (PV.load1 rfl Sc2 (gt' hp) (Rd.blk rfl))) ?_
    refine RG.g rfl (fun hp => (PV.eql rfl (gt' hp) rfl)) ?_
    refine RG.p (PV.pickA rfl rfl (fun hq => gt' (geqT hq)) rfl) (RG.br rfl (RG.nil ?_))
    exact WP.ret ⟨_, _, rv rfl rfl, Cv.p, k⟩
   ·have h3 := odf h3
    rw [okVal, if_neg h3] at k
    refine WP.sr (RG.p (PV.eql rfl rfl rfl) (RG.br rfl (RG.nil ?_)))
    refine WP.cond rfl (fun h4 => ?_) fun h4 => ?_
    ·have h4 := odt h4
     rw [if_pos h4, okPct, if_pos h4] at k
     refine WP.sr (RG.p (PV.field rfl Fo42_3 rfl) (RG.p (PV.load1 rfl Sc2 rfl (Rd.blk rfl)) ?_))
     refine RG.callF (vs := [_, _, _]) rfl rfl En56 rfl (within_s ?_)
     refine RG.bl rfl ?_
     refine RG.g rfl (fun hp => (PV.field rfl Fo42_4 rfl)) ?_
     refine RG.g rfl (fun hp => (PV.load1 rfl Sc2 (gt' hp) (Rd.blk rfl))) ?_
     refine RG.gsC rfl rfl rfl rfl En56 (fun hp => ⟨_, (acons (gt' hp) (acons rfl (acons rfl anil))), within_s ⟨rfl, rfl, rfl⟩⟩) ?_
     refine RG.p (PV.pickA rfl rfl (fun hq => gt' (geqT hq)) rfl) (RG.br rfl (RG.nil ?_))
     exact WP.ret ⟨_, _, rv rfl rfl, Cv.p, k⟩
    ·have h4 := odf h4
     rw [if_neg h4, okPct, if_neg h4] at k
     refine WP.skip (WP.sr (RG.p (PV.field rfl Fo42_3 rfl) (RG.p (PV.load1 rfl Sc2 rfl (Rd.blk rfl)) ?_)))
     refine RG.callF (vs := [_, _, _]) rfl rfl En56 rfl (within_s ?_)
     refine RG.bl rfl ?_
     refine RG.g rfl (fun hp => (PV.field rfl Fo42_4 rfl)) ?_
     refine RG.g rfl (fun hp => (PV.load1 rfl Sc2 (gt' hp) (Rd.blk rfl))) ?_
     refine RG.g rfl (fun hp => (PV.eql rfl (gt' hp) rfl)) ?_
     refine RG.p (PV.pickA rfl rfl (fun hq => gt' (geqT hq)) rfl) (RG.br rfl (RG.nil ?_))
     exact WP.ret ⟨_, _, rv rfl rfl, Cv.p, k⟩
def reach (r : Rule) : Int := bif validRule r && decide (r.kind <= 3) then r.value else -1
theorem reach_bd {r : Rule} (h : 0 <= reach r) : reach r <= 8 := by
 revert h; unfold reach
 cases hv : validRule r <;> cases hk : decide (r.kind <= 3) <;> simp
 have hk := odt hk
 simp only [validRule, Bool.and_eq_true] at hv
 have := hv.1.2
 rw [okVal, if_neg (by omega), if_neg (by omega)] at this
 simp [within] at this; omega
theorem reach_neg (r : Rule) (h : (!validRule r || decide (3 < r.kind)) = true) : reach r = -1 := by
 revert h; unfold reach
 cases hv : validRule r <;> simp
 intro h; rw [decide_eq_false (by omega)]; rfl
theorem reach_pos (r : Rule) (h : (!validRule r || decide (3 < r.kind)) = false) : reach r = r.value := by
 revert h; unfold reach
 cases hv : validRule r <;> simp
 intro h; rw [decide_eq_true h]; rfl
theorem reach_s {r : Rule} (k : R (vi (reach r)) G L) : CallT Tryz.prog 15 #[vrule r] G L R := by
 refine CallT.enter (args := _) Tryz.func15 rfl rfl (by kernel_rfl) rfl ?_
 refine WP.sr ?_
 refine RG.ot rfl (OT.box (cs := ruleT.enc r) rfl rfl rfl fun b1 => ?_)
 refine RG.mr rfl (RG.nil (WP.seq (WP.sr (RG.p (PV.loadW rfl Ag42 rfl rfl) ?_))))
 refine RG.callF (vs := [_]) rfl rfl En41 rfl (validRule_s ?_)
 refine RG.p (PV.not rfl rfl) (RG.bl rfl ?_)
 refine RG.g rfl (fun hp => (PV.field rfl Fo42_0 rfl)) ?_
 refine RG.g rfl (fun hp => (PV.load1 rfl Sc2 (gt' hp) (Rd.blk rfl))) ?_
 refine RG.g rfl (fun hp => (PV.gtr rfl (gt' hp) rfl)) ?_
 refine RG.p (PV.pickO rfl rfl rfl (fun hq => gt' (geqF hq))) (RG.nil ?_)
 refine WP.cond rfl (fun h1 => ?_) fun h1 => ?_
 ·rw [reach_neg r h1] at k
  refine WP.sr (RG.mr rfl (RG.nil ?_))
  exact WP.ret ⟨_, _, rv rfl rfl, Cv.p, k⟩
 ·rw [reach_pos r h1] at k
  refine WP.skip (WP.sr (RG.p (PV.field rfl Fo42_3 rfl) (RG.p (PV.load1 rfl Sc2 rfl (Rd.blk rfl)) (RG.mr rfl (RG.nil ?_)))))
  exact WP.ret ⟨_, _, rv rfl rfl, Cv.p, k⟩
theorem reach_i {r : Rule} (k : R (vi (reach r)) G L) : CallT Tryz.prog 31 #[vrule r] G L R := by
 refine CallT.enter (args := _) Tryz.func31 rfl rfl (by kernel_rfl) rfl ?_
 refine WP.sr ?_
 refine RG.ot rfl (OT.box (cs := ruleT.enc r) rfl rfl rfl fun b1 => ?_)
 refine RG.mr rfl (RG.nil (WP.seq (WP.sr (RG.p (PV.loadW rfl Ag42 rfl rfl) ?_))))
 refine RG.callF (vs := [_]) rfl rfl En47 rfl (validRule_i ?_)
 refine RG.p (PV.not rfl rfl) (RG.bl rfl ?_)
 refine RG.g rfl (fun hp => (PV.field rfl Fo42_0 rfl)) ?_
 refine RG.g rfl (fun hp => (PV.load1 rfl Sc2 (gt' hp) (Rd.blk rfl))) ?_
 refine RG.g rfl (fun hp => (PV.gtr rfl (gt' hp) rfl)) ?_
 refine RG.p (PV.pickO rfl rfl rfl (fun hq => gt' (geqF hq))) (RG.nil ?_)
 refine WP.cond rfl (fun h1 => ?_) fun h1 => ?_
 ·rw [reach_neg r h1] at k
  refine WP.sr (RG.mr rfl (RG.nil ?_))
  exact WP.ret ⟨_, _, rv rfl rfl, Cv.p, k⟩
 ·rw [reach_pos r h1] at k
  refine WP.skip (WP.sr (RG.p (PV.field rfl Fo42_3 rfl) (RG.p (PV.load1 rfl Sc2 rfl (Rd.blk rfl)) (RG.mr rfl (RG.nil ?_)))))
  exact WP.ret ⟨_, _, rv rfl rfl, Cv.p, k⟩
theorem grown_s {v : Value} {xs : List Rect} {q : Int} (h1 : Rs G L rectT v xs) (hr : ∀ r ∈ xs, -40 <= r.x0 ∧ r.x0 < r.x1 ∧ r.x1 <= 40 ∧ -40 <= r.y0 ∧ r.y0 < r.y1 ∧ r.y1 <= 40) (hq : 0 <= q ∧ q <= 100) (k : ∀ b, R (.pointer (some ⟨b, 0, none⟩)) G (grd b (growB (bits xs) q) :: L)) : CallT Tryz.prog 237 #[v, vi q] G L R := by
 refine CallT.bd h1 fun hb => ?_
 refine CallT.enter (args := _) Tryz.func237 rfl rfl (by kernel_rfl) rfl ?_
 refine WP.sr (RG.p (PV.asg rfl rfl) (RG.nil (WP.sr (RG.p (PV.build0 rfl Tryz.underlying125 ⟨80, by kernel_rfl⟩ (zeroB_spec (n := 6400) (by kernel_rfl))) ?_))))
 refine RG.ot rfl (OT.boxG rfl rfl fun b9 => ?_)
 refine RG.p (PV.mvP (.inr rfl) rfl) (RG.nil (WP.seq (WP.sr (RG.p (PV.move (v := v) rfl rfl) (RG.p (PV.len (v := v) rfl Tryz.underlying50 rfl (SlF.r h1)) (RG.ml rfl (RG.nil (WP.block ?_))))))))
 refine WP.loop2 [1, 5, 10, 11] (fun (i : Nat) (cs : List Bool) => i <= xs.length ∧ cs.length = 6400 ∧ ∀ y x, y < 80 -> x < 80 -> gb cs y x = (xs.take i).any fun r => inR (enl q r) y x) (fun (i : Nat) (cs : List Bool) => [(12, vi i)]) (fun (i : Nat) (cs : List Bool) => grd b9 cs :: L) (fun (i : Nat) (cs : List Bool) => xs.length - i) 0 (List.replicate 6400 false) ⟨by omega, by simp, fun y x _ _ => by rw [gb_rep]; simp⟩ ⟨rfl, trivial⟩ Cv.p ?_
 rintro i cs τ ⟨hi, hl, hc⟩
 refine WP.sr (RG.p (PV.lss rfl rfl rfl) (RG.nil (WP.seq ?_)))
 refine WP.cond rfl (fun h2 => ?_) fun h2 => ?_
 ·have h2 := odt h2
  have h3 := hr (gd xs i) (by rw [gd_eq (by omega)]; exact List.getElem_mem _)
  refine WP.skip (WP.seq (WP.block (WP.sr (RG.p (PV.idxS (v := v) rfl Is50 rfl (SlF.r h1) rfl rfl (by omega)) (RG.p (PV.loadE rfl Ag101 rfl rfl (El.r h1 (getG (by omega)))) ?_)))))
  refine RG.ot rfl (OT.alloc rfl Zr101 fun b7 => ?_)
  refine RG.ot rfl (OT.storeW (vs := [vi _, vi _, vi _, vi _]) rfl Sz101 rfl rfl (Cl.c rfl) rfl rfl (OneC.c rfl) ?_)
  refine RG.nil (WP.region (RG.p (PV.mvP (.inl rfl) rfl) (RG.p (PV.field rfl Fo101_0 rfl) (RG.p (PV.load1 rfl Sc2 rfl (Rd.blk rfl)) (RG.ml rfl (RG.p (PV.sub rfl rfl rfl (by omega)) (RG.p (PV.field rfl Fo101_1 rfl) (RG.p (PV.load1 rfl Sc2 rfl (Rd.blk rfl)) (RG.ml rfl (RG.p (PV.sub rfl rfl rfl (by omega)) (RG.p (PV.field rfl Fo101_2 rfl) (RG.p (PV.load1 rfl Sc2 rfl (Rd.blk rfl)) (RG.ml rfl ?_)))))))))))))
  refine RG.p (PV.add rfl rfl rfl (by omega)) (RG.p (PV.field rfl Fo101_3 rfl) (RG.p (PV.load1 rfl Sc2 rfl (Rd.blk rfl)) (RG.ml rfl (RG.p (PV.add rfl rfl rfl (by omega)) (RG.p (PV.build (vs := [(0, [vi _]), (1, [vi _]), (2, [vi _]), (3, [vi _])]) (out := [_, _, _, _]) rfl Zr101 Pl101 ⟨rfl, (Cl.c rfl), ⟨rfl, (Cl.c rfl), ⟨rfl, (Cl.c rfl), ⟨rfl, (Cl.c rfl), trivial⟩⟩⟩⟩ rfl) ?_)))))
  refine RG.callF (vs := [(.pointer (some ⟨b9, 0, none⟩)), _]) rfl rfl En68 rfl (CallT.exB (put_s (r := ⟨_, _, _, _⟩) (by assumption) (fun bs' hb' hg' => ?_)))
  refine RG.nil (WP.region (RG.p (PV.add rfl rfl rfl (by omega)) (RG.ml rfl (RG.nil ?_))))
  refine ⟨rfl, i + 1, bs', ⟨by omega, hb', fun y x h5 h6 => ?_⟩, ⟨rfl, trivial⟩, ⟨rfl, rfl, rfl, rfl, trivial⟩, Cv.p, by omega⟩
  rw [hg' y x h5 h6, hc y x h5 h6, List.take_add_one, getG (by omega), List.any_append]; simp [enl]
 ·have h2 := odf h2
  have e : cs = growB (bits xs) q := gb_ext hl (growB_len _ _) fun y x h5 h6 => by
   rw [hc y x h5 h6, List.take_of_length_le (by omega)]; exact grow_enl hq.1 hr h5 h6
  subst e
  refine WP.exit (WP.sr (RG.p (PV.mvP (.inl rfl) rfl) (RG.p (PV.mvP (.inr rfl) rfl) (RG.nil ?_))))
  exact WP.ret ⟨_, _, rv rfl rfl, Cv.p, k b9⟩
theorem grow_s {v : Value} {xs : List Rect} {q : Int} (h1 : Rs G L rectT v xs) (hr : ∀ r ∈ xs, -40 <= r.x0 ∧ r.x0 < r.x1 ∧ r.x1 <= 40 ∧ -40 <= r.y0 ∧ r.y0 < r.y1 ∧ r.y1 <= 40) (hq : 0 <= q ∧ q <= 100) (k : ∀ v', R v' G (osl 101 rectT v' (canon (growB (bits xs) q)) :: L)) : CallT Tryz.prog 196 #[v, vi q] G L R := by
 refine CallT.enter (args := _) Tryz.func196 rfl rfl (by kernel_rfl) rfl ?_
 refine WP.sr (RG.p (PV.asg rfl rfl) (RG.nil (WP.sr (RG.p (PV.move (v := v) rfl rfl) (RG.ml rfl ?_)))))
 refine RG.callF (vs := [v, _]) rfl rfl En237 rfl (grown_s (Rs.up h1) hr hq (fun b7 => ?_))
 refine RG.callF (vs := [_]) rfl rfl En69 rfl (CallT.exB (region_s (growB_len _ _) (fun v8 => ?_)))
 refine RG.p (PV.asg (v := v8) rfl rfl) (RG.nil ?_)
 exact WP.ret ⟨_, _, rv rfl rfl, Cv.p, k v8⟩
def ttT : List ByteArray := [ByteArray.mk #[], ByteArray.mk #[65], ByteArray.mk #[97, 98, 99, 100, 101, 102, 103, 104, 105], ByteArray.mk #[97, 32, 98]]
def dBx9 (bs : List UInt8) (p : Pl) : Rect × Pl :=
  match nx bs p 90 with
  | (a, p1) => match nx bs p1 90 with
  | (b, p2) => match nx bs p2 90 with
  | (c, p3) => match nx bs p3 90 with
  | (d, p4) => (⟨a - 45, b - 45, c - 45, d - 45⟩, p4)
def dOdd (bs : List UInt8) (cs : List ECell) (k : Int) (c : ECell) (p : Pl) : ECell × Pl :=
  match nx bs p 16 with
  | (a, p1) =>
    if a = 0 then (⟨(gd cs 0).name, c.shapes, c.labels, c.insts⟩, p1)
    else if a = 1 then (match nx bs p1 4 with | (t, p2) => (⟨gd ttT t.toNat, c.shapes, c.labels, c.insts⟩, p2))
    else if a = 2 then (match nx bs p1 12 with | (l, p2) => match dBx9 bs p2 with | (r, p3) => (⟨c.name, c.shapes ++ [⟨l - 2, r⟩], c.labels, c.insts⟩, p3))
    else if a = 3 then (match dIns bs (k + 1) p1 with | (i, p2) => match nx bs p2 6 with | (w, p3) => match nx bs p3 200 with | (y, p4) => (⟨c.name, c.shapes, c.labels, c.insts ++ [⟨i.cell, i.place, i.cols, w, i.sx, y - 100⟩]⟩, p4))
    else if a = 4 then (match nx bs p1 10 with | (l, p2) => match nx bs p2 90 with | (x, p3) => match nx bs p3 90 with | (y, p4) => match dName bs p4 with | (n, p5) => (⟨c.name, c.shapes, c.labels ++ [⟨l - 1, ⟨x - 45, y - 45⟩, n⟩], c.insts⟩, p5))
    else if a = 5 then (match dShps bs 25 c.shapes p1 with | (ss, p2) => (⟨c.name, ss, c.labels, c.insts⟩, p2))
    else (c, p1)
def dAny (bs : List UInt8) (p : Pl) : List ECell × Pl :=
  match dLibF bs p with
  | (cs, p1) => match nx bs p1 cs.length with
  | (k, p2) => match dOdd bs cs k (gd cs k.toNat) p2 with
  | (c, p3) => (cs.set k.toNat c, p3)
def dIdx (bs : List UInt8) (cs : List ECell) (p : Pl) : Int × Pl :=
  match nx bs p 12 with
  | (a, p1) => if a = 0 then (match nx bs p1 3 with | (k, p2) => (gd [(-1 : Int), (cs.length : Int), 7] k.toNat, p2)) else nx bs p1 cs.length
def dTop (bs : List UInt8) (p : Pl) : (List ECell × Int) × Pl :=
  match nx bs p 16 with
  | (a, p1) =>
    if a = 0 then (match dAny bs p1 with | (cs, p2) => match dIdx bs cs p2 with | (n, p3) => ((cs, n), p3))
    else (match dLibF bs p1 with | (cs, p2) => match nx bs p2 6 with | (c, p3) => if c = 0 then (match dIdx bs cs p3 with | (n, p4) => ((cs, n), p4)) else ((cs, (cs.length : Int) - 1), p3))
def dSh1 (bs : List UInt8) (l : Int) (p : Pl) : Shape × Pl :=
  match nx bs p 2 with
  | (a, p1) => match dBox bs p1 with
  | (r, p2) => (⟨(l + a) % 8, r⟩, p2)
def dSh1s (bs : List UInt8) (k : Int) : Nat -> List Shape -> Pl -> List Shape × Pl
  | 0, l, p => (l, p)
  | n + 1, l, p => dSh1s bs k n (l ++ [(dSh1 bs k p).1]) (dSh1 bs k p).2
def dIn1 (bs : List UInt8) (p : Pl) : Inst × Pl :=
  match nx bs p 8 with
  | (o, p1) => match nx bs p1 50 with
  | (x, p2) => match nx bs p2 50 with
  | (y, p3) => match nx bs p3 3 with
  | (a, p4) => if a = 0 then (match nx bs p4 31 with | (d, p5) => (⟨0, ⟨o, x - 25, y - 25⟩, 2, 1, d - 15, 0⟩, p5)) else (⟨0, ⟨o, x - 25, y - 25⟩, 1, 1, 0, 0⟩, p4)
def dIn1s (bs : List UInt8) : Nat -> List Inst -> Pl -> List Inst × Pl
  | 0, l, p => (l, p)
  | n + 1, l, p => dIn1s bs n (l ++ [(dIn1 bs p).1]) (dIn1 bs p).2
def dTop2 (bs : List UInt8) (p : Pl) : (List ECell × Int) × Pl :=
  match nx bs p 8 with
  | (l, p1) => match nx bs p1 3 with
  | (a, p2) => match dSh1s bs l (a + 1).toNat [] p2 with
  | (s1, p3) => match nx bs p3 3 with
  | (b, p4) => match dSh1s bs l b.toNat [] p4 with
  | (s2, p5) => match nx bs p5 3 with
  | (c, p6) => match dIn1s bs (c + 1).toNat [] p6 with
  | (is, p7) => match nx bs p7 9 with
  | (d, p8) => if d = 0 then dTop bs p8 else (([⟨txt [97], s1, [], []⟩, ⟨txt [98], s2, [], is⟩], 1), p8)
def lay0 (cs : List ECell) : Int := match cs with | ⟨_, s :: _, _, _⟩ :: _ => s.layer | _ => 0
def dRu (bs : List UInt8) (cs : List ECell) (p : Pl) : Rule × Pl :=
  match nx bs p 4 with
  | (a, p1) => match nx bs p1 5 with
  | (v, p2) => match nx bs p2 12 with
  | (c, p3) => match nx bs p3 14 with
  | (d, p4) => (⟨if c = 0 then 4 else a, lay0 cs, if c = 0 then 0 else if paired a = true then Int.tmod (lay0 cs + 1) 8 else 0, if d = 0 then 0 else v + 1, 0⟩, p4)
def smC (N : Nat) (cs : List ECell) : Prop := ∀ i, i < cs.length -> ((gd cs i).name.size <= 9 ∧ (∀ j, j < (gd cs i).labels.length -> (gd (gd cs i).labels j).name.size <= 9) ∧ ∀ j, j < (gd cs i).shapes.length -> -2 <= (gd (gd cs i).shapes j).layer ∧ (gd (gd cs i).shapes j).layer <= 9) ∧ (gd cs i).shapes.length <= N ∧ (gd cs i).labels.length <= N ∧ (gd cs i).insts.length <= N
theorem smC.app {N : Nat} {cs : List ECell} {c : ECell} (h : smC N cs) (hn : c.name.size <= 9) (hl : ∀ j, j < c.labels.length -> (gd c.labels j).name.size <= 9) (hs : ∀ j, j < c.shapes.length -> -2 <= (gd c.shapes j).layer ∧ (gd c.shapes j).layer <= 9) (hN : c.shapes.length <= N ∧ c.labels.length <= N ∧ c.insts.length <= N) : smC N (cs ++ [c]) := fun i hi => by
 have hi : i < cs.length + 1 := by simpa using hi
 by_cases e : i = cs.length
 ·subst e; rw [gd_app_r]; exact ⟨⟨hn, hl, hs⟩, hN⟩
 ·rw [gd_app_l (by omega)]; exact h i (by omega)
theorem smC.mono {N M : Nat} {cs : List ECell} (h : smC N cs) (hm : N <= M) : smC M cs := fun i hi => by
 obtain ⟨h1, h2, h3, h4⟩ := h i hi
 exact ⟨h1, by omega, by omega, by omega⟩
theorem smC.lenC {N : Nat} {cs : List ECell} (h : smC N cs) : Go.Proofs.YtogocmlhnjiaaaaGreat.lenC cs := fun i hi => by
 obtain ⟨⟨h1, h2, _⟩, _⟩ := h i hi
 refine ⟨by omega, fun j hj => ?_⟩
 have := h2 j hj
 omega
theorem u8let {i : Int} (h : 0 <= i ∧ i <= 25) : IntKind.u8.wrap (97 + i) = ((UInt8.ofNat (97 + i.toNat)).toNat : Int) := by
 have e : IntKind.u8.wrap (97 + i) = 97 + i := by simp [IntKind.wrap, IntKind.bits, IntKind.signed]; omega
 rw [e, UInt8.toNat_ofNat']; omega
theorem erCls_app (xs : List Cell) (c : Cell) : erCls (xs ++ [c]) = erCls xs ++ [erCl c] := by simp [erCls]
theorem Cv.cellNew3 {xs : List Cell} {q a1 a2 a3 : Value} {nm : ByteArray} {s1 : List Shape} {s2 : List Inst} {s3 : List Label} {e0 e1 e2 e3 : TypeId} : Cv (osl e1 shapeT a1 s1 :: osl e2 labelT a3 s3 :: osl e3 instT a2 s2 :: osl e0 cellT q (xs ++ [⟨nm, ⟨a1, s1⟩, ⟨a3, s3⟩, ⟨a2, s2⟩⟩]) :: bagS e1 shapeT (shs xs) :: bagS e2 labelT (lbs xs) :: bagS e3 instT (ins xs) :: L)
  (osl e0 cellT q (xs ++ [⟨nm, ⟨a1, s1⟩, ⟨a3, s3⟩, ⟨a2, s2⟩⟩]) :: bagS e1 shapeT (shs (xs ++ [⟨nm, ⟨a1, s1⟩, ⟨a3, s3⟩, ⟨a2, s2⟩⟩])) :: bagS e2 labelT (lbs (xs ++ [⟨nm, ⟨a1, s1⟩, ⟨a3, s3⟩, ⟨a2, s2⟩⟩])) :: bagS e3 instT (ins (xs ++ [⟨nm, ⟨a1, s1⟩, ⟨a3, s3⟩, ⟨a2, s2⟩⟩])) :: L) := by
 have h := Cv.grow3 (e1 := e1) (e2 := e2) (e3 := e3) (F1 := shapeT) (F2 := labelT) (F3 := instT) (u1 := a1) (us1 := s1) (u2 := a3) (us2 := s3) (u3 := a2) (us3 := s2) (y1 := shs xs) (y2 := lbs xs) (y3 := ins xs) (L := L)
  (y1' := shs (xs ++ [⟨nm, ⟨a1, s1⟩, ⟨a3, s3⟩, ⟨a2, s2⟩⟩])) (y2' := lbs (xs ++ [⟨nm, ⟨a1, s1⟩, ⟨a3, s3⟩, ⟨a2, s2⟩⟩])) (y3' := ins (xs ++ [⟨nm, ⟨a1, s1⟩, ⟨a3, s3⟩, ⟨a2, s2⟩⟩])) (by simp [shs]) (by simp [lbs]) (by simp [ins])
 exact (Cv.p (C := osl e0 cellT q (xs ++ [⟨nm, ⟨a1, s1⟩, ⟨a3, s3⟩, ⟨a2, s2⟩⟩]) :: osl e1 shapeT a1 s1 :: osl e2 labelT a3 s3 :: osl e3 instT a2 s2 :: bagS e1 shapeT (shs xs) :: bagS e2 labelT (lbs xs) :: bagS e3 instT (ins xs) :: L)).trans (Cv.cons h)
theorem dLibF_s {b : Nat} {cv : Value} {bs : List UInt8} {p : Pl} (hcode : SL G byteT cv bs) (hp : OkP p) (k : ∀ v xs p', dLibF bs p = (erCls xs, p') -> OkP p' -> smC 10 (erCls xs) -> 1 <= xs.length -> xs.length <= 4 -> R (vT libT ⟨⟨v, xs⟩⟩) G (osl 95 cellT v (xs) :: bagS 109 shapeT (shs (xs)) :: bagS 182 labelT (lbs (xs)) :: bagS 111 instT (ins (xs)) :: sPl b cv p' :: L)) : CallT Tryz.prog 164 #[.pointer (some ⟨b, 0, none⟩)] G (sPl b cv p :: L) R := by
 refine CallT.enter (args := _) Tryz.func164 rfl rfl (by kernel_rfl) rfl ?_
 refine WP.sr ?_
 refine RG.ot rfl (OT.alloc rfl Zr26 fun b2 => ?_)
 refine RG.nil (WP.sr (RG.p (PV.build (vs := []) (out := [_]) rfl Zr26 Pl26 trivial rfl) ?_))
 refine RG.ot rfl (OT.alloc rfl Zr26 fun b3 => ?_)
 refine RG.ot rfl (OT.storeW (vs := [_]) rfl Sz26 rfl rfl (Cl.c rfl) rfl rfl (OneC.c rfl) ?_)
 refine RG.nil (WP.sr (RG.p (PV.move rfl rfl) ?_))
 refine RG.callF (vs := [_, _]) rfl rfl En57 rfl (CallT.exB (b := b) (nextP_s hcode (by assumption) (by omega) (fun w12 pw12 ew12 ow12 hw12 => ?_)))
 refine RG.p (PV.add rfl rfl rfl (by omega)) (RG.mr rfl (RG.nil (WP.seq (WP.sr (RG.mr rfl (RG.nil (WP.block ?_)))))))
 refine WP.cv (Cv.p (C := blk b3 26 [.slice none 0 0] :: blk b2 26 [.slice none 0 0] :: sPl b cv pw12 :: L)) ?_
 refine WP.cv ((((Cv.bag0 (e := 111) (F := instT) (xs := ins []) rfl).trans ((Cv.bag0 (e := 182) (F := labelT) (xs := lbs []) rfl).trans ((Cv.bag0 (e := 109) (F := shapeT) (xs := shs []) rfl).trans (Cv.nilS (e := 95) (F := cellT))))))) ?_
 refine WP.loop4 [0, 2, 3, 4] (fun (i : Int) (xs : List Cell) (q : Value) (pp : Pl) => (0 <= i ∧ i <= 1 + w12 ∧ 1 + w12 <= 4) ∧ xs.length = i.toNat ∧ smC 10 (erCls xs) ∧ OkP pp ∧ dCels bs (1 + w12 - i).toNat i (erCls xs) pp = dCels bs (1 + w12).toNat 0 [] pw12) (fun (i : Int) (xs : List Cell) (q : Value) (pp : Pl) => [(5, vi i)]) (fun (i : Int) (xs : List Cell) (q : Value) (pp : Pl) => osl 95 cellT q (xs) :: bagS 109 shapeT (shs (xs)) :: bagS 182 labelT (lbs (xs)) :: bagS 111 instT (ins (xs)) :: blk b3 26 [q] :: blk b2 26 [.slice none 0 0] :: sPl b cv pp :: L) (fun (i : Int) (xs : List Cell) (q : Value) (pp : Pl) => (1 + w12 - i).toNat) 0 [] (.slice none 0 0) pw12 ⟨by omega, rfl, fun i hi => by simp [erCls] at hi, by assumption, by simp [erCls]⟩ ⟨(by kernel_rfl), trivial⟩ Cv.p ?_
 rintro i xs q pp τ ⟨h0, h1, h2, h3, hd⟩
 refine WP.seq (WP.sr (RG.ml rfl (RG.ml rfl (RG.p (PV.lss rfl rfl rfl) (RG.nil ?_)))))
 refine WP.cond rfl (fun h5 => ?_) fun h5 => ?_
 ·have h5 := odt h5
  refine WP.skip (WP.seq (WP.block ?_))
  refine WP.cut3 [0, 2, 3, 4, 5] (fun (b6 : Nat) (nm : ByteArray) (p1 : Pl) => OkP p1 ∧ nm.size <= 9 ∧ (∃ n0, dName bs pp = (n0, p1) ∧ nm = txt [UInt8.ofNat (97 + i.toNat)] ++ n0)) (fun (b6 : Nat) (nm : ByteArray) (p1 : Pl) => [(6, .pointer (some ⟨b6, 0, none⟩))]) (fun (b6 : Nat) (nm : ByteArray) (p1 : Pl) => blk b6 95 [.string nm, .slice none 0 0, .slice none 0 0, .slice none 0 0] :: osl 95 cellT q (xs) :: bagS 109 shapeT (shs (xs)) :: bagS 182 labelT (lbs (xs)) :: bagS 111 instT (ins (xs)) :: blk b3 26 [q] :: blk b2 26 [.slice none 0 0] :: sPl b cv p1 :: L) ?_ ?_
  refine WP.regionHD [.b b] (.q 0 (.q 1 (.q 2 (.q 5 (.c 3 (.c 4 (.b 6 (.q 7 (.q 8 (.l 9 (.l 10 Sch.nil)))) 9 (.l 6 (.q 7 (.q 8 (.l 10 Sch.nil))))) 6 (.b 4 (.q 7 (.q 8 (.l 9 (.l 10 Sch.nil)))) 9 (.l 4 (.q 7 (.q 8 (.l 10 Sch.nil))))) 9 (.b 4 (.l 6 (.q 7 (.q 8 (.l 10 Sch.nil)))) 6 (.l 4 (.q 7 (.q 8 (.l 10 Sch.nil)))))) 6 (.b 3 (.b 4 (.q 7 (.q 8 (.l 9 (.l 10 Sch.nil)))) 9 (.l 4 (.q 7 (.q 8 (.l 10 Sch.nil))))) 9 (.l 3 (.l 4 (.q 7 (.q 8 (.l 10 Sch.nil)))))) 9 (.b 3 (.b 4 (.l 6 (.q 7 (.q 8 (.l 10 Sch.nil)))) 6 (.l 4 (.q 7 (.q 8 (.l 10 Sch.nil))))) 6 (.l 3 (.l 4 (.q 7 (.q 8 (.l 10 Sch.nil))))))))))) (by kernel_rfl) (by kernel_rfl) (by kernel_rfl) rfl ?_
  refine RH.w rfl rfl (PV.mvI (.inl rfl) rfl) (RH.w rfl rfl (PV.add rfl rfl rfl (by omega)) (RH.w rfl rfl (PV.conv rfl ⟨_, Tryz.underlying2⟩ Tryz.underlying5 rfl (u8let (by omega))) (RH.w rfl rfl (PV.move rfl rfl) ?_)))
  ·refine RH.ot3 rfl rfl rfl rfl rfl rfl  (OT.bslice (F := byteT) (els := [_]) rfl El22 rfl (by decide) rfl (by decide) ⟨rfl, (Cl.c rfl), trivial⟩ fun v22 => (kp ?_)) (OT.callF (vs := [_]) rfl En166 rfl (CallT.exB (b := b) (dName_s hcode (by assumption) (fun w25 pw25 ew25 ow25 hw25 => (kp ?_))))) (OT.alloc rfl Zr95 fun b6 => (kp ?_))
   ·refine RH.ot3 rfl rfl rfl rfl rfl rfl  (OT.pv (PV.convBS (v := v22) rfl Tryz.underlying22 Tryz.underlying5 Tryz.underlying9 rfl Rs.o) (kp ?_)) (OT.callF (vs := [_]) rfl En166 rfl (CallT.exB (b := b) (dName_s hcode (by assumption) (fun w25 pw25 ew25 ow25 hw25 => (kp ?_))))) (OT.alloc rfl Zr95 fun b6 => (kp ?_))
    ·refine RH.ot2 rfl rfl rfl rfl  (OT.callF (vs := [_]) rfl En166 rfl (CallT.exB (b := b) (dName_s hcode (by assumption) (fun w25 pw25 ew25 ow25 hw25 => (kp ?_))))) (OT.alloc rfl Zr95 fun b6 => (kp ?_))
     ·refine RH.w rfl rfl (PV.addS rfl rfl rfl (by first | omega | (simp [txt_size] <;> omega) | (have : (ByteArray.mk #[109]).size = 1 := rfl; omega))) ?_
      refine RH.w rfl rfl (PV.build (vs := [(0, [.string _])]) (out := [_, _, _, _]) rfl Zr95 Pl95 ⟨rfl, (Cl.c rfl), trivial⟩ rfl) ?_
      refine RH.ot rfl rfl (OT.alloc rfl Zr95 fun b6 => (kp ?_))
      refine RH.ot rfl rfl (OT.storeW (vs := [.string _, _, _, _]) rfl Sz95 rfl rfl (Cl.c rfl) rfl rfl (OneC.val rfl (OneC.val rfl (OneC.val rfl (OneC.val rfl OneC.nil)))) (kp ?_))
      refine RH.nil ?_
      exact ⟨rfl, b6, (txt [UInt8.ofNat (97 + i.toNat)] ++ w25), pw25, ⟨by assumption, by rw [ByteArray.size_append, txt_size]; simp only [List.length_cons, List.length_nil]; omega, w25, ew25, rfl⟩, ⟨(by kernel_rfl), trivial⟩, ⟨(by kernel_rfl), (by kernel_rfl), (by kernel_rfl), (by kernel_rfl), (by kernel_rfl), trivial⟩, Cv.p⟩
     ·refine RH.ot rfl rfl (OT.callF (vs := [_]) rfl En166 rfl (CallT.exB (b := b) (dName_s hcode (by assumption) (fun w25 pw25 ew25 ow25 hw25 => (kp ?_)))))
      refine RH.w rfl rfl (PV.addS rfl rfl rfl (by first | omega | (simp [txt_size] <;> omega) | (have : (ByteArray.mk #[109]).size = 1 := rfl; omega))) (RH.w rfl rfl (PV.build (vs := [(0, [.string _])]) (out := [_, _, _, _]) rfl Zr95 Pl95 ⟨rfl, (Cl.c rfl), trivial⟩ rfl) ?_)
      refine RH.ot rfl rfl (OT.storeW (vs := [.string _, _, _, _]) rfl Sz95 rfl rfl (Cl.c rfl) rfl rfl (OneC.val rfl (OneC.val rfl (OneC.val rfl (OneC.val rfl OneC.nil)))) (kp ?_))
      refine RH.nil ?_
      exact ⟨rfl, b6, (txt [UInt8.ofNat (97 + i.toNat)] ++ w25), pw25, ⟨by assumption, by rw [ByteArray.size_append, txt_size]; simp only [List.length_cons, List.length_nil]; omega, w25, ew25, rfl⟩, ⟨(by kernel_rfl), trivial⟩, ⟨(by kernel_rfl), (by kernel_rfl), (by kernel_rfl), (by kernel_rfl), (by kernel_rfl), trivial⟩, Cv.p⟩
    ·refine RH.ot2 rfl rfl rfl rfl  (OT.pv (PV.convBS (v := v22) rfl Tryz.underlying22 Tryz.underlying5 Tryz.underlying9 rfl Rs.o) (kp ?_)) (OT.alloc rfl Zr95 fun b6 => (kp ?_))
     ·refine RH.w rfl rfl (PV.addS rfl rfl rfl (by first | omega | (simp [txt_size] <;> omega) | (have : (ByteArray.mk #[109]).size = 1 := rfl; omega))) ?_
      refine RH.w rfl rfl (PV.build (vs := [(0, [.string _])]) (out := [_, _, _, _]) rfl Zr95 Pl95 ⟨rfl, (Cl.c rfl), trivial⟩ rfl) ?_
      refine RH.ot rfl rfl (OT.alloc rfl Zr95 fun b6 => (kp ?_))
      refine RH.ot rfl rfl (OT.storeW (vs := [.string _, _, _, _]) rfl Sz95 rfl rfl (Cl.c rfl) rfl rfl (OneC.val rfl (OneC.val rfl (OneC.val rfl (OneC.val rfl OneC.nil)))) (kp ?_))
      refine RH.nil ?_
      exact ⟨rfl, b6, (txt [UInt8.ofNat (97 + i.toNat)] ++ w25), pw25, ⟨by assumption, by rw [ByteArray.size_append, txt_size]; simp only [List.length_cons, List.length_nil]; omega, w25, ew25, rfl⟩, ⟨(by kernel_rfl), trivial⟩, ⟨(by kernel_rfl), (by kernel_rfl), (by kernel_rfl), (by kernel_rfl), (by kernel_rfl), trivial⟩, Cv.p⟩
     ·refine RH.ot rfl rfl (OT.pv (PV.convBS (v := v22) rfl Tryz.underlying22 Tryz.underlying5 Tryz.underlying9 rfl Rs.o) (kp ?_))
      refine RH.w rfl rfl (PV.addS rfl rfl rfl (by first | omega | (simp [txt_size] <;> omega) | (have : (ByteArray.mk #[109]).size = 1 := rfl; omega))) (RH.w rfl rfl (PV.build (vs := [(0, [.string _])]) (out := [_, _, _, _]) rfl Zr95 Pl95 ⟨rfl, (Cl.c rfl), trivial⟩ rfl) ?_)
      refine RH.ot rfl rfl (OT.storeW (vs := [.string _, _, _, _]) rfl Sz95 rfl rfl (Cl.c rfl) rfl rfl (OneC.val rfl (OneC.val rfl (OneC.val rfl (OneC.val rfl OneC.nil)))) (kp ?_))
      refine RH.nil ?_
      exact ⟨rfl, b6, (txt [UInt8.ofNat (97 + i.toNat)] ++ w25), pw25, ⟨by assumption, by rw [ByteArray.size_append, txt_size]; simp only [List.length_cons, List.length_nil]; omega, w25, ew25, rfl⟩, ⟨(by kernel_rfl), trivial⟩, ⟨(by kernel_rfl), (by kernel_rfl), (by kernel_rfl), (by kernel_rfl), (by kernel_rfl), trivial⟩, Cv.p⟩
    ·refine RH.ot2 rfl rfl rfl rfl  (OT.pv (PV.convBS (v := v22) rfl Tryz.underlying22 Tryz.underlying5 Tryz.underlying9 rfl Rs.o) (kp ?_)) (OT.callF (vs := [_]) rfl En166 rfl (CallT.exB (b := b) (dName_s hcode (by assumption) (fun w25 pw25 ew25 ow25 hw25 => (kp ?_)))))
     ·refine RH.ot rfl rfl (OT.callF (vs := [_]) rfl En166 rfl (CallT.exB (b := b) (dName_s hcode (by assumption) (fun w25 pw25 ew25 ow25 hw25 => (kp ?_)))))
      refine RH.w rfl rfl (PV.addS rfl rfl rfl (by first | omega | (simp [txt_size] <;> omega) | (have : (ByteArray.mk #[109]).size = 1 := rfl; omega))) (RH.w rfl rfl (PV.build (vs := [(0, [.string _])]) (out := [_, _, _, _]) rfl Zr95 Pl95 ⟨rfl, (Cl.c rfl), trivial⟩ rfl) ?_)
      refine RH.ot rfl rfl (OT.storeW (vs := [.string _, _, _, _]) rfl Sz95 rfl rfl (Cl.c rfl) rfl rfl (OneC.val rfl (OneC.val rfl (OneC.val rfl (OneC.val rfl OneC.nil)))) (kp ?_))
      refine RH.nil ?_
      exact ⟨rfl, b6, (txt [UInt8.ofNat (97 + i.toNat)] ++ w25), pw25, ⟨by assumption, by rw [ByteArray.size_append, txt_size]; simp only [List.length_cons, List.length_nil]; omega, w25, ew25, rfl⟩, ⟨(by kernel_rfl), trivial⟩, ⟨(by kernel_rfl), (by kernel_rfl), (by kernel_rfl), (by kernel_rfl), (by kernel_rfl), trivial⟩, Cv.p⟩
     ·refine RH.ot rfl rfl (OT.pv (PV.convBS (v := v22) rfl Tryz.underlying22 Tryz.underlying5 Tryz.underlying9 rfl Rs.o) (kp ?_))
      refine RH.w rfl rfl (PV.addS rfl rfl rfl (by first | omega | (simp [txt_size] <;> omega) | (have : (ByteArray.mk #[109]).size = 1 := rfl; omega))) (RH.w rfl rfl (PV.build (vs := [(0, [.string _])]) (out := [_, _, _, _]) rfl Zr95 Pl95 ⟨rfl, (Cl.c rfl), trivial⟩ rfl) ?_)
      refine RH.ot rfl rfl (OT.storeW (vs := [.string _, _, _, _]) rfl Sz95 rfl rfl (Cl.c rfl) rfl rfl (OneC.val rfl (OneC.val rfl (OneC.val rfl (OneC.val rfl OneC.nil)))) (kp ?_))
      refine RH.nil ?_
      exact ⟨rfl, b6, (txt [UInt8.ofNat (97 + i.toNat)] ++ w25), pw25, ⟨by assumption, by rw [ByteArray.size_append, txt_size]; simp only [List.length_cons, List.length_nil]; omega, w25, ew25, rfl⟩, ⟨(by kernel_rfl), trivial⟩, ⟨(by kernel_rfl), (by kernel_rfl), (by kernel_rfl), (by kernel_rfl), (by kernel_rfl), trivial⟩, Cv.p⟩
   ·refine RH.ot2 rfl rfl rfl rfl  (OT.bslice (F := byteT) (els := [_]) rfl El22 rfl (by decide) rfl (by decide) ⟨rfl, (Cl.c rfl), trivial⟩ fun v22 => (kp ?_)) (OT.alloc rfl Zr95 fun b6 => (kp ?_))
    ·refine RH.ot2 rfl rfl rfl rfl  (OT.pv (PV.convBS (v := v22) rfl Tryz.underlying22 Tryz.underlying5 Tryz.underlying9 rfl Rs.o) (kp ?_)) (OT.alloc rfl Zr95 fun b6 => (kp ?_))
     ·refine RH.w rfl rfl (PV.addS rfl rfl rfl (by first | omega | (simp [txt_size] <;> omega) | (have : (ByteArray.mk #[109]).size = 1 := rfl; omega))) ?_
      refine RH.w rfl rfl (PV.build (vs := [(0, [.string _])]) (out := [_, _, _, _]) rfl Zr95 Pl95 ⟨rfl, (Cl.c rfl), trivial⟩ rfl) ?_
      refine RH.ot rfl rfl (OT.alloc rfl Zr95 fun b6 => (kp ?_))
      refine RH.ot rfl rfl (OT.storeW (vs := [.string _, _, _, _]) rfl Sz95 rfl rfl (Cl.c rfl) rfl rfl (OneC.val rfl (OneC.val rfl (OneC.val rfl (OneC.val rfl OneC.nil)))) (kp ?_))
      refine RH.nil ?_
      exact ⟨rfl, b6, (txt [UInt8.ofNat (97 + i.toNat)] ++ w25), pw25, ⟨by assumption, by rw [ByteArray.size_append, txt_size]; simp only [List.length_cons, List.length_nil]; omega, w25, ew25, rfl⟩, ⟨(by kernel_rfl), trivial⟩, ⟨(by kernel_rfl), (by kernel_rfl), (by kernel_rfl), (by kernel_rfl), (by kernel_rfl), trivial⟩, Cv.p⟩
     ·refine RH.ot rfl rfl (OT.pv (PV.convBS (v := v22) rfl Tryz.underlying22 Tryz.underlying5 Tryz.underlying9 rfl Rs.o) (kp ?_))
      refine RH.w rfl rfl (PV.addS rfl rfl rfl (by first | omega | (simp [txt_size] <;> omega) | (have : (ByteArray.mk #[109]).size = 1 := rfl; omega))) (RH.w rfl rfl (PV.build (vs := [(0, [.string _])]) (out := [_, _, _, _]) rfl Zr95 Pl95 ⟨rfl, (Cl.c rfl), trivial⟩ rfl) ?_)
      refine RH.ot rfl rfl (OT.storeW (vs := [.string _, _, _, _]) rfl Sz95 rfl rfl (Cl.c rfl) rfl rfl (OneC.val rfl (OneC.val rfl (OneC.val rfl (OneC.val rfl OneC.nil)))) (kp ?_))
      refine RH.nil ?_
      exact ⟨rfl, b6, (txt [UInt8.ofNat (97 + i.toNat)] ++ w25), pw25, ⟨by assumption, by rw [ByteArray.size_append, txt_size]; simp only [List.length_cons, List.length_nil]; omega, w25, ew25, rfl⟩, ⟨(by kernel_rfl), trivial⟩, ⟨(by kernel_rfl), (by kernel_rfl), (by kernel_rfl), (by kernel_rfl), (by kernel_rfl), trivial⟩, Cv.p⟩
    ·refine RH.ot rfl rfl (OT.bslice (F := byteT) (els := [_]) rfl El22 rfl (by decide) rfl (by decide) ⟨rfl, (Cl.c rfl), trivial⟩ fun v22 => (kp ?_))
     refine RH.ot rfl rfl (OT.pv (PV.convBS (v := v22) rfl Tryz.underlying22 Tryz.underlying5 Tryz.underlying9 rfl Rs.o) (kp ?_))
     refine RH.w rfl rfl (PV.addS rfl rfl rfl (by first | omega | (simp [txt_size] <;> omega) | (have : (ByteArray.mk #[109]).size = 1 := rfl; omega))) (RH.w rfl rfl (PV.build (vs := [(0, [.string _])]) (out := [_, _, _, _]) rfl Zr95 Pl95 ⟨rfl, (Cl.c rfl), trivial⟩ rfl) ?_)
     refine RH.ot rfl rfl (OT.storeW (vs := [.string _, _, _, _]) rfl Sz95 rfl rfl (Cl.c rfl) rfl rfl (OneC.val rfl (OneC.val rfl (OneC.val rfl (OneC.val rfl OneC.nil)))) (kp ?_))
     refine RH.nil ?_
     exact ⟨rfl, b6, (txt [UInt8.ofNat (97 + i.toNat)] ++ w25), pw25, ⟨by assumption, by rw [ByteArray.size_append, txt_size]; simp only [List.length_cons, List.length_nil]; omega, w25, ew25, rfl⟩, ⟨(by kernel_rfl), trivial⟩, ⟨(by kernel_rfl), (by kernel_rfl), (by kernel_rfl), (by kernel_rfl), (by kernel_rfl), trivial⟩, Cv.p⟩
   ·refine RH.ot2 rfl rfl rfl rfl  (OT.bslice (F := byteT) (els := [_]) rfl El22 rfl (by decide) rfl (by decide) ⟨rfl, (Cl.c rfl), trivial⟩ fun v22 => (kp ?_)) (OT.callF (vs := [_]) rfl En166 rfl (CallT.exB (b := b) (dName_s hcode (by assumption) (fun w25 pw25 ew25 ow25 hw25 => (kp ?_)))))
    ·refine RH.ot2 rfl rfl rfl rfl  (OT.pv (PV.convBS (v := v22) rfl Tryz.underlying22 Tryz.underlying5 Tryz.underlying9 rfl Rs.o) (kp ?_)) (OT.callF (vs := [_]) rfl En166 rfl (CallT.exB (b := b) (dName_s hcode (by assumption) (fun w25 pw25 ew25 ow25 hw25 => (kp ?_)))))
     ·refine RH.ot rfl rfl (OT.callF (vs := [_]) rfl En166 rfl (CallT.exB (b := b) (dName_s hcode (by assumption) (fun w25 pw25 ew25 ow25 hw25 => (kp ?_)))))
      refine RH.w rfl rfl (PV.addS rfl rfl rfl (by first | omega | (simp [txt_size] <;> omega) | (have : (ByteArray.mk #[109]).size = 1 := rfl; omega))) (RH.w rfl rfl (PV.build (vs := [(0, [.string _])]) (out := [_, _, _, _]) rfl Zr95 Pl95 ⟨rfl, (Cl.c rfl), trivial⟩ rfl) ?_)
      refine RH.ot rfl rfl (OT.storeW (vs := [.string _, _, _, _]) rfl Sz95 rfl rfl (Cl.c rfl) rfl rfl (OneC.val rfl (OneC.val rfl (OneC.val rfl (OneC.val rfl OneC.nil)))) (kp ?_))
      refine RH.nil ?_
      exact ⟨rfl, b6, (txt [UInt8.ofNat (97 + i.toNat)] ++ w25), pw25, ⟨by assumption, by rw [ByteArray.size_append, txt_size]; simp only [List.length_cons, List.length_nil]; omega, w25, ew25, rfl⟩, ⟨(by kernel_rfl), trivial⟩, ⟨(by kernel_rfl), (by kernel_rfl), (by kernel_rfl), (by kernel_rfl), (by kernel_rfl), trivial⟩, Cv.p⟩
     ·refine RH.ot rfl rfl (OT.pv (PV.convBS (v := v22) rfl Tryz.underlying22 Tryz.underlying5 Tryz.underlying9 rfl Rs.o) (kp ?_))
      refine RH.w rfl rfl (PV.addS rfl rfl rfl (by first | omega | (simp [txt_size] <;> omega) | (have : (ByteArray.mk #[109]).size = 1 := rfl; omega))) (RH.w rfl rfl (PV.build (vs := [(0, [.string _])]) (out := [_, _, _, _]) rfl Zr95 Pl95 ⟨rfl, (Cl.c rfl), trivial⟩ rfl) ?_)
      refine RH.ot rfl rfl (OT.storeW (vs := [.string _, _, _, _]) rfl Sz95 rfl rfl (Cl.c rfl) rfl rfl (OneC.val rfl (OneC.val rfl (OneC.val rfl (OneC.val rfl OneC.nil)))) (kp ?_))
      refine RH.nil ?_
      exact ⟨rfl, b6, (txt [UInt8.ofNat (97 + i.toNat)] ++ w25), pw25, ⟨by assumption, by rw [ByteArray.size_append, txt_size]; simp only [List.length_cons, List.length_nil]; omega, w25, ew25, rfl⟩, ⟨(by kernel_rfl), trivial⟩, ⟨(by kernel_rfl), (by kernel_rfl), (by kernel_rfl), (by kernel_rfl), (by kernel_rfl), trivial⟩, Cv.p⟩
    ·refine RH.ot rfl rfl (OT.bslice (F := byteT) (els := [_]) rfl El22 rfl (by decide) rfl (by decide) ⟨rfl, (Cl.c rfl), trivial⟩ fun v22 => (kp ?_))
     refine RH.ot rfl rfl (OT.pv (PV.convBS (v := v22) rfl Tryz.underlying22 Tryz.underlying5 Tryz.underlying9 rfl Rs.o) (kp ?_))
     refine RH.w rfl rfl (PV.addS rfl rfl rfl (by first | omega | (simp [txt_size] <;> omega) | (have : (ByteArray.mk #[109]).size = 1 := rfl; omega))) (RH.w rfl rfl (PV.build (vs := [(0, [.string _])]) (out := [_, _, _, _]) rfl Zr95 Pl95 ⟨rfl, (Cl.c rfl), trivial⟩ rfl) ?_)
     refine RH.ot rfl rfl (OT.storeW (vs := [.string _, _, _, _]) rfl Sz95 rfl rfl (Cl.c rfl) rfl rfl (OneC.val rfl (OneC.val rfl (OneC.val rfl (OneC.val rfl OneC.nil)))) (kp ?_))
     refine RH.nil ?_
     exact ⟨rfl, b6, (txt [UInt8.ofNat (97 + i.toNat)] ++ w25), pw25, ⟨by assumption, by rw [ByteArray.size_append, txt_size]; simp only [List.length_cons, List.length_nil]; omega, w25, ew25, rfl⟩, ⟨(by kernel_rfl), trivial⟩, ⟨(by kernel_rfl), (by kernel_rfl), (by kernel_rfl), (by kernel_rfl), (by kernel_rfl), trivial⟩, Cv.p⟩
  rintro b6 nm p1 τ1 ⟨hp1, hnm, hd1⟩
  refine WP.seq (WP.sr (RG.p (PV.move rfl rfl) ?_))
  refine RG.callF (vs := [_, _]) rfl rfl En57 rfl (CallT.exB (b := b) (nextP_s hcode (by assumption) (by omega) (fun w29 pw29 ew29 ow29 hw29 => ?_)))
  refine RG.mr rfl (RG.nil (WP.block ?_))
  refine WP.cv (Cv.nilS (e := 109) (F := shapeT)) ?_
  refine WP.loop4 [0, 2, 3, 4, 5, 6] (fun (m : Int) (ss : List Shape) (u1 : Value) (pm : Pl) => (0 <= m ∧ m <= 4) ∧ (ss.length : Int) + m <= 4 ∧ OkP pm ∧ dShps bs m.toNat ss pm = dShps bs w29.toNat [] pw29 ∧ (∀ j, j < ss.length -> -2 <= (gd ss j).layer ∧ (gd ss j).layer <= 9)) (fun (m : Int) (ss : List Shape) (u1 : Value) (pm : Pl) => [(7, vi m)]) (fun (m : Int) (ss : List Shape) (u1 : Value) (pm : Pl) => osl 109 shapeT u1 ss :: blk b6 95 [.string nm, u1, .slice none 0 0, .slice none 0 0] :: osl 95 cellT q (xs) :: bagS 109 shapeT (shs (xs)) :: bagS 182 labelT (lbs (xs)) :: bagS 111 instT (ins (xs)) :: blk b3 26 [q] :: blk b2 26 [.slice none 0 0] :: sPl b cv pm :: L) (fun (m : Int) (ss : List Shape) (u1 : Value) (pm : Pl) => m.toNat) w29 [] (.slice none 0 0) pw29 ⟨by omega, by simp; omega, by assumption, rfl, fun j hj => by simp at hj⟩ ⟨(by kernel_rfl), trivial⟩ Cv.p ?_
  rintro m ss u1 pm τ2 ⟨g0, g1, g2, g3, g4⟩
  refine WP.seq (WP.sr (RG.ml rfl (RG.p (PV.gtr rfl rfl rfl) (RG.nil ?_))))
  refine WP.cond rfl (fun h6 => ?_) fun h6 => ?_
  ·have h6 := odt h6
   refine WP.skip ?_
   refine WP.cut3 [0, 2, 3, 4, 5, 6, 7] (fun (u2 : Value) (x : Shape) (pn : Pl) => OkP pn ∧ dShp bs pm = (x, pn) ∧ -2 <= x.layer ∧ x.layer <= 9) (fun (u2 : Value) (x : Shape) (pn : Pl) => []) (fun (u2 : Value) (x : Shape) (pn : Pl) => osl 109 shapeT u2 (ss ++ [x]) :: blk b6 95 [.string nm, u2, .slice none 0 0, .slice none 0 0] :: osl 95 cellT q (xs) :: bagS 109 shapeT (shs (xs)) :: bagS 182 labelT (lbs (xs)) :: bagS 111 instT (ins (xs)) :: blk b3 26 [q] :: blk b2 26 [.slice none 0 0] :: sPl b cv pn :: L) ?_ ?_
   refine WP.block ?_
   refine WP.regionHD [.s u1, .b b6, .b b] (.q 0 (.q 2 (.b 1 (.l 3 (.l 4 (.l 5 (.q 6 (.l 7 Sch.nil))))) 3 (.b 1 (.l 4 (.l 5 (.q 6 (.l 7 Sch.nil)))) 4 (.l 1 (.l 5 (.q 6 (.l 7 Sch.nil)))))))) (by kernel_rfl) (by kernel_rfl) (by kernel_rfl) rfl ?_
   refine RH.w rfl rfl (PV.field rfl Fo95_1 rfl) (RH.w rfl rfl (PV.move rfl rfl) ?_)
   ·refine RH.ot2 rfl rfl rfl rfl  (OT.pv (PV.load1 rfl Sc66 rfl (Rd.blk rfl)) (kp ?_)) (OT.callF (vs := [_]) rfl En167 rfl (CallT.exB (b := b) (dShp_s hcode (by assumption) (fun w37 pw37 ew37 ow37 hw37 => (kp ?_)))))
    ·refine RH.ot rfl rfl (OT.callF (vs := [_]) rfl En167 rfl (CallT.exB (b := b) (dShp_s hcode (by assumption) (fun w37 pw37 ew37 ow37 hw37 => (kp ?_)))))
     refine RH.ot rfl rfl (OT.bslice (F := shapeT) (els := [_]) rfl El66 rfl (by decide) rfl (by decide) ⟨rfl, (Cl.c rfl), trivial⟩ fun v38 => (kp ?_))
     refine RH.ot rfl rfl (OT.append (v := u1) (u := v38) (F := shapeT) rfl El66 rfl (by decide) rfl rfl Rs.o (OneL.c (fun _ => rfl)) rfl (by first | omega | (simp <;> omega)) fun v39 => (kp ?_))
     refine RH.w rfl rfl (PV.field rfl Fo95_1 rfl) ?_
     refine RH.ot rfl rfl (OT.storeB (v := v39) (vs := [_]) (cs' := [_, _, _, _]) rfl Sz66 rfl rfl (Cl.s (v := v39) SlF.o) rfl (OneC.sl SlF.o OneC.nil) rfl rfl (kp ?_))
     refine RH.nil ?_
     exact ⟨rfl, v39, w37, pw37, ⟨by assumption, ew37, hw37⟩, trivial, ⟨(by kernel_rfl), (by kernel_rfl), (by kernel_rfl), (by kernel_rfl), (by kernel_rfl), (by kernel_rfl), (by kernel_rfl), trivial⟩, Cv.p⟩
    ·refine RH.ot2 rfl rfl rfl rfl  (OT.pv (PV.load1 rfl Sc66 rfl (Rd.blk rfl)) (kp ?_)) (OT.bslice (F := shapeT) (els := [_]) rfl El66 rfl (by decide) rfl (by decide) ⟨rfl, (Cl.c rfl), trivial⟩ fun v38 => (kp ?_))
     ·refine RH.ot rfl rfl (OT.bslice (F := shapeT) (els := [_]) rfl El66 rfl (by decide) rfl (by decide) ⟨rfl, (Cl.c rfl), trivial⟩ fun v38 => (kp ?_))
      refine RH.ot rfl rfl (OT.append (v := u1) (u := v38) (F := shapeT) rfl El66 rfl (by decide) rfl rfl Rs.o (OneL.c (fun _ => rfl)) rfl (by first | omega | (simp <;> omega)) fun v39 => (kp ?_))
      refine RH.w rfl rfl (PV.field rfl Fo95_1 rfl) ?_
      refine RH.ot rfl rfl (OT.storeB (v := v39) (vs := [_]) (cs' := [_, _, _, _]) rfl Sz66 rfl rfl (Cl.s (v := v39) SlF.o) rfl (OneC.sl SlF.o OneC.nil) rfl rfl (kp ?_))
      refine RH.nil ?_
      exact ⟨rfl, v39, w37, pw37, ⟨by assumption, ew37, hw37⟩, trivial, ⟨(by kernel_rfl), (by kernel_rfl), (by kernel_rfl), (by kernel_rfl), (by kernel_rfl), (by kernel_rfl), (by kernel_rfl), trivial⟩, Cv.p⟩
     ·refine RH.ot rfl rfl (OT.pv (PV.load1 rfl Sc66 rfl (Rd.blk rfl)) (kp ?_))
      refine RH.ot rfl rfl (OT.append (v := u1) (u := v38) (F := shapeT) rfl El66 rfl (by decide) rfl rfl Rs.o (OneL.c (fun _ => rfl)) rfl (by first | omega | (simp <;> omega)) fun v39 => (kp ?_))
      refine RH.w rfl rfl (PV.field rfl Fo95_1 rfl) ?_
      refine RH.ot rfl rfl (OT.storeB (v := v39) (vs := [_]) (cs' := [_, _, _, _]) rfl Sz66 rfl rfl (Cl.s (v := v39) SlF.o) rfl (OneC.sl SlF.o OneC.nil) rfl rfl (kp ?_))
      refine RH.nil ?_
      exact ⟨rfl, v39, w37, pw37, ⟨by assumption, ew37, hw37⟩, trivial, ⟨(by kernel_rfl), (by kernel_rfl), (by kernel_rfl), (by kernel_rfl), (by kernel_rfl), (by kernel_rfl), (by kernel_rfl), trivial⟩, Cv.p⟩
   rintro u2 x pn τ3 ⟨hpn, hdn, hxn⟩
   refine WP.region (RG.ml rfl (RG.p (PV.sub rfl rfl rfl (by omega)) (RG.mr rfl (RG.nil ?_))))
   have hd2 : dShps bs (m - 1).toNat (ss ++ [x]) pn = dShps bs w29.toNat [] pw29 := by
    rw [<- g3, show m.toNat = (m - 1).toNat + 1 by omega, dShps, hdn]
   refine ⟨rfl, m - 1, (ss ++ [x]), u2, pn, ⟨by omega, by simp; omega, hpn, hd2, fun j hj => ?_⟩, ⟨(by kernel_rfl), trivial⟩, ⟨(by kernel_rfl), (by kernel_rfl), (by kernel_rfl), (by kernel_rfl), (by kernel_rfl), (by kernel_rfl), trivial⟩, Cv.p, by omega⟩
   have hj : j < ss.length + 1 := by simpa using hj
   by_cases e : j = ss.length
   ·subst e; rw [gd_app_r]; exact hxn
   ·rw [gd_app_l (by omega)]; exact g4 j (by omega)
  ·have h6 := odf h6
   rw [show m.toNat = 0 by omega, dShps] at g3
   refine WP.cv (Cv.nilS (e := 182) (F := labelT)) ?_
   refine WP.exit (WP.seq (WP.sr (RG.p (PV.move rfl rfl) ?_)))
   refine RG.callF (vs := [_, _]) rfl rfl En57 rfl (CallT.exB (b := b) (nextP_s hcode (by assumption) (by omega) (fun w42 pw42 ew42 ow42 hw42 => ?_)))
   refine RG.mr rfl (RG.nil (WP.block ?_))
   refine WP.loop4 [0, 2, 3, 4, 5, 6] (fun (m2 : Int) (ls : List Label) (u2 : Value) (pm2 : Pl) => (0 <= m2 ∧ m2 <= 3) ∧ (ls.length : Int) + m2 <= 3 ∧ OkP pm2 ∧ dLbls bs m2.toNat ls pm2 = dLbls bs w42.toNat [] pw42 ∧ (∀ j, j < ls.length -> (gd ls j).name.size <= 9)) (fun (m2 : Int) (ls : List Label) (u2 : Value) (pm2 : Pl) => [(8, vi m2)]) (fun (m2 : Int) (ls : List Label) (u2 : Value) (pm2 : Pl) => osl 182 labelT u2 ls :: blk b6 95 [.string nm, u1, u2, .slice none 0 0] :: osl 109 shapeT u1 ss :: osl 95 cellT q (xs) :: bagS 109 shapeT (shs (xs)) :: bagS 182 labelT (lbs (xs)) :: bagS 111 instT (ins (xs)) :: blk b3 26 [q] :: blk b2 26 [.slice none 0 0] :: sPl b cv pm2 :: L) (fun (m2 : Int) (ls : List Label) (u2 : Value) (pm2 : Pl) => m2.toNat) w42 [] (.slice none 0 0) pw42 ⟨by omega, by simp; omega, by assumption, rfl, fun j hj => by simp at hj⟩ ⟨(by kernel_rfl), trivial⟩ Cv.p ?_
   rintro m2 ls u2 pm2 τ4 ⟨j0, j1, j2, j3, j4⟩
   refine WP.seq (WP.sr (RG.ml rfl (RG.p (PV.gtr rfl rfl rfl) (RG.nil ?_))))
   refine WP.cond rfl (fun h7 => ?_) fun h7 => ?_
   ·have h7 := odt h7
    refine WP.skip ?_
    refine WP.cut3 [0, 2, 3, 4, 5, 6, 8] (fun (u3 : Value) (x : Label) (pn : Pl) => OkP pn ∧ dLbl bs pm2 = (x, pn) ∧ x.name.size <= 4) (fun (u3 : Value) (x : Label) (pn : Pl) => []) (fun (u3 : Value) (x : Label) (pn : Pl) => osl 182 labelT u3 (ls ++ [x]) :: blk b6 95 [.string nm, u1, u3, .slice none 0 0] :: osl 109 shapeT u1 ss :: osl 95 cellT q (xs) :: bagS 109 shapeT (shs (xs)) :: bagS 182 labelT (lbs (xs)) :: bagS 111 instT (ins (xs)) :: blk b3 26 [q] :: blk b2 26 [.slice none 0 0] :: sPl b cv pn :: L) ?_ ?_
    refine WP.block ?_
    refine WP.regionHD [.s u2, .b b6, .b b] (.q 0 (.q 2 (.b 1 (.l 3 (.l 4 (.l 5 (.q 6 (.l 7 Sch.nil))))) 3 (.b 1 (.l 4 (.l 5 (.q 6 (.l 7 Sch.nil)))) 4 (.l 1 (.l 5 (.q 6 (.l 7 Sch.nil)))))))) (by kernel_rfl) (by kernel_rfl) (by kernel_rfl) rfl ?_
    refine RH.w rfl rfl (PV.field rfl Fo95_2 rfl) (RH.w rfl rfl (PV.move rfl rfl) ?_)
    ·refine RH.ot2 rfl rfl rfl rfl  (OT.pv (PV.load1 rfl Sc92 rfl (Rd.blk rfl)) (kp ?_)) (OT.callF (vs := [_]) rfl En207 rfl (CallT.exB (b := b) (dLbl_s hcode (by assumption) (fun w50 pw50 ew50 ow50 hw50 => (kp ?_)))))
     ·refine RH.ot rfl rfl (OT.callF (vs := [_]) rfl En207 rfl (CallT.exB (b := b) (dLbl_s hcode (by assumption) (fun w50 pw50 ew50 ow50 hw50 => (kp ?_)))))
      refine RH.ot rfl rfl (OT.bslice (F := labelT) (els := [_]) rfl El92 rfl (by decide) rfl (by decide) ⟨rfl, (Cl.c rfl), trivial⟩ fun v51 => (kp ?_))
      refine RH.ot rfl rfl (OT.append (v := u2) (u := v51) (F := labelT) rfl El92 rfl (by decide) rfl rfl Rs.o (OneL.c (fun _ => rfl)) rfl (by first | omega | (simp <;> omega)) fun v52 => (kp ?_))
      refine RH.w rfl rfl (PV.field rfl Fo95_2 rfl) ?_
      refine RH.ot rfl rfl (OT.storeB (v := v52) (vs := [_]) (cs' := [_, _, _, _]) rfl Sz92 rfl rfl (Cl.s (v := v52) SlF.o) rfl (OneC.sl SlF.o OneC.nil) rfl rfl (kp ?_))
      refine RH.nil ?_
      exact ⟨rfl, v52, w50, pw50, ⟨by assumption, ew50, hw50⟩, trivial, ⟨(by kernel_rfl), (by kernel_rfl), (by kernel_rfl), (by kernel_rfl), (by kernel_rfl), (by kernel_rfl), (by kernel_rfl), trivial⟩, Cv.p⟩
     ·refine RH.ot2 rfl rfl rfl rfl  (OT.pv (PV.load1 rfl Sc92 rfl (Rd.blk rfl)) (kp ?_)) (OT.bslice (F := labelT) (els := [_]) rfl El92 rfl (by decide) rfl (by decide) ⟨rfl, (Cl.c rfl), trivial⟩ fun v51 => (kp ?_))
      ·refine RH.ot rfl rfl (OT.bslice (F := labelT) (els := [_]) rfl El92 rfl (by decide) rfl (by decide) ⟨rfl, (Cl.c rfl), trivial⟩ fun v51 => (kp ?_))
       refine RH.ot rfl rfl (OT.append (v := u2) (u := v51) (F := labelT) rfl El92 rfl (by decide) rfl rfl Rs.o (OneL.c (fun _ => rfl)) rfl (by first | omega | (simp <;> omega)) fun v52 => (kp ?_))
       refine RH.w rfl rfl (PV.field rfl Fo95_2 rfl) ?_
       refine RH.ot rfl rfl (OT.storeB (v := v52) (vs := [_]) (cs' := [_, _, _, _]) rfl Sz92 rfl rfl (Cl.s (v := v52) SlF.o) rfl (OneC.sl SlF.o OneC.nil) rfl rfl (kp ?_))
       refine RH.nil ?_
       exact ⟨rfl, v52, w50, pw50, ⟨by assumption, ew50, hw50⟩, trivial, ⟨(by kernel_rfl), (by kernel_rfl), (by kernel_rfl), (by kernel_rfl), (by kernel_rfl), (by kernel_rfl), (by kernel_rfl), trivial⟩, Cv.p⟩
      ·refine RH.ot rfl rfl (OT.pv (PV.load1 rfl Sc92 rfl (Rd.blk rfl)) (kp ?_))
       refine RH.ot rfl rfl (OT.append (v := u2) (u := v51) (F := labelT) rfl El92 rfl (by decide) rfl rfl Rs.o (OneL.c (fun _ => rfl)) rfl (by first | omega | (simp <;> omega)) fun v52 => (kp ?_))
       refine RH.w rfl rfl (PV.field rfl Fo95_2 rfl) ?_
       refine RH.ot rfl rfl (OT.storeB (v := v52) (vs := [_]) (cs' := [_, _, _, _]) rfl Sz92 rfl rfl (Cl.s (v := v52) SlF.o) rfl (OneC.sl SlF.o OneC.nil) rfl rfl (kp ?_))
       refine RH.nil ?_
       exact ⟨rfl, v52, w50, pw50, ⟨by assumption, ew50, hw50⟩, trivial, ⟨(by kernel_rfl), (by kernel_rfl), (by kernel_rfl), (by kernel_rfl), (by kernel_rfl), (by kernel_rfl), (by kernel_rfl), trivial⟩, Cv.p⟩
    rintro u3 x pn τ5 ⟨hpn, hdn, hxn⟩
    refine WP.region (RG.ml rfl (RG.p (PV.sub rfl rfl rfl (by omega)) (RG.mr rfl (RG.nil ?_))))
    have hd2 : dLbls bs (m2 - 1).toNat (ls ++ [x]) pn = dLbls bs w42.toNat [] pw42 := by
     rw [<- j3, show m2.toNat = (m2 - 1).toNat + 1 by omega, dLbls, hdn]
    refine ⟨rfl, m2 - 1, (ls ++ [x]), u3, pn, ⟨by omega, by simp; omega, hpn, hd2, fun j hj => ?_⟩, ⟨(by kernel_rfl), trivial⟩, ⟨(by kernel_rfl), (by kernel_rfl), (by kernel_rfl), (by kernel_rfl), (by kernel_rfl), (by kernel_rfl), trivial⟩, Cv.p, by omega⟩
    have hj : j < ls.length + 1 := by simpa using hj
    by_cases e : j = ls.length
    ·subst e; rw [gd_app_r]; omega
    ·rw [gd_app_l (by omega)]; exact j4 j (by omega)
   ·have h7 := odf h7
    rw [show m2.toNat = 0 by omega, dLbls] at j3
    refine WP.cv (Cv.nilS (e := 111) (F := instT)) ?_
    refine WP.exit (WP.seq (WP.sr (RG.p (PV.move rfl rfl) ?_)))
    refine RG.callF (vs := [_, _]) rfl rfl En57 rfl (CallT.exB (b := b) (nextP_s hcode (by assumption) (by omega) (fun w55 pw55 ew55 ow55 hw55 => ?_)))
    refine RG.mr rfl (RG.nil (WP.block ?_))
    refine WP.loop4 [0, 2, 3, 4, 5, 6] (fun (m3 : Int) (ns : List Inst) (u3 : Value) (pm3 : Pl) => (0 <= m3 ∧ m3 <= 3) ∧ (ns.length : Int) + m3 <= 3 ∧ OkP pm3 ∧ (if 0 < i then dInss bs i m3.toNat ns pm3 else (ns, pm3)) = (if 0 < i then dInss bs i w55.toNat [] pw55 else ([], pw55))) (fun (m3 : Int) (ns : List Inst) (u3 : Value) (pm3 : Pl) => [(9, vi m3)]) (fun (m3 : Int) (ns : List Inst) (u3 : Value) (pm3 : Pl) => osl 111 instT u3 ns :: blk b6 95 [.string nm, u1, u2, u3] :: osl 109 shapeT u1 ss :: osl 182 labelT u2 ls :: osl 95 cellT q (xs) :: bagS 109 shapeT (shs (xs)) :: bagS 182 labelT (lbs (xs)) :: bagS 111 instT (ins (xs)) :: blk b3 26 [q] :: blk b2 26 [.slice none 0 0] :: sPl b cv pm3 :: L) (fun (m3 : Int) (ns : List Inst) (u3 : Value) (pm3 : Pl) => m3.toNat) w55 [] (.slice none 0 0) pw55 ⟨by omega, by simp; omega, by assumption, rfl⟩ ⟨(by kernel_rfl), trivial⟩ Cv.p ?_
    rintro m3 ns u3 pm3 τ6 ⟨l0, l1, l2, l3⟩
    refine WP.seq (WP.sr (RG.ml rfl (RG.p (PV.gtr rfl rfl rfl) (RG.bl rfl ?_))))
    refine RG.g rfl (fun hp => (PV.mvI (.inl rfl) rfl)) ?_
    refine RG.g rfl (fun hp => (PV.gtr rfl (gt' hp) rfl)) ?_
    refine RG.p (PV.pickA rfl rfl (fun hq => gt' (geqT hq)) rfl) (RG.nil ?_)
    refine WP.cond rfl (fun h8 => ?_) fun h8 => ?_
    ·have h8 : 0 < i ∧ 0 < m3 := by simp at h8; omega
     refine WP.skip ?_
     refine WP.cut3 [0, 2, 3, 4, 5, 6, 9] (fun (u4 : Value) (x : Inst) (pn : Pl) => OkP pn ∧ dIns bs i pm3 = (x, pn)) (fun (u4 : Value) (x : Inst) (pn : Pl) => []) (fun (u4 : Value) (x : Inst) (pn : Pl) => osl 111 instT u4 (ns ++ [x]) :: blk b6 95 [.string nm, u1, u2, u4] :: osl 109 shapeT u1 ss :: osl 182 labelT u2 ls :: osl 95 cellT q (xs) :: bagS 109 shapeT (shs (xs)) :: bagS 182 labelT (lbs (xs)) :: bagS 111 instT (ins (xs)) :: blk b3 26 [q] :: blk b2 26 [.slice none 0 0] :: sPl b cv pn :: L) ?_ ?_
     refine WP.block ?_
     refine WP.regionHD [.s u3, .b b6, .b b] (.q 0 (.q 2 (.q 3 (.b 1 (.l 4 (.l 5 (.l 6 (.q 7 (.l 8 Sch.nil))))) 4 (.b 1 (.l 5 (.l 6 (.q 7 (.l 8 Sch.nil)))) 5 (.l 1 (.l 6 (.q 7 (.l 8 Sch.nil))))))))) (by kernel_rfl) (by kernel_rfl) (by kernel_rfl) rfl ?_
     refine RH.w rfl rfl (PV.field rfl Fo95_3 rfl) (RH.w rfl rfl (PV.move rfl rfl) (RH.w rfl rfl (PV.mvI (.inl rfl) rfl) ?_))
     ·refine RH.ot2 rfl rfl rfl rfl  (OT.pv (PV.load1 rfl Sc93 rfl (Rd.blk rfl)) (kp ?_)) (OT.callF (vs := [_, _]) rfl En165 rfl (CallT.exB (b := b) (dIns_s hcode (by omega) (by assumption) (fun w68 pw68 ew68 ow68 => (kp ?_)))))
      ·refine RH.ot rfl rfl (OT.callF (vs := [_, _]) rfl En165 rfl (CallT.exB (b := b) (dIns_s hcode (by omega) (by assumption) (fun w68 pw68 ew68 ow68 => (kp ?_)))))
       refine RH.ot rfl rfl (OT.bslice (F := instT) (els := [_]) rfl El93 rfl (by decide) rfl (by decide) ⟨rfl, (Cl.c rfl), trivial⟩ fun v69 => (kp ?_))
       refine RH.ot rfl rfl (OT.append (v := u3) (u := v69) (F := instT) rfl El93 rfl (by decide) rfl rfl Rs.o (OneL.c (fun _ => rfl)) rfl (by first | omega | (simp <;> omega)) fun v70 => (kp ?_))
       refine RH.w rfl rfl (PV.field rfl Fo95_3 rfl) ?_
       refine RH.ot rfl rfl (OT.storeB (v := v70) (vs := [_]) (cs' := [_, _, _, _]) rfl Sz93 rfl rfl (Cl.s (v := v70) SlF.o) rfl (OneC.sl SlF.o OneC.nil) rfl rfl (kp ?_))
       refine RH.nil ?_
       exact ⟨rfl, v70, w68, pw68, ⟨by assumption, ew68⟩, trivial, ⟨(by kernel_rfl), (by kernel_rfl), (by kernel_rfl), (by kernel_rfl), (by kernel_rfl), (by kernel_rfl), (by kernel_rfl), trivial⟩, Cv.p⟩
      ·refine RH.ot2 rfl rfl rfl rfl  (OT.pv (PV.load1 rfl Sc93 rfl (Rd.blk rfl)) (kp ?_)) (OT.bslice (F := instT) (els := [_]) rfl El93 rfl (by decide) rfl (by decide) ⟨rfl, (Cl.c rfl), trivial⟩ fun v69 => (kp ?_))
       ·refine RH.ot rfl rfl (OT.bslice (F := instT) (els := [_]) rfl El93 rfl (by decide) rfl (by decide) ⟨rfl, (Cl.c rfl), trivial⟩ fun v69 => (kp ?_))
        refine RH.ot rfl rfl (OT.append (v := u3) (u := v69) (F := instT) rfl El93 rfl (by decide) rfl rfl Rs.o (OneL.c (fun _ => rfl)) rfl (by first | omega | (simp <;> omega)) fun v70 => (kp ?_))
        refine RH.w rfl rfl (PV.field rfl Fo95_3 rfl) ?_
        refine RH.ot rfl rfl (OT.storeB (v := v70) (vs := [_]) (cs' := [_, _, _, _]) rfl Sz93 rfl rfl (Cl.s (v := v70) SlF.o) rfl (OneC.sl SlF.o OneC.nil) rfl rfl (kp ?_))
        refine RH.nil ?_
        exact ⟨rfl, v70, w68, pw68, ⟨by assumption, ew68⟩, trivial, ⟨(by kernel_rfl), (by kernel_rfl), (by kernel_rfl), (by kernel_rfl), (by kernel_rfl), (by kernel_rfl), (by kernel_rfl), trivial⟩, Cv.p⟩
       ·refine RH.ot rfl rfl (OT.pv (PV.load1 rfl Sc93 rfl (Rd.blk rfl)) (kp ?_))
        refine RH.ot rfl rfl (OT.append (v := u3) (u := v69) (F := instT) rfl El93 rfl (by decide) rfl rfl Rs.o (OneL.c (fun _ => rfl)) rfl (by first | omega | (simp <;> omega)) fun v70 => (kp ?_))
        refine RH.w rfl rfl (PV.field rfl Fo95_3 rfl) ?_
        refine RH.ot rfl rfl (OT.storeB (v := v70) (vs := [_]) (cs' := [_, _, _, _]) rfl Sz93 rfl rfl (Cl.s (v := v70) SlF.o) rfl (OneC.sl SlF.o OneC.nil) rfl rfl (kp ?_))
        refine RH.nil ?_
        exact ⟨rfl, v70, w68, pw68, ⟨by assumption, ew68⟩, trivial, ⟨(by kernel_rfl), (by kernel_rfl), (by kernel_rfl), (by kernel_rfl), (by kernel_rfl), (by kernel_rfl), (by kernel_rfl), trivial⟩, Cv.p⟩
     rintro u4 x pn τ7 ⟨hpn, hdn⟩
     refine WP.region (RG.ml rfl (RG.p (PV.sub rfl rfl rfl (by omega)) (RG.mr rfl (RG.nil ?_))))
     have hd2 : (if 0 < i then dInss bs i (m3 - 1).toNat (ns ++ [x]) pn else (ns ++ [x], pn)) = (if 0 < i then dInss bs i w55.toNat [] pw55 else ([], pw55)) := by
      rw [<- l3, if_pos h8.1, if_pos h8.1, show m3.toNat = (m3 - 1).toNat + 1 by omega, dInss, hdn]
     exact ⟨rfl, m3 - 1, (ns ++ [x]), u4, pn, ⟨by omega, by simp; omega, hpn, hd2⟩, ⟨(by kernel_rfl), trivial⟩, ⟨(by kernel_rfl), (by kernel_rfl), (by kernel_rfl), (by kernel_rfl), (by kernel_rfl), (by kernel_rfl), trivial⟩, Cv.p, by omega⟩
    ·have h8 : ¬ (0 < i ∧ 0 < m3) := by simp at h8; omega
     have l4 : (if 0 < i then dInss bs i w55.toNat [] pw55 else ([], pw55)) = (ns, pm3) := by
      rw [<- l3]
      by_cases c : 0 < i
      ·rw [if_pos c, show m3.toNat = 0 by omega, dInss]
      ·rw [if_neg c]
     obtain ⟨n0, e0, e1⟩ := hd1
     have hce : dCel bs i pp = (⟨nm, ss, ls, ns⟩, pm3) := by
      simp only [dCel, e0, ew29, <- g3, ew42, <- j3, ew55, l4, e1]
     have hst : dCels bs (1 + w12 - (i + 1)).toNat (i + 1) (erCls (xs ++ [⟨nm, ⟨u1, ss⟩, ⟨u2, ls⟩, ⟨u3, ns⟩⟩])) pm3 = dCels bs (1 + w12).toNat 0 [] pw12 := by
      rw [<- hd, show (1 + w12 - i).toNat = (1 + w12 - (i + 1)).toNat + 1 by omega, dCels, hce, erCls_app]; rfl
     refine WP.exit (WP.region (RG.p (PV.field rfl Fo26_0 rfl) (RG.p (PV.load1 rfl Sc24 rfl (Rd.blk rfl)) (RG.p (PV.loadW rfl Ag95 rfl rfl) ?_))))
     refine RG.ot rfl (OT.bslice (F := cellT) (els := [⟨nm, ⟨u1, ss⟩, ⟨u2, ls⟩, ⟨u3, ns⟩⟩]) rfl El24 rfl (by decide) rfl (by decide) ⟨rfl, (Cl.c rfl), trivial⟩ fun v75 => ?_)
     refine RG.ot rfl (OT.append (v := q) (u := v75) (F := cellT) rfl El24 rfl (by decide) rfl rfl Rs.o (OneL.one (OneC.val rfl (OneC.sl (SlF.o (v := u1)) (OneC.sl (SlF.o (v := u2)) (OneC.sl (SlF.o (v := u3)) OneC.nil))))) rfl (by first | omega | (simp <;> omega)) fun v76 => ?_)
     refine RG.p (PV.field rfl Fo26_0 rfl) ?_
     refine RG.ot rfl (OT.storeB (v := v76) (vs := [_]) (cs' := [_]) rfl Sz24 rfl rfl (Cl.s (v := v76) SlF.o) rfl (OneC.sl SlF.o OneC.nil) rfl rfl ?_)
     refine RG.nil (WP.region (RG.ml rfl (RG.p (PV.add rfl rfl rfl (by omega)) (RG.mr rfl (RG.nil ?_)))))
     exact ⟨rfl, i + 1, (xs ++ [⟨nm, ⟨u1, ss⟩, ⟨u2, ls⟩, ⟨u3, ns⟩⟩]), v76, pm3, ⟨by omega, by rw [List.length_append]; simp; omega, by rw [erCls_app]; exact h2.app hnm j4 g4 ⟨by simp only [erCl]; omega, by simp only [erCl]; omega, by simp only [erCl]; omega⟩, l2, hst⟩, ⟨(by kernel_rfl), trivial⟩, ⟨(by kernel_rfl), (by kernel_rfl), (by kernel_rfl), (by kernel_rfl), trivial⟩, ((Cv.p (C := osl 109 shapeT u1 ss :: osl 182 labelT u2 ls :: osl 111 instT u3 ns :: osl 95 cellT v76 (xs ++ [⟨nm, ⟨u1, ss⟩, ⟨u2, ls⟩, ⟨u3, ns⟩⟩]) :: bagS 109 shapeT (shs xs) :: bagS 182 labelT (lbs xs) :: bagS 111 instT (ins xs) :: blk b3 26 [v76] :: blk b2 26 [.slice none 0 0] :: sPl b cv pm3 :: L)).trans Cv.cellNew3), by omega⟩
 ·have h5 := odf h5
  rw [show (1 + w12 - i).toNat = 0 by omega, dCels] at hd
  have e : dLibF bs p = (erCls xs, pp) := by simp only [dLibF, ew12, <- hd]
  refine WP.exit (WP.sr (RG.p (PV.loadW rfl Ag26 rfl rfl) ?_))
  refine RG.ot rfl (OT.storeW (vs := [_]) rfl Sz26 rfl rfl (Cl.c rfl) rfl rfl (OneC.sl (SlF.o (v := q)) OneC.nil) ?_)
  refine RG.nil ?_
  exact WP.ret ⟨_, _, ResV.one rfl (RV1.cell rfl Ag26 rfl), Cv.p, k q xs pp e h3 h2 (by omega) (by omega)⟩
theorem dIdx_s {b : Nat} {cv : Value} {bs : List UInt8} {l : Lib} {p : Pl} (hcode : SL G byteT cv bs) (hp : OkP p) (h1 : Rs G L cellT l.cells.v l.cells.xs) (hb : l.cells.xs.length <= 8) (k : ∀ n p', dIdx bs (erCls l.cells.xs) p = (n, p') -> OkP p' -> R (vi n) G (sPl b cv p' :: L)) : CallT Tryz.prog 108 #[.pointer (some ⟨b, 0, none⟩), vT libT l] G (sPl b cv p :: L) R := by
 have hl3 : ([-1, (l.cells.xs.length : Int), 7] : List Int).length = 3 := rfl
 refine CallT.enter (args := _) Tryz.func108 rfl rfl (by kernel_rfl) rfl ?_
 refine WP.sr ?_
 refine RG.ot rfl (OT.box (cs := libT.enc l) rfl rfl rfl fun b3 => ?_)
 refine RG.mr rfl (RG.nil (WP.seq (WP.sr (RG.p (PV.move rfl rfl) ?_))))
 refine RG.callF (vs := [_, _]) rfl rfl En57 rfl (CallT.exB (b := b) (nextP_s hcode (by assumption) (by omega) (fun w6 pw6 ew6 ow6 hw6 => ?_)))
 refine RG.p (PV.eql rfl rfl rfl) (RG.nil ?_)
 refine WP.cond rfl (fun h2 => ?_) fun h2 => ?_
 ·have h2 := odt h2
  refine WP.cut2 [] (fun (n : Int) (p1 : Pl) => OkP p1 ∧ dIdx bs (erCls l.cells.xs) p = (n, p1)) (fun (n : Int) (p1 : Pl) => [(4, vi n)]) (fun (n : Int) (p1 : Pl) => blk b3 26 (libT.enc l) :: sPl b cv p1 :: L) ?_ ?_
  refine WP.regionHD [.b b] (.q 0 (.q 1 (.q 2 (.q 4 (.b 3 (.l 5 (.q 6 (.q 7 (.q 8 Sch.nil)))) 5 (.l 3 (.q 6 (.q 7 (.q 8 Sch.nil))))))))) (by kernel_rfl) (by kernel_rfl) (by kernel_rfl) rfl ?_
  refine RH.w rfl rfl (PV.field rfl Fo26_0 rfl) (RH.w rfl rfl (PV.load1 rfl Sc24 rfl (Rd.blk rfl)) (RH.w rfl rfl (PV.len rfl Tryz.underlying24 rfl (SlF.r h1)) (RH.w rfl rfl (PV.move rfl rfl) ?_)))
  ·refine RH.ot2 rfl rfl rfl rfl  (OT.bslice (F := intT) (els := [_, _, _]) rfl El45 rfl (by decide) rfl (by decide) ⟨rfl, (Cl.c rfl), ⟨rfl, (Cl.c rfl), ⟨rfl, (Cl.c rfl), trivial⟩⟩⟩ fun v11 => (kp ?_)) (OT.callF (vs := [_, _]) rfl En57 rfl (CallT.exB (b := b) (nextP_s hcode (by assumption) (by omega) (fun w13 pw13 ew13 ow13 hw13 => (kp ?_)))))
   ·refine RH.up1 ?_
    refine RH.ot rfl rfl (OT.callF (vs := [_, _]) rfl En57 rfl (CallT.exB (b := b) (nextP_s hcode (by assumption) (by omega) (fun w13 pw13 ew13 ow13 hw13 => (kp ?_)))))
    refine RH.w rfl rfl (PV.idxS (j := w13.toNat) (v := v11) rfl Is45 rfl SlF.o rfl (by omega) (by omega)) (RH.w rfl rfl (PV.loadE1 rfl Sc2 rfl rfl (El.o (getG (by omega))) rfl) (RH.w rfl rfl (PV.mvI (.inr rfl) rfl) (RH.nil ?_)))
    exact ⟨rfl, (gd [-1, (l.cells.xs.length : Int), 7] w13.toNat), pw13, ⟨by assumption, by simp only [dIdx, ew6, h2, if_true, ew13, erCls_len]⟩, ⟨rfl, trivial⟩, trivial, Cv.p⟩
   ·refine RH.ot rfl rfl (OT.bslice (F := intT) (els := [_, _, _]) rfl El45 rfl (by decide) rfl (by decide) ⟨rfl, (Cl.c rfl), ⟨rfl, (Cl.c rfl), ⟨rfl, (Cl.c rfl), trivial⟩⟩⟩ fun v11 => (kp ?_))
    refine RH.up1 ?_
    refine RH.w rfl rfl (PV.idxS (j := w13.toNat) (v := v11) rfl Is45 rfl SlF.o rfl (by omega) (by omega)) (RH.w rfl rfl (PV.loadE1 rfl Sc2 rfl rfl (El.o (getG (by omega))) rfl) (RH.w rfl rfl (PV.mvI (.inr rfl) rfl) (RH.nil ?_)))
    exact ⟨rfl, (gd [-1, (l.cells.xs.length : Int), 7] w13.toNat), pw13, ⟨by assumption, by simp only [dIdx, ew6, h2, if_true, ew13, erCls_len]⟩, ⟨rfl, trivial⟩, trivial, Cv.p⟩
  rintro n p1 τ1 ⟨hp1, hd1⟩
  exact WP.ret ⟨_, _, rv rfl rfl, Cv.p, k n p1 hd1 hp1⟩
 ·have h2 := odf h2
  refine WP.skip (WP.sr (RG.p (PV.move rfl rfl) (RG.p (PV.field rfl Fo26_0 rfl) (RG.p (PV.load1 rfl Sc24 rfl (Rd.blk rfl)) (RG.p (PV.len rfl Tryz.underlying24 rfl (SlF.r h1)) ?_)))))
  refine RG.callF (vs := [_, _]) rfl rfl En57 rfl (CallT.exB (b := b) (nextP_s hcode (by assumption) (by omega) (fun w20 pw20 ew20 ow20 hw20 => ?_)))
  refine RG.mr rfl (RG.nil ?_)
  exact WP.ret ⟨_, _, rv rfl rfl, Cv.p, k w20 pw20 (by simp only [dIdx, ew6, h2, if_false, erCls_len, ew20]) (by assumption)⟩
theorem lay0_yes {xs : List Cell} (h0 : 0 < xs.length) (h1 : 0 < (gd xs 0).shapes.xs.length) : lay0 (erCls xs) = (gd (gd xs 0).shapes.xs 0).layer := by
 cases xs with
 | nil => simp at h0
 | cons c r =>
  obtain ⟨nm, ⟨v, ss⟩, ls, is⟩ := c
  cases ss with
  | nil => simp [gd] at h1
  | cons s t => simp [erCls, erCl, lay0, gd]
theorem lay0_no {xs : List Cell} (h1 : ¬ (0 < (gd xs 0).shapes.xs.length)) : lay0 (erCls xs) = 0 := by
 cases xs with
 | nil => rfl
 | cons c r =>
  obtain ⟨nm, ⟨v, ss⟩, ls, is⟩ := c
  cases ss with
  | nil => rfl
  | cons s t => simp [gd] at h1
theorem PV.remT {P : Program} {o : Oper} {σ : Nat -> Value} {x y : Operand} {T T' : TypeId} {a b : Int} (ho : o.op = .binOp .rem T x y T') (hx : ev σ x = .int .i64 a) (hy : ev σ y = .int .i64 b) (h1 : 0 < b) (hr : b <= 9223372036854775807) : PV P o σ G L (.int .i64 (a.tmod b)) := by
 intro w _
 have e1 : a.tmod b < b := Int.tmod_lt_of_pos _ h1
 have e2 : -b < a.tmod b := by
  have := Int.natAbs_tmod a b
  have h3 : a.natAbs % b.natAbs < b.natAbs := Nat.mod_lt _ (by omega)
  omega
 simp [execOp, ho, hx, hy, eqGuard, binOp, Op.intDiv, show ¬ b = 0 by omega]
theorem dRu_s {b : Nat} {cv : Value} {bs : List UInt8} {l : Lib} {p : Pl} (hcode : SL G byteT cv bs) (hp : OkP p) (hL : RLib G L l.cells.v l.cells.xs) (hx : 1 <= l.cells.xs.length) (hlb : -2 <= lay0 (erCls l.cells.xs) ∧ lay0 (erCls l.cells.xs) <= 9) (k : ∀ r p', dRu bs (erCls l.cells.xs) p = (r, p') -> OkP p' -> R (vT ruleT r) G (sPl b cv p' :: L)) : CallT Tryz.prog 37 #[.pointer (some ⟨b, 0, none⟩), vT libT l] G (sPl b cv p :: L) R := by
 have hsl := hL.sa (i := 0) (by omega)
 refine CallT.enter (args := _) Tryz.func37 rfl rfl (by kernel_rfl) rfl ?_
 refine WP.sr ?_
 refine RG.ot rfl (OT.box (cs := libT.enc l) rfl rfl rfl fun b3 => ?_)
 refine RG.ot rfl (OT.alloc rfl Zr42 fun b4 => ?_)
 refine RG.nil (WP.sr (RG.p (PV.move rfl rfl) ?_))
 refine RG.callF (vs := [_, _]) rfl rfl En57 rfl (CallT.exB (b := b) (nextP_s hcode (by assumption) (by omega) (fun w7 pw7 ew7 ow7 hw7 => ?_)))
 refine RG.p (PV.move rfl rfl) ?_
 refine RG.callF (vs := [_, _]) rfl rfl En57 rfl (CallT.exB (b := b) (nextP_s hcode (by assumption) (by omega) (fun w9 pw9 ew9 ow9 hw9 => ?_)))
 refine RG.p (PV.add rfl rfl rfl (by omega)) (RG.p (PV.build (vs := [(0, [vi _]), (3, [vi _])]) (out := [_, _, _, _, _]) rfl Zr42 Pl42 ⟨rfl, (Cl.c rfl), ⟨rfl, (Cl.c rfl), trivial⟩⟩ rfl) ?_)
 refine RG.ot rfl (OT.alloc rfl Zr42 fun b5 => ?_)
 refine RG.ot rfl (OT.storeW (vs := [vi _, vi _, vi _, vi _, vi _]) rfl Sz42 rfl rfl (Cl.c rfl) rfl rfl (OneC.c rfl) ?_)
 refine RG.nil ?_
 refine WP.cut1 [0, 4, 5] (fun (x : Rule) => x = ⟨w7, lay0 (erCls l.cells.xs), 0, w9 + 1, 0⟩) (fun (x : Rule) => []) (fun (x : Rule) => blk b5 42 (ruleT.enc x) :: sPl b cv pw9 :: blk b3 26 (libT.enc l) :: blk b4 42 [vi 0, vi 0, vi 0, vi 0, vi 0] :: L) ?_ ?_
 refine WP.sr (RG.p (PV.field rfl Fo26_0 rfl) (RG.p (PV.load1 rfl Sc24 rfl (Rd.blk rfl)) (RG.p (PV.len rfl Tryz.underlying24 rfl (SlF.r hL.c)) (RG.p (PV.gtr rfl rfl rfl) (RG.bl rfl ?_)))))
 refine RG.spl (t := 16) rfl (fun g1 => ?_) (fun g1 => ?_)
 ·refine RG.take rfl rfl rfl g1 ?_
  refine RG.p (PV.field rfl Fo26_0 rfl) ?_
  refine RG.take rfl rfl rfl g1 ?_
  refine RG.p (PV.load1 rfl Sc24 rfl (Rd.blk rfl)) ?_
  refine RG.take rfl rfl rfl g1 ?_
  refine RG.p (PV.idxS (j := 0) rfl Is24 rfl (SlF.r hL.c) rfl (by omega) (by omega)) ?_
  refine RG.take rfl rfl rfl g1 ?_
  refine RG.p (PV.field rfl Fo95_1 rfl) ?_
  refine RG.take rfl rfl rfl g1 ?_
  refine RG.p (PV.loadF rfl Sc66 rfl rfl (El.r hL.c (getG (by omega))) rfl) ?_
  refine RG.take rfl rfl rfl g1 ?_
  refine RG.p (PV.len rfl Tryz.underlying66 rfl (SlF.r hsl)) ?_
  refine RG.take rfl rfl rfl g1 ?_
  refine RG.p (PV.gtr rfl rfl rfl) (RG.p (PV.pickT rfl rfl g1 rfl) (RG.nil ?_))
  refine WP.cond rfl (fun h2 => ?_) fun h2 => ?_
  ·have h2 := odt h2
   have e0 := lay0_yes (xs := l.cells.xs) (by omega) (by omega)
   refine WP.region (RG.p (PV.field rfl Fo26_0 rfl) (RG.p (PV.load1 rfl Sc24 rfl (Rd.blk rfl)) (RG.p (PV.idxS (j := 0) rfl Is24 rfl (SlF.r hL.c) rfl (by omega) (by omega)) (RG.p (PV.field rfl Fo95_1 rfl) (RG.p (PV.loadF rfl Sc66 rfl rfl (El.r hL.c (getG (by omega))) rfl) (RG.p (PV.idxS (j := 0) rfl Is66 rfl (SlF.r hsl) rfl (by omega) (by omega)) (RG.p (PV.field rfl Fo109_0 rfl) (RG.p (PV.loadF rfl Sc2 rfl rfl (El.r hsl (getG (by omega))) rfl) (RG.p (PV.field rfl Fo42_1 rfl) ?_)))))))))
   refine RG.ot rfl (OT.storeB (vs := [vi _]) (cs' := [_, _, _, _, _]) rfl Sz2 rfl rfl (Cl.c rfl) rfl (OneC.c rfl) rfl rfl ?_)
   refine RG.nil ?_
   exact ⟨rfl, ⟨w7, (gd (gd l.cells.xs 0).shapes.xs 0).layer, 0, w9 + 1, 0⟩, (by rw [e0]), trivial, ⟨rfl, rfl, rfl, trivial⟩, Cv.p⟩
  ·have e0 := lay0_no (xs := l.cells.xs) (by simpa using h2)
   refine WP.skip ?_
   exact ⟨rfl, ⟨w7, 0, 0, w9 + 1, 0⟩, (by rw [e0]), trivial, ⟨rfl, rfl, rfl, trivial⟩, Cv.p⟩
 ·exfalso
  have := odf g1
  omega
 rintro x τ1 hx1
 refine WP.cut1 [0, 4, 5] (fun (y : Rule) => y = ⟨w7, lay0 (erCls l.cells.xs), (if paired w7 = true then Int.tmod (lay0 (erCls l.cells.xs) + 1) 8 else 0), w9 + 1, 0⟩) (fun (y : Rule) => []) (fun (y : Rule) => blk b5 42 (ruleT.enc y) :: sPl b cv pw9 :: blk b3 26 (libT.enc l) :: blk b4 42 [vi 0, vi 0, vi 0, vi 0, vi 0] :: L) ?_ ?_
 refine WP.sr (RG.p (PV.loadW rfl Ag42 rfl rfl) ?_)
 refine RG.callF (vs := [_]) rfl rfl En75 rfl (l20Paired_s (r := x) ?_)
 refine RG.nil ?_
 ·refine WP.cond rfl (fun h3 => ?_) fun h3 => ?_
  ·have h3 : paired w7 = true := by rw [hx1] at h3; exact h3
   have hlx : -2 <= x.layer ∧ x.layer <= 9 := by rw [hx1]; exact hlb
   refine WP.region (RG.p (PV.field rfl Fo42_1 rfl) (RG.p (PV.load1 rfl Sc2 rfl (Rd.blk rfl)) (RG.p (PV.add rfl rfl rfl (by omega)) (RG.p (PV.remT rfl rfl rfl (by decide) (by decide)) (RG.p (PV.field rfl Fo42_2 rfl) ?_)))))
   refine RG.ot rfl (OT.storeB (vs := [vi _]) (cs' := [_, _, _, _, _]) rfl Sz2 rfl rfl (Cl.c rfl) rfl (OneC.c rfl) rfl rfl ?_)
   refine RG.nil ?_
   exact ⟨rfl, ⟨x.kind, x.layer, Int.tmod (x.layer + 1) 8, x.value, x.percent⟩, (by rw [hx1, if_pos h3]), trivial, ⟨rfl, rfl, rfl, trivial⟩, Cv.p⟩
  ·have h3 : ¬ paired w7 = true := by rw [hx1] at h3; simp at h3; simp [h3]
   refine WP.skip ?_
   exact ⟨rfl, x, (by rw [if_neg h3]; exact hx1), trivial, ⟨rfl, rfl, rfl, trivial⟩, Cv.p⟩
 rintro y τ2 hy1
 refine WP.cut2 [0, 4, 5] (fun (z : Rule) (p3 : Pl) => OkP p3 ∧ p3 = (nx bs pw9 12).2 ∧ z = ⟨if (nx bs pw9 12).1 = 0 then 4 else y.kind, y.layer, if (nx bs pw9 12).1 = 0 then 0 else y.other, y.value, y.percent⟩) (fun (z : Rule) (p3 : Pl) => []) (fun (z : Rule) (p3 : Pl) => blk b5 42 (ruleT.enc z) :: sPl b cv p3 :: blk b3 26 (libT.enc l) :: blk b4 42 [vi 0, vi 0, vi 0, vi 0, vi 0] :: L) ?_ ?_
 refine WP.sr (RG.p (PV.move rfl rfl) ?_)
 refine RG.callF (vs := [_, _]) rfl rfl En57 rfl (CallT.exB (b := b) (nextP_s hcode (by assumption) (by omega) (fun w42 pw42 ew42 ow42 hw42 => ?_)))
 refine RG.p (PV.eql rfl rfl rfl) (RG.nil ?_)
 ·refine WP.cond rfl (fun h4 => ?_) fun h4 => ?_
  ·have h4 := odt h4
   refine WP.sr (RG.p (PV.field rfl Fo42_0 rfl) ?_)
   refine RG.ot rfl (OT.storeB (vs := [vi _]) (cs' := [_, _, _, _, _]) rfl Sz2 rfl rfl (Cl.c rfl) rfl (OneC.c rfl) rfl rfl ?_)
   refine RG.nil (WP.region (RG.p (PV.field rfl Fo42_2 rfl) ?_))
   refine RG.ot rfl (OT.storeB (vs := [vi _]) (cs' := [_, _, _, _, _]) rfl Sz2 rfl rfl (Cl.c rfl) rfl (OneC.c rfl) rfl rfl ?_)
   refine RG.nil ?_
   exact ⟨rfl, ⟨4, y.layer, 0, y.value, y.percent⟩, pw42, ⟨by assumption, by rw [ew42], by rw [ew42]; simp only [h4, if_true]⟩, trivial, ⟨rfl, rfl, rfl, trivial⟩, Cv.p⟩
  ·have h4 := odf h4
   refine WP.skip ?_
   exact ⟨rfl, y, pw42, ⟨by assumption, by rw [ew42], by rw [ew42]; simp only [h4, if_false]⟩, trivial, ⟨rfl, rfl, rfl, trivial⟩, Cv.p⟩
 rintro z p3 τ3 ⟨hz0, hz1, hz2⟩
 refine WP.cut2 [4, 5] (fun (u : Rule) (p4 : Pl) => OkP p4 ∧ p4 = (nx bs p3 14).2 ∧ u = ⟨z.kind, z.layer, z.other, if (nx bs p3 14).1 = 0 then 0 else z.value, z.percent⟩) (fun (u : Rule) (p4 : Pl) => []) (fun (u : Rule) (p4 : Pl) => blk b5 42 (ruleT.enc u) :: sPl b cv p4 :: blk b3 26 (libT.enc l) :: blk b4 42 [vi 0, vi 0, vi 0, vi 0, vi 0] :: L) ?_ ?_
 refine WP.sr (RG.p (PV.move rfl rfl) ?_)
 refine RG.callF (vs := [_, _]) rfl rfl En57 rfl (CallT.exB (b := b) (nextP_s hcode (by assumption) (by omega) (fun w47 pw47 ew47 ow47 hw47 => ?_)))
 refine RG.p (PV.eql rfl rfl rfl) (RG.nil ?_)
 ·refine WP.cond rfl (fun h5 => ?_) fun h5 => ?_
  ·have h5 := odt h5
   refine WP.region (RG.p (PV.field rfl Fo42_3 rfl) ?_)
   refine RG.ot rfl (OT.storeB (vs := [vi _]) (cs' := [_, _, _, _, _]) rfl Sz2 rfl rfl (Cl.c rfl) rfl (OneC.c rfl) rfl rfl ?_)
   refine RG.nil ?_
   exact ⟨rfl, ⟨z.kind, z.layer, z.other, 0, z.percent⟩, pw47, ⟨by assumption, by rw [ew47], by rw [ew47]; simp only [h5, if_true]⟩, trivial, ⟨rfl, rfl, trivial⟩, Cv.p⟩
  ·have h5 := odf h5
   refine WP.skip ?_
   exact ⟨rfl, z, pw47, ⟨by assumption, by rw [ew47], by rw [ew47]; simp only [h5, if_false]⟩, trivial, ⟨rfl, rfl, trivial⟩, Cv.p⟩
 rintro u p4 τ4 ⟨hu0, hu1, hu2⟩
 refine WP.sr (RG.p (PV.loadW rfl Ag42 rfl rfl) ?_)
 refine RG.ot rfl (OT.storeW (vs := [vi _, vi _, vi _, vi _, vi _]) rfl Sz42 rfl rfl (Cl.c rfl) rfl rfl (OneC.c rfl) ?_)
 refine RG.nil ?_
 refine WP.ret ?_
 have hfin : dRu bs (erCls l.cells.xs) p = (u, p4) := by
  rw [hu2, hu1, hz2, hz1, hy1]
  simp only [dRu, ew7, ew9]
 exact ⟨_, _, ResV.one rfl (RV1.cell rfl Ag42 rfl), Cv.p, k u p4 hfin hu0⟩
def celB (S : List Bool) (x y : Int) : Bool := (decide (-40 <= x ∧ x < 40) && decide (-40 <= y ∧ y < 40)) && gd S ((y + 40) * 80 + x + 40).toNat
def cv (S : List Bool) (ver : Bool) (l k : Int) : Bool := celB S (bif ver then l else k) (bif ver then k else l)
def lineR (ver : Bool) (l lo hi : Int) : Rect := bif ver then ⟨l, lo, l + 1, hi⟩ else ⟨lo, l, hi, l + 1⟩
theorem celB_rng {S : List Bool} {x y : Int} (h : celB S x y = true) : (-40 <= x ∧ x < 40) ∧ (-40 <= y ∧ y < 40) := by
 simp only [celB, Bool.and_eq_true, decide_eq_true_eq] at h; exact h.1
theorem cv_rng {S : List Bool} {ver : Bool} {l k : Int} (h : cv S ver l k = true) : (-40 <= l ∧ l < 40) ∧ (-40 <= k ∧ k < 40) := by
 have := celB_rng h
 cases ver
 ·exact ⟨this.2, this.1⟩
 ·exact this
structure isRun (S : List Bool) (ver : Bool) (l k lo hi : Int) : Prop where
  lk : lo <= k ∧ k < hi
  rng : (-40 <= lo ∧ hi <= 40) ∧ (-40 <= l ∧ l < 40)
  all : ∀ u, lo <= u -> u < hi -> cv S ver l u = true
  low : cv S ver l (lo - 1) = false
  high : cv S ver l hi = false
structure RunsOf (S : List Bool) (ver : Bool) (out : List Rect) : Prop where
  len : out.length <= 6400
  run : ∀ r ∈ out, ∃ l k lo hi, isRun S ver l k lo hi ∧ r = lineR ver l lo hi
  all : ∀ l k, cv S ver l k = true -> ∃ lo hi, isRun S ver l k lo hi ∧ lineR ver l lo hi ∈ out
theorem run_start {S : List Bool} {ver : Bool} {l : Int} : ∀ (n : Nat) (k : Int), (k + 41).toNat = n -> cv S ver l k = true -> ∃ s, s <= k ∧ cv S ver l (s - 1) = false ∧ ∀ u, s <= u -> u <= k -> cv S ver l u = true := by
 intro n
 induction n with
 | zero => intro k hk h; have := cv_rng h; omega
 | succ n ih =>
  intro k hk h
  have hr := cv_rng h
  cases hb : cv S ver l (k - 1) with
  | false => exact ⟨k, Int.le_refl _, hb, fun u h1 h2 => by rw [show u = k by omega]; exact h⟩
  | true =>
   obtain ⟨s, h1, h2, h3⟩ := ih (k - 1) (by omega) hb
   refine ⟨s, by omega, h2, fun u g1 g2 => ?_⟩
   by_cases c : u = k
   ·rw [c]; exact h
   ·exact h3 u g1 (by omega)
theorem isRun.mv {S : List Bool} {ver : Bool} {l s k lo hi : Int} (h : isRun S ver l s lo hi) (h1 : s <= k) (h2 : ∀ u, s <= u -> u <= k -> cv S ver l u = true) : isRun S ver l k lo hi := by
 refine ⟨⟨by have := h.lk; omega, ?_⟩, h.rng, h.all, h.low, h.high⟩
 by_cases c : k < hi
 ·exact c
 ·have := h2 hi (by have := h.lk; omega) (by omega)
  rw [h.high] at this; cases this
def Seen (S : List Bool) (ver : Bool) (out : List Rect) (i k : Int) : Prop := ∀ l s, (l < i ∨ (l = i ∧ s < k)) -> cv S ver l s = true -> cv S ver l (s - 1) = false -> ∃ lo hi, isRun S ver l s lo hi ∧ lineR ver l lo hi ∈ out
theorem Seen.add {S : List Bool} {ver : Bool} {out : List Rect} {i k lo hi : Int} (h : Seen S ver out i k) (hr : isRun S ver i k lo hi) : Seen S ver (out ++ [lineR ver i lo hi]) i (k + 1) := fun l s h1 h2 h3 => by
 by_cases c : l = i ∧ s = k
 ·rw [c.1, c.2]; exact ⟨lo, hi, hr, by simp⟩
 ·obtain ⟨a, b, g1, g2⟩ := h l s (by omega) h2 h3
  exact ⟨a, b, g1, List.mem_append_left _ g2⟩
theorem Seen.all {S : List Bool} {ver : Bool} {out : List Rect} (h : Seen S ver out 40 (-40)) : ∀ l k, cv S ver l k = true -> ∃ lo hi, isRun S ver l k lo hi ∧ lineR ver l lo hi ∈ out := fun l k hk => by
 obtain ⟨s, h1, h2, h3⟩ := run_start _ k rfl hk
 have hr := cv_rng hk
 obtain ⟨lo, hi, g1, g2⟩ := h l s (by omega) (h3 s (Int.le_refl _) h1) h2
 exact ⟨lo, hi, g1.mv h1 h3, g2⟩
def RunL (S : List Bool) (ver : Bool) (out : List Rect) : Prop := ∀ r ∈ out, ∃ l k lo hi, isRun S ver l k lo hi ∧ r = lineR ver l lo hi
theorem RunL.add {S : List Bool} {ver : Bool} {out : List Rect} {i k lo hi : Int} (h : RunL S ver out) (hr : isRun S ver i k lo hi) : RunL S ver (out ++ [lineR ver i lo hi]) := fun r hm => by
 rcases List.mem_append.1 hm with h1 | h1
 ·exact h r h1
 ·simp only [List.mem_singleton] at h1; exact ⟨i, k, lo, hi, hr, h1⟩
theorem RunL.nil {S : List Bool} {ver : Bool} : RunL S ver [] := fun r h => by cases h
theorem Seen.init {S : List Bool} {ver : Bool} {out : List Rect} : Seen S ver out (-40) (-40) := fun l s h1 h2 h3 => by have := cv_rng h2; omega
theorem Seen.line {S : List Bool} {ver : Bool} {out : List Rect} {i : Int} (h : Seen S ver out i 40) : Seen S ver out (i + 1) (-40) := fun l s h1 h2 h3 => by
 have := cv_rng h2
 exact h l s (by omega) h2 h3
structure RunsA (S : List Bool) (out : List Rect) : Prop where
  len : out.length <= 12800
  run : ∀ r ∈ out, ∃ ver l k lo hi, isRun S ver l k lo hi ∧ r = lineR ver l lo hi
  all : ∀ ver l k, cv S ver l k = true -> ∃ lo hi, isRun S ver l k lo hi ∧ lineR ver l lo hi ∈ out
theorem RunsA.of {S : List Bool} {a b : List Rect} (ha : RunsOf S false a) (hb : RunsOf S true b) : RunsA S (a ++ b) := ⟨by have := ha.len; have := hb.len; simp; omega, fun r hr => by
 rcases List.mem_append.1 hr with h | h
 ·obtain ⟨l, k, lo, hi, h1, h2⟩ := ha.run r h; exact ⟨false, l, k, lo, hi, h1, h2⟩
 ·obtain ⟨l, k, lo, hi, h1, h2⟩ := hb.run r h; exact ⟨true, l, k, lo, hi, h1, h2⟩, fun ver l k h => by
 cases ver with
 | false => obtain ⟨lo, hi, h1, h2⟩ := ha.all l k h; exact ⟨lo, hi, h1, List.mem_append_left _ h2⟩
 | true => obtain ⟨lo, hi, h1, h2⟩ := hb.all l k h; exact ⟨lo, hi, h1, List.mem_append_right _ h2⟩⟩
theorem lineR_valid {S : List Bool} {ver : Bool} {l k lo hi : Int} (h : isRun S ver l k lo hi) : validRect (lineR ver l lo hi) = true := by
 have h1 := h.lk; have h2 := h.rng
 rw [validR_iff]
 cases ver <;> simp only [lineR, cond_true, cond_false] <;> omega
def lenR (r : Rect) : Int := (r.x1 - r.x0) * (r.y1 - r.y0)
def markC (list : List Rect) (w : Int) (y x : Nat) : Bool := list.any fun r => decide (lenR r < w) && inR r y x
theorem gb_repf (n y x : Nat) : gb (List.replicate n false) y x = false := by
 unfold gb gd
 rw [List.getElem?_replicate]; split <;> rfl
theorem gb_rep0 {list : List Rect} {w : Int} (y x : Nat) : gb (List.replicate 6400 false) y x = markC (list.take 0) w y x := by rw [gb_repf]; rfl
open Classical in
noncomputable def celL (P : Nat -> Nat -> Prop) : List Bool := (List.range 6400).map fun k => decide (P (k / 80) (k % 80))
theorem celL_len (P : Nat -> Nat -> Prop) : (celL P).length = 6400 := by simp [celL]
theorem celL_gb {P : Nat -> Nat -> Prop} {y x : Nat} (hy : y < 80) (hx : x < 80) : gb (celL P) y x = true ↔ P y x := by
 have h1 : y * 80 + x < 6400 := by omega
 have h2 : (y * 80 + x) / 80 = y := by omega
 have h3 : (y * 80 + x) % 80 = x := by omega
 simp [gb, gd, celL, h1, h2, h3]
theorem celL_eq {P : Nat -> Nat -> Prop} {D : List Bool} (hD : D.length = 6400) (h : ∀ y x, y < 80 -> x < 80 -> (gb D y x = true ↔ P y x)) : D = celL P :=
 gb_ext hD (celL_len _) fun y x hy hx => by rw [Bool.eq_iff_iff, h y x hy hx, celL_gb hy hx]
def lnI (ver : Bool) (y x : Nat) : Int := bif ver then (x : Int) - 40 else (y : Int) - 40
def plI (ver : Bool) (y x : Nat) : Int := bif ver then (y : Int) - 40 else (x : Int) - 40
theorem inR_line {ver : Bool} {l lo hi : Int} {y x : Nat} : inR (lineR ver l lo hi) y x = true ↔ l = lnI ver y x ∧ lo <= plI ver y x ∧ plI ver y x < hi := by
 rw [inR_iff]
 cases ver <;> simp only [lineR, lnI, plI, cond_true, cond_false] <;> omega
theorem lenR_line {ver : Bool} {l lo hi : Int} : lenR (lineR ver l lo hi) = hi - lo := by
 cases ver
 ·simp only [lenR, lineR, cond_false]; rw [show l + 1 - l = 1 by omega, Int.mul_one]
 ·simp only [lenR, lineR, cond_true]; rw [show l + 1 - l = 1 by omega, Int.one_mul]
theorem isRun.uniq {S : List Bool} {ver : Bool} {l k lo hi lo' hi' : Int} (h : isRun S ver l k lo hi) (g : isRun S ver l k lo' hi') : lo = lo' ∧ hi = hi' := by
 have a1 := h.lk; have a2 := g.lk
 constructor
 ·rcases Int.lt_trichotomy lo lo' with c | c | c
  ·have := h.all (lo' - 1) (by omega) (by omega); rw [g.low] at this; cases this
  ·exact c
  ·have := g.all (lo - 1) (by omega) (by omega); rw [h.low] at this; cases this
 ·rcases Int.lt_trichotomy hi hi' with c | c | c
  ·have := g.all hi (by omega) (by omega); rw [h.high] at this; cases this
  ·exact c
  ·have := h.all hi' (by omega) (by omega); rw [g.high] at this; cases this
def Thin (S : List Bool) (w : Int) (y x : Nat) : Prop := ∃ ver lo hi, isRun S ver (lnI ver y x) (plI ver y x) lo hi ∧ hi - lo < w
theorem isRun.at {S : List Bool} {ver : Bool} {l k k' lo hi : Int} (h : isRun S ver l k lo hi) (h1 : lo <= k' ∧ k' < hi) : isRun S ver l k' lo hi := ⟨h1, h.rng, h.all, h.low, h.high⟩
theorem markC_iff {S : List Bool} {out : List Rect} (h : RunsA S out) {w : Int} {y x : Nat} : markC out w y x = true ↔ Thin S w y x := by
 simp only [markC, List.any_eq_true, Bool.and_eq_true, decide_eq_true_eq]
 constructor
 ·rintro ⟨r, hr, h1, h2⟩
  obtain ⟨ver, l, k, lo, hi, h3, rfl⟩ := h.run r hr
  obtain ⟨rfl, h4⟩ := inR_line.1 h2
  rw [lenR_line] at h1
  exact ⟨ver, lo, hi, h3.at h4, h1⟩
 ·rintro ⟨ver, lo, hi, h1, h2⟩
  obtain ⟨lo', hi', h3, h4⟩ := h.all ver _ _ (h1.all _ h1.lk.1 h1.lk.2)
  obtain ⟨rfl, rfl⟩ := h1.uniq h3
  exact ⟨_, h4, by rw [lenR_line]; exact h2, inR_line.2 ⟨rfl, h1.lk⟩⟩
def okDist (w : Int) : Bool := decide (w ≥ 1) && decide (w <= 8)
noncomputable def widthL (xs : List Rect) (w : Int) : List Rect := if (isReg xs && okDist w) = true then canon (celL (Thin (bits xs) w)) else []
end Go.Proofs.YtogocmlhnjiaaaaGreat
namespace Go.Proofs.YtogocmlhnjiaaaaGreat
open Go
set_option maxRecDepth 20000
variable {G : Gh} {L : List Ch} {R : Value -> Gh -> List Ch -> Prop}
def notB (S : List Bool) : List Bool := S.map (!·)
theorem notB_len (S : List Bool) : (notB S).length = S.length := by simp [notB]
def endP (r : Rect) (ver : Bool) : Pt := bif ver then ⟨r.x0, r.y0 - 1⟩ else ⟨r.x0 - 1, r.y0⟩
def endQ (r : Rect) (ver : Bool) : Pt := bif ver then ⟨r.x0, r.y1⟩ else ⟨r.x1, r.y0⟩
def orZ (A B : List Bool) : List Bool := (List.range A.length).map fun j => gd A j || gd B j
theorem orZ_len (A B : List Bool) : (orZ A B).length = A.length := by simp [orZ]
def gapE (A B : List Bool) (ver : Bool) (r : Rect) : Bool := (celB A (endP r ver).x (endP r ver).y && celB B (endQ r ver).x (endQ r ver).y) || (celB B (endP r ver).x (endP r ver).y && celB A (endQ r ver).x (endQ r ver).y)
theorem filt_succ {α : Type} [Inhabited α] (p : α -> Bool) {xs : List α} {i : Nat} (h : i < xs.length) : (xs.take (i + 1)).filter p = (xs.take i).filter p ++ (if p (gd xs i) = true then [gd xs i] else []) := by
 rw [List.take_add_one, getG h, List.filter_append]; congr 1; cases h2 : p (gd xs i) <;> simp [h2]
structure GapsA (A B : List Bool) (out : List Rect) : Prop where
  len : out.length <= 12800
  run : ∀ r ∈ out, ∃ ver l k lo hi, isRun (notB (orZ A B)) ver l k lo hi ∧ gapE A B ver (lineR ver l lo hi) = true ∧ r = lineR ver l lo hi
  all : ∀ ver l k lo hi, isRun (notB (orZ A B)) ver l k lo hi -> gapE A B ver (lineR ver l lo hi) = true -> lineR ver l lo hi ∈ out
def Nigh (A B : List Bool) (w : Int) (y x : Nat) : Prop := ∃ ver lo hi, isRun (notB (orZ A B)) ver (lnI ver y x) (plI ver y x) lo hi ∧ gapE A B ver (lineR ver (lnI ver y x) lo hi) = true ∧ hi - lo < w
theorem near_iff {A B : List Bool} {out : List Rect} (h : GapsA A B out) {w : Int} {y x : Nat} : markC out w y x = true ↔ Nigh A B w y x := by
 simp only [markC, List.any_eq_true, Bool.and_eq_true, decide_eq_true_eq]
 constructor
 ·rintro ⟨r, hr, h1, h2⟩
  obtain ⟨ver, l, k, lo, hi, h3, h5, rfl⟩ := h.run r hr
  obtain ⟨rfl, h4⟩ := inR_line.1 h2
  rw [lenR_line] at h1
  exact ⟨ver, lo, hi, h3.at h4, h5, h1⟩
 ·rintro ⟨ver, lo, hi, h1, h5, h2⟩
  exact ⟨_, h.all ver _ _ _ _ h1 h5, by rw [lenR_line]; exact h2, inR_line.2 ⟨rfl, h1.lk⟩⟩
noncomputable def spaceL (xs : List Rect) (w : Int) : List Rect := if (isReg xs && okDist w) = true then canon (celL (Nigh (bits xs) (bits xs) w)) else []
noncomputable def betwL (xs ys : List Rect) (w : Int) : List Rect := if (isReg xs && isReg ys && okDist w) = true then canon (celL fun y x => Nigh (bits xs) (bits ys) w y x ∨ (gb (bits xs) y x = true ∧ gb (bits ys) y x = true)) else []
theorem gd_setE {α : Type} [Inhabited α] {xs : List α} {i : Nat} {a : α} (h : i < xs.length) : gd (xs.set i a) i = a := by unfold gd; simp [h]
theorem gd_setM {α : Type} [Inhabited α] {xs : List α} {i j : Nat} {a : α} (h : i ≠ j) : gd (xs.set i a) j = gd xs j := by unfold gd; rw [List.getElem?_set_ne h]
def ValidL (xs : List Rect) : Prop := ∀ r ∈ xs, validRect r = true
theorem mulP_bd {a b : Int} (ha : 1 <= a ∧ a <= 100) (hb : 0 <= b ∧ b <= 6400) : 0 <= a * b ∧ a * b <= 640000 :=
 ⟨Int.mul_nonneg (by omega) (by omega), Int.le_trans (Int.mul_le_mul ha.2 hb.2 (by omega) (by omega)) (by decide)⟩
def Is (W : List Bool) (P : Nat -> Nat -> Prop) : Prop := W.length = 6400 ∧ ∀ v u : Nat, v < 80 -> u < 80 -> (gb W v u = true ↔ P v u)
theorem Is.congr {W : List Bool} {P Q : Nat -> Nat -> Prop} (h : Is W P) (e : ∀ v u : Nat, v < 80 -> u < 80 -> (P v u ↔ Q v u)) : Is W Q := ⟨h.1, fun v u hv hu => (h.2 v u hv hu).trans (e v u hv hu)⟩
theorem Is.none {P : Nat -> Nat -> Prop} (n : Nat) (hn : n = 6400) (h : ∀ v u : Nat, v < 80 -> u < 80 -> ¬ P v u) : Is (List.replicate n false) P := ⟨by simp [hn], fun v u hv hu => by rw [gb_repf]; simp [h v u hv hu]⟩
def N1 (S : List Bool) (c y x : Int) (v u : Nat) : Prop := ∃ x' : Nat, x' < 80 ∧ gb S v x' = true ∧ (u : Int) - x' <= c ∧ (x' : Int) - u <= c ∧ ((v : Int) - 40 < y ∨ ((v : Int) - 40 = y ∧ (x' : Int) - 40 < x))
def N1d (S : List Bool) (c y x d : Int) (v u : Nat) : Prop := N1 S c y x v u ∨ ((v : Int) - 40 = y ∧ gb S v (x + 40).toNat = true ∧ x - c <= (u : Int) - 40 ∧ (u : Int) - 40 < x + d)
def N2 (W : List Bool) (c y x : Int) (v u : Nat) : Prop := ∃ y' : Nat, y' < 80 ∧ gb W y' u = true ∧ (v : Int) - y' <= c ∧ (y' : Int) - v <= c ∧ ((y' : Int) - 40 < y ∨ ((y' : Int) - 40 = y ∧ (u : Int) - 40 < x))
def N2d (W : List Bool) (c y x d : Int) (v u : Nat) : Prop := N2 W c y x v u ∨ ((u : Int) - 40 = x ∧ gb W (y + 40).toNat u = true ∧ y - c <= (v : Int) - 40 ∧ (v : Int) - 40 < y + d)
def ZI (f : Bool -> Bool -> Bool) (D O : List Bool) (i : Nat) (E : List Bool) : Prop := E.length = 6400 ∧ (∀ j, j < i -> gd E j = f (gd D j) (gd O j)) ∧ ∀ j, i <= j -> gd E j = gd D j
def minB (p q : Bool) : Bool := p && !q
def enclL (xs ys : List Rect) (w : Int) : List Rect := if (isReg xs && isReg ys && within w 0 8) = true then canon (zipB minB (growB (bits xs) w) (bits ys)) else []
theorem orZ_gb {A B : List Bool} (hA : A.length = 6400) {y x : Nat} (hy : y < 80) (hx : x < 80) : gb (orZ A B) y x = (gb A y x || gb B y x) := by
 have h : y * 80 + x < (orZ A B).length := by rw [orZ_len]; omega
 rw [gb, gd_eq h]; simp [orZ, gb]
def Small (S : List Bool) (w : Int) (y x : Nat) : Prop := ∃ c ∈ comps S, cnt c < w ∧ gb c y x = true
noncomputable def areaL (xs : List Rect) (w : Int) : List Rect := if (isReg xs && within w 1 6400) = true then canon (celL (Small (bits xs) w)) else []
def SmallN (cs : List (List Bool)) (w : Int) (y x : Nat) : Prop := ∃ c ∈ cs, cnt c < w ∧ gb c y x = true
def winR (w y x : Int) : Rect := ⟨x, y, min (x + w) 40, min (y + w) 40⟩
def winX (w y x : Int) : List Rect := if x < 40 ∧ 0 < w then winR w y x :: winX w y (x + w) else []
termination_by (40 - x).toNat
decreasing_by omega
def winY (w y : Int) : List Rect := if y < 40 ∧ 0 < w then winX w y (-40) ++ winY w (y + w) else []
termination_by (40 - y).toNat
decreasing_by omega
def windL (w : Int) : List Rect := if within w 4 40 = true then winY w (-40) else []
theorem winX_on {w y x : Int} (hw : 0 < w) (hx : x < 40) : winX w y x = winR w y x :: winX w y (x + w) := by rw [winX, if_pos ⟨hx, hw⟩]
theorem winX_off {w y x : Int} (hx : ¬ x < 40) : winX w y x = [] := by rw [winX, if_neg (fun h => hx h.1)]
theorem winY_on {w y : Int} (hw : 0 < w) (hx : y < 40) : winY w y = winX w y (-40) ++ winY w (y + w) := by rw [winY, if_pos ⟨hx, hw⟩]
theorem winY_off {w y : Int} (hx : ¬ y < 40) : winY w y = [] := by rw [winY, if_neg (fun h => hx h.1)]
theorem winX_facts {w y : Int} (hw : 0 < w) (hy : -40 <= y ∧ y < 40) (x : Int) (hx : -40 <= x) : (winX w y x).length <= (40 - x).toNat ∧ ∀ r ∈ winX w y x, validRect r = true := by
 by_cases c : x < 40
 ·rw [winX_on hw c]
  have ih := winX_facts hw hy (x + w) (by omega)
  refine ⟨by simp only [List.length_cons]; omega, fun r hr => ?_⟩
  rcases List.mem_cons.1 hr with rfl | hr
  ·rw [validR_iff]; simp only [winR]; omega
  ·exact ih.2 r hr
 ·rw [winX_off c]; exact ⟨Nat.zero_le _, fun r hr => by cases hr⟩
termination_by (40 - x).toNat
decreasing_by omega
theorem winY_facts {w : Int} (hw : 0 < w) (y : Int) (hy : -40 <= y) : (winY w y).length <= 80 * (40 - y).toNat ∧ ∀ r ∈ winY w y, validRect r = true := by
 by_cases c : y < 40
 ·rw [winY_on hw c]
  have ih := winY_facts hw (y + w) (by omega)
  have hx := winX_facts hw ⟨hy, c⟩ (-40) (by omega)
  refine ⟨by rw [List.length_append]; omega, fun r hr => ?_⟩
  rcases List.mem_append.1 hr with hr | hr
  ·exact hx.2 r hr
  ·exact ih.2 r hr
 ·rw [winY_off c]; exact ⟨Nat.zero_le _, fun r hr => by cases hr⟩
termination_by (40 - y).toNat
decreasing_by omega
theorem windL_facts (w : Int) : (windL w).length <= 6400 ∧ ∀ r ∈ windL w, validRect r = true := by
 unfold windL; split
 ·rename_i h; simp [within] at h; exact ⟨by have := (winY_facts (w := w) (by omega) (-40) (by omega)).1; omega, (winY_facts (by omega) (-40) (by omega)).2⟩
 ·exact ⟨Nat.zero_le _, fun r hr => by cases hr⟩
theorem cov_row {S : List Bool} {y x0 : Int} {n : Nat} : 0 <= tH S y x0 n ∧ tH S y x0 n <= n := cntF_bd _ _
theorem cov_col {S : List Bool} {r : Rect} (hv : (wR r : Int) <= 80) (j : Nat) : 0 <= sumF (fun j => tH S (r.y0 + j) r.x0 (wR r)) j ∧ sumF (fun j => tH S (r.y0 + j) r.x0 (wR r)) j <= j * 80 :=
 sumF_bd (fun i => ⟨cov_row.1, Int.le_trans cov_row.2 hv⟩) j
theorem covB_bd {S : List Bool} {r : Rect} (hr : validRect r = true) : 0 <= covB S r ∧ covB S r <= 6400 := by
 have hv := validR_iff.1 hr
 have h1 : (wR r : Int) = r.x1 - r.x0 := by simp only [wR]; omega
 have h2 : (hR r : Int) = r.y1 - r.y0 := by simp only [hR]; omega
 have := cov_col (S := S) (r := r) (by omega) (hR r)
 unfold covB; omega
def Bare (S : List Bool) (ws : List Rect) (p : Int) (y x : Nat) : Prop := ∃ r ∈ ws, 100 * covB S r < p * areaR r ∧ inR r y x = true
theorem Bare.next {S : List Bool} {ws : List Rect} {p : Int} {y x i : Nat} (h : i < ws.length) : Bare S (ws.take (i + 1)) p y x ↔ Bare S (ws.take i) p y x ∨ (100 * covB S (gd ws i) < p * areaR (gd ws i) ∧ inR (gd ws i) y x = true) := by
 unfold Bare
 rw [List.take_add_one, getG h]
 constructor
 ·rintro ⟨c, hc, h1⟩
  rcases List.mem_append.1 hc with h2 | h2
  ·exact .inl ⟨c, h2, h1⟩
  ·simp only [Option.toList, List.mem_singleton] at h2; subst h2; exact .inr h1
 ·rintro (⟨c, hc, h1⟩ | h1)
  ·exact ⟨c, List.mem_append_left _ hc, h1⟩
  ·exact ⟨_, List.mem_append_right _ (by simp), h1⟩
noncomputable def densL (xs : List Rect) (w p : Int) : List Rect := if (isReg xs && within w 4 40 && within p 1 100) = true then canon (zipB minB (celL (Bare (bits xs) (windL w) p)) (bits xs)) else []
theorem Seen.skip {S : List Bool} {ver : Bool} {out : List Rect} {i k k' : Int} (h : Seen S ver out i k) (e : ∀ u, k <= u -> u < k' -> cv S ver i u = true -> cv S ver i (u - 1) = true) : Seen S ver out i k' := fun l s h1 h2 h3 => by
 by_cases c : l = i ∧ k <= s
 ·obtain ⟨rfl, c⟩ := c
  have := e s c (by omega) h2
  rw [h3] at this; cases this
 ·exact h l s (by omega) h2 h3
structure LnI (D : List Bool) (ver : Bool) (l : Int) (out : List Rect) (i : Int) : Prop where
  run : RunL D ver out
  seen : Seen D ver out l (i - 40)
  bd : cv D ver l (i - 40) = true -> cv D ver l (i - 40 - 1) = false
theorem LnI.bd' {D : List Bool} {ver : Bool} {l i e : Int} (hi : 0 <= i ∧ i < e ∧ e <= 80) (hall : ∀ u, i <= u -> u < e -> cv D ver l (u - 40) = cv D ver l (i - 40)) (hend : e = 80 ∨ cv D ver l (e - 40) ≠ cv D ver l (i - 40)) : cv D ver l (e - 40) = true -> cv D ver l (e - 40 - 1) = false := fun h => by
 have hr := cv_rng h
 have h1 : cv D ver l (e - 40) ≠ cv D ver l (i - 40) := by
  rcases hend with h2 | h2
  ·omega
  ·exact h2
 have h2 := hall (e - 1) (by omega) (by omega)
 rw [show e - 1 - 40 = e - 40 - 1 by omega] at h2
 rw [h2]; rw [h] at h1
 cases h3 : cv D ver l (i - 40)
 ·rfl
 ·exact absurd h3.symm h1
theorem LnI.miss {D : List Bool} {ver : Bool} {l : Int} {out : List Rect} {i e : Int} (h : LnI D ver l out i) (hi : 0 <= i ∧ i < e ∧ e <= 80) (hall : ∀ u, i <= u -> u < e -> cv D ver l (u - 40) = cv D ver l (i - 40)) (hend : e = 80 ∨ cv D ver l (e - 40) ≠ cv D ver l (i - 40)) (hc : cv D ver l (i - 40) = false) : LnI D ver l out e :=
by
 refine ⟨h.run, h.seen.skip fun u h1 h2 h3 => ?_, LnI.bd' hi hall hend⟩
 have := hall (u + 40) (by omega) (by omega)
 rw [show u + 40 - 40 = u by omega, h3, hc] at this; cases this
theorem LnI.isRun {D : List Bool} {ver : Bool} {l : Int} {out : List Rect} {i e : Int} (h : LnI D ver l out i) (hl : -40 <= l ∧ l < 40) (hi : 0 <= i ∧ i < e ∧ e <= 80) (hall : ∀ u, i <= u -> u < e -> cv D ver l (u - 40) = cv D ver l (i - 40)) (hend : e = 80 ∨ cv D ver l (e - 40) ≠ cv D ver l (i - 40)) (hc : cv D ver l (i - 40) = true) : isRun D ver l (i - 40) (i - 40) (e - 40) := by
 refine ⟨by omega, by omega, fun u h1 h2 => ?_, h.bd hc, ?_⟩
 ·have := hall (u + 40) (by omega) (by omega)
  rw [show u + 40 - 40 = u by omega, hc] at this; exact this
 ·cases h1 : cv D ver l (e - 40) with
  | false => rfl
  | true =>
   have h2 := LnI.bd' hi hall hend h1
   have h3 := hall (e - 1) (by omega) (by omega)
   rw [show e - 1 - 40 = e - 40 - 1 by omega, h2, hc] at h3; cases h3
theorem LnI.start {D : List Bool} {ver : Bool} {l : Int} {out : List Rect} (hr : RunL D ver out) (hs : Seen D ver out l (-40)) : LnI D ver l out 0 := by
 refine ⟨hr, hs, fun _ => ?_⟩
 cases h2 : cv D ver l (0 - 40 - 1) with
 | false => rfl
 | true => have := cv_rng h2; omega
theorem LnI.hit {D : List Bool} {ver : Bool} {l : Int} {out : List Rect} {i e : Int} (h : LnI D ver l out i) (hl : -40 <= l ∧ l < 40) (hi : 0 <= i ∧ i < e ∧ e <= 80) (hall : ∀ u, i <= u -> u < e -> cv D ver l (u - 40) = cv D ver l (i - 40)) (hend : e = 80 ∨ cv D ver l (e - 40) ≠ cv D ver l (i - 40)) (hc : cv D ver l (i - 40) = true) : LnI D ver l (out ++ [lineR ver l (i - 40) (e - 40)]) e := by
 have hr := h.isRun hl hi hall hend hc
 refine ⟨h.run.add hr, (h.seen.add hr).skip fun u h1 h2 h3 => ?_, LnI.bd' hi hall hend⟩
 have := hall (u - 1 + 40) (by omega) (by omega)
 rw [show u - 1 + 40 - 40 = u - 1 by omega, hc] at this; exact this
theorem one_inj {a b : Bool} : one a = one b ↔ a = b := by cases a <;> cases b <;> simp [one]
theorem one_ne {a : Bool} : one a ≠ 0 ↔ a = true := by cases a <;> simp [one]
theorem celB_cellB (S : List Bool) (x y : Int) : celB S x y = cellB S x y := rfl
theorem lineRect_i {l a b : Int} {ver : Bool} (hl : -1000 <= l ∧ l <= 1000) (k : R (vrect (lineR ver l a b)) G L) : CallT Tryz.prog 235 #[vi l, vi a, vi b, .bool ver] G L R := by
 refine CallT.enter (args := _) Tryz.func235 rfl rfl (by kernel_rfl) rfl ?_
 refine WP.sr ?_
 refine RG.ot rfl (OT.alloc rfl Zr101 fun b8 => ?_)
 refine RG.nil (WP.seq (WP.sr (RG.bl rfl (RG.nil ?_))))
 refine WP.cond rfl (fun h => ?_) fun h => ?_
 ·subst h
  refine WP.sr (RG.ml rfl (RG.ml rfl (RG.ml rfl (RG.p (PV.add rfl rfl rfl (by omega)) (RG.ml rfl (RG.p (PV.build (vs := [(0, [vi _]), (1, [vi _]), (2, [vi _]), (3, [vi _])]) (out := [_, _, _, _]) rfl Zr101 Pl101 ⟨rfl, (Cl.c rfl), ⟨rfl, (Cl.c rfl), ⟨rfl, (Cl.c rfl), ⟨rfl, (Cl.c rfl), trivial⟩⟩⟩⟩ rfl) ?_))))))
  refine RG.ot rfl (OT.storeW (vs := [vi _, vi _, vi _, vi _]) rfl Sz101 rfl rfl (Cl.c rfl) rfl rfl (OneC.c rfl) ?_)
  refine RG.nil ?_
  exact WP.ret ⟨_, _, ResV.one rfl (RV1.cell rfl Ag101 rfl), Cv.p, k⟩
 ·subst h
  refine WP.skip (WP.sr (RG.ml rfl (RG.ml rfl (RG.ml rfl (RG.ml rfl (RG.p (PV.add rfl rfl rfl (by omega)) (RG.p (PV.build (vs := [(0, [vi _]), (1, [vi _]), (2, [vi _]), (3, [vi _])]) (out := [_, _, _, _]) rfl Zr101 Pl101 ⟨rfl, (Cl.c rfl), ⟨rfl, (Cl.c rfl), ⟨rfl, (Cl.c rfl), ⟨rfl, (Cl.c rfl), trivial⟩⟩⟩⟩ rfl) ?_)))))))
  refine RG.ot rfl (OT.storeW (vs := [vi _, vi _, vi _, vi _]) rfl Sz101 rfl rfl (Cl.c rfl) rfl rfl (OneC.c rfl) ?_)
  refine RG.nil ?_
  exact WP.ret ⟨_, _, ResV.one rfl (RV1.cell rfl Ag101 rfl), Cv.p, k⟩
theorem at_i {b bl bv bp : Nat} {D : List Bool} {ver : Bool} {l i : Int} (hD : D.length = 6400) (hi : -1000 <= i ∧ i <= 1000) (k : R (vi (one (cv D ver l (i - 40)))) G (blk bl 2 [vi l] :: blk bv 4 [.bool ver] :: blk bp 122 [.pointer (some ⟨b, 0, none⟩)] :: grd b D :: L)) :
  CallT Tryz.prog 233 #[vi i, .pointer (some ⟨bl, 0, none⟩), .pointer (some ⟨bv, 0, none⟩), .pointer (some ⟨bp, 0, none⟩)] G (blk bl 2 [vi l] :: blk bv 4 [.bool ver] :: blk bp 122 [.pointer (some ⟨b, 0, none⟩)] :: grd b D :: L) R := by
 refine CallT.enter (args := _) Tryz.func233 rfl rfl (by kernel_rfl) rfl ?_
 refine WP.sr (RG.mr rfl (RG.nil (WP.seq ?_)))
 refine WP.regionQ (by kernel_rfl) (by kernel_rfl) ?_
 refine RQ.pv rfl (PV.mvI (.inl rfl) rfl) (RQ.pv rfl (PV.sub rfl rfl rfl (by omega)) (RQ.pv rfl (PV.load1 rfl Sc2 rfl (Rd.blk rfl)) (RQ.pv rfl (PV.mvI (.inr rfl) rfl) (RQ.pv rfl (PV.mvI (.inr rfl) rfl) (RQ.nil (WP.seq (WP.sr (RG.p (PV.load1 rfl Sc4 rfl (Rd.blk rfl)) (RG.nil ?_)))))))))
 refine WP.cond rfl (fun hv => ?_) fun hv => ?_
 ·subst hv
  have e : cv D true l (i - 40) = cellB D l (i - 40) := rfl
  rw [e] at k
  refine WP.region (RG.ml rfl (RG.ml rfl (RG.mr rfl (RG.mr rfl (RG.nil (WP.seq (WP.sr (RG.p (PV.load1 rfl Sc122 rfl (Rd.blk rfl)) (RG.ml rfl (RG.ml rfl ?_))))))))))
  refine RG.callF (vs := [_, _, _]) rfl rfl En194 rfl (CallT.exB (has_s hD ?_))
  refine RG.nil ?_
  refine WP.cond rfl (fun h => ?_) fun h => ?_
  ·rw [h] at k
   refine WP.sr (RG.mr rfl (RG.nil ?_))
   exact WP.ret ⟨_, _, rv rfl rfl, Cv.p, k⟩
  ·rw [h] at k
   refine WP.skip (WP.sr (RG.mr rfl (RG.nil ?_)))
   exact WP.ret ⟨_, _, rv rfl rfl, Cv.p, k⟩
 ·subst hv
  have e : cv D false l (i - 40) = cellB D (i - 40) l := rfl
  rw [e] at k
  refine WP.skip (WP.seq (WP.sr (RG.p (PV.load1 rfl Sc122 rfl (Rd.blk rfl)) (RG.ml rfl (RG.ml rfl ?_)))))
  refine RG.callF (vs := [_, _, _]) rfl rfl En194 rfl (CallT.exB (has_s hD ?_))
  refine RG.nil ?_
  refine WP.cond rfl (fun h => ?_) fun h => ?_
  ·rw [h] at k
   refine WP.sr (RG.mr rfl (RG.nil ?_))
   exact WP.ret ⟨_, _, rv rfl rfl, Cv.p, k⟩
  ·rw [h] at k
   refine WP.skip (WP.sr (RG.mr rfl (RG.nil ?_)))
   exact WP.ret ⟨_, _, rv rfl rfl, Cv.p, k⟩
theorem yield_i {bo bl bv : Nat} {ver : Bool} {l a b n : Int} {q : Value} {out : List Rect} (hl : -1000 <= l ∧ l <= 1000) (hol : out.length <= 100000) (k : ∀ q', R (.tuple #[]) G (blk bl 2 [vi l] :: blk bv 4 [.bool ver] :: blk bo 50 [q'] :: osl 101 rectT q' (out ++ [lineR ver l a b]) :: L)) :
  CallT Tryz.prog 234 #[vi a, vi b, vi n, .pointer (some ⟨bo, 0, none⟩), .pointer (some ⟨bl, 0, none⟩), .pointer (some ⟨bv, 0, none⟩)] G (blk bl 2 [vi l] :: blk bv 4 [.bool ver] :: blk bo 50 [q] :: osl 101 rectT q out :: L) R := by
 refine CallT.enter (args := _) Tryz.func234 rfl rfl (by kernel_rfl) rfl ?_
 refine WP.regionHD [.b bo, .s q] (.q 1 (.q 2 (.q 3 (.q 4 (.b 0 (.l 5 (.l 6 (.l 7 (.l 8 Sch.nil)))) 5 (.b 0 (.l 6 (.l 7 (.l 8 Sch.nil))) 6 (.l 0 (.l 7 (.l 8 Sch.nil))))))))) (by kernel_rfl) (by kernel_rfl) (by kernel_rfl) rfl ?_
 refine RH.w rfl rfl (PV.load1 rfl Sc2 rfl (Rd.blk rfl)) (RH.w rfl rfl (PV.mvI (.inl rfl) rfl) (RH.w rfl rfl (PV.mvI (.inl rfl) rfl) (RH.w rfl rfl (PV.load1 rfl Sc4 rfl (Rd.blk rfl)) ?_)))
 refine RH.ot2 rfl rfl rfl rfl (OT.pv (PV.load1 rfl Sc50 rfl (Rd.blk rfl)) (kp ?_)) (OT.callF (vs := [_, _, _, _]) rfl En235 rfl (lineRect_i hl (kp ?_)))
 ·skip
  refine RH.ot rfl rfl (OT.callF (vs := [_, _, _, _]) rfl En235 rfl (lineRect_i hl (kp ?_)))
  refine RH.ot rfl rfl (OT.bslice (F := rectT) (els := [_]) rfl El50 rfl (by decide) rfl (by decide) ⟨rfl, (Cl.c rfl), trivial⟩ fun v15 => (kp ?_))
  refine RH.ot rfl rfl (OT.append (v := q) (u := v15) (F := rectT) rfl El50 rfl (by decide) rfl rfl Rs.o (OneL.c (fun _ => rfl)) rfl (by first | omega | (simp <;> omega)) fun v16 => (kp ?_))
  refine RH.ot rfl rfl (OT.storeW (v := v16) (vs := [_]) rfl Sz50 rfl rfl (Cl.s (v := v16) SlF.o) rfl rfl (OneC.sl SlF.o OneC.nil) (kp ?_))
  refine RH.nil ?_
  exact ⟨_, _, ResV.zero rfl, Cv.p, k v16⟩
 ·skip
  refine RH.ot2 rfl rfl rfl rfl (OT.pv (PV.load1 rfl Sc50 rfl (Rd.blk rfl)) (kp ?_)) (OT.bslice (F := rectT) (els := [_]) rfl El50 rfl (by decide) rfl (by decide) ⟨rfl, (Cl.c rfl), trivial⟩ fun v15 => (kp ?_))
  ·skip
   refine RH.ot rfl rfl (OT.bslice (F := rectT) (els := [_]) rfl El50 rfl (by decide) rfl (by decide) ⟨rfl, (Cl.c rfl), trivial⟩ fun v15 => (kp ?_))
   refine RH.ot rfl rfl (OT.append (v := q) (u := v15) (F := rectT) rfl El50 rfl (by decide) rfl rfl Rs.o (OneL.c (fun _ => rfl)) rfl (by first | omega | (simp <;> omega)) fun v16 => (kp ?_))
   refine RH.ot rfl rfl (OT.storeW (v := v16) (vs := [_]) rfl Sz50 rfl rfl (Cl.s (v := v16) SlF.o) rfl rfl (OneC.sl SlF.o OneC.nil) (kp ?_))
   refine RH.nil ?_
   exact ⟨_, _, ResV.zero rfl, Cv.p, k v16⟩
  ·skip
   refine RH.ot rfl rfl (OT.pv (PV.load1 rfl Sc50 rfl (Rd.blk rfl)) (kp ?_))
   refine RH.ot rfl rfl (OT.append (v := q) (u := v15) (F := rectT) rfl El50 rfl (by decide) rfl rfl Rs.o (OneL.c (fun _ => rfl)) rfl (by first | omega | (simp <;> omega)) fun v16 => (kp ?_))
   refine RH.ot rfl rfl (OT.storeW (v := v16) (vs := [_]) rfl Sz50 rfl rfl (Cl.s (v := v16) SlF.o) rfl rfl (OneC.sl SlF.o OneC.nil) (kp ?_))
   refine RH.nil ?_
   exact ⟨_, _, ResV.zero rfl, Cv.p, k v16⟩
theorem runs_i {b bl bv bp bo : Nat} {D : List Bool} {ver : Bool} {l : Int} {q : Value} {out : List Rect} (hD : D.length = 6400) (hl : -40 <= l ∧ l < 40) (hol : out.length <= 6400) (hr : RunL D ver out) (hs : Seen D ver out l (-40))
  (k : ∀ q' out', out'.length <= out.length + 80 -> RunL D ver out' -> Seen D ver out' l 40 -> R (.tuple #[]) G (blk bl 2 [vi l] :: blk bv 4 [.bool ver] :: blk bp 122 [.pointer (some ⟨b, 0, none⟩)] :: blk bo 50 [q'] :: osl 101 rectT q' out' :: grd b D :: L)) :
  CallT Tryz.prog 232 #[.func (.func 233) #[] #[.pointer (some ⟨bl, 0, none⟩), .pointer (some ⟨bv, 0, none⟩), .pointer (some ⟨bp, 0, none⟩)], .func (.func 234) #[] #[.pointer (some ⟨bo, 0, none⟩), .pointer (some ⟨bl, 0, none⟩), .pointer (some ⟨bv, 0, none⟩)]] G (blk bl 2 [vi l] :: blk bv 4 [.bool ver] :: blk bp 122 [.pointer (some ⟨b, 0, none⟩)] :: blk bo 50 [q] :: osl 101 rectT q out :: grd b D :: L) R := by
 refine CallT.enter (args := _) Tryz.func232 rfl rfl (by kernel_rfl) rfl ?_
 refine WP.sr (RG.mr rfl (RG.nil (WP.block ?_)))
 refine WP.loop3 [0, 1] (fun (i : Int) (out1 : List Rect) (q1 : Value) => (0 <= i ∧ i <= 80) ∧ (out1.length : Int) <= out.length + i ∧ LnI D ver l out1 i) (fun (i : Int) (out1 : List Rect) (q1 : Value) => [(4, vi i)]) (fun (i : Int) (out1 : List Rect) (q1 : Value) => blk bl 2 [vi l] :: blk bv 4 [.bool ver] :: blk bp 122 [.pointer (some ⟨b, 0, none⟩)] :: blk bo 50 [q1] :: osl 101 rectT q1 out1 :: grd b D :: L) (fun (i : Int) (out1 : List Rect) (q1 : Value) => (80 - i).toNat) 0 out q ⟨by omega, by omega, LnI.start hr hs⟩ ⟨rfl, trivial⟩ Cv.p ?_
 rintro i out1 q1 τ ⟨hi, hlen, hI⟩
 refine WP.seq (WP.sr (RG.ml rfl (RG.p (PV.lss rfl rfl rfl) (RG.nil ?_))))
 refine WP.cond rfl (fun h2 => ?_) fun h2 => ?_
 ·have h2 := odt h2
  refine WP.skip (WP.block (WP.sr (RG.ml rfl (RG.p (PV.add rfl rfl rfl (by omega)) (RG.mr rfl (RG.nil (WP.seq (WP.block ?_))))))))
  refine WP.loop1 [0, 1, 4] (fun (e : Int) => (i + 1 <= e ∧ e <= 80) ∧ ∀ u, i <= u -> u < e -> cv D ver l (u - 40) = cv D ver l (i - 40)) (fun (e : Int) => [(5, vi e)]) (fun (e : Int) => blk bl 2 [vi l] :: blk bv 4 [.bool ver] :: blk bp 122 [.pointer (some ⟨b, 0, none⟩)] :: blk bo 50 [q1] :: osl 101 rectT q1 out1 :: grd b D :: L) (fun (e : Int) => (80 - e).toNat) (i + 1) ⟨by omega, fun u h3 h4 => by rw [show u = i by omega]⟩ ⟨rfl, trivial⟩ Cv.p ?_
  rintro e τ1 ⟨he, hall⟩
  refine WP.seq (WP.sr (RG.ml rfl (RG.p (PV.lss rfl rfl rfl) (RG.bl rfl ?_))))
  refine RG.spl (t := 12) rfl (fun g1 => ?_) (fun g1 => ?_)
  ·have g2 := odt g1
   refine RG.take rfl rfl rfl g1 ?_
   refine RG.p (PV.move rfl rfl) ?_
   refine RG.take rfl rfl rfl g1 ?_
   refine RG.ml rfl ?_
   refine RG.take rfl rfl rfl g1 ?_
   refine RG.callK (vs := [_, _, _, _]) rfl rfl rfl En233 rfl (CallT.exB (b := b) (CallT.exB (b := bp) (CallT.exB (b := bv) (CallT.exB (b := bl) (at_i hD (by omega) ?_)))))
   refine RG.take rfl rfl rfl g1 ?_
   refine RG.p (PV.move rfl rfl) ?_
   refine RG.take rfl rfl rfl g1 ?_
   refine RG.ml rfl ?_
   refine RG.take rfl rfl rfl g1 ?_
   refine RG.callK (vs := [_, _, _, _]) rfl rfl rfl En233 rfl (CallT.exB (b := b) (CallT.exB (b := bp) (CallT.exB (b := bv) (CallT.exB (b := bl) (at_i hD (by omega) ?_)))))
   refine RG.take rfl rfl rfl g1 ?_
   refine RG.p (PV.eql rfl rfl rfl) (RG.p (PV.pickT rfl rfl g1 rfl) (RG.nil ?_))
   refine WP.cond rfl (fun h3 => ?_) fun h3 => ?_
   ·have h3 := one_inj.1 (odt h3)
    have hall' : ∀ u, i <= u -> u < e + 1 -> cv D ver l (u - 40) = cv D ver l (i - 40) := fun u h4 h5 => by
     by_cases c : u = e
     ·rw [c]; exact h3
     ·exact hall u h4 (by omega)
    refine WP.skip (WP.block (WP.region (RG.ml rfl (RG.p (PV.add rfl rfl rfl (by omega)) (RG.mr rfl (RG.nil ?_))))))
    exact ⟨rfl, e + 1, ⟨by omega, hall'⟩, ⟨rfl, trivial⟩, ⟨rfl, rfl, rfl, trivial⟩, Cv.p, by omega⟩
   ·have h3 : cv D ver l (e - 40) ≠ cv D ver l (i - 40) := fun h4 => odf h3 (one_inj.2 h4)
    refine WP.exit (WP.seq (WP.sr (RG.p (PV.move rfl rfl) (RG.ml rfl ?_))))
    refine RG.callK (vs := [_, _, _, _]) rfl rfl rfl En233 rfl (CallT.exB (b := b) (CallT.exB (b := bp) (CallT.exB (b := bv) (CallT.exB (b := bl) (at_i hD (by omega) ?_)))))
    refine RG.p (PV.neq rfl rfl rfl) (RG.nil ?_)
    refine WP.cond rfl (fun h4 => ?_) fun h4 => ?_
    ·have h4 : cv D ver l (i - 40) = true := one_ne.1 (by simpa using h4)
     refine WP.region (RG.p (PV.move rfl rfl) (RG.ml rfl (RG.p (PV.sub rfl rfl rfl (by omega)) (RG.ml rfl (RG.p (PV.sub rfl rfl rfl (by omega)) (RG.p (PV.move rfl rfl) (RG.ml rfl ?_)))))))
     refine RG.callK (vs := [_, _, _, _]) rfl rfl rfl En233 rfl (CallT.exB (b := b) (CallT.exB (b := bp) (CallT.exB (b := bv) (CallT.exB (b := bl) (at_i hD (by omega) ?_)))))
     refine RG.callK (vs := [_, _, _, _, _, _]) rfl rfl rfl En234 rfl (CallT.exS q1 (CallT.exB (b := bo) (CallT.exB (b := bv) (CallT.exB (b := bl) (yield_i (by omega) (by omega) (fun q2 => ?_))))))
     refine RG.nil (WP.region (RG.ml rfl (RG.mr rfl (RG.nil ?_))))
     exact ⟨rfl, e, (out1 ++ [lineR ver l (i - 40) (e - 40)]), q2, ⟨by omega, by simp; omega, hI.hit hl (by omega) hall (.inr h3) h4⟩, ⟨rfl, trivial⟩, ⟨rfl, rfl, trivial⟩, Cv.p, by omega⟩
    ·have h4 : cv D ver l (i - 40) = false := by
      cases c : cv D ver l (i - 40) with
      | false => rfl
      | true => rw [c] at h4; simp [one] at h4
     refine WP.skip (WP.region (RG.ml rfl (RG.mr rfl (RG.nil ?_))))
     exact ⟨rfl, e, out1, q1, ⟨by omega, by omega, hI.miss (by omega) hall (.inr h3) h4⟩, ⟨rfl, trivial⟩, ⟨rfl, rfl, trivial⟩, Cv.p, by omega⟩
  ·have g2 := odf g1
   have h3 : e = 80 := by omega
   refine RG.skip rfl rfl rfl (gne g1) ?_
   refine RG.skip rfl rfl rfl (gne g1) ?_
   refine RG.skip rfl rfl rfl (gne g1) ?_
   refine RG.skip rfl rfl rfl (gne g1) ?_
   refine RG.skip rfl rfl rfl (gne g1) ?_
   refine RG.skip rfl rfl rfl (gne g1) ?_
   refine RG.skip rfl rfl rfl (gne g1) ?_
   refine RG.p (PV.pickE rfl rfl g1 rfl) (RG.nil ?_)
   refine WP.cond rfl (fun h5 => ?_) fun h5 => ?_
   ·cases h5
   ·refine WP.exit ?_
    refine WP.seq (WP.sr (RG.p (PV.move rfl rfl) (RG.ml rfl ?_)))
    refine RG.callK (vs := [_, _, _, _]) rfl rfl rfl En233 rfl (CallT.exB (b := b) (CallT.exB (b := bp) (CallT.exB (b := bv) (CallT.exB (b := bl) (at_i hD (by omega) ?_)))))
    refine RG.p (PV.neq rfl rfl rfl) (RG.nil ?_)
    refine WP.cond rfl (fun h4 => ?_) fun h4 => ?_
    ·have h4 : cv D ver l (i - 40) = true := one_ne.1 (by simpa using h4)
     refine WP.region (RG.p (PV.move rfl rfl) (RG.ml rfl (RG.p (PV.sub rfl rfl rfl (by omega)) (RG.ml rfl (RG.p (PV.sub rfl rfl rfl (by omega)) (RG.p (PV.move rfl rfl) (RG.ml rfl ?_)))))))
     refine RG.callK (vs := [_, _, _, _]) rfl rfl rfl En233 rfl (CallT.exB (b := b) (CallT.exB (b := bp) (CallT.exB (b := bv) (CallT.exB (b := bl) (at_i hD (by omega) ?_)))))
     refine RG.callK (vs := [_, _, _, _, _, _]) rfl rfl rfl En234 rfl (CallT.exS q1 (CallT.exB (b := bo) (CallT.exB (b := bv) (CallT.exB (b := bl) (yield_i (by omega) (by omega) (fun q2 => ?_))))))
     refine RG.nil (WP.region (RG.ml rfl (RG.mr rfl (RG.nil ?_))))
     exact ⟨rfl, e, (out1 ++ [lineR ver l (i - 40) (e - 40)]), q2, ⟨by omega, by simp; omega, hI.hit hl (by omega) hall (.inl h3) h4⟩, ⟨rfl, trivial⟩, ⟨rfl, rfl, trivial⟩, Cv.p, by omega⟩
    ·have h4 : cv D ver l (i - 40) = false := by
      cases c : cv D ver l (i - 40) with
      | false => rfl
      | true => rw [c] at h4; simp [one] at h4
     refine WP.skip (WP.region (RG.ml rfl (RG.mr rfl (RG.nil ?_))))
     exact ⟨rfl, e, out1, q1, ⟨by omega, by omega, hI.miss (by omega) hall (.inl h3) h4⟩, ⟨rfl, trivial⟩, ⟨rfl, rfl, trivial⟩, Cv.p, by omega⟩
 ·have h2 := odf h2
  obtain rfl : i = 80 := by omega
  refine WP.exit ?_
  exact ⟨_, _, ResV.zero rfl, Cv.p, k q1 out1 (by omega) hI.run hI.seen⟩
theorem runsOf_i {b : Nat} {D : List Bool} {ver : Bool} (hD : D.length = 6400) (k : ∀ v out, RunsOf D ver out -> R v G (osl 101 rectT v out :: grd b D :: L)) :
  CallT Tryz.prog 192 #[.pointer (some ⟨b, 0, none⟩), .bool ver] G (grd b D :: L) R := by
 refine CallT.enter (args := _) Tryz.func192 rfl rfl (by kernel_rfl) rfl ?_
 refine WP.sr ?_
 refine RG.ot rfl (OT.box (cs := [.pointer (some ⟨b, 0, none⟩)]) rfl rfl rfl fun b2 => ?_)
 refine RG.ot rfl (OT.box (cs := [.bool ver]) rfl rfl rfl fun b3 => ?_)
 refine RG.p (PV.asg rfl rfl) (RG.nil (WP.sr ?_))
 refine RG.ot rfl (OT.bslice (F := rectT) (els := []) rfl El50 rfl (by decide) rfl (by decide) trivial fun v7 => ?_)
 refine RG.ot rfl (OT.alloc rfl Zr50 fun b5 => ?_)
 refine RG.ot rfl (OT.storeW (v := v7) (vs := [_]) rfl Sz50 rfl rfl (Cl.s (v := v7) SlF.o) rfl rfl (OneC.sl SlF.o OneC.nil) ?_)
 refine RG.nil (WP.seq (WP.sr ?_))
 refine RG.ot rfl (OT.alloc rfl Zr2 fun b6 => ?_)
 refine RG.ot rfl (OT.storeW (vs := [vi _]) rfl Sz2 rfl rfl (Cl.c rfl) rfl rfl (OneC.c rfl) ?_)
 refine RG.nil (WP.block ?_)
 refine WP.loop4 [2, 3, 5] (fun (bl : Nat) (l : Int) (out : List Rect) (q : Value) => (-40 <= l ∧ l <= 40) ∧ (out.length : Int) <= (l + 40) * 80 ∧ RunL D ver out ∧ Seen D ver out l (-40)) (fun (bl : Nat) (l : Int) (out : List Rect) (q : Value) => [(6, .pointer (some ⟨bl, 0, none⟩))]) (fun (bl : Nat) (l : Int) (out : List Rect) (q : Value) => blk bl 2 [vi l] :: blk b3 4 [.bool ver] :: blk b2 122 [.pointer (some ⟨b, 0, none⟩)] :: blk b5 50 [q] :: osl 101 rectT q out :: grd b D :: L) (fun (bl : Nat) (l : Int) (out : List Rect) (q : Value) => (40 - l).toNat) b6 (-40) [] v7 ⟨by omega, by simp, RunL.nil, Seen.init⟩ ⟨rfl, trivial⟩ Cv.p ?_
 rintro bl l out q τ ⟨hl, hlen, hrl, hseen⟩
 refine WP.seq (WP.sr (RG.p (PV.load1 rfl Sc2 rfl (Rd.blk rfl)) (RG.p (PV.lss rfl rfl rfl) (RG.nil ?_))))
 refine WP.cond rfl (fun h2 => ?_) fun h2 => ?_
 ·have h2 := odt h2
  refine WP.skip (WP.seq (WP.block (WP.region (RG.p (PV.mkf3 rfl rfl rfl rfl) (RG.p (PV.mkf3 rfl rfl rfl rfl) ?_)))))
  refine RG.callF (vs := [_, _]) rfl rfl En232 rfl (CallT.exB (b := b) (CallT.exS q (CallT.exB (b := b5) (CallT.exB (b := b2) (CallT.exB (b := b3) (CallT.exB (b := bl) (runs_i hD (by omega) (by omega) hrl hseen (fun q2 out2 hlen2 hrl2 hseen2 => ?_))))))))
  refine RG.nil (WP.seq (WP.sr (RG.p (PV.load1 rfl Sc2 rfl (Rd.blk rfl)) (RG.nil (WP.region ?_)))))
  refine RG.ot rfl (OT.alloc rfl Zr2 fun b6 => ?_)
  refine RG.ot rfl (OT.storeW (vs := [vi _]) rfl Sz2 rfl rfl (Cl.c rfl) rfl rfl (OneC.c rfl) ?_)
  refine RG.nil (WP.region (RG.p (PV.load1 rfl Sc2 rfl (Rd.blk rfl)) (RG.p (PV.add rfl rfl rfl (by omega)) ?_)))
  refine RG.ot rfl (OT.storeW (vs := [vi _]) rfl Sz2 rfl rfl (Cl.c rfl) rfl rfl (OneC.c rfl) ?_)
  refine RG.nil ?_
  exact ⟨rfl, b6, l + 1, out2, q2, ⟨by omega, by omega, hrl2, hseen2.line⟩, ⟨rfl, trivial⟩, ⟨rfl, rfl, rfl, trivial⟩, Cv.p, by omega⟩
 ·have h2 := odf h2
  obtain rfl : l = 40 := by omega
  refine WP.exit (WP.sr (RG.p (PV.load1 rfl Sc50 rfl (Rd.blk rfl)) (RG.p (PV.asg (v := q) rfl rfl) (RG.nil ?_))))
  exact WP.ret ⟨_, _, rv rfl rfl, Cv.p, k q out ⟨by omega, hrl, hseen.all⟩⟩
end Go.Proofs.YtogocmlhnjiaaaaGreat
