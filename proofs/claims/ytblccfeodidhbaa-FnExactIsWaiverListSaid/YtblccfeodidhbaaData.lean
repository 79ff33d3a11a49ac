/-
  The plain data of the program: structures and how they lie in cells.
-/
import Derived.Test.YtblccfeodidhbaaMem
namespace Go.Proofs.Ytblccfeodidhbaa
open Go
abbrev vi (n : Int) : Value := .int .i64 n
structure Rect where
  x0 : Int
  y0 : Int
  x1 : Int
  y1 : Int
  deriving DecidableEq, Inhabited
structure Pt where
  x : Int
  y : Int
  deriving DecidableEq, Inhabited
structure Trans where
  o : Int
  x : Int
  y : Int
  deriving DecidableEq, Inhabited
structure Waiver where
  sig : Int
  reason : ByteArray
  deriving DecidableEq, Inhabited
def rectT : FT Rect := ⟨4, fun r => [vi r.x0, vi r.y0, vi r.x1, vi r.y1], fun _ => rfl⟩
def ptT : FT Pt := ⟨2, fun p => [vi p.x, vi p.y], fun _ => rfl⟩
def transT : FT Trans := ⟨3, fun t => [vi t.o, vi t.x, vi t.y], fun _ => rfl⟩
def waiverT : FT Waiver := ⟨2, fun w => [vi w.sig, .string w.reason], fun _ => rfl⟩
def intT : FT Int := ⟨1, fun n => [vi n], fun _ => rfl⟩
def boolT : FT Bool := ⟨1, fun b => [.bool b], fun _ => rfl⟩
def strT : FT ByteArray := ⟨1, fun s => [.string s], fun _ => rfl⟩
def rawT : FT Value := ⟨1, fun v => [v], fun _ => rfl⟩
/-- a struct as a value -/
abbrev vT {α : Type} (F : FT α) (a : α) : Value := .agg (F.enc a).toArray
abbrev vrect (r : Rect) : Value := vT rectT r
abbrev vpt (p : Pt) : Value := vT ptT p
abbrev vtrans (t : Trans) : Value := vT transT t
abbrev vwaiver (w : Waiver) : Value := vT waiverT w
end Go.Proofs.Ytblccfeodidhbaa
