/-
  The plain data of the program: structures and how they lie in cells.
-/
import Derived.Test.YtblccfeodidhbaaMem
namespace Go.Proofs.Ytblccfeodidhbaa
open Go
set_option linter.unusedVariables false
abbrev vi (n : Int) : Value := .int .i64 n
/-- a slice in memory: its header and its elements -/
structure Sl (α : Type) where
  v : Value
  xs : List α
instance {α : Type} : Inhabited (Sl α) := ⟨⟨.slice none 0 0, []⟩⟩
def slT {α : Type} : FT (Sl α) := ⟨1, fun s => [s.v], fun _ => rfl⟩
def intT : FT Int := ⟨1, fun n => [vi n], fun _ => rfl⟩
def boolT : FT Bool := ⟨1, fun b => [.bool b], fun _ => rfl⟩
def strT : FT ByteArray := ⟨1, fun s => [.string s], fun _ => rfl⟩
def rawT : FT Value := ⟨1, fun v => [v], fun _ => rfl⟩
structure Waiver where
  sig : Int
  reason : ByteArray
  deriving DecidableEq, Inhabited
@[reducible] def waiverT : FT Waiver := ⟨2, fun r => [vi r.sig, .string r.reason], fun _ => rfl⟩
@[reducible] def Waiver.s0 (x : Int) (r : Waiver) : Waiver := ⟨x, r.reason⟩
@[reducible] def Waiver.s1 (x : ByteArray) (r : Waiver) : Waiver := ⟨r.sig, x⟩
structure Rect where
  x0 : Int
  y0 : Int
  x1 : Int
  y1 : Int
  deriving DecidableEq, Inhabited
@[reducible] def rectT : FT Rect := ⟨4, fun r => [vi r.x0, vi r.y0, vi r.x1, vi r.y1], fun _ => rfl⟩
@[reducible] def Rect.s0 (x : Int) (r : Rect) : Rect := ⟨x, r.y0, r.x1, r.y1⟩
@[reducible] def Rect.s1 (x : Int) (r : Rect) : Rect := ⟨r.x0, x, r.x1, r.y1⟩
@[reducible] def Rect.s2 (x : Int) (r : Rect) : Rect := ⟨r.x0, r.y0, x, r.y1⟩
@[reducible] def Rect.s3 (x : Int) (r : Rect) : Rect := ⟨r.x0, r.y0, r.x1, x⟩
structure Piece where
  layer : Int
  reg : Sl (Rect)
  deriving Inhabited
@[reducible] def pieceT : FT Piece := ⟨2, fun r => [vi r.layer, r.reg.v], fun _ => rfl⟩
@[reducible] def Piece.s0 (x : Int) (r : Piece) : Piece := ⟨x, r.reg⟩
@[reducible] def Piece.s1 (x : Sl (Rect)) (r : Piece) : Piece := ⟨r.layer, x⟩
structure Net where
  pieces : Sl (Piece)
  deriving Inhabited
@[reducible] def netT : FT Net := ⟨1, fun r => [r.pieces.v], fun _ => rfl⟩
@[reducible] def Net.s0 (x : Sl (Piece)) (r : Net) : Net := ⟨x⟩
structure Trans where
  o : Int
  x : Int
  y : Int
  deriving DecidableEq, Inhabited
@[reducible] def transT : FT Trans := ⟨3, fun r => [vi r.o, vi r.x, vi r.y], fun _ => rfl⟩
@[reducible] def Trans.s0 (x : Int) (r : Trans) : Trans := ⟨x, r.x, r.y⟩
@[reducible] def Trans.s1 (x : Int) (r : Trans) : Trans := ⟨r.o, x, r.y⟩
@[reducible] def Trans.s2 (x : Int) (r : Trans) : Trans := ⟨r.o, r.x, x⟩
structure Pt where
  x : Int
  y : Int
  deriving DecidableEq, Inhabited
@[reducible] def ptT : FT Pt := ⟨2, fun r => [vi r.x, vi r.y], fun _ => rfl⟩
@[reducible] def Pt.s0 (x : Int) (r : Pt) : Pt := ⟨x, r.y⟩
@[reducible] def Pt.s1 (x : Int) (r : Pt) : Pt := ⟨r.x, x⟩
/-- a struct as a value -/
abbrev vT {α : Type} (F : FT α) (a : α) : Value := .agg (F.enc a).toArray
abbrev vrect (r : Rect) : Value := vT rectT r
abbrev vpt (p : Pt) : Value := vT ptT p
abbrev vtrans (t : Trans) : Value := vT transT t
abbrev vwaiver (w : Waiver) : Value := vT waiverT w
end Go.Proofs.Ytblccfeodidhbaa
