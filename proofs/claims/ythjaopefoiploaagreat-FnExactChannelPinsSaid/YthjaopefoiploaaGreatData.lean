/-
  The plain data of the program: structures and how they lie in cells.
-/
import Derived.Test.YthjaopefoiploaaGreatMem
namespace Go.Proofs.YthjaopefoiploaaGreat
open Go
set_option linter.unusedVariables false
abbrev vi (n : Int) : Value := .int .i64 n
/-- a slice in memory: its header and its elements -/
structure Sl (α : Type) where
  v : Value
  xs : List α
instance {α : Type} : Inhabited (Sl α) := ⟨⟨.slice none 0 0, []⟩⟩
def slT {α : Type} : FT (Sl α) := ⟨1, fun s => [s.v], fun _ => rfl⟩
def intT : FT Int := ⟨1, fun n => [vi n], fun _ => rfl⟩
def byteT : FT UInt8 := ⟨1, fun c => [.int .u8 c.toNat], fun _ => rfl⟩
@[reducible] def prT : FT (Int × Int) := ⟨2, fun p => [vi p.1, vi p.2], fun _ => rfl⟩
def boolT : FT Bool := ⟨1, fun b => [.bool b], fun _ => rfl⟩
def strT : FT ByteArray := ⟨1, fun s => [.string s], fun _ => rfl⟩
def rawT : FT Value := ⟨1, fun v => [v], fun _ => rfl⟩
structure Pt where
  x : Int
  y : Int
  deriving DecidableEq, Inhabited
@[reducible] def ptT : FT Pt := ⟨2, fun r => [vi r.x, vi r.y], fun _ => rfl⟩
@[reducible] def Pt.s0 (x : Int) (r : Pt) : Pt := ⟨x, r.y⟩
@[reducible] def Pt.s1 (x : Int) (r : Pt) : Pt := ⟨r.x, x⟩
structure Trans where
  o : Int
  x : Int
  y : Int
  deriving DecidableEq, Inhabited
@[reducible] def transT : FT Trans := ⟨3, fun r => [vi r.o, vi r.x, vi r.y], fun _ => rfl⟩
@[reducible] def Trans.s0 (x : Int) (r : Trans) : Trans := ⟨x, r.x, r.y⟩
@[reducible] def Trans.s1 (x : Int) (r : Trans) : Trans := ⟨r.o, x, r.y⟩
@[reducible] def Trans.s2 (x : Int) (r : Trans) : Trans := ⟨r.o, r.x, x⟩
structure Rect where
  x0 : Int
  y0 : Int
  x1 : Int
  y1 : Int
  deriving DecidableEq, Inhabited
@[reducible] def rectT : FT Rect := ⟨4, fun r => [vi r.x0, vi r.y0, vi r.x1, vi r.y1], fun _ => rfl⟩
@[reducible] def Rect.s0 (x : Int) (r : Rect) : Rect := ⟨x, r.y0, r.x1, r.y1⟩
@[reducible] def Rect.s1 (x : Int) (r : Rect) : Rect := ⟨r.x0, x, r.x1, r.y1⟩
@[reducible] def Rect.s2 (x : Int) (r : Rect) : Rect := ⟨r.x0, r.y0, x, r.y1⟩
@[reducible] def Rect.s3 (x : Int) (r : Rect) : Rect := ⟨r.x0, r.y0, r.x1, x⟩
structure Edge where
  x0 : Int
  y0 : Int
  x1 : Int
  y1 : Int
  deriving DecidableEq, Inhabited
@[reducible] def edgeT : FT Edge := ⟨4, fun r => [vi r.x0, vi r.y0, vi r.x1, vi r.y1], fun _ => rfl⟩
@[reducible] def Edge.s0 (x : Int) (r : Edge) : Edge := ⟨x, r.y0, r.x1, r.y1⟩
@[reducible] def Edge.s1 (x : Int) (r : Edge) : Edge := ⟨r.x0, x, r.x1, r.y1⟩
@[reducible] def Edge.s2 (x : Int) (r : Edge) : Edge := ⟨r.x0, r.y0, x, r.y1⟩
@[reducible] def Edge.s3 (x : Int) (r : Edge) : Edge := ⟨r.x0, r.y0, r.x1, x⟩
structure Waiver where
  sig : Int
  reason : ByteArray
  deriving DecidableEq, Inhabited
@[reducible] def waiverT : FT Waiver := ⟨2, fun r => [vi r.sig, .string r.reason], fun _ => rfl⟩
@[reducible] def Waiver.s0 (x : Int) (r : Waiver) : Waiver := ⟨x, r.reason⟩
@[reducible] def Waiver.s1 (x : ByteArray) (r : Waiver) : Waiver := ⟨r.sig, x⟩
structure Rule where
  kind : Int
  layer : Int
  other : Int
  value : Int
  percent : Int
  deriving DecidableEq, Inhabited
@[reducible] def ruleT : FT Rule := ⟨5, fun r => [vi r.kind, vi r.layer, vi r.other, vi r.value, vi r.percent], fun _ => rfl⟩
@[reducible] def Rule.s0 (x : Int) (r : Rule) : Rule := ⟨x, r.layer, r.other, r.value, r.percent⟩
@[reducible] def Rule.s1 (x : Int) (r : Rule) : Rule := ⟨r.kind, x, r.other, r.value, r.percent⟩
@[reducible] def Rule.s2 (x : Int) (r : Rule) : Rule := ⟨r.kind, r.layer, x, r.value, r.percent⟩
@[reducible] def Rule.s3 (x : Int) (r : Rule) : Rule := ⟨r.kind, r.layer, r.other, x, r.percent⟩
@[reducible] def Rule.s4 (x : Int) (r : Rule) : Rule := ⟨r.kind, r.layer, r.other, r.value, x⟩
structure Deck where
  rules : Sl Rule
  deriving Inhabited
@[reducible] def deckT : FT Deck := ⟨1, fun r => [r.rules.v], fun _ => rfl⟩
@[reducible] def Deck.s0 (x : Sl Rule) (r : Deck) : Deck := ⟨x⟩
structure Viol where
  rule : Int
  marker : Sl Rect
  deriving Inhabited
@[reducible] def violT : FT Viol := ⟨2, fun r => [vi r.rule, r.marker.v], fun _ => rfl⟩
@[reducible] def Viol.s0 (x : Int) (r : Viol) : Viol := ⟨x, r.marker⟩
@[reducible] def Viol.s1 (x : Sl Rect) (r : Viol) : Viol := ⟨r.rule, x⟩
structure Piece where
  layer : Int
  reg : Sl Rect
  deriving Inhabited
@[reducible] def pieceT : FT Piece := ⟨2, fun r => [vi r.layer, r.reg.v], fun _ => rfl⟩
@[reducible] def Piece.s0 (x : Int) (r : Piece) : Piece := ⟨x, r.reg⟩
@[reducible] def Piece.s1 (x : Sl Rect) (r : Piece) : Piece := ⟨r.layer, x⟩
structure Net where
  pieces : Sl Piece
  deriving Inhabited
@[reducible] def netT : FT Net := ⟨1, fun r => [r.pieces.v], fun _ => rfl⟩
@[reducible] def Net.s0 (x : Sl Piece) (r : Net) : Net := ⟨x⟩
structure Label where
  layer : Int
  at_ : Pt
  name : ByteArray
  deriving DecidableEq, Inhabited
@[reducible] def labelT : FT Label := ⟨4, fun r => [vi r.layer, vi r.at_.x, vi r.at_.y, .string r.name], fun _ => rfl⟩
@[reducible] def Label.s0 (x : Int) (r : Label) : Label := ⟨x, r.at_, r.name⟩
@[reducible] def Label.s1 (x : Pt) (r : Label) : Label := ⟨r.layer, x, r.name⟩
@[reducible] def Label.s2 (x : ByteArray) (r : Label) : Label := ⟨r.layer, r.at_, x⟩
structure Shape where
  layer : Int
  box : Rect
  deriving DecidableEq, Inhabited
@[reducible] def shapeT : FT Shape := ⟨5, fun r => [vi r.layer, vi r.box.x0, vi r.box.y0, vi r.box.x1, vi r.box.y1], fun _ => rfl⟩
@[reducible] def Shape.s0 (x : Int) (r : Shape) : Shape := ⟨x, r.box⟩
@[reducible] def Shape.s1 (x : Rect) (r : Shape) : Shape := ⟨r.layer, x⟩
structure Inst where
  cell : Int
  place : Trans
  cols : Int
  rows : Int
  sx : Int
  sy : Int
  deriving DecidableEq, Inhabited
@[reducible] def instT : FT Inst := ⟨8, fun r => [vi r.cell, vi r.place.o, vi r.place.x, vi r.place.y, vi r.cols, vi r.rows, vi r.sx, vi r.sy], fun _ => rfl⟩
@[reducible] def Inst.s0 (x : Int) (r : Inst) : Inst := ⟨x, r.place, r.cols, r.rows, r.sx, r.sy⟩
@[reducible] def Inst.s1 (x : Trans) (r : Inst) : Inst := ⟨r.cell, x, r.cols, r.rows, r.sx, r.sy⟩
@[reducible] def Inst.s2 (x : Int) (r : Inst) : Inst := ⟨r.cell, r.place, x, r.rows, r.sx, r.sy⟩
@[reducible] def Inst.s3 (x : Int) (r : Inst) : Inst := ⟨r.cell, r.place, r.cols, x, r.sx, r.sy⟩
@[reducible] def Inst.s4 (x : Int) (r : Inst) : Inst := ⟨r.cell, r.place, r.cols, r.rows, x, r.sy⟩
@[reducible] def Inst.s5 (x : Int) (r : Inst) : Inst := ⟨r.cell, r.place, r.cols, r.rows, r.sx, x⟩
structure Cell where
  name : ByteArray
  shapes : Sl Shape
  labels : Sl Label
  insts : Sl Inst
  deriving Inhabited
@[reducible] def cellT : FT Cell := ⟨4, fun r => [.string r.name, r.shapes.v, r.labels.v, r.insts.v], fun _ => rfl⟩
@[reducible] def Cell.s0 (x : ByteArray) (r : Cell) : Cell := ⟨x, r.shapes, r.labels, r.insts⟩
@[reducible] def Cell.s1 (x : Sl Shape) (r : Cell) : Cell := ⟨r.name, x, r.labels, r.insts⟩
@[reducible] def Cell.s2 (x : Sl Label) (r : Cell) : Cell := ⟨r.name, r.shapes, x, r.insts⟩
@[reducible] def Cell.s3 (x : Sl Inst) (r : Cell) : Cell := ⟨r.name, r.shapes, r.labels, x⟩
structure Lib where
  cells : Sl Cell
  deriving Inhabited
@[reducible] def libT : FT Lib := ⟨1, fun r => [r.cells.v], fun _ => rfl⟩
@[reducible] def Lib.s0 (x : Sl Cell) (r : Lib) : Lib := ⟨x⟩
structure Dev where
  kind : Int
  pins : Sl Int
  width : Int
  length : Int
  deriving Inhabited
@[reducible] def devT : FT Dev := ⟨4, fun r => [vi r.kind, r.pins.v, vi r.width, vi r.length], fun _ => rfl⟩
@[reducible] def Dev.s0 (x : Int) (r : Dev) : Dev := ⟨x, r.pins, r.width, r.length⟩
@[reducible] def Dev.s1 (x : Sl Int) (r : Dev) : Dev := ⟨r.kind, x, r.width, r.length⟩
@[reducible] def Dev.s2 (x : Int) (r : Dev) : Dev := ⟨r.kind, r.pins, x, r.length⟩
@[reducible] def Dev.s3 (x : Int) (r : Dev) : Dev := ⟨r.kind, r.pins, r.width, x⟩
structure Chan where
  box : Rect
  kind : Int
  hor : Bool
  deriving DecidableEq, Inhabited
@[reducible] def chanT : FT Chan := ⟨6, fun r => [vi r.box.x0, vi r.box.y0, vi r.box.x1, vi r.box.y1, vi r.kind, .bool r.hor], fun _ => rfl⟩
@[reducible] def Chan.s0 (x : Rect) (r : Chan) : Chan := ⟨x, r.kind, r.hor⟩
@[reducible] def Chan.s1 (x : Int) (r : Chan) : Chan := ⟨r.box, x, r.hor⟩
@[reducible] def Chan.s2 (x : Bool) (r : Chan) : Chan := ⟨r.box, r.kind, x⟩
structure PPiece where
  occ : Int
  piece : Piece
  deriving Inhabited
@[reducible] def ppieceT : FT PPiece := ⟨3, fun r => [vi r.occ, vi r.piece.layer, r.piece.reg.v], fun _ => rfl⟩
@[reducible] def PPiece.s0 (x : Int) (r : PPiece) : PPiece := ⟨x, r.piece⟩
@[reducible] def PPiece.s1 (x : Piece) (r : PPiece) : PPiece := ⟨r.occ, x⟩
structure Occ where
  cell : Int
  place : Trans
  path : Sl Int
  deriving Inhabited
@[reducible] def occT : FT Occ := ⟨5, fun r => [vi r.cell, vi r.place.o, vi r.place.x, vi r.place.y, r.path.v], fun _ => rfl⟩
@[reducible] def Occ.s0 (x : Int) (r : Occ) : Occ := ⟨x, r.place, r.path⟩
@[reducible] def Occ.s1 (x : Trans) (r : Occ) : Occ := ⟨r.cell, x, r.path⟩
@[reducible] def Occ.s2 (x : Sl Int) (r : Occ) : Occ := ⟨r.cell, r.place, x⟩
structure Part where
  layer : Int
  cells : Sl Bool
  deriving Inhabited
@[reducible] def partT : FT Part := ⟨2, fun r => [vi r.layer, r.cells.v], fun _ => rfl⟩
@[reducible] def Part.s0 (x : Int) (r : Part) : Part := ⟨x, r.cells⟩
@[reducible] def Part.s1 (x : Sl Bool) (r : Part) : Part := ⟨r.layer, x⟩
/-- a struct as a value -/
abbrev vT {α : Type} (F : FT α) (a : α) : Value := .agg (F.enc a).toArray
abbrev vrect (r : Rect) : Value := vT rectT r
abbrev vpt (p : Pt) : Value := vT ptT p
abbrev vtrans (t : Trans) : Value := vT transT t
abbrev vwaiver (w : Waiver) : Value := vT waiverT w
end Go.Proofs.YthjaopefoiploaaGreat
