/-
  Closed facts on the types and the functions of this translation, each reckoned by the kernel. Made by a program of mine (gentab.py).
-/
import Derived.Test.YtblccfeodidhbaaMem2
import Derived.Test.YtblccfeodidhbaaChecked
namespace Go.Proofs.Ytblccfeodidhbaa
open Go
theorem Sz1 : ∀ w, (sizeOf 1).run Try.prog w = .ok 1 w := fun w => by kernel_rfl
theorem Sc1 : Scal Try.prog 1 := fun w => ⟨by kernel_rfl, Sz1 w⟩
theorem Zr1 : ZeroT Try.prog 1 [.nilFunc] := ⟨.nilFunc, fun w => by kernel_rfl, rfl⟩
theorem Sz2 : ∀ w, (sizeOf 2).run Try.prog w = .ok 1 w := fun w => by kernel_rfl
theorem Sc2 : Scal Try.prog 2 := fun w => ⟨by kernel_rfl, Sz2 w⟩
theorem Zr2 : ZeroT Try.prog 2 [.int .i64 0] := ⟨.int .i64 0, fun w => by kernel_rfl, rfl⟩
theorem Sz3 : ∀ w, (sizeOf 3).run Try.prog w = .ok 1 w := fun w => by kernel_rfl
theorem Sc3 : Scal Try.prog 3 := fun w => ⟨by kernel_rfl, Sz3 w⟩
theorem Zr3 : ZeroT Try.prog 3 [.int .i64 0] := ⟨.int .i64 0, fun w => by kernel_rfl, rfl⟩
theorem Sz4 : ∀ w, (sizeOf 4).run Try.prog w = .ok 1 w := fun w => by kernel_rfl
theorem Sc4 : Scal Try.prog 4 := fun w => ⟨by kernel_rfl, Sz4 w⟩
theorem Zr4 : ZeroT Try.prog 4 [.bool false] := ⟨.bool false, fun w => by kernel_rfl, rfl⟩
theorem Sz5 : ∀ w, (sizeOf 5).run Try.prog w = .ok 1 w := fun w => by kernel_rfl
theorem Sc5 : Scal Try.prog 5 := fun w => ⟨by kernel_rfl, Sz5 w⟩
theorem Zr5 : ZeroT Try.prog 5 [.int .u8 0] := ⟨.int .u8 0, fun w => by kernel_rfl, rfl⟩
theorem Sz9 : ∀ w, (sizeOf 9).run Try.prog w = .ok 1 w := fun w => by kernel_rfl
theorem Sc9 : Scal Try.prog 9 := fun w => ⟨by kernel_rfl, Sz9 w⟩
theorem Zr9 : ZeroT Try.prog 9 [.string ByteArray.empty] := ⟨.string ByteArray.empty, fun w => by kernel_rfl, rfl⟩
theorem Sz22 : ∀ w, (sizeOf 22).run Try.prog w = .ok 1 w := fun w => by kernel_rfl
theorem Sc22 : Scal Try.prog 22 := fun w => ⟨by kernel_rfl, Sz22 w⟩
theorem El22 : ElemT Try.prog 22 30 2 24 [.int .i64 0, .string ByteArray.empty] := elemT_of (by kernel_rfl)
theorem Is22 : IdxS Try.prog 22 30 2 := ⟨Try.underlying22, by kernel_rfl⟩
theorem Zr22 : ZeroT Try.prog 22 [.slice none 0 0] := ⟨.slice none 0 0, fun w => by kernel_rfl, rfl⟩
theorem Sz25 : ∀ w, (sizeOf 25).run Try.prog w = .ok 1 w := fun w => by kernel_rfl
theorem Sc25 : Scal Try.prog 25 := fun w => ⟨by kernel_rfl, Sz25 w⟩
theorem El25 : ElemT Try.prog 25 34 2 24 [.int .i64 0, .string ByteArray.empty] := elemT_of (by kernel_rfl)
theorem Is25 : IdxS Try.prog 25 34 2 := ⟨Try.underlying25, by kernel_rfl⟩
theorem Zr25 : ZeroT Try.prog 25 [.slice none 0 0] := ⟨.slice none 0 0, fun w => by kernel_rfl, rfl⟩
theorem Sz29 : ∀ w, (sizeOf 29).run Try.prog w = .ok 2 w := fun w => by kernel_rfl
theorem Ag29 : Aggr Try.prog 29 2 := fun w => ⟨by kernel_rfl, Sz29 w⟩
theorem Fo29_0 : FOff Try.prog 29 0 0 := ⟨0, by kernel_rfl⟩
theorem Fo29_1 : FOff Try.prog 29 1 1 := ⟨0, by kernel_rfl⟩
theorem Pl29 : Places Try.prog 29 [(0, 1), (1, 1)] := ⟨_, Try.underlying29, fun w => by kernel_rfl⟩
theorem Zr29 : ZeroT Try.prog 29 [.int .i64 0, .string ByteArray.empty] := ⟨.agg #[.int .i64 0, .string ByteArray.empty], fun w => by kernel_rfl, rfl⟩
theorem Sz30 : ∀ w, (sizeOf 30).run Try.prog w = .ok 2 w := fun w => by kernel_rfl
theorem Ag30 : Aggr Try.prog 30 2 := fun w => ⟨by kernel_rfl, Sz30 w⟩
theorem Fo30_0 : FOff Try.prog 30 0 0 := ⟨0, by kernel_rfl⟩
theorem Fo30_1 : FOff Try.prog 30 1 1 := ⟨0, by kernel_rfl⟩
theorem Pl30 : Places Try.prog 30 [(0, 1), (1, 1)] := ⟨_, Try.underlying30, fun w => by kernel_rfl⟩
theorem Zr30 : ZeroT Try.prog 30 [.int .i64 0, .string ByteArray.empty] := ⟨.agg #[.int .i64 0, .string ByteArray.empty], fun w => by kernel_rfl, rfl⟩
theorem Sz34 : ∀ w, (sizeOf 34).run Try.prog w = .ok 2 w := fun w => by kernel_rfl
theorem Ag34 : Aggr Try.prog 34 2 := fun w => ⟨by kernel_rfl, Sz34 w⟩
theorem Fo34_0 : FOff Try.prog 34 0 0 := ⟨0, by kernel_rfl⟩
theorem Fo34_1 : FOff Try.prog 34 1 1 := ⟨0, by kernel_rfl⟩
theorem Pl34 : Places Try.prog 34 [(0, 1), (1, 1)] := ⟨_, Try.underlying34, fun w => by kernel_rfl⟩
theorem Zr34 : ZeroT Try.prog 34 [.int .i64 0, .string ByteArray.empty] := ⟨.agg #[.int .i64 0, .string ByteArray.empty], fun w => by kernel_rfl, rfl⟩
theorem Sz38 : ∀ w, (sizeOf 38).run Try.prog w = .ok 1 w := fun w => by kernel_rfl
theorem Sc38 : Scal Try.prog 38 := fun w => ⟨by kernel_rfl, Sz38 w⟩
theorem El38 : ElemT Try.prog 38 100 2 32 [.int .i64 0, .slice none 0 0] := elemT_of (by kernel_rfl)
theorem Is38 : IdxS Try.prog 38 100 2 := ⟨Try.underlying38, by kernel_rfl⟩
theorem Zr38 : ZeroT Try.prog 38 [.slice none 0 0] := ⟨.slice none 0 0, fun w => by kernel_rfl, rfl⟩
theorem Sz39 : ∀ w, (sizeOf 39).run Try.prog w = .ok 1 w := fun w => by kernel_rfl
theorem Ag39 : Aggr Try.prog 39 1 := fun w => ⟨by kernel_rfl, Sz39 w⟩
theorem Fo39_0 : FOff Try.prog 39 0 0 := ⟨0, by kernel_rfl⟩
theorem Pl39 : Places Try.prog 39 [(0, 1)] := ⟨_, Try.underlying39, fun w => by kernel_rfl⟩
theorem Zr39 : ZeroT Try.prog 39 [.slice none 0 0] := ⟨.agg #[.slice none 0 0], fun w => by kernel_rfl, rfl⟩
theorem Sz40 : ∀ w, (sizeOf 40).run Try.prog w = .ok 1 w := fun w => by kernel_rfl
theorem Ag40 : Aggr Try.prog 40 1 := fun w => ⟨by kernel_rfl, Sz40 w⟩
theorem Fo40_0 : FOff Try.prog 40 0 0 := ⟨0, by kernel_rfl⟩
theorem Pl40 : Places Try.prog 40 [(0, 1)] := ⟨_, Try.underlying40, fun w => by kernel_rfl⟩
theorem Zr40 : ZeroT Try.prog 40 [.slice none 0 0] := ⟨.agg #[.slice none 0 0], fun w => by kernel_rfl, rfl⟩
theorem Sz43 : ∀ w, (sizeOf 43).run Try.prog w = .ok 1 w := fun w => by kernel_rfl
theorem Sc43 : Scal Try.prog 43 := fun w => ⟨by kernel_rfl, Sz43 w⟩
theorem El43 : ElemT Try.prog 43 76 2 32 [.int .i64 0, .slice none 0 0] := elemT_of (by kernel_rfl)
theorem Is43 : IdxS Try.prog 43 76 2 := ⟨Try.underlying43, by kernel_rfl⟩
theorem Zr43 : ZeroT Try.prog 43 [.slice none 0 0] := ⟨.slice none 0 0, fun w => by kernel_rfl, rfl⟩
theorem Sz44 : ∀ w, (sizeOf 44).run Try.prog w = .ok 1 w := fun w => by kernel_rfl
theorem Ag44 : Aggr Try.prog 44 1 := fun w => ⟨by kernel_rfl, Sz44 w⟩
theorem Fo44_0 : FOff Try.prog 44 0 0 := ⟨0, by kernel_rfl⟩
theorem Pl44 : Places Try.prog 44 [(0, 1)] := ⟨_, Try.underlying44, fun w => by kernel_rfl⟩
theorem Zr44 : ZeroT Try.prog 44 [.slice none 0 0] := ⟨.agg #[.slice none 0 0], fun w => by kernel_rfl, rfl⟩
theorem Sz45 : ∀ w, (sizeOf 45).run Try.prog w = .ok 1 w := fun w => by kernel_rfl
theorem Ag45 : Aggr Try.prog 45 1 := fun w => ⟨by kernel_rfl, Sz45 w⟩
theorem Fo45_0 : FOff Try.prog 45 0 0 := ⟨0, by kernel_rfl⟩
theorem Pl45 : Places Try.prog 45 [(0, 1)] := ⟨_, Try.underlying45, fun w => by kernel_rfl⟩
theorem Zr45 : ZeroT Try.prog 45 [.slice none 0 0] := ⟨.agg #[.slice none 0 0], fun w => by kernel_rfl, rfl⟩
theorem Sz49 : ∀ w, (sizeOf 49).run Try.prog w = .ok 1 w := fun w => by kernel_rfl
theorem Sc49 : Scal Try.prog 49 := fun w => ⟨by kernel_rfl, Sz49 w⟩
theorem El49 : ElemT Try.prog 49 86 4 32 [.int .i64 0, .int .i64 0, .int .i64 0, .int .i64 0] := elemT_of (by kernel_rfl)
theorem Is49 : IdxS Try.prog 49 86 4 := ⟨Try.underlying49, by kernel_rfl⟩
theorem Zr49 : ZeroT Try.prog 49 [.slice none 0 0] := ⟨.slice none 0 0, fun w => by kernel_rfl, rfl⟩
theorem Sz52 : ∀ w, (sizeOf 52).run Try.prog w = .ok 1 w := fun w => by kernel_rfl
theorem Sc52 : Scal Try.prog 52 := fun w => ⟨by kernel_rfl, Sz52 w⟩
theorem El52 : ElemT Try.prog 52 84 4 32 [.int .i64 0, .int .i64 0, .int .i64 0, .int .i64 0] := elemT_of (by kernel_rfl)
theorem Is52 : IdxS Try.prog 52 84 4 := ⟨Try.underlying52, by kernel_rfl⟩
theorem Zr52 : ZeroT Try.prog 52 [.slice none 0 0] := ⟨.slice none 0 0, fun w => by kernel_rfl, rfl⟩
theorem Sz56 : ∀ w, (sizeOf 56).run Try.prog w = .ok 1 w := fun w => by kernel_rfl
theorem Sc56 : Scal Try.prog 56 := fun w => ⟨by kernel_rfl, Sz56 w⟩
theorem El56 : ElemT Try.prog 56 49 1 24 [.slice none 0 0] := elemT_of (by kernel_rfl)
theorem Is56 : IdxS Try.prog 56 49 1 := ⟨Try.underlying56, by kernel_rfl⟩
theorem Zr56 : ZeroT Try.prog 56 [.slice none 0 0] := ⟨.slice none 0 0, fun w => by kernel_rfl, rfl⟩
theorem Sz59 : ∀ w, (sizeOf 59).run Try.prog w = .ok 1 w := fun w => by kernel_rfl
theorem Sc59 : Scal Try.prog 59 := fun w => ⟨by kernel_rfl, Sz59 w⟩
theorem El59 : ElemT Try.prog 59 52 1 24 [.slice none 0 0] := elemT_of (by kernel_rfl)
theorem Is59 : IdxS Try.prog 59 52 1 := ⟨Try.underlying59, by kernel_rfl⟩
theorem Zr59 : ZeroT Try.prog 59 [.slice none 0 0] := ⟨.slice none 0 0, fun w => by kernel_rfl, rfl⟩
theorem Sz66 : ∀ w, (sizeOf 66).run Try.prog w = .ok 1 w := fun w => by kernel_rfl
theorem Sc66 : Scal Try.prog 66 := fun w => ⟨by kernel_rfl, Sz66 w⟩
theorem Zr66 : ZeroT Try.prog 66 [.nilFunc] := ⟨.nilFunc, fun w => by kernel_rfl, rfl⟩
theorem Sz74 : ∀ w, (sizeOf 74).run Try.prog w = .ok 1 w := fun w => by kernel_rfl
theorem Sc74 : Scal Try.prog 74 := fun w => ⟨by kernel_rfl, Sz74 w⟩
theorem Zr74 : ZeroT Try.prog 74 [.nilFunc] := ⟨.nilFunc, fun w => by kernel_rfl, rfl⟩
theorem Sz75 : ∀ w, (sizeOf 75).run Try.prog w = .ok 2 w := fun w => by kernel_rfl
theorem Ag75 : Aggr Try.prog 75 2 := fun w => ⟨by kernel_rfl, Sz75 w⟩
theorem Fo75_0 : FOff Try.prog 75 0 0 := ⟨0, by kernel_rfl⟩
theorem Fo75_1 : FOff Try.prog 75 1 1 := ⟨0, by kernel_rfl⟩
theorem Pl75 : Places Try.prog 75 [(0, 1), (1, 1)] := ⟨_, Try.underlying75, fun w => by kernel_rfl⟩
theorem Zr75 : ZeroT Try.prog 75 [.int .i64 0, .slice none 0 0] := ⟨.agg #[.int .i64 0, .slice none 0 0], fun w => by kernel_rfl, rfl⟩
theorem Sz76 : ∀ w, (sizeOf 76).run Try.prog w = .ok 2 w := fun w => by kernel_rfl
theorem Ag76 : Aggr Try.prog 76 2 := fun w => ⟨by kernel_rfl, Sz76 w⟩
theorem Fo76_0 : FOff Try.prog 76 0 0 := ⟨0, by kernel_rfl⟩
theorem Fo76_1 : FOff Try.prog 76 1 1 := ⟨0, by kernel_rfl⟩
theorem Pl76 : Places Try.prog 76 [(0, 1), (1, 1)] := ⟨_, Try.underlying76, fun w => by kernel_rfl⟩
theorem Zr76 : ZeroT Try.prog 76 [.int .i64 0, .slice none 0 0] := ⟨.agg #[.int .i64 0, .slice none 0 0], fun w => by kernel_rfl, rfl⟩
theorem Sz78 : ∀ w, (sizeOf 78).run Try.prog w = .ok 1 w := fun w => by kernel_rfl
theorem Sc78 : Scal Try.prog 78 := fun w => ⟨by kernel_rfl, Sz78 w⟩
theorem El78 : ElemT Try.prog 78 4 1 1 [.bool false] := elemT_of (by kernel_rfl)
theorem Is78 : IdxS Try.prog 78 4 1 := ⟨Try.underlying78, by kernel_rfl⟩
theorem Zr78 : ZeroT Try.prog 78 [.slice none 0 0] := ⟨.slice none 0 0, fun w => by kernel_rfl, rfl⟩
theorem Sz83 : ∀ w, (sizeOf 83).run Try.prog w = .ok 4 w := fun w => by kernel_rfl
theorem Ag83 : Aggr Try.prog 83 4 := fun w => ⟨by kernel_rfl, Sz83 w⟩
theorem Fo83_0 : FOff Try.prog 83 0 0 := ⟨0, by kernel_rfl⟩
theorem Fo83_1 : FOff Try.prog 83 1 1 := ⟨0, by kernel_rfl⟩
theorem Fo83_2 : FOff Try.prog 83 2 2 := ⟨0, by kernel_rfl⟩
theorem Fo83_3 : FOff Try.prog 83 3 3 := ⟨0, by kernel_rfl⟩
theorem Pl83 : Places Try.prog 83 [(0, 1), (1, 1), (2, 1), (3, 1)] := ⟨_, Try.underlying83, fun w => by kernel_rfl⟩
theorem Zr83 : ZeroT Try.prog 83 [.int .i64 0, .int .i64 0, .int .i64 0, .int .i64 0] := ⟨.agg #[.int .i64 0, .int .i64 0, .int .i64 0, .int .i64 0], fun w => by kernel_rfl, rfl⟩
theorem Sz84 : ∀ w, (sizeOf 84).run Try.prog w = .ok 4 w := fun w => by kernel_rfl
theorem Ag84 : Aggr Try.prog 84 4 := fun w => ⟨by kernel_rfl, Sz84 w⟩
theorem Fo84_0 : FOff Try.prog 84 0 0 := ⟨0, by kernel_rfl⟩
theorem Fo84_1 : FOff Try.prog 84 1 1 := ⟨0, by kernel_rfl⟩
theorem Fo84_2 : FOff Try.prog 84 2 2 := ⟨0, by kernel_rfl⟩
theorem Fo84_3 : FOff Try.prog 84 3 3 := ⟨0, by kernel_rfl⟩
theorem Pl84 : Places Try.prog 84 [(0, 1), (1, 1), (2, 1), (3, 1)] := ⟨_, Try.underlying84, fun w => by kernel_rfl⟩
theorem Zr84 : ZeroT Try.prog 84 [.int .i64 0, .int .i64 0, .int .i64 0, .int .i64 0] := ⟨.agg #[.int .i64 0, .int .i64 0, .int .i64 0, .int .i64 0], fun w => by kernel_rfl, rfl⟩
theorem Sz86 : ∀ w, (sizeOf 86).run Try.prog w = .ok 4 w := fun w => by kernel_rfl
theorem Ag86 : Aggr Try.prog 86 4 := fun w => ⟨by kernel_rfl, Sz86 w⟩
theorem Fo86_0 : FOff Try.prog 86 0 0 := ⟨0, by kernel_rfl⟩
theorem Fo86_1 : FOff Try.prog 86 1 1 := ⟨0, by kernel_rfl⟩
theorem Fo86_2 : FOff Try.prog 86 2 2 := ⟨0, by kernel_rfl⟩
theorem Fo86_3 : FOff Try.prog 86 3 3 := ⟨0, by kernel_rfl⟩
theorem Pl86 : Places Try.prog 86 [(0, 1), (1, 1), (2, 1), (3, 1)] := ⟨_, Try.underlying86, fun w => by kernel_rfl⟩
theorem Zr86 : ZeroT Try.prog 86 [.int .i64 0, .int .i64 0, .int .i64 0, .int .i64 0] := ⟨.agg #[.int .i64 0, .int .i64 0, .int .i64 0, .int .i64 0], fun w => by kernel_rfl, rfl⟩
theorem Sz91 : ∀ w, (sizeOf 91).run Try.prog w = .ok 1 w := fun w => by kernel_rfl
theorem Sc91 : Scal Try.prog 91 := fun w => ⟨by kernel_rfl, Sz91 w⟩
theorem El91 : ElemT Try.prog 91 78 1 24 [.slice none 0 0] := elemT_of (by kernel_rfl)
theorem Is91 : IdxS Try.prog 91 78 1 := ⟨Try.underlying91, by kernel_rfl⟩
theorem Zr91 : ZeroT Try.prog 91 [.slice none 0 0] := ⟨.slice none 0 0, fun w => by kernel_rfl, rfl⟩
theorem Sz97 : ∀ w, (sizeOf 97).run Try.prog w = .ok 1 w := fun w => by kernel_rfl
theorem Sc97 : Scal Try.prog 97 := fun w => ⟨by kernel_rfl, Sz97 w⟩
theorem El97 : ElemT Try.prog 97 5 1 1 [.int .u8 0] := elemT_of (by kernel_rfl)
theorem Is97 : IdxS Try.prog 97 5 1 := ⟨Try.underlying97, by kernel_rfl⟩
theorem Zr97 : ZeroT Try.prog 97 [.slice none 0 0] := ⟨.slice none 0 0, fun w => by kernel_rfl, rfl⟩
theorem Sz99 : ∀ w, (sizeOf 99).run Try.prog w = .ok 2 w := fun w => by kernel_rfl
theorem Ag99 : Aggr Try.prog 99 2 := fun w => ⟨by kernel_rfl, Sz99 w⟩
theorem Fo99_0 : FOff Try.prog 99 0 0 := ⟨0, by kernel_rfl⟩
theorem Fo99_1 : FOff Try.prog 99 1 1 := ⟨0, by kernel_rfl⟩
theorem Pl99 : Places Try.prog 99 [(0, 1), (1, 1)] := ⟨_, Try.underlying99, fun w => by kernel_rfl⟩
theorem Zr99 : ZeroT Try.prog 99 [.int .i64 0, .slice none 0 0] := ⟨.agg #[.int .i64 0, .slice none 0 0], fun w => by kernel_rfl, rfl⟩
theorem Sz100 : ∀ w, (sizeOf 100).run Try.prog w = .ok 2 w := fun w => by kernel_rfl
theorem Ag100 : Aggr Try.prog 100 2 := fun w => ⟨by kernel_rfl, Sz100 w⟩
theorem Fo100_0 : FOff Try.prog 100 0 0 := ⟨0, by kernel_rfl⟩
theorem Fo100_1 : FOff Try.prog 100 1 1 := ⟨0, by kernel_rfl⟩
theorem Pl100 : Places Try.prog 100 [(0, 1), (1, 1)] := ⟨_, Try.underlying100, fun w => by kernel_rfl⟩
theorem Zr100 : ZeroT Try.prog 100 [.int .i64 0, .slice none 0 0] := ⟨.agg #[.int .i64 0, .slice none 0 0], fun w => by kernel_rfl, rfl⟩
theorem Sz104 : ∀ w, (sizeOf 104).run Try.prog w = .ok 1 w := fun w => by kernel_rfl
theorem Sc104 : Scal Try.prog 104 := fun w => ⟨by kernel_rfl, Sz104 w⟩
theorem Zr104 : ZeroT Try.prog 104 [.pointer none] := ⟨.pointer none, fun w => by kernel_rfl, rfl⟩
theorem Sz109 : ∀ w, (sizeOf 109).run Try.prog w = .ok 3 w := fun w => by kernel_rfl
theorem Ag109 : Aggr Try.prog 109 3 := fun w => ⟨by kernel_rfl, Sz109 w⟩
theorem Fo109_0 : FOff Try.prog 109 0 0 := ⟨0, by kernel_rfl⟩
theorem Fo109_1 : FOff Try.prog 109 1 1 := ⟨0, by kernel_rfl⟩
theorem Fo109_2 : FOff Try.prog 109 2 2 := ⟨0, by kernel_rfl⟩
theorem Pl109 : Places Try.prog 109 [(0, 1), (1, 1), (2, 1)] := ⟨_, Try.underlying109, fun w => by kernel_rfl⟩
theorem Zr109 : ZeroT Try.prog 109 [.int .i64 0, .int .i64 0, .int .i64 0] := ⟨.agg #[.int .i64 0, .int .i64 0, .int .i64 0], fun w => by kernel_rfl, rfl⟩
theorem Sz110 : ∀ w, (sizeOf 110).run Try.prog w = .ok 3 w := fun w => by kernel_rfl
theorem Ag110 : Aggr Try.prog 110 3 := fun w => ⟨by kernel_rfl, Sz110 w⟩
theorem Fo110_0 : FOff Try.prog 110 0 0 := ⟨0, by kernel_rfl⟩
theorem Fo110_1 : FOff Try.prog 110 1 1 := ⟨0, by kernel_rfl⟩
theorem Fo110_2 : FOff Try.prog 110 2 2 := ⟨0, by kernel_rfl⟩
theorem Pl110 : Places Try.prog 110 [(0, 1), (1, 1), (2, 1)] := ⟨_, Try.underlying110, fun w => by kernel_rfl⟩
theorem Zr110 : ZeroT Try.prog 110 [.int .i64 0, .int .i64 0, .int .i64 0] := ⟨.agg #[.int .i64 0, .int .i64 0, .int .i64 0], fun w => by kernel_rfl, rfl⟩
theorem Sz114 : ∀ w, (sizeOf 114).run Try.prog w = .ok 80 w := fun w => by kernel_rfl
theorem Ag114 : Aggr Try.prog 114 80 := fun w => ⟨by kernel_rfl, Sz114 w⟩
theorem Ia114 : IdxA Try.prog 114 80 1 := ⟨4, Try.underlying114, by kernel_rfl⟩
theorem Sz115 : ∀ w, (sizeOf 115).run Try.prog w = .ok 6400 w := fun w => by kernel_rfl
theorem Ag115 : Aggr Try.prog 115 6400 := fun w => ⟨by kernel_rfl, Sz115 w⟩
theorem Ia115 : IdxA Try.prog 115 80 80 := ⟨114, Try.underlying115, by kernel_rfl⟩
theorem Sz116 : ∀ w, (sizeOf 116).run Try.prog w = .ok 6400 w := fun w => by kernel_rfl
theorem Ag116 : Aggr Try.prog 116 6400 := fun w => ⟨by kernel_rfl, Sz116 w⟩
theorem Ia116 : IdxA Try.prog 116 80 80 := ⟨114, Try.underlying116, by kernel_rfl⟩
theorem Sz119 : ∀ w, (sizeOf 119).run Try.prog w = .ok 1 w := fun w => by kernel_rfl
theorem Sc119 : Scal Try.prog 119 := fun w => ⟨by kernel_rfl, Sz119 w⟩
theorem El119 : ElemT Try.prog 119 2 1 8 [.int .i64 0] := elemT_of (by kernel_rfl)
theorem Is119 : IdxS Try.prog 119 2 1 := ⟨Try.underlying119, by kernel_rfl⟩
theorem Zr119 : ZeroT Try.prog 119 [.slice none 0 0] := ⟨.slice none 0 0, fun w => by kernel_rfl, rfl⟩
theorem Sz128 : ∀ w, (sizeOf 128).run Try.prog w = .ok 2 w := fun w => by kernel_rfl
theorem Ag128 : Aggr Try.prog 128 2 := fun w => ⟨by kernel_rfl, Sz128 w⟩
theorem Fo128_0 : FOff Try.prog 128 0 0 := ⟨0, by kernel_rfl⟩
theorem Fo128_1 : FOff Try.prog 128 1 1 := ⟨0, by kernel_rfl⟩
theorem Pl128 : Places Try.prog 128 [(0, 1), (1, 1)] := ⟨_, Try.underlying128, fun w => by kernel_rfl⟩
theorem Zr128 : ZeroT Try.prog 128 [.int .i64 0, .int .i64 0] := ⟨.agg #[.int .i64 0, .int .i64 0], fun w => by kernel_rfl, rfl⟩
theorem Sz129 : ∀ w, (sizeOf 129).run Try.prog w = .ok 2 w := fun w => by kernel_rfl
theorem Ag129 : Aggr Try.prog 129 2 := fun w => ⟨by kernel_rfl, Sz129 w⟩
theorem Fo129_0 : FOff Try.prog 129 0 0 := ⟨0, by kernel_rfl⟩
theorem Fo129_1 : FOff Try.prog 129 1 1 := ⟨0, by kernel_rfl⟩
theorem Pl129 : Places Try.prog 129 [(0, 1), (1, 1)] := ⟨_, Try.underlying129, fun w => by kernel_rfl⟩
theorem Zr129 : ZeroT Try.prog 129 [.int .i64 0, .int .i64 0] := ⟨.agg #[.int .i64 0, .int .i64 0], fun w => by kernel_rfl, rfl⟩
theorem Sz134 : ∀ w, (sizeOf 134).run Try.prog w = .ok 1 w := fun w => by kernel_rfl
theorem Sc134 : Scal Try.prog 134 := fun w => ⟨by kernel_rfl, Sz134 w⟩
theorem Zr134 : ZeroT Try.prog 134 [.nilFunc] := ⟨.nilFunc, fun w => by kernel_rfl, rfl⟩
theorem En3 : Ent Try.prog 3 := ent_of Try.func3 (by kernel_rfl) (by kernel_rfl)
theorem En4 : Ent Try.prog 4 := ent_of Try.func4 (by kernel_rfl) (by kernel_rfl)
theorem En5 : Ent Try.prog 5 := ent_of Try.func5 (by kernel_rfl) (by kernel_rfl)
theorem En6 : Ent Try.prog 6 := ent_of Try.func6 (by kernel_rfl) (by kernel_rfl)
theorem En7 : Ent Try.prog 7 := ent_of Try.func7 (by kernel_rfl) (by kernel_rfl)
theorem En8 : Ent Try.prog 8 := ent_of Try.func8 (by kernel_rfl) (by kernel_rfl)
theorem En9 : Ent Try.prog 9 := ent_of Try.func9 (by kernel_rfl) (by kernel_rfl)
theorem En10 : Ent Try.prog 10 := ent_of Try.func10 (by kernel_rfl) (by kernel_rfl)
theorem En11 : Ent Try.prog 11 := ent_of Try.func11 (by kernel_rfl) (by kernel_rfl)
theorem En12 : Ent Try.prog 12 := ent_of Try.func12 (by kernel_rfl) (by kernel_rfl)
theorem En13 : Ent Try.prog 13 := ent_of Try.func13 (by kernel_rfl) (by kernel_rfl)
theorem En14 : Ent Try.prog 14 := ent_of Try.func14 (by kernel_rfl) (by kernel_rfl)
theorem En15 : Ent Try.prog 15 := ent_of Try.func15 (by kernel_rfl) (by kernel_rfl)
theorem En16 : Ent Try.prog 16 := ent_of Try.func16 (by kernel_rfl) (by kernel_rfl)
theorem En17 : Ent Try.prog 17 := ent_of Try.func17 (by kernel_rfl) (by kernel_rfl)
theorem En18 : Ent Try.prog 18 := ent_of Try.func18 (by kernel_rfl) (by kernel_rfl)
theorem En19 : Ent Try.prog 19 := ent_of Try.func19 (by kernel_rfl) (by kernel_rfl)
theorem En20 : Ent Try.prog 20 := ent_of Try.func20 (by kernel_rfl) (by kernel_rfl)
theorem En21 : Ent Try.prog 21 := ent_of Try.func21 (by kernel_rfl) (by kernel_rfl)
theorem En22 : Ent Try.prog 22 := ent_of Try.func22 (by kernel_rfl) (by kernel_rfl)
theorem En23 : Ent Try.prog 23 := ent_of Try.func23 (by kernel_rfl) (by kernel_rfl)
theorem En24 : Ent Try.prog 24 := ent_of Try.func24 (by kernel_rfl) (by kernel_rfl)
theorem En25 : Ent Try.prog 25 := ent_of Try.func25 (by kernel_rfl) (by kernel_rfl)
theorem En26 : Ent Try.prog 26 := ent_of Try.func26 (by kernel_rfl) (by kernel_rfl)
theorem En27 : Ent Try.prog 27 := ent_of Try.func27 (by kernel_rfl) (by kernel_rfl)
theorem En28 : Ent Try.prog 28 := ent_of Try.func28 (by kernel_rfl) (by kernel_rfl)
theorem En29 : Ent Try.prog 29 := ent_of Try.func29 (by kernel_rfl) (by kernel_rfl)
theorem En30 : Ent Try.prog 30 := ent_of Try.func30 (by kernel_rfl) (by kernel_rfl)
theorem En31 : Ent Try.prog 31 := ent_of Try.func31 (by kernel_rfl) (by kernel_rfl)
theorem En32 : Ent Try.prog 32 := ent_of Try.func32 (by kernel_rfl) (by kernel_rfl)
theorem En33 : Ent Try.prog 33 := ent_of Try.func33 (by kernel_rfl) (by kernel_rfl)
theorem En34 : Ent Try.prog 34 := ent_of Try.func34 (by kernel_rfl) (by kernel_rfl)
theorem En35 : Ent Try.prog 35 := ent_of Try.func35 (by kernel_rfl) (by kernel_rfl)
theorem En36 : Ent Try.prog 36 := ent_of Try.func36 (by kernel_rfl) (by kernel_rfl)
theorem En37 : Ent Try.prog 37 := ent_of Try.func37 (by kernel_rfl) (by kernel_rfl)
theorem En38 : Ent Try.prog 38 := ent_of Try.func38 (by kernel_rfl) (by kernel_rfl)
theorem En39 : Ent Try.prog 39 := ent_of Try.func39 (by kernel_rfl) (by kernel_rfl)
theorem En40 : Ent Try.prog 40 := ent_of Try.func40 (by kernel_rfl) (by kernel_rfl)
theorem En41 : Ent Try.prog 41 := ent_of Try.func41 (by kernel_rfl) (by kernel_rfl)
theorem En42 : Ent Try.prog 42 := ent_of Try.func42 (by kernel_rfl) (by kernel_rfl)
theorem En43 : Ent Try.prog 43 := ent_of Try.func43 (by kernel_rfl) (by kernel_rfl)
theorem En44 : Ent Try.prog 44 := ent_of Try.func44 (by kernel_rfl) (by kernel_rfl)
theorem En45 : Ent Try.prog 45 := ent_of Try.func45 (by kernel_rfl) (by kernel_rfl)
theorem En46 : Ent Try.prog 46 := ent_of Try.func46 (by kernel_rfl) (by kernel_rfl)
theorem En47 : Ent Try.prog 47 := ent_of Try.func47 (by kernel_rfl) (by kernel_rfl)
theorem En48 : Ent Try.prog 48 := ent_of Try.func48 (by kernel_rfl) (by kernel_rfl)
theorem En49 : Ent Try.prog 49 := ent_of Try.func49 (by kernel_rfl) (by kernel_rfl)
theorem En50 : Ent Try.prog 50 := ent_of Try.func50 (by kernel_rfl) (by kernel_rfl)
theorem En51 : Ent Try.prog 51 := ent_of Try.func51 (by kernel_rfl) (by kernel_rfl)
theorem En52 : Ent Try.prog 52 := ent_of Try.func52 (by kernel_rfl) (by kernel_rfl)
theorem En53 : Ent Try.prog 53 := ent_of Try.func53 (by kernel_rfl) (by kernel_rfl)
theorem En54 : Ent Try.prog 54 := ent_of Try.func54 (by kernel_rfl) (by kernel_rfl)
theorem En55 : Ent Try.prog 55 := ent_of Try.func55 (by kernel_rfl) (by kernel_rfl)
theorem En56 : Ent Try.prog 56 := ent_of Try.func56 (by kernel_rfl) (by kernel_rfl)
theorem En57 : Ent Try.prog 57 := ent_of Try.func57 (by kernel_rfl) (by kernel_rfl)
theorem En58 : Ent Try.prog 58 := ent_of Try.func58 (by kernel_rfl) (by kernel_rfl)
theorem En59 : Ent Try.prog 59 := ent_of Try.func59 (by kernel_rfl) (by kernel_rfl)
theorem En60 : Ent Try.prog 60 := ent_of Try.func60 (by kernel_rfl) (by kernel_rfl)
theorem En61 : Ent Try.prog 61 := ent_of Try.func61 (by kernel_rfl) (by kernel_rfl)
theorem En62 : Ent Try.prog 62 := ent_of Try.func62 (by kernel_rfl) (by kernel_rfl)
theorem En63 : Ent Try.prog 63 := ent_of Try.func63 (by kernel_rfl) (by kernel_rfl)
theorem En64 : Ent Try.prog 64 := ent_of Try.func64 (by kernel_rfl) (by kernel_rfl)
theorem En65 : Ent Try.prog 65 := ent_of Try.func65 (by kernel_rfl) (by kernel_rfl)
theorem En66 : Ent Try.prog 66 := ent_of Try.func66 (by kernel_rfl) (by kernel_rfl)
theorem En67 : Ent Try.prog 67 := ent_of Try.func67 (by kernel_rfl) (by kernel_rfl)
theorem En68 : Ent Try.prog 68 := ent_of Try.func68 (by kernel_rfl) (by kernel_rfl)
theorem En69 : Ent Try.prog 69 := ent_of Try.func69 (by kernel_rfl) (by kernel_rfl)
theorem En70 : Ent Try.prog 70 := ent_of Try.func70 (by kernel_rfl) (by kernel_rfl)
theorem En71 : Ent Try.prog 71 := ent_of Try.func71 (by kernel_rfl) (by kernel_rfl)
theorem En72 : Ent Try.prog 72 := ent_of Try.func72 (by kernel_rfl) (by kernel_rfl)
theorem En73 : Ent Try.prog 73 := ent_of Try.func73 (by kernel_rfl) (by kernel_rfl)
theorem En74 : Ent Try.prog 74 := ent_of Try.func74 (by kernel_rfl) (by kernel_rfl)
theorem En76 : Ent Try.prog 76 := ent_of Try.func76 (by kernel_rfl) (by kernel_rfl)
theorem En77 : Ent Try.prog 77 := ent_of Try.func77 (by kernel_rfl) (by kernel_rfl)
theorem En78 : Ent Try.prog 78 := ent_of Try.func78 (by kernel_rfl) (by kernel_rfl)
theorem En79 : Ent Try.prog 79 := ent_of Try.func79 (by kernel_rfl) (by kernel_rfl)
theorem En80 : Ent Try.prog 80 := ent_of Try.func80 (by kernel_rfl) (by kernel_rfl)
theorem En81 : Ent Try.prog 81 := ent_of Try.func81 (by kernel_rfl) (by kernel_rfl)
theorem En82 : Ent Try.prog 82 := ent_of Try.func82 (by kernel_rfl) (by kernel_rfl)
theorem En83 : Ent Try.prog 83 := ent_of Try.func83 (by kernel_rfl) (by kernel_rfl)
theorem En84 : Ent Try.prog 84 := ent_of Try.func84 (by kernel_rfl) (by kernel_rfl)
theorem En85 : Ent Try.prog 85 := ent_of Try.func85 (by kernel_rfl) (by kernel_rfl)
theorem En86 : Ent Try.prog 86 := ent_of Try.func86 (by kernel_rfl) (by kernel_rfl)
theorem En87 : Ent Try.prog 87 := ent_of Try.func87 (by kernel_rfl) (by kernel_rfl)
theorem En88 : Ent Try.prog 88 := ent_of Try.func88 (by kernel_rfl) (by kernel_rfl)
theorem En89 : Ent Try.prog 89 := ent_of Try.func89 (by kernel_rfl) (by kernel_rfl)
theorem En90 : Ent Try.prog 90 := ent_of Try.func90 (by kernel_rfl) (by kernel_rfl)
theorem En91 : Ent Try.prog 91 := ent_of Try.func91 (by kernel_rfl) (by kernel_rfl)
theorem En92 : Ent Try.prog 92 := ent_of Try.func92 (by kernel_rfl) (by kernel_rfl)
theorem En93 : Ent Try.prog 93 := ent_of Try.func93 (by kernel_rfl) (by kernel_rfl)
theorem En94 : Ent Try.prog 94 := ent_of Try.func94 (by kernel_rfl) (by kernel_rfl)
theorem En95 : Ent Try.prog 95 := ent_of Try.func95 (by kernel_rfl) (by kernel_rfl)
theorem En96 : Ent Try.prog 96 := ent_of Try.func96 (by kernel_rfl) (by kernel_rfl)
theorem En97 : Ent Try.prog 97 := ent_of Try.func97 (by kernel_rfl) (by kernel_rfl)
theorem En98 : Ent Try.prog 98 := ent_of Try.func98 (by kernel_rfl) (by kernel_rfl)
theorem En99 : Ent Try.prog 99 := ent_of Try.func99 (by kernel_rfl) (by kernel_rfl)
theorem En100 : Ent Try.prog 100 := ent_of Try.func100 (by kernel_rfl) (by kernel_rfl)
theorem En101 : Ent Try.prog 101 := ent_of Try.func101 (by kernel_rfl) (by kernel_rfl)
theorem En102 : Ent Try.prog 102 := ent_of Try.func102 (by kernel_rfl) (by kernel_rfl)
theorem En103 : Ent Try.prog 103 := ent_of Try.func103 (by kernel_rfl) (by kernel_rfl)
theorem En104 : Ent Try.prog 104 := ent_of Try.func104 (by kernel_rfl) (by kernel_rfl)
theorem En105 : Ent Try.prog 105 := ent_of Try.func105 (by kernel_rfl) (by kernel_rfl)
theorem En106 : Ent Try.prog 106 := ent_of Try.func106 (by kernel_rfl) (by kernel_rfl)
theorem En107 : Ent Try.prog 107 := ent_of Try.func107 (by kernel_rfl) (by kernel_rfl)
theorem En108 : Ent Try.prog 108 := ent_of Try.func108 (by kernel_rfl) (by kernel_rfl)
theorem En109 : Ent Try.prog 109 := ent_of Try.func109 (by kernel_rfl) (by kernel_rfl)
theorem En110 : Ent Try.prog 110 := ent_of Try.func110 (by kernel_rfl) (by kernel_rfl)
theorem En111 : Ent Try.prog 111 := ent_of Try.func111 (by kernel_rfl) (by kernel_rfl)
theorem En112 : Ent Try.prog 112 := ent_of Try.func112 (by kernel_rfl) (by kernel_rfl)
theorem En113 : Ent Try.prog 113 := ent_of Try.func113 (by kernel_rfl) (by kernel_rfl)
theorem En114 : Ent Try.prog 114 := ent_of Try.func114 (by kernel_rfl) (by kernel_rfl)
theorem En115 : Ent Try.prog 115 := ent_of Try.func115 (by kernel_rfl) (by kernel_rfl)
theorem En116 : Ent Try.prog 116 := ent_of Try.func116 (by kernel_rfl) (by kernel_rfl)
theorem En117 : Ent Try.prog 117 := ent_of Try.func117 (by kernel_rfl) (by kernel_rfl)
theorem En118 : Ent Try.prog 118 := ent_of Try.func118 (by kernel_rfl) (by kernel_rfl)
theorem En119 : Ent Try.prog 119 := ent_of Try.func119 (by kernel_rfl) (by kernel_rfl)
end Go.Proofs.Ytblccfeodidhbaa
