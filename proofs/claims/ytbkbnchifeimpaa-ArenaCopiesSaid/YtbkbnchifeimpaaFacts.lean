/- MADE BY PROGRAM (facts.py): the closed facts on types and functions of this cut that the walks in the mirror use. -/
import Derived.Test.YtbkbnchifeimpaaProg
import Derived.Test.YtbkbnchifeimpaaMirC
import Derived.KernelRfl
set_option maxRecDepth 100000
namespace Go.Mir
open Go.Proofs

instance : BuildSC Try.prog 101 0 (fun i => some (i * 3, 3)) [] := ⟨fun ps => by kernel_rfl⟩
instance : BuildSC Try.prog 101 1 (fun i => some (i * 3, 3)) [MV.int IntKind.i64 0, MV.int IntKind.i64 0, MV.int IntKind.i64 0] := ⟨fun ps => by kernel_rfl⟩
instance : BuildSC Try.prog 28 1 (fun i => some (i * 1, 1)) [MV.int IntKind.i64 0] := ⟨fun ps => by kernel_rfl⟩
instance : BuildSC Try.prog 46 0 (fun i => some (i * 1, 1)) [] := ⟨fun ps => by kernel_rfl⟩
instance : BuildSC Try.prog 46 1 (fun i => some (i * 1, 1)) [MV.int IntKind.i64 0] := ⟨fun ps => by kernel_rfl⟩
instance : BuildSC Try.prog 51 1 (fun i => some (i * 4, 4)) [MV.int IntKind.i64 0, MV.int IntKind.i64 0, MV.int IntKind.i64 0, MV.bool false] := ⟨fun ps => by kernel_rfl⟩
instance : BuildSC Try.prog 68 0 (fun i => some (i * 3, 3)) [] := ⟨fun ps => by kernel_rfl⟩
instance : BuildSC Try.prog 68 1 (fun i => some (i * 3, 3)) [MV.int IntKind.i64 0, MV.int IntKind.i64 0, MV.int IntKind.i64 0] := ⟨fun ps => by kernel_rfl⟩
instance : BuildSC Try.prog 78 1 (fun i => some (i * 2, 2)) [MV.int IntKind.i64 0, MV.int IntKind.i64 0] := ⟨fun ps => by kernel_rfl⟩
instance : BuildSC Try.prog 89 0 (fun i => some (i * 3, 3)) [] := ⟨fun ps => by kernel_rfl⟩
instance : BuildC Try.prog 103 (fun i => ([(0, 1), (1, 1), (2, 1)] : List (Nat × Nat))[i]?) [MV.nilsl, MV.nilmap, MV.int IntKind.i64 0] := ⟨fun ps => by kernel_rfl⟩
instance : BuildC Try.prog 105 (fun i => ([(0, 1), (1, 1), (2, 1)] : List (Nat × Nat))[i]?) [MV.int IntKind.i64 0, MV.int IntKind.i64 0, MV.int IntKind.i64 0] := ⟨fun ps => by kernel_rfl⟩
instance : BuildC Try.prog 53 (fun i => ([(0, 1), (1, 1)] : List (Nat × Nat))[i]?) [MV.int IntKind.i64 0, MV.nilsl] := ⟨fun ps => by kernel_rfl⟩
instance : BuildC Try.prog 57 (fun i => ([(0, 1), (1, 1), (2, 1), (3, 1)] : List (Nat × Nat))[i]?) [MV.int IntKind.i64 0, MV.int IntKind.i64 0, MV.int IntKind.i64 0, MV.bool false] := ⟨fun ps => by kernel_rfl⟩
instance : BuildC Try.prog 73 (fun i => ([(0, 1), (1, 1), (2, 1)] : List (Nat × Nat))[i]?) [MV.int IntKind.i64 0, MV.int IntKind.i64 0, MV.int IntKind.i64 0] := ⟨fun ps => by kernel_rfl⟩
instance : BuildC Try.prog 84 (fun i => some (i * 1, 1)) [MV.int IntKind.i64 0, MV.int IntKind.i64 0] := ⟨fun ps => by kernel_rfl⟩
instance : BuildC Try.prog 91 (fun i => ([(0, 1), (1, 1)] : List (Nat × Nat))[i]?) [MV.nilsl, MV.int IntKind.i64 0] := ⟨fun ps => by kernel_rfl⟩
instance : BuildC Try.prog 94 (fun i => ([(0, 1), (1, 1), (2, 1)] : List (Nat × Nat))[i]?) [MV.int IntKind.i64 0, MV.bool false, MV.int IntKind.i64 0] := ⟨fun ps => by kernel_rfl⟩
instance : ByC Try.prog 105 24 := ⟨by kernel_rfl⟩
instance : ByC Try.prog 3 8 := ⟨by kernel_rfl⟩
instance : ByC Try.prog 31 8 := ⟨by kernel_rfl⟩
instance : ByC Try.prog 57 32 := ⟨by kernel_rfl⟩
instance : ByC Try.prog 73 24 := ⟨by kernel_rfl⟩
instance : ByC Try.prog 84 16 := ⟨by kernel_rfl⟩
instance : ByC Try.prog 94 24 := ⟨by kernel_rfl⟩
instance : ElC Try.prog 101 (none) true 3 := ⟨by kernel_rfl⟩
instance : ElC Try.prog 22 (none) true 4 := ⟨by kernel_rfl⟩
instance : ElC Try.prog 28 (none) false 1 := ⟨by kernel_rfl⟩
instance : ElC Try.prog 46 (none) false 1 := ⟨by kernel_rfl⟩
instance : ElC Try.prog 51 (none) true 4 := ⟨by kernel_rfl⟩
instance : ElC Try.prog 67 (none) true 4 := ⟨by kernel_rfl⟩
instance : ElC Try.prog 68 (none) true 3 := ⟨by kernel_rfl⟩
instance : ElC Try.prog 78 (none) true 2 := ⟨by kernel_rfl⟩
instance : ElC Try.prog 84 (some 2) false 1 := ⟨by kernel_rfl⟩
instance : ElC Try.prog 89 (none) true 3 := ⟨by kernel_rfl⟩
instance : OffC Try.prog 103 0 0 false 1 := ⟨by kernel_rfl⟩
instance : OffC Try.prog 103 1 1 false 1 := ⟨by kernel_rfl⟩
instance : OffC Try.prog 103 2 2 false 1 := ⟨by kernel_rfl⟩
instance : OffC Try.prog 105 0 0 false 1 := ⟨by kernel_rfl⟩
instance : OffC Try.prog 105 1 1 false 1 := ⟨by kernel_rfl⟩
instance : OffC Try.prog 105 2 2 false 1 := ⟨by kernel_rfl⟩
instance : OffC Try.prog 30 0 0 false 1 := ⟨by kernel_rfl⟩
instance : OffC Try.prog 30 1 1 false 1 := ⟨by kernel_rfl⟩
instance : OffC Try.prog 30 2 2 false 1 := ⟨by kernel_rfl⟩
instance : OffC Try.prog 30 3 3 false 1 := ⟨by kernel_rfl⟩
instance : OffC Try.prog 53 0 0 false 1 := ⟨by kernel_rfl⟩
instance : OffC Try.prog 53 1 1 false 1 := ⟨by kernel_rfl⟩
instance : OffC Try.prog 57 0 0 false 1 := ⟨by kernel_rfl⟩
instance : OffC Try.prog 57 1 1 false 1 := ⟨by kernel_rfl⟩
instance : OffC Try.prog 57 2 2 false 1 := ⟨by kernel_rfl⟩
instance : OffC Try.prog 57 3 3 false 1 := ⟨by kernel_rfl⟩
instance : OffC Try.prog 70 0 0 false 1 := ⟨by kernel_rfl⟩
instance : OffC Try.prog 70 1 1 false 1 := ⟨by kernel_rfl⟩
instance : OffC Try.prog 70 2 2 false 1 := ⟨by kernel_rfl⟩
instance : OffC Try.prog 70 3 3 false 1 := ⟨by kernel_rfl⟩
instance : OffC Try.prog 73 0 0 false 1 := ⟨by kernel_rfl⟩
instance : OffC Try.prog 73 1 1 false 1 := ⟨by kernel_rfl⟩
instance : OffC Try.prog 73 2 2 false 1 := ⟨by kernel_rfl⟩
instance : OffC Try.prog 91 0 0 false 1 := ⟨by kernel_rfl⟩
instance : OffC Try.prog 91 1 1 false 1 := ⟨by kernel_rfl⟩
instance : OffC Try.prog 94 0 0 false 1 := ⟨by kernel_rfl⟩
instance : OffC Try.prog 94 1 1 false 1 := ⟨by kernel_rfl⟩
instance : OffC Try.prog 94 2 2 false 1 := ⟨by kernel_rfl⟩
instance : LayC Try.prog 100 false 1 := ⟨by kernel_rfl⟩
instance : LayC Try.prog 101 false 1 := ⟨by kernel_rfl⟩
instance : LayC Try.prog 105 true 3 := ⟨by kernel_rfl⟩
instance : LayC Try.prog 128 false 1 := ⟨by kernel_rfl⟩
instance : LayC Try.prog 24 false 1 := ⟨by kernel_rfl⟩
instance : LayC Try.prog 28 false 1 := ⟨by kernel_rfl⟩
instance : LayC Try.prog 3 false 1 := ⟨by kernel_rfl⟩
instance : LayC Try.prog 30 true 4 := ⟨by kernel_rfl⟩
instance : LayC Try.prog 31 false 1 := ⟨by kernel_rfl⟩
instance : LayC Try.prog 4 false 1 := ⟨by kernel_rfl⟩
instance : LayC Try.prog 46 false 1 := ⟨by kernel_rfl⟩
instance : LayC Try.prog 51 false 1 := ⟨by kernel_rfl⟩
instance : LayC Try.prog 54 false 1 := ⟨by kernel_rfl⟩
instance : LayC Try.prog 57 true 4 := ⟨by kernel_rfl⟩
instance : LayC Try.prog 62 false 1 := ⟨by kernel_rfl⟩
instance : LayC Try.prog 70 true 4 := ⟨by kernel_rfl⟩
instance : LayC Try.prog 73 true 3 := ⟨by kernel_rfl⟩
instance : LayC Try.prog 78 false 1 := ⟨by kernel_rfl⟩
instance : LayC Try.prog 84 true 2 := ⟨by kernel_rfl⟩
instance : LayC Try.prog 89 false 1 := ⟨by kernel_rfl⟩
instance : LayC Try.prog 94 true 3 := ⟨by kernel_rfl⟩
instance : SzC Try.prog 105 3 := ⟨by kernel_rfl⟩
instance : SzC Try.prog 3 1 := ⟨by kernel_rfl⟩
instance : SzC Try.prog 31 1 := ⟨by kernel_rfl⟩
instance : SzC Try.prog 57 4 := ⟨by kernel_rfl⟩
instance : SzC Try.prog 73 3 := ⟨by kernel_rfl⟩
instance : SzC Try.prog 84 2 := ⟨by kernel_rfl⟩
instance : SzC Try.prog 94 3 := ⟨by kernel_rfl⟩
instance : U8C Try.prog 105 false := ⟨by kernel_rfl⟩
instance : U8C Try.prog 3 false := ⟨by kernel_rfl⟩
instance : U8C Try.prog 31 false := ⟨by kernel_rfl⟩
instance : U8C Try.prog 57 false := ⟨by kernel_rfl⟩
instance : U8C Try.prog 73 false := ⟨by kernel_rfl⟩
instance : U8C Try.prog 84 false := ⟨by kernel_rfl⟩
instance : U8C Try.prog 94 false := ⟨by kernel_rfl⟩
instance : ZcC Try.prog 105 [MV.int IntKind.i64 0, MV.int IntKind.i64 0, MV.int IntKind.i64 0] := ⟨by kernel_rfl⟩
instance : ZcC Try.prog 128 [MV.int IntKind.u64 0] := ⟨by kernel_rfl⟩
instance : ZcC Try.prog 24 [MV.nilptr] := ⟨by kernel_rfl⟩
instance : ZcC Try.prog 28 [MV.nilsl] := ⟨by kernel_rfl⟩
instance : ZcC Try.prog 3 [MV.int IntKind.i64 0] := ⟨by kernel_rfl⟩
instance : ZcC Try.prog 30 [MV.int IntKind.i64 0, MV.int IntKind.i64 0, MV.int IntKind.i64 0, MV.int IntKind.i64 0] := ⟨by kernel_rfl⟩
instance : ZcC Try.prog 31 [MV.int IntKind.i64 0] := ⟨by kernel_rfl⟩
instance : ZcC Try.prog 4 [MV.bool false] := ⟨by kernel_rfl⟩
instance : ZcC Try.prog 46 [MV.nilsl] := ⟨by kernel_rfl⟩
instance : ZcC Try.prog 57 [MV.int IntKind.i64 0, MV.int IntKind.i64 0, MV.int IntKind.i64 0, MV.bool false] := ⟨by kernel_rfl⟩
instance : ZcC Try.prog 70 [MV.int IntKind.i64 0, MV.int IntKind.i64 0, MV.int IntKind.i64 0, MV.int IntKind.i64 0] := ⟨by kernel_rfl⟩
instance : ZcC Try.prog 73 [MV.int IntKind.i64 0, MV.int IntKind.i64 0, MV.int IntKind.i64 0] := ⟨by kernel_rfl⟩
instance : ZcC Try.prog 78 [MV.nilsl] := ⟨by kernel_rfl⟩
instance : ZcC Try.prog 84 [MV.int IntKind.i64 0, MV.int IntKind.i64 0] := ⟨by kernel_rfl⟩
instance : ZcC Try.prog 94 [MV.int IntKind.i64 0, MV.bool false, MV.int IntKind.i64 0] := ⟨by kernel_rfl⟩
instance : MixC Try.prog := ⟨by kernel_rfl⟩
instance : Und Try.prog 3 ((Go.TypeDesc.int Go.IntKind.i64)) := ⟨Try.underlying3⟩
instance : Und Try.prog 4 (Go.TypeDesc.bool) := ⟨Try.underlying4⟩
instance : Und Try.prog 5 ((Go.TypeDesc.int Go.IntKind.u8)) := ⟨Try.underlying5⟩
instance : Und Try.prog 9 (Go.TypeDesc.string) := ⟨Try.underlying9⟩
instance : Und Try.prog 22 ((Go.TypeDesc.slice 30)) := ⟨Try.underlying22⟩
instance : Und Try.prog 23 ((Go.TypeDesc.int Go.IntKind.u64)) := ⟨Try.underlying23⟩
instance : Und Try.prog 24 ((Go.TypeDesc.pointer 91)) := ⟨Try.underlying24⟩
instance : Und Try.prog 27 ((Go.TypeDesc.map 31 4)) := ⟨Try.underlying27⟩
instance : Und Try.prog 28 ((Go.TypeDesc.slice 31)) := ⟨Try.underlying28⟩
instance : Und Try.prog 31 ((Go.TypeDesc.int Go.IntKind.i64)) := ⟨Try.underlying31⟩
instance : Und Try.prog 32 ((Go.TypeDesc.int Go.IntKind.i64)) := ⟨Try.underlying32⟩
instance : Und Try.prog 46 ((Go.TypeDesc.slice 3)) := ⟨Try.underlying46⟩
instance : Und Try.prog 51 ((Go.TypeDesc.slice 57)) := ⟨Try.underlying51⟩
instance : Und Try.prog 54 ((Go.TypeDesc.func { toList := [3] } { toList := [3] } false)) := ⟨Try.underlying54⟩
instance : Und Try.prog 62 ((Go.TypeDesc.pointer 103)) := ⟨Try.underlying62⟩
instance : Und Try.prog 67 ((Go.TypeDesc.slice 70)) := ⟨Try.underlying67⟩
instance : Und Try.prog 68 ((Go.TypeDesc.slice 73)) := ⟨Try.underlying68⟩
instance : Und Try.prog 78 ((Go.TypeDesc.slice 84)) := ⟨Try.underlying78⟩
instance : Und Try.prog 81 ((Go.TypeDesc.func { toList := [108] } { toList := [] } false)) := ⟨Try.underlying81⟩
instance : Und Try.prog 84 ((Go.TypeDesc.array 2 3)) := ⟨Try.underlying84⟩
instance : Und Try.prog 89 ((Go.TypeDesc.slice 94)) := ⟨Try.underlying89⟩
instance : Und Try.prog 92 ((Go.TypeDesc.pointer 94)) := ⟨Try.underlying92⟩
instance : Und Try.prog 100 ((Go.TypeDesc.map 3 3)) := ⟨Try.underlying100⟩
instance : Und Try.prog 101 ((Go.TypeDesc.slice 105)) := ⟨Try.underlying101⟩
instance : Und Try.prog 118 ((Go.TypeDesc.int Go.IntKind.i64)) := ⟨Try.underlying118⟩
instance : Und Try.prog 125 ((Go.TypeDesc.int Go.IntKind.u32)) := ⟨Try.underlying125⟩
instance : Und Try.prog 127 ((Go.TypeDesc.int Go.IntKind.u64)) := ⟨Try.underlying127⟩
instance : Und Try.prog 128 ((Go.TypeDesc.int Go.IntKind.u64)) := ⟨Try.underlying128⟩
instance : FnC Try.prog 2 Try.f2 1 := ⟨⟨Try.func2, by kernel_rfl, by kernel_rfl, by kernel_rfl, by kernel_rfl⟩⟩
instance : ResC Try.f2 [] := ⟨by kernel_rfl⟩
instance : FnC Try.prog 3 Try.f3 116 := ⟨⟨Try.func3, by kernel_rfl, by kernel_rfl, by kernel_rfl, by kernel_rfl⟩⟩
instance : ResC Try.f3 [.tmp 4] := ⟨by kernel_rfl⟩
instance : FnC Try.prog 4 Try.f4 267 := ⟨⟨Try.func4, by kernel_rfl, by kernel_rfl, by kernel_rfl, by kernel_rfl⟩⟩
instance : ResC Try.f4 [.tmp 4] := ⟨by kernel_rfl⟩
instance : FnC Try.prog 5 Try.f5 121 := ⟨⟨Try.func5, by kernel_rfl, by kernel_rfl, by kernel_rfl, by kernel_rfl⟩⟩
instance : ResC Try.f5 [.tmp 6] := ⟨by kernel_rfl⟩
instance : FnC Try.prog 6 Try.f6 73 := ⟨⟨Try.func6, by kernel_rfl, by kernel_rfl, by kernel_rfl, by kernel_rfl⟩⟩
instance : ResC Try.f6 [.tmp 2] := ⟨by kernel_rfl⟩
instance : FnC Try.prog 7 Try.f7 315 := ⟨⟨Try.func7, by kernel_rfl, by kernel_rfl, by kernel_rfl, by kernel_rfl⟩⟩
instance : ResC Try.f7 [.tmp 2] := ⟨by kernel_rfl⟩
instance : FnC Try.prog 8 Try.f8 13 := ⟨⟨Try.func8, by kernel_rfl, by kernel_rfl, by kernel_rfl, by kernel_rfl⟩⟩
instance : ResC Try.f8 [.tmp 2] := ⟨by kernel_rfl⟩
instance : FnC Try.prog 9 Try.f9 50 := ⟨⟨Try.func9, by kernel_rfl, by kernel_rfl, by kernel_rfl, by kernel_rfl⟩⟩
instance : ResC Try.f9 [.tmp 0] := ⟨by kernel_rfl⟩
instance : FnC Try.prog 10 Try.f10 49 := ⟨⟨Try.func10, by kernel_rfl, by kernel_rfl, by kernel_rfl, by kernel_rfl⟩⟩
instance : ResC Try.f10 [.tmp 4, .tmp 5] := ⟨by kernel_rfl⟩
instance : FnC Try.prog 11 Try.f11 28 := ⟨⟨Try.func11, by kernel_rfl, by kernel_rfl, by kernel_rfl, by kernel_rfl⟩⟩
instance : ResC Try.f11 [.tmp 4, .tmp 5] := ⟨by kernel_rfl⟩
instance : FnC Try.prog 12 Try.f12 4 := ⟨⟨Try.func12, by kernel_rfl, by kernel_rfl, by kernel_rfl, by kernel_rfl⟩⟩
instance : ResC Try.f12 [.tmp 2] := ⟨by kernel_rfl⟩
instance : FnC Try.prog 13 Try.f13 25 := ⟨⟨Try.func13, by kernel_rfl, by kernel_rfl, by kernel_rfl, by kernel_rfl⟩⟩
instance : ResC Try.f13 [.tmp 4] := ⟨by kernel_rfl⟩
instance : FnC Try.prog 14 Try.f14 18 := ⟨⟨Try.func14, by kernel_rfl, by kernel_rfl, by kernel_rfl, by kernel_rfl⟩⟩
instance : ResC Try.f14 [.tmp 4, .tmp 5] := ⟨by kernel_rfl⟩
instance : FnC Try.prog 15 Try.f15 19 := ⟨⟨Try.func15, by kernel_rfl, by kernel_rfl, by kernel_rfl, by kernel_rfl⟩⟩
instance : ResC Try.f15 [.tmp 6] := ⟨by kernel_rfl⟩
instance : FnC Try.prog 16 Try.f16 9 := ⟨⟨Try.func16, by kernel_rfl, by kernel_rfl, by kernel_rfl, by kernel_rfl⟩⟩
instance : ResC Try.f16 [.tmp 2] := ⟨by kernel_rfl⟩
instance : FnC Try.prog 17 Try.f17 21 := ⟨⟨Try.func17, by kernel_rfl, by kernel_rfl, by kernel_rfl, by kernel_rfl⟩⟩
instance : ResC Try.f17 [.tmp 2, .tmp 3] := ⟨by kernel_rfl⟩
instance : FnC Try.prog 18 Try.f18 37 := ⟨⟨Try.func18, by kernel_rfl, by kernel_rfl, by kernel_rfl, by kernel_rfl⟩⟩
instance : ResC Try.f18 [.tmp 4] := ⟨by kernel_rfl⟩
instance : FnC Try.prog 19 Try.f19 32 := ⟨⟨Try.func19, by kernel_rfl, by kernel_rfl, by kernel_rfl, by kernel_rfl⟩⟩
instance : ResC Try.f19 [.tmp 4] := ⟨by kernel_rfl⟩
instance : FnC Try.prog 20 Try.f20 44 := ⟨⟨Try.func20, by kernel_rfl, by kernel_rfl, by kernel_rfl, by kernel_rfl⟩⟩
instance : ResC Try.f20 [.tmp 4, .tmp 5] := ⟨by kernel_rfl⟩
instance : FnC Try.prog 21 Try.f21 54 := ⟨⟨Try.func21, by kernel_rfl, by kernel_rfl, by kernel_rfl, by kernel_rfl⟩⟩
instance : ResC Try.f21 [.tmp 2, .tmp 3] := ⟨by kernel_rfl⟩
instance : FnC Try.prog 22 Try.f22 26 := ⟨⟨Try.func22, by kernel_rfl, by kernel_rfl, by kernel_rfl, by kernel_rfl⟩⟩
instance : ResC Try.f22 [.tmp 4] := ⟨by kernel_rfl⟩
instance : FnC Try.prog 23 Try.f23 50 := ⟨⟨Try.func23, by kernel_rfl, by kernel_rfl, by kernel_rfl, by kernel_rfl⟩⟩
instance : ResC Try.f23 [] := ⟨by kernel_rfl⟩
instance : FnC Try.prog 24 Try.f24 4 := ⟨⟨Try.func24, by kernel_rfl, by kernel_rfl, by kernel_rfl, by kernel_rfl⟩⟩
instance : ResC Try.f24 [.tmp 2] := ⟨by kernel_rfl⟩
instance : FnC Try.prog 25 Try.f25 61 := ⟨⟨Try.func25, by kernel_rfl, by kernel_rfl, by kernel_rfl, by kernel_rfl⟩⟩
instance : ResC Try.f25 [.tmp 0] := ⟨by kernel_rfl⟩
instance : FnC Try.prog 26 Try.f26 4 := ⟨⟨Try.func26, by kernel_rfl, by kernel_rfl, by kernel_rfl, by kernel_rfl⟩⟩
instance : ResC Try.f26 [.tmp 0] := ⟨by kernel_rfl⟩
instance : FnC Try.prog 27 Try.f27 71 := ⟨⟨Try.func27, by kernel_rfl, by kernel_rfl, by kernel_rfl, by kernel_rfl⟩⟩
instance : ResC Try.f27 [.tmp 6, .tmp 7] := ⟨by kernel_rfl⟩
instance : FnC Try.prog 28 Try.f28 28 := ⟨⟨Try.func28, by kernel_rfl, by kernel_rfl, by kernel_rfl, by kernel_rfl⟩⟩
instance : ResC Try.f28 [.tmp 4, .tmp 5] := ⟨by kernel_rfl⟩
instance : FnC Try.prog 29 Try.f29 10 := ⟨⟨Try.func29, by kernel_rfl, by kernel_rfl, by kernel_rfl, by kernel_rfl⟩⟩
instance : ResC Try.f29 [.tmp 2] := ⟨by kernel_rfl⟩
instance : FnC Try.prog 30 Try.f30 20 := ⟨⟨Try.func30, by kernel_rfl, by kernel_rfl, by kernel_rfl, by kernel_rfl⟩⟩
instance : ResC Try.f30 [.tmp 4] := ⟨by kernel_rfl⟩
instance : FnC Try.prog 31 Try.f31 40 := ⟨⟨Try.func31, by kernel_rfl, by kernel_rfl, by kernel_rfl, by kernel_rfl⟩⟩
instance : ResC Try.f31 [.tmp 6] := ⟨by kernel_rfl⟩
instance : FnC Try.prog 32 Try.f32 17 := ⟨⟨Try.func32, by kernel_rfl, by kernel_rfl, by kernel_rfl, by kernel_rfl⟩⟩
instance : ResC Try.f32 [.tmp 4] := ⟨by kernel_rfl⟩
instance : FnC Try.prog 33 Try.f33 41 := ⟨⟨Try.func33, by kernel_rfl, by kernel_rfl, by kernel_rfl, by kernel_rfl⟩⟩
instance : ResC Try.f33 [.tmp 4, .tmp 5, .tmp 6] := ⟨by kernel_rfl⟩
instance : FnC Try.prog 34 Try.f34 28 := ⟨⟨Try.func34, by kernel_rfl, by kernel_rfl, by kernel_rfl, by kernel_rfl⟩⟩
instance : ResC Try.f34 [.tmp 4] := ⟨by kernel_rfl⟩
instance : FnC Try.prog 35 Try.f35 6 := ⟨⟨Try.func35, by kernel_rfl, by kernel_rfl, by kernel_rfl, by kernel_rfl⟩⟩
instance : ResC Try.f35 [.tmp 4] := ⟨by kernel_rfl⟩
instance : FnC Try.prog 36 Try.f36 48 := ⟨⟨Try.func36, by kernel_rfl, by kernel_rfl, by kernel_rfl, by kernel_rfl⟩⟩
instance : ResC Try.f36 [.tmp 2] := ⟨by kernel_rfl⟩
instance : FnC Try.prog 37 Try.f37 4 := ⟨⟨Try.func37, by kernel_rfl, by kernel_rfl, by kernel_rfl, by kernel_rfl⟩⟩
instance : ResC Try.f37 [.tmp 2] := ⟨by kernel_rfl⟩
instance : FnC Try.prog 38 Try.f38 22 := ⟨⟨Try.func38, by kernel_rfl, by kernel_rfl, by kernel_rfl, by kernel_rfl⟩⟩
instance : ResC Try.f38 [.tmp 2] := ⟨by kernel_rfl⟩
instance : FnC Try.prog 39 Try.f39 21 := ⟨⟨Try.func39, by kernel_rfl, by kernel_rfl, by kernel_rfl, by kernel_rfl⟩⟩
instance : ResC Try.f39 [.tmp 2, .tmp 3] := ⟨by kernel_rfl⟩
instance : FnC Try.prog 40 Try.f40 12 := ⟨⟨Try.func40, by kernel_rfl, by kernel_rfl, by kernel_rfl, by kernel_rfl⟩⟩
instance : ResC Try.f40 [.tmp 4] := ⟨by kernel_rfl⟩
instance : FnC Try.prog 41 Try.f41 38 := ⟨⟨Try.func41, by kernel_rfl, by kernel_rfl, by kernel_rfl, by kernel_rfl⟩⟩
instance : ResC Try.f41 [] := ⟨by kernel_rfl⟩
instance : FnC Try.prog 42 Try.f42 50 := ⟨⟨Try.func42, by kernel_rfl, by kernel_rfl, by kernel_rfl, by kernel_rfl⟩⟩
instance : ResC Try.f42 [.tmp 4] := ⟨by kernel_rfl⟩
instance : FnC Try.prog 43 Try.f43 8 := ⟨⟨Try.func43, by kernel_rfl, by kernel_rfl, by kernel_rfl, by kernel_rfl⟩⟩
instance : ResC Try.f43 [.tmp 2] := ⟨by kernel_rfl⟩
instance : FnC Try.prog 44 Try.f44 34 := ⟨⟨Try.func44, by kernel_rfl, by kernel_rfl, by kernel_rfl, by kernel_rfl⟩⟩
instance : ResC Try.f44 [.tmp 4, .tmp 5] := ⟨by kernel_rfl⟩
instance : FnC Try.prog 45 Try.f45 9 := ⟨⟨Try.func45, by kernel_rfl, by kernel_rfl, by kernel_rfl, by kernel_rfl⟩⟩
instance : ResC Try.f45 [.tmp 2] := ⟨by kernel_rfl⟩
instance : FnC Try.prog 46 Try.f46 25 := ⟨⟨Try.func46, by kernel_rfl, by kernel_rfl, by kernel_rfl, by kernel_rfl⟩⟩
instance : ResC Try.f46 [.tmp 4] := ⟨by kernel_rfl⟩
instance : FnC Try.prog 47 Try.f47 50 := ⟨⟨Try.func47, by kernel_rfl, by kernel_rfl, by kernel_rfl, by kernel_rfl⟩⟩
instance : ResC Try.f47 [.cell 4 105] := ⟨by kernel_rfl⟩
instance : FnC Try.prog 48 Try.f48 41 := ⟨⟨Try.func48, by kernel_rfl, by kernel_rfl, by kernel_rfl, by kernel_rfl⟩⟩
instance : ResC Try.f48 [] := ⟨by kernel_rfl⟩
instance : FnC Try.prog 49 Try.f49 35 := ⟨⟨Try.func49, by kernel_rfl, by kernel_rfl, by kernel_rfl, by kernel_rfl⟩⟩
instance : ResC Try.f49 [] := ⟨by kernel_rfl⟩
instance : FnC Try.prog 50 Try.f50 29 := ⟨⟨Try.func50, by kernel_rfl, by kernel_rfl, by kernel_rfl, by kernel_rfl⟩⟩
instance : ResC Try.f50 [] := ⟨by kernel_rfl⟩
instance : FnC Try.prog 51 Try.f51 8 := ⟨⟨Try.func51, by kernel_rfl, by kernel_rfl, by kernel_rfl, by kernel_rfl⟩⟩
instance : ResC Try.f51 [.tmp 2] := ⟨by kernel_rfl⟩
instance : FnC Try.prog 52 Try.f52 14 := ⟨⟨Try.func52, by kernel_rfl, by kernel_rfl, by kernel_rfl, by kernel_rfl⟩⟩
instance : ResC Try.f52 [] := ⟨by kernel_rfl⟩
instance : FnC Try.prog 53 Try.f53 20 := ⟨⟨Try.func53, by kernel_rfl, by kernel_rfl, by kernel_rfl, by kernel_rfl⟩⟩
instance : ResC Try.f53 [.tmp 4] := ⟨by kernel_rfl⟩
instance : FnC Try.prog 54 Try.f54 52 := ⟨⟨Try.func54, by kernel_rfl, by kernel_rfl, by kernel_rfl, by kernel_rfl⟩⟩
instance : ResC Try.f54 [.tmp 6] := ⟨by kernel_rfl⟩
instance : FnC Try.prog 55 Try.f55 62 := ⟨⟨Try.func55, by kernel_rfl, by kernel_rfl, by kernel_rfl, by kernel_rfl⟩⟩
instance : ResC Try.f55 [] := ⟨by kernel_rfl⟩
instance : FnC Try.prog 56 Try.f56 33 := ⟨⟨Try.func56, by kernel_rfl, by kernel_rfl, by kernel_rfl, by kernel_rfl⟩⟩
instance : ResC Try.f56 [.tmp 6] := ⟨by kernel_rfl⟩
instance : FnC Try.prog 57 Try.f57 148 := ⟨⟨Try.func57, by kernel_rfl, by kernel_rfl, by kernel_rfl, by kernel_rfl⟩⟩
instance : ResC Try.f57 [] := ⟨by kernel_rfl⟩
instance : FnC Try.prog 58 Try.f58 8 := ⟨⟨Try.func58, by kernel_rfl, by kernel_rfl, by kernel_rfl, by kernel_rfl⟩⟩
instance : ResC Try.f58 [.tmp 2] := ⟨by kernel_rfl⟩
instance : FnC Try.prog 59 Try.f59 53 := ⟨⟨Try.func59, by kernel_rfl, by kernel_rfl, by kernel_rfl, by kernel_rfl⟩⟩
instance : ResC Try.f59 [] := ⟨by kernel_rfl⟩
instance : FnC Try.prog 60 Try.f60 60 := ⟨⟨Try.func60, by kernel_rfl, by kernel_rfl, by kernel_rfl, by kernel_rfl⟩⟩
instance : ResC Try.f60 [] := ⟨by kernel_rfl⟩
instance : FnC Try.prog 61 Try.f61 67 := ⟨⟨Try.func61, by kernel_rfl, by kernel_rfl, by kernel_rfl, by kernel_rfl⟩⟩
instance : ResC Try.f61 [] := ⟨by kernel_rfl⟩
instance : FnC Try.prog 62 Try.f62 63 := ⟨⟨Try.func62, by kernel_rfl, by kernel_rfl, by kernel_rfl, by kernel_rfl⟩⟩
instance : ResC Try.f62 [.tmp 8, .tmp 9] := ⟨by kernel_rfl⟩
instance : FnC Try.prog 63 Try.f63 34 := ⟨⟨Try.func63, by kernel_rfl, by kernel_rfl, by kernel_rfl, by kernel_rfl⟩⟩
instance : ResC Try.f63 [] := ⟨by kernel_rfl⟩
instance : FnC Try.prog 64 Try.f64 141 := ⟨⟨Try.func64, by kernel_rfl, by kernel_rfl, by kernel_rfl, by kernel_rfl⟩⟩
instance : ResC Try.f64 [.tmp 8] := ⟨by kernel_rfl⟩
instance : FnC Try.prog 65 Try.f65 90 := ⟨⟨Try.func65, by kernel_rfl, by kernel_rfl, by kernel_rfl, by kernel_rfl⟩⟩
instance : ResC Try.f65 [.tmp 10] := ⟨by kernel_rfl⟩
instance : FnC Try.prog 66 Try.f66 178 := ⟨⟨Try.func66, by kernel_rfl, by kernel_rfl, by kernel_rfl, by kernel_rfl⟩⟩
instance : ResC Try.f66 [.tmp 10, .tmp 11] := ⟨by kernel_rfl⟩
instance : FnC Try.prog 67 Try.f67 19 := ⟨⟨Try.func67, by kernel_rfl, by kernel_rfl, by kernel_rfl, by kernel_rfl⟩⟩
instance : ResC Try.f67 [.tmp 2] := ⟨by kernel_rfl⟩
instance : FnC Try.prog 68 Try.f68 25 := ⟨⟨Try.func68, by kernel_rfl, by kernel_rfl, by kernel_rfl, by kernel_rfl⟩⟩
instance : ResC Try.f68 [.tmp 2] := ⟨by kernel_rfl⟩
instance : FnC Try.prog 69 Try.f69 82 := ⟨⟨Try.func69, by kernel_rfl, by kernel_rfl, by kernel_rfl, by kernel_rfl⟩⟩
instance : ResC Try.f69 [] := ⟨by kernel_rfl⟩
instance : FnC Try.prog 70 Try.f70 7 := ⟨⟨Try.func70, by kernel_rfl, by kernel_rfl, by kernel_rfl, by kernel_rfl⟩⟩
instance : ResC Try.f70 [.tmp 2] := ⟨by kernel_rfl⟩
instance : FnC Try.prog 71 Try.f71 33 := ⟨⟨Try.func71, by kernel_rfl, by kernel_rfl, by kernel_rfl, by kernel_rfl⟩⟩
instance : ResC Try.f71 [.tmp 2] := ⟨by kernel_rfl⟩
instance : FnC Try.prog 72 Try.f72 18 := ⟨⟨Try.func72, by kernel_rfl, by kernel_rfl, by kernel_rfl, by kernel_rfl⟩⟩
instance : ResC Try.f72 [.tmp 8] := ⟨by kernel_rfl⟩
instance : FnC Try.prog 73 Try.f73 41 := ⟨⟨Try.func73, by kernel_rfl, by kernel_rfl, by kernel_rfl, by kernel_rfl⟩⟩
instance : ResC Try.f73 [.tmp 12] := ⟨by kernel_rfl⟩
instance : FnC Try.prog 74 Try.f74 32 := ⟨⟨Try.func74, by kernel_rfl, by kernel_rfl, by kernel_rfl, by kernel_rfl⟩⟩
instance : ResC Try.f74 [.tmp 10, .tmp 11] := ⟨by kernel_rfl⟩

end Go.Mir
