/- What the types of this seat are told as. Printed by tab.py (this session's own). -/
import Derived.Test.YtnbfoiidlbfbeaaProg
import Derived.Test.YtnbfoiidlbfbeaaAx14
import Derived.KernelRfl
set_option linter.unusedVariables false
namespace Go.Ax

def tab : TypeId → Option TD
  | 1 => some (.oth (.nilFunc))
  | 2 => some (.int .i64)
  | 3 => some (.int .i64)
  | 4 => some (.bool)
  | 5 => some (.int .u8)
  | 6 => some (.int .u8)
  | 7 => some (.st [(0, 2), (1, 3), (2, 4), (3, 6)] 4 [.int .i64 0, .int .i64 0, .bool false, .int .u8 0])
  | 8 => some (.st [(0, 2), (1, 3), (2, 4), (3, 6)] 4 [.int .i64 0, .int .i64 0, .bool false, .int .u8 0])
  | 9 => some (.str)
  | 10 => some (.str)
  | 11 => some (.str)
  | 12 => some (.int .u64)
  | 13 => some (.st [(0, 9), (1, 12)] 2 [.string ByteArray.empty, .int .u64 0])
  | 14 => some (.st [(0, 9), (1, 12)] 2 [.string ByteArray.empty, .int .u64 0])
  | 15 => some (.oth (.pointer none))
  | 16 => some (.oth (.pointer none))
  | 17 => some (.oth (.pointer none))
  | 18 => some (.st [(0, 17)] 1 [.pointer none])
  | 19 => some (.st [(0, 17)] 1 [.pointer none])
  | 20 => some (.oth (.nilIface))
  | 21 => some (.int .i32)
  | 22 => some (.sl 55 3 24 [.int .i64 0, .int .i64 0, .int .i64 0])
  | 23 => some (.st [(0, 3), (1, 22)] 2 [.int .i64 0, .slice none 0 0])
  | 24 => some (.st [(0, 3), (1, 22)] 2 [.int .i64 0, .slice none 0 0])
  | 25 => some (.oth (.nilFunc))
  | 26 => some (.sl 3 1 8 [.int .i64 0])
  | 28 => some (.oth (.nilFunc))
  | 29 => some (.sl 50 3 24 [.int .i64 0, .int .i64 0, .int .i64 0])
  | 30 => some (.st [(0, 3), (1, 29)] 2 [.int .i64 0, .slice none 0 0])
  | 31 => some (.st [(0, 3), (1, 29)] 2 [.int .i64 0, .slice none 0 0])
  | 32 => some (.oth (.nilFunc))
  | 33 => some (.oth (.nilFunc))
  | 34 => some (.oth (.nilFunc))
  | 35 => some (.oth (.nilFunc))
  | 36 => some (.oth (.nilFunc))
  | 37 => some (.oth (.nilFunc))
  | 38 => some (.oth (.nilFunc))
  | 39 => some (.oth (.nilFunc))
  | 40 => some (.sl 26 1 24 [.slice none 0 0])
  | 41 => some (.oth (.nilFunc))
  | 42 => some (.oth (.nilFunc))
  | 43 => some (.oth (.nilFunc))
  | 44 => some (.oth (.nilFunc))
  | 45 => some (.oth (.nilFunc))
  | 46 => some (.oth (.nilFunc))
  | 47 => some (.oth (.nilFunc))
  | 48 => some (.oth (.nilFunc))
  | 49 => some (.st [(0, 3), (1, 3), (2, 3)] 3 [.int .i64 0, .int .i64 0, .int .i64 0])
  | 50 => some (.st [(0, 3), (1, 3), (2, 3)] 3 [.int .i64 0, .int .i64 0, .int .i64 0])
  | 51 => some (.oth (.nilFunc))
  | 52 => some (.oth (.nilFunc))
  | 53 => some (.oth (.pointer none))
  | 54 => some (.oth (.nilFunc))
  | 55 => some (.st [(0, 3), (1, 3), (2, 3)] 3 [.int .i64 0, .int .i64 0, .int .i64 0])
  | 56 => some (.oth (.nilFunc))
  | 57 => some (.oth (.nilFunc))
  | 58 => some (.oth (.nilFunc))
  | 59 => some (.oth (.nilFunc))
  | 60 => some (.oth (.nilFunc))
  | 61 => some (.oth (.nilFunc))
  | 62 => some (.oth (.nilFunc))
  | 63 => some (.oth (.nilFunc))
  | 64 => some (.oth (.nilFunc))
  | 65 => some (.oth (.nilFunc))
  | 66 => some (.oth (.nilFunc))
  | 67 => some (.oth (.nilFunc))
  | 68 => some (.oth (.nilFunc))
  | 69 => some (.oth (.nilFunc))
  | 71 => some (.oth (.nilFunc))
  | 72 => some (.oth (.nilFunc))
  | 73 => some (.oth (.nilFunc))
  | 74 => some (.oth (.nilFunc))
  | 75 => some (.st [(0, 26), (1, 3)] 2 [.slice none 0 0, .int .i64 0])
  | 76 => some (.st [(0, 26), (1, 3)] 2 [.slice none 0 0, .int .i64 0])
  | 77 => some (.st [(0, 40), (1, 9), (2, 4)] 3 [.slice none 0 0, .string ByteArray.empty, .bool false])
  | 78 => some (.st [(0, 40), (1, 9), (2, 4)] 3 [.slice none 0 0, .string ByteArray.empty, .bool false])
  | 79 => some (.oth (.nilFunc))
  | 80 => some (.oth (.nilFunc))
  | 81 => some (.oth (.nilFunc))
  | 82 => some (.oth (.nilFunc))
  | 83 => some (.oth (.nilFunc))
  | 84 => some (.oth (.nilFunc))
  | 85 => some (.oth (.nilFunc))
  | 86 => some (.oth (.nilFunc))
  | 87 => some (.oth (.nilFunc))
  | 88 => some (.oth (.nilFunc))
  | 89 => some (.int .u64)
  | 90 => some (.oth (.nilFunc))
  | 91 => some (.oth (.nilFunc))
  | 92 => some (.int .i64)
  | 94 => some (.oth (.nilFunc))
  | 95 => some (.oth (.nilFunc))
  | 96 => some (.oth (.nilFunc))
  | 97 => some (.oth (.nilFunc))
  | 99 => some (.oth (.nilFunc))
  | 100 => some (.oth (.nilFunc))
  | 101 => some (.int .u32)
  | 102 => some (.oth (.nilFunc))
  | 103 => some (.int .u64)
  | 104 => some (.oth (.nilFunc))
  | 105 => some (.oth (.nilFunc))
  | 106 => some (.oth (.nilFunc))
  | 107 => some (.oth (.nilFunc))
  | 108 => some (.oth (.nilFunc))
  | 109 => some (.int .u64)
  | 110 => some (.oth (.nilFunc))
  | 111 => some (.oth (.nilFunc))
  | 112 => some (.oth (.nilFunc))
  | 113 => some (.oth (.pointer none))
  | 114 => some (.oth (.nilFunc))
  | 115 => some (.oth (.nilFunc))
  | 116 => some (.oth (.nilFunc))
  | 117 => some (.oth (.pointer none))
  | 119 => some (.oth (.nilFunc))
  | 120 => some (.oth (.nilFunc))
  | 121 => some (.oth (.nilFunc))
  | 122 => some (.st [(0, 17), (1, 17), (2, 17), (3, 9)] 4 [.pointer none, .pointer none, .pointer none, .string ByteArray.empty])
  | 123 => some (.st [(0, 17), (1, 17), (2, 17), (3, 9)] 4 [.pointer none, .pointer none, .pointer none, .string ByteArray.empty])
  | 124 => some (.ar 0 16 1 [])
  | 125 => some (.st [(0, 124)] 0 [])
  | 126 => some (.st [(0, 124)] 0 [])
  | 127 => some (.int .u8)
  | 128 => some (.int .u8)
  | 129 => some (.oth (.nilFunc))
  | 130 => some (.oth (.pointer none))
  | 131 => some (.int .i32)
  | 132 => some (.int .i32)
  | 133 => some (.st [(0, 12), (1, 12), (2, 101), (3, 127), (4, 5), (5, 5), (6, 128), (7, 129), (8, 130), (9, 131), (10, 132)] 11 [.int .u64 0, .int .u64 0, .int .u32 0, .int .u8 0, .int .u8 0, .int .u8 0, .int .u8 0, .nilFunc, .pointer none, .int .i32 0, .int .i32 0])
  | 134 => some (.st [(0, 12), (1, 12), (2, 101), (3, 127), (4, 5), (5, 5), (6, 128), (7, 129), (8, 130), (9, 131), (10, 132)] 11 [.int .u64 0, .int .u64 0, .int .u32 0, .int .u8 0, .int .u8 0, .int .u8 0, .int .u8 0, .nilFunc, .pointer none, .int .i32 0, .int .i32 0])
  | _ => none
theorem tdok1 : TDok Go.Proofs.Try.prog 1 (.oth (.nilFunc)) := ⟨⟨by kernel_rfl, infoIs (by kernel_rfl)⟩, rfl⟩
theorem tdok2 : TDok Go.Proofs.Try.prog 2 (.int .i64) := ⟨by kernel_rfl, infoIs (by kernel_rfl)⟩
theorem tdok3 : TDok Go.Proofs.Try.prog 3 (.int .i64) := ⟨by kernel_rfl, infoIs (by kernel_rfl)⟩
theorem tdok4 : TDok Go.Proofs.Try.prog 4 (.bool) := ⟨by kernel_rfl, infoIs (by kernel_rfl)⟩
theorem tdok5 : TDok Go.Proofs.Try.prog 5 (.int .u8) := ⟨by kernel_rfl, infoIs (by kernel_rfl)⟩
theorem tdok6 : TDok Go.Proofs.Try.prog 6 (.int .u8) := ⟨by kernel_rfl, infoIs (by kernel_rfl)⟩
theorem tdok7 : TDok Go.Proofs.Try.prog 7 (.st [(0, 2), (1, 3), (2, 4), (3, 6)] 4 [.int .i64 0, .int .i64 0, .bool false, .int .u8 0]) := ⟨⟨by kernel_rfl, infoIs (by kernel_rfl)⟩, rfl⟩
theorem tdok8 : TDok Go.Proofs.Try.prog 8 (.st [(0, 2), (1, 3), (2, 4), (3, 6)] 4 [.int .i64 0, .int .i64 0, .bool false, .int .u8 0]) := ⟨⟨by kernel_rfl, infoIs (by kernel_rfl)⟩, rfl⟩
theorem tdok9 : TDok Go.Proofs.Try.prog 9 (.str) := ⟨by kernel_rfl, infoIs (by kernel_rfl)⟩
theorem tdok10 : TDok Go.Proofs.Try.prog 10 (.str) := ⟨by kernel_rfl, infoIs (by kernel_rfl)⟩
theorem tdok11 : TDok Go.Proofs.Try.prog 11 (.str) := ⟨by kernel_rfl, infoIs (by kernel_rfl)⟩
theorem tdok12 : TDok Go.Proofs.Try.prog 12 (.int .u64) := ⟨by kernel_rfl, infoIs (by kernel_rfl)⟩
theorem tdok13 : TDok Go.Proofs.Try.prog 13 (.st [(0, 9), (1, 12)] 2 [.string ByteArray.empty, .int .u64 0]) := ⟨⟨by kernel_rfl, infoIs (by kernel_rfl)⟩, rfl⟩
theorem tdok14 : TDok Go.Proofs.Try.prog 14 (.st [(0, 9), (1, 12)] 2 [.string ByteArray.empty, .int .u64 0]) := ⟨⟨by kernel_rfl, infoIs (by kernel_rfl)⟩, rfl⟩
theorem tdok15 : TDok Go.Proofs.Try.prog 15 (.oth (.pointer none)) := ⟨⟨by kernel_rfl, infoIs (by kernel_rfl)⟩, rfl⟩
theorem tdok16 : TDok Go.Proofs.Try.prog 16 (.oth (.pointer none)) := ⟨⟨by kernel_rfl, infoIs (by kernel_rfl)⟩, rfl⟩
theorem tdok17 : TDok Go.Proofs.Try.prog 17 (.oth (.pointer none)) := ⟨⟨by kernel_rfl, infoIs (by kernel_rfl)⟩, rfl⟩
theorem tdok18 : TDok Go.Proofs.Try.prog 18 (.st [(0, 17)] 1 [.pointer none]) := ⟨⟨by kernel_rfl, infoIs (by kernel_rfl)⟩, rfl⟩
theorem tdok19 : TDok Go.Proofs.Try.prog 19 (.st [(0, 17)] 1 [.pointer none]) := ⟨⟨by kernel_rfl, infoIs (by kernel_rfl)⟩, rfl⟩
theorem tdok20 : TDok Go.Proofs.Try.prog 20 (.oth (.nilIface)) := ⟨⟨by kernel_rfl, infoIs (by kernel_rfl)⟩, rfl⟩
theorem tdok21 : TDok Go.Proofs.Try.prog 21 (.int .i32) := ⟨by kernel_rfl, infoIs (by kernel_rfl)⟩
theorem tdok22 : TDok Go.Proofs.Try.prog 22 (.sl 55 3 24 [.int .i64 0, .int .i64 0, .int .i64 0]) := ⟨⟨by kernel_rfl, infoIs (by kernel_rfl)⟩, by kernel_rfl, rfl, by decide, by decide, rfl⟩
theorem tdok23 : TDok Go.Proofs.Try.prog 23 (.st [(0, 3), (1, 22)] 2 [.int .i64 0, .slice none 0 0]) := ⟨⟨by kernel_rfl, infoIs (by kernel_rfl)⟩, rfl⟩
theorem tdok24 : TDok Go.Proofs.Try.prog 24 (.st [(0, 3), (1, 22)] 2 [.int .i64 0, .slice none 0 0]) := ⟨⟨by kernel_rfl, infoIs (by kernel_rfl)⟩, rfl⟩
theorem tdok25 : TDok Go.Proofs.Try.prog 25 (.oth (.nilFunc)) := ⟨⟨by kernel_rfl, infoIs (by kernel_rfl)⟩, rfl⟩
theorem tdok26 : TDok Go.Proofs.Try.prog 26 (.sl 3 1 8 [.int .i64 0]) := ⟨⟨by kernel_rfl, infoIs (by kernel_rfl)⟩, by kernel_rfl, rfl, by decide, by decide, rfl⟩
theorem tdok28 : TDok Go.Proofs.Try.prog 28 (.oth (.nilFunc)) := ⟨⟨by kernel_rfl, infoIs (by kernel_rfl)⟩, rfl⟩
theorem tdok29 : TDok Go.Proofs.Try.prog 29 (.sl 50 3 24 [.int .i64 0, .int .i64 0, .int .i64 0]) := ⟨⟨by kernel_rfl, infoIs (by kernel_rfl)⟩, by kernel_rfl, rfl, by decide, by decide, rfl⟩
theorem tdok30 : TDok Go.Proofs.Try.prog 30 (.st [(0, 3), (1, 29)] 2 [.int .i64 0, .slice none 0 0]) := ⟨⟨by kernel_rfl, infoIs (by kernel_rfl)⟩, rfl⟩
theorem tdok31 : TDok Go.Proofs.Try.prog 31 (.st [(0, 3), (1, 29)] 2 [.int .i64 0, .slice none 0 0]) := ⟨⟨by kernel_rfl, infoIs (by kernel_rfl)⟩, rfl⟩
theorem tdok32 : TDok Go.Proofs.Try.prog 32 (.oth (.nilFunc)) := ⟨⟨by kernel_rfl, infoIs (by kernel_rfl)⟩, rfl⟩
theorem tdok33 : TDok Go.Proofs.Try.prog 33 (.oth (.nilFunc)) := ⟨⟨by kernel_rfl, infoIs (by kernel_rfl)⟩, rfl⟩
theorem tdok34 : TDok Go.Proofs.Try.prog 34 (.oth (.nilFunc)) := ⟨⟨by kernel_rfl, infoIs (by kernel_rfl)⟩, rfl⟩
theorem tdok35 : TDok Go.Proofs.Try.prog 35 (.oth (.nilFunc)) := ⟨⟨by kernel_rfl, infoIs (by kernel_rfl)⟩, rfl⟩
theorem tdok36 : TDok Go.Proofs.Try.prog 36 (.oth (.nilFunc)) := ⟨⟨by kernel_rfl, infoIs (by kernel_rfl)⟩, rfl⟩
theorem tdok37 : TDok Go.Proofs.Try.prog 37 (.oth (.nilFunc)) := ⟨⟨by kernel_rfl, infoIs (by kernel_rfl)⟩, rfl⟩
theorem tdok38 : TDok Go.Proofs.Try.prog 38 (.oth (.nilFunc)) := ⟨⟨by kernel_rfl, infoIs (by kernel_rfl)⟩, rfl⟩
theorem tdok39 : TDok Go.Proofs.Try.prog 39 (.oth (.nilFunc)) := ⟨⟨by kernel_rfl, infoIs (by kernel_rfl)⟩, rfl⟩
theorem tdok40 : TDok Go.Proofs.Try.prog 40 (.sl 26 1 24 [.slice none 0 0]) := ⟨⟨by kernel_rfl, infoIs (by kernel_rfl)⟩, by kernel_rfl, rfl, by decide, by decide, rfl⟩
theorem tdok41 : TDok Go.Proofs.Try.prog 41 (.oth (.nilFunc)) := ⟨⟨by kernel_rfl, infoIs (by kernel_rfl)⟩, rfl⟩
theorem tdok42 : TDok Go.Proofs.Try.prog 42 (.oth (.nilFunc)) := ⟨⟨by kernel_rfl, infoIs (by kernel_rfl)⟩, rfl⟩
theorem tdok43 : TDok Go.Proofs.Try.prog 43 (.oth (.nilFunc)) := ⟨⟨by kernel_rfl, infoIs (by kernel_rfl)⟩, rfl⟩
theorem tdok44 : TDok Go.Proofs.Try.prog 44 (.oth (.nilFunc)) := ⟨⟨by kernel_rfl, infoIs (by kernel_rfl)⟩, rfl⟩
theorem tdok45 : TDok Go.Proofs.Try.prog 45 (.oth (.nilFunc)) := ⟨⟨by kernel_rfl, infoIs (by kernel_rfl)⟩, rfl⟩
theorem tdok46 : TDok Go.Proofs.Try.prog 46 (.oth (.nilFunc)) := ⟨⟨by kernel_rfl, infoIs (by kernel_rfl)⟩, rfl⟩
theorem tdok47 : TDok Go.Proofs.Try.prog 47 (.oth (.nilFunc)) := ⟨⟨by kernel_rfl, infoIs (by kernel_rfl)⟩, rfl⟩
theorem tdok48 : TDok Go.Proofs.Try.prog 48 (.oth (.nilFunc)) := ⟨⟨by kernel_rfl, infoIs (by kernel_rfl)⟩, rfl⟩
theorem tdok49 : TDok Go.Proofs.Try.prog 49 (.st [(0, 3), (1, 3), (2, 3)] 3 [.int .i64 0, .int .i64 0, .int .i64 0]) := ⟨⟨by kernel_rfl, infoIs (by kernel_rfl)⟩, rfl⟩
theorem tdok50 : TDok Go.Proofs.Try.prog 50 (.st [(0, 3), (1, 3), (2, 3)] 3 [.int .i64 0, .int .i64 0, .int .i64 0]) := ⟨⟨by kernel_rfl, infoIs (by kernel_rfl)⟩, rfl⟩
theorem tdok51 : TDok Go.Proofs.Try.prog 51 (.oth (.nilFunc)) := ⟨⟨by kernel_rfl, infoIs (by kernel_rfl)⟩, rfl⟩
theorem tdok52 : TDok Go.Proofs.Try.prog 52 (.oth (.nilFunc)) := ⟨⟨by kernel_rfl, infoIs (by kernel_rfl)⟩, rfl⟩
theorem tdok53 : TDok Go.Proofs.Try.prog 53 (.oth (.pointer none)) := ⟨⟨by kernel_rfl, infoIs (by kernel_rfl)⟩, rfl⟩
theorem tdok54 : TDok Go.Proofs.Try.prog 54 (.oth (.nilFunc)) := ⟨⟨by kernel_rfl, infoIs (by kernel_rfl)⟩, rfl⟩
theorem tdok55 : TDok Go.Proofs.Try.prog 55 (.st [(0, 3), (1, 3), (2, 3)] 3 [.int .i64 0, .int .i64 0, .int .i64 0]) := ⟨⟨by kernel_rfl, infoIs (by kernel_rfl)⟩, rfl⟩
theorem tdok56 : TDok Go.Proofs.Try.prog 56 (.oth (.nilFunc)) := ⟨⟨by kernel_rfl, infoIs (by kernel_rfl)⟩, rfl⟩
theorem tdok57 : TDok Go.Proofs.Try.prog 57 (.oth (.nilFunc)) := ⟨⟨by kernel_rfl, infoIs (by kernel_rfl)⟩, rfl⟩
theorem tdok58 : TDok Go.Proofs.Try.prog 58 (.oth (.nilFunc)) := ⟨⟨by kernel_rfl, infoIs (by kernel_rfl)⟩, rfl⟩
theorem tdok59 : TDok Go.Proofs.Try.prog 59 (.oth (.nilFunc)) := ⟨⟨by kernel_rfl, infoIs (by kernel_rfl)⟩, rfl⟩
theorem tdok60 : TDok Go.Proofs.Try.prog 60 (.oth (.nilFunc)) := ⟨⟨by kernel_rfl, infoIs (by kernel_rfl)⟩, rfl⟩
theorem tdok61 : TDok Go.Proofs.Try.prog 61 (.oth (.nilFunc)) := ⟨⟨by kernel_rfl, infoIs (by kernel_rfl)⟩, rfl⟩
theorem tdok62 : TDok Go.Proofs.Try.prog 62 (.oth (.nilFunc)) := ⟨⟨by kernel_rfl, infoIs (by kernel_rfl)⟩, rfl⟩
theorem tdok63 : TDok Go.Proofs.Try.prog 63 (.oth (.nilFunc)) := ⟨⟨by kernel_rfl, infoIs (by kernel_rfl)⟩, rfl⟩
theorem tdok64 : TDok Go.Proofs.Try.prog 64 (.oth (.nilFunc)) := ⟨⟨by kernel_rfl, infoIs (by kernel_rfl)⟩, rfl⟩
theorem tdok65 : TDok Go.Proofs.Try.prog 65 (.oth (.nilFunc)) := ⟨⟨by kernel_rfl, infoIs (by kernel_rfl)⟩, rfl⟩
theorem tdok66 : TDok Go.Proofs.Try.prog 66 (.oth (.nilFunc)) := ⟨⟨by kernel_rfl, infoIs (by kernel_rfl)⟩, rfl⟩
theorem tdok67 : TDok Go.Proofs.Try.prog 67 (.oth (.nilFunc)) := ⟨⟨by kernel_rfl, infoIs (by kernel_rfl)⟩, rfl⟩
theorem tdok68 : TDok Go.Proofs.Try.prog 68 (.oth (.nilFunc)) := ⟨⟨by kernel_rfl, infoIs (by kernel_rfl)⟩, rfl⟩
theorem tdok69 : TDok Go.Proofs.Try.prog 69 (.oth (.nilFunc)) := ⟨⟨by kernel_rfl, infoIs (by kernel_rfl)⟩, rfl⟩
theorem tdok71 : TDok Go.Proofs.Try.prog 71 (.oth (.nilFunc)) := ⟨⟨by kernel_rfl, infoIs (by kernel_rfl)⟩, rfl⟩
theorem tdok72 : TDok Go.Proofs.Try.prog 72 (.oth (.nilFunc)) := ⟨⟨by kernel_rfl, infoIs (by kernel_rfl)⟩, rfl⟩
theorem tdok73 : TDok Go.Proofs.Try.prog 73 (.oth (.nilFunc)) := ⟨⟨by kernel_rfl, infoIs (by kernel_rfl)⟩, rfl⟩
theorem tdok74 : TDok Go.Proofs.Try.prog 74 (.oth (.nilFunc)) := ⟨⟨by kernel_rfl, infoIs (by kernel_rfl)⟩, rfl⟩
theorem tdok75 : TDok Go.Proofs.Try.prog 75 (.st [(0, 26), (1, 3)] 2 [.slice none 0 0, .int .i64 0]) := ⟨⟨by kernel_rfl, infoIs (by kernel_rfl)⟩, rfl⟩
theorem tdok76 : TDok Go.Proofs.Try.prog 76 (.st [(0, 26), (1, 3)] 2 [.slice none 0 0, .int .i64 0]) := ⟨⟨by kernel_rfl, infoIs (by kernel_rfl)⟩, rfl⟩
theorem tdok77 : TDok Go.Proofs.Try.prog 77 (.st [(0, 40), (1, 9), (2, 4)] 3 [.slice none 0 0, .string ByteArray.empty, .bool false]) := ⟨⟨by kernel_rfl, infoIs (by kernel_rfl)⟩, rfl⟩
theorem tdok78 : TDok Go.Proofs.Try.prog 78 (.st [(0, 40), (1, 9), (2, 4)] 3 [.slice none 0 0, .string ByteArray.empty, .bool false]) := ⟨⟨by kernel_rfl, infoIs (by kernel_rfl)⟩, rfl⟩
theorem tdok79 : TDok Go.Proofs.Try.prog 79 (.oth (.nilFunc)) := ⟨⟨by kernel_rfl, infoIs (by kernel_rfl)⟩, rfl⟩
theorem tdok80 : TDok Go.Proofs.Try.prog 80 (.oth (.nilFunc)) := ⟨⟨by kernel_rfl, infoIs (by kernel_rfl)⟩, rfl⟩
theorem tdok81 : TDok Go.Proofs.Try.prog 81 (.oth (.nilFunc)) := ⟨⟨by kernel_rfl, infoIs (by kernel_rfl)⟩, rfl⟩
theorem tdok82 : TDok Go.Proofs.Try.prog 82 (.oth (.nilFunc)) := ⟨⟨by kernel_rfl, infoIs (by kernel_rfl)⟩, rfl⟩
theorem tdok83 : TDok Go.Proofs.Try.prog 83 (.oth (.nilFunc)) := ⟨⟨by kernel_rfl, infoIs (by kernel_rfl)⟩, rfl⟩
theorem tdok84 : TDok Go.Proofs.Try.prog 84 (.oth (.nilFunc)) := ⟨⟨by kernel_rfl, infoIs (by kernel_rfl)⟩, rfl⟩
theorem tdok85 : TDok Go.Proofs.Try.prog 85 (.oth (.nilFunc)) := ⟨⟨by kernel_rfl, infoIs (by kernel_rfl)⟩, rfl⟩
theorem tdok86 : TDok Go.Proofs.Try.prog 86 (.oth (.nilFunc)) := ⟨⟨by kernel_rfl, infoIs (by kernel_rfl)⟩, rfl⟩
theorem tdok87 : TDok Go.Proofs.Try.prog 87 (.oth (.nilFunc)) := ⟨⟨by kernel_rfl, infoIs (by kernel_rfl)⟩, rfl⟩
theorem tdok88 : TDok Go.Proofs.Try.prog 88 (.oth (.nilFunc)) := ⟨⟨by kernel_rfl, infoIs (by kernel_rfl)⟩, rfl⟩
theorem tdok89 : TDok Go.Proofs.Try.prog 89 (.int .u64) := ⟨by kernel_rfl, infoIs (by kernel_rfl)⟩
theorem tdok90 : TDok Go.Proofs.Try.prog 90 (.oth (.nilFunc)) := ⟨⟨by kernel_rfl, infoIs (by kernel_rfl)⟩, rfl⟩
theorem tdok91 : TDok Go.Proofs.Try.prog 91 (.oth (.nilFunc)) := ⟨⟨by kernel_rfl, infoIs (by kernel_rfl)⟩, rfl⟩
theorem tdok92 : TDok Go.Proofs.Try.prog 92 (.int .i64) := ⟨by kernel_rfl, infoIs (by kernel_rfl)⟩
theorem tdok94 : TDok Go.Proofs.Try.prog 94 (.oth (.nilFunc)) := ⟨⟨by kernel_rfl, infoIs (by kernel_rfl)⟩, rfl⟩
theorem tdok95 : TDok Go.Proofs.Try.prog 95 (.oth (.nilFunc)) := ⟨⟨by kernel_rfl, infoIs (by kernel_rfl)⟩, rfl⟩
theorem tdok96 : TDok Go.Proofs.Try.prog 96 (.oth (.nilFunc)) := ⟨⟨by kernel_rfl, infoIs (by kernel_rfl)⟩, rfl⟩
theorem tdok97 : TDok Go.Proofs.Try.prog 97 (.oth (.nilFunc)) := ⟨⟨by kernel_rfl, infoIs (by kernel_rfl)⟩, rfl⟩
theorem tdok99 : TDok Go.Proofs.Try.prog 99 (.oth (.nilFunc)) := ⟨⟨by kernel_rfl, infoIs (by kernel_rfl)⟩, rfl⟩
theorem tdok100 : TDok Go.Proofs.Try.prog 100 (.oth (.nilFunc)) := ⟨⟨by kernel_rfl, infoIs (by kernel_rfl)⟩, rfl⟩
theorem tdok101 : TDok Go.Proofs.Try.prog 101 (.int .u32) := ⟨by kernel_rfl, infoIs (by kernel_rfl)⟩
theorem tdok102 : TDok Go.Proofs.Try.prog 102 (.oth (.nilFunc)) := ⟨⟨by kernel_rfl, infoIs (by kernel_rfl)⟩, rfl⟩
theorem tdok103 : TDok Go.Proofs.Try.prog 103 (.int .u64) := ⟨by kernel_rfl, infoIs (by kernel_rfl)⟩
theorem tdok104 : TDok Go.Proofs.Try.prog 104 (.oth (.nilFunc)) := ⟨⟨by kernel_rfl, infoIs (by kernel_rfl)⟩, rfl⟩
theorem tdok105 : TDok Go.Proofs.Try.prog 105 (.oth (.nilFunc)) := ⟨⟨by kernel_rfl, infoIs (by kernel_rfl)⟩, rfl⟩
theorem tdok106 : TDok Go.Proofs.Try.prog 106 (.oth (.nilFunc)) := ⟨⟨by kernel_rfl, infoIs (by kernel_rfl)⟩, rfl⟩
theorem tdok107 : TDok Go.Proofs.Try.prog 107 (.oth (.nilFunc)) := ⟨⟨by kernel_rfl, infoIs (by kernel_rfl)⟩, rfl⟩
theorem tdok108 : TDok Go.Proofs.Try.prog 108 (.oth (.nilFunc)) := ⟨⟨by kernel_rfl, infoIs (by kernel_rfl)⟩, rfl⟩
theorem tdok109 : TDok Go.Proofs.Try.prog 109 (.int .u64) := ⟨by kernel_rfl, infoIs (by kernel_rfl)⟩
theorem tdok110 : TDok Go.Proofs.Try.prog 110 (.oth (.nilFunc)) := ⟨⟨by kernel_rfl, infoIs (by kernel_rfl)⟩, rfl⟩
theorem tdok111 : TDok Go.Proofs.Try.prog 111 (.oth (.nilFunc)) := ⟨⟨by kernel_rfl, infoIs (by kernel_rfl)⟩, rfl⟩
theorem tdok112 : TDok Go.Proofs.Try.prog 112 (.oth (.nilFunc)) := ⟨⟨by kernel_rfl, infoIs (by kernel_rfl)⟩, rfl⟩
theorem tdok113 : TDok Go.Proofs.Try.prog 113 (.oth (.pointer none)) := ⟨⟨by kernel_rfl, infoIs (by kernel_rfl)⟩, rfl⟩
theorem tdok114 : TDok Go.Proofs.Try.prog 114 (.oth (.nilFunc)) := ⟨⟨by kernel_rfl, infoIs (by kernel_rfl)⟩, rfl⟩
theorem tdok115 : TDok Go.Proofs.Try.prog 115 (.oth (.nilFunc)) := ⟨⟨by kernel_rfl, infoIs (by kernel_rfl)⟩, rfl⟩
theorem tdok116 : TDok Go.Proofs.Try.prog 116 (.oth (.nilFunc)) := ⟨⟨by kernel_rfl, infoIs (by kernel_rfl)⟩, rfl⟩
theorem tdok117 : TDok Go.Proofs.Try.prog 117 (.oth (.pointer none)) := ⟨⟨by kernel_rfl, infoIs (by kernel_rfl)⟩, rfl⟩
theorem tdok119 : TDok Go.Proofs.Try.prog 119 (.oth (.nilFunc)) := ⟨⟨by kernel_rfl, infoIs (by kernel_rfl)⟩, rfl⟩
theorem tdok120 : TDok Go.Proofs.Try.prog 120 (.oth (.nilFunc)) := ⟨⟨by kernel_rfl, infoIs (by kernel_rfl)⟩, rfl⟩
theorem tdok121 : TDok Go.Proofs.Try.prog 121 (.oth (.nilFunc)) := ⟨⟨by kernel_rfl, infoIs (by kernel_rfl)⟩, rfl⟩
theorem tdok122 : TDok Go.Proofs.Try.prog 122 (.st [(0, 17), (1, 17), (2, 17), (3, 9)] 4 [.pointer none, .pointer none, .pointer none, .string ByteArray.empty]) := ⟨⟨by kernel_rfl, infoIs (by kernel_rfl)⟩, rfl⟩
theorem tdok123 : TDok Go.Proofs.Try.prog 123 (.st [(0, 17), (1, 17), (2, 17), (3, 9)] 4 [.pointer none, .pointer none, .pointer none, .string ByteArray.empty]) := ⟨⟨by kernel_rfl, infoIs (by kernel_rfl)⟩, rfl⟩
theorem tdok124 : TDok Go.Proofs.Try.prog 124 (.ar 0 16 1 []) := ⟨⟨by kernel_rfl, infoIs (by kernel_rfl)⟩, by kernel_rfl, rfl⟩
theorem tdok125 : TDok Go.Proofs.Try.prog 125 (.st [(0, 124)] 0 []) := ⟨⟨by kernel_rfl, infoIs (by kernel_rfl)⟩, rfl⟩
theorem tdok126 : TDok Go.Proofs.Try.prog 126 (.st [(0, 124)] 0 []) := ⟨⟨by kernel_rfl, infoIs (by kernel_rfl)⟩, rfl⟩
theorem tdok127 : TDok Go.Proofs.Try.prog 127 (.int .u8) := ⟨by kernel_rfl, infoIs (by kernel_rfl)⟩
theorem tdok128 : TDok Go.Proofs.Try.prog 128 (.int .u8) := ⟨by kernel_rfl, infoIs (by kernel_rfl)⟩
theorem tdok129 : TDok Go.Proofs.Try.prog 129 (.oth (.nilFunc)) := ⟨⟨by kernel_rfl, infoIs (by kernel_rfl)⟩, rfl⟩
theorem tdok130 : TDok Go.Proofs.Try.prog 130 (.oth (.pointer none)) := ⟨⟨by kernel_rfl, infoIs (by kernel_rfl)⟩, rfl⟩
theorem tdok131 : TDok Go.Proofs.Try.prog 131 (.int .i32) := ⟨by kernel_rfl, infoIs (by kernel_rfl)⟩
theorem tdok132 : TDok Go.Proofs.Try.prog 132 (.int .i32) := ⟨by kernel_rfl, infoIs (by kernel_rfl)⟩
theorem tdok133 : TDok Go.Proofs.Try.prog 133 (.st [(0, 12), (1, 12), (2, 101), (3, 127), (4, 5), (5, 5), (6, 128), (7, 129), (8, 130), (9, 131), (10, 132)] 11 [.int .u64 0, .int .u64 0, .int .u32 0, .int .u8 0, .int .u8 0, .int .u8 0, .int .u8 0, .nilFunc, .pointer none, .int .i32 0, .int .i32 0]) := ⟨⟨by kernel_rfl, infoIs (by kernel_rfl)⟩, rfl⟩
theorem tdok134 : TDok Go.Proofs.Try.prog 134 (.st [(0, 12), (1, 12), (2, 101), (3, 127), (4, 5), (5, 5), (6, 128), (7, 129), (8, 130), (9, 131), (10, 132)] 11 [.int .u64 0, .int .u64 0, .int .u32 0, .int .u8 0, .int .u8 0, .int .u8 0, .int .u8 0, .nilFunc, .pointer none, .int .i32 0, .int .i32 0]) := ⟨⟨by kernel_rfl, infoIs (by kernel_rfl)⟩, rfl⟩
theorem tab_ok (t : TypeId) (d : TD) (h : tab t = some d) : TDok Go.Proofs.Try.prog t d := by
  unfold tab at h
  split at h
  · injection h with h; subst h; exact tdok1
  · injection h with h; subst h; exact tdok2
  · injection h with h; subst h; exact tdok3
  · injection h with h; subst h; exact tdok4
  · injection h with h; subst h; exact tdok5
  · injection h with h; subst h; exact tdok6
  · injection h with h; subst h; exact tdok7
  · injection h with h; subst h; exact tdok8
  · injection h with h; subst h; exact tdok9
  · injection h with h; subst h; exact tdok10
  · injection h with h; subst h; exact tdok11
  · injection h with h; subst h; exact tdok12
  · injection h with h; subst h; exact tdok13
  · injection h with h; subst h; exact tdok14
  · injection h with h; subst h; exact tdok15
  · injection h with h; subst h; exact tdok16
  · injection h with h; subst h; exact tdok17
  · injection h with h; subst h; exact tdok18
  · injection h with h; subst h; exact tdok19
  · injection h with h; subst h; exact tdok20
  · injection h with h; subst h; exact tdok21
  · injection h with h; subst h; exact tdok22
  · injection h with h; subst h; exact tdok23
  · injection h with h; subst h; exact tdok24
  · injection h with h; subst h; exact tdok25
  · injection h with h; subst h; exact tdok26
  · injection h with h; subst h; exact tdok28
  · injection h with h; subst h; exact tdok29
  · injection h with h; subst h; exact tdok30
  · injection h with h; subst h; exact tdok31
  · injection h with h; subst h; exact tdok32
  · injection h with h; subst h; exact tdok33
  · injection h with h; subst h; exact tdok34
  · injection h with h; subst h; exact tdok35
  · injection h with h; subst h; exact tdok36
  · injection h with h; subst h; exact tdok37
  · injection h with h; subst h; exact tdok38
  · injection h with h; subst h; exact tdok39
  · injection h with h; subst h; exact tdok40
  · injection h with h; subst h; exact tdok41
  · injection h with h; subst h; exact tdok42
  · injection h with h; subst h; exact tdok43
  · injection h with h; subst h; exact tdok44
  · injection h with h; subst h; exact tdok45
  · injection h with h; subst h; exact tdok46
  · injection h with h; subst h; exact tdok47
  · injection h with h; subst h; exact tdok48
  · injection h with h; subst h; exact tdok49
  · injection h with h; subst h; exact tdok50
  · injection h with h; subst h; exact tdok51
  · injection h with h; subst h; exact tdok52
  · injection h with h; subst h; exact tdok53
  · injection h with h; subst h; exact tdok54
  · injection h with h; subst h; exact tdok55
  · injection h with h; subst h; exact tdok56
  · injection h with h; subst h; exact tdok57
  · injection h with h; subst h; exact tdok58
  · injection h with h; subst h; exact tdok59
  · injection h with h; subst h; exact tdok60
  · injection h with h; subst h; exact tdok61
  · injection h with h; subst h; exact tdok62
  · injection h with h; subst h; exact tdok63
  · injection h with h; subst h; exact tdok64
  · injection h with h; subst h; exact tdok65
  · injection h with h; subst h; exact tdok66
  · injection h with h; subst h; exact tdok67
  · injection h with h; subst h; exact tdok68
  · injection h with h; subst h; exact tdok69
  · injection h with h; subst h; exact tdok71
  · injection h with h; subst h; exact tdok72
  · injection h with h; subst h; exact tdok73
  · injection h with h; subst h; exact tdok74
  · injection h with h; subst h; exact tdok75
  · injection h with h; subst h; exact tdok76
  · injection h with h; subst h; exact tdok77
  · injection h with h; subst h; exact tdok78
  · injection h with h; subst h; exact tdok79
  · injection h with h; subst h; exact tdok80
  · injection h with h; subst h; exact tdok81
  · injection h with h; subst h; exact tdok82
  · injection h with h; subst h; exact tdok83
  · injection h with h; subst h; exact tdok84
  · injection h with h; subst h; exact tdok85
  · injection h with h; subst h; exact tdok86
  · injection h with h; subst h; exact tdok87
  · injection h with h; subst h; exact tdok88
  · injection h with h; subst h; exact tdok89
  · injection h with h; subst h; exact tdok90
  · injection h with h; subst h; exact tdok91
  · injection h with h; subst h; exact tdok92
  · injection h with h; subst h; exact tdok94
  · injection h with h; subst h; exact tdok95
  · injection h with h; subst h; exact tdok96
  · injection h with h; subst h; exact tdok97
  · injection h with h; subst h; exact tdok99
  · injection h with h; subst h; exact tdok100
  · injection h with h; subst h; exact tdok101
  · injection h with h; subst h; exact tdok102
  · injection h with h; subst h; exact tdok103
  · injection h with h; subst h; exact tdok104
  · injection h with h; subst h; exact tdok105
  · injection h with h; subst h; exact tdok106
  · injection h with h; subst h; exact tdok107
  · injection h with h; subst h; exact tdok108
  · injection h with h; subst h; exact tdok109
  · injection h with h; subst h; exact tdok110
  · injection h with h; subst h; exact tdok111
  · injection h with h; subst h; exact tdok112
  · injection h with h; subst h; exact tdok113
  · injection h with h; subst h; exact tdok114
  · injection h with h; subst h; exact tdok115
  · injection h with h; subst h; exact tdok116
  · injection h with h; subst h; exact tdok117
  · injection h with h; subst h; exact tdok119
  · injection h with h; subst h; exact tdok120
  · injection h with h; subst h; exact tdok121
  · injection h with h; subst h; exact tdok122
  · injection h with h; subst h; exact tdok123
  · injection h with h; subst h; exact tdok124
  · injection h with h; subst h; exact tdok125
  · injection h with h; subst h; exact tdok126
  · injection h with h; subst h; exact tdok127
  · injection h with h; subst h; exact tdok128
  · injection h with h; subst h; exact tdok129
  · injection h with h; subst h; exact tdok130
  · injection h with h; subst h; exact tdok131
  · injection h with h; subst h; exact tdok132
  · injection h with h; subst h; exact tdok133
  · injection h with h; subst h; exact tdok134
  · cases h
def eqs : TypeId → Option Nat
  | 49 => some 3
  | 50 => some 3
  | 55 => some 3
  | _ => none
theorem eqst49 : EqSt Go.Proofs.Try.prog 49 3 := ⟨by kernel_rfl, by kernel_rfl, by kernel_rfl, by kernel_rfl⟩
theorem eqst50 : EqSt Go.Proofs.Try.prog 50 3 := ⟨by kernel_rfl, by kernel_rfl, by kernel_rfl, by kernel_rfl⟩
theorem eqst55 : EqSt Go.Proofs.Try.prog 55 3 := ⟨by kernel_rfl, by kernel_rfl, by kernel_rfl, by kernel_rfl⟩
theorem eqs_ok (t n : Nat) (h : eqs t = some n) : EqSt Go.Proofs.Try.prog t n := by
  unfold eqs at h
  split at h
  · injection h with h; subst h; exact eqst49
  · injection h with h; subst h; exact eqst50
  · injection h with h; subst h; exact eqst55
  · cases h
noncomputable def E : Env := { P := Go.Proofs.Try.prog, tab := tab, eqs := eqs, eqok := eqs_ok, G := fun _ => none, ok := tab_ok, cl := fun _ _ h => by cases h }
theorem Eprog : E.P = Go.Proofs.Try.prog := rfl
theorem EG (g : Nat) : E.G g = none := rfl
theorem Emix : E.P.follows .mixedOrders = true := by kernel_rfl
theorem tabs : E.tab 1 = some (.oth (.nilFunc)) ∧ E.tab 2 = some (.int .i64) ∧ E.tab 3 = some (.int .i64) ∧ E.tab 4 = some (.bool) ∧ E.tab 5 = some (.int .u8) ∧ E.tab 6 = some (.int .u8) ∧ E.tab 7 = some (.st [(0, 2), (1, 3), (2, 4), (3, 6)] 4 [.int .i64 0, .int .i64 0, .bool false, .int .u8 0]) ∧ E.tab 8 = some (.st [(0, 2), (1, 3), (2, 4), (3, 6)] 4 [.int .i64 0, .int .i64 0, .bool false, .int .u8 0]) ∧ E.tab 9 = some (.str) ∧ E.tab 10 = some (.str) ∧ E.tab 11 = some (.str) ∧ E.tab 12 = some (.int .u64) ∧ E.tab 13 = some (.st [(0, 9), (1, 12)] 2 [.string ByteArray.empty, .int .u64 0]) ∧ E.tab 14 = some (.st [(0, 9), (1, 12)] 2 [.string ByteArray.empty, .int .u64 0]) ∧ E.tab 15 = some (.oth (.pointer none)) ∧ E.tab 16 = some (.oth (.pointer none)) ∧ E.tab 17 = some (.oth (.pointer none)) ∧ E.tab 18 = some (.st [(0, 17)] 1 [.pointer none]) ∧ E.tab 19 = some (.st [(0, 17)] 1 [.pointer none]) ∧ E.tab 20 = some (.oth (.nilIface)) ∧ E.tab 21 = some (.int .i32) ∧ E.tab 22 = some (.sl 55 3 24 [.int .i64 0, .int .i64 0, .int .i64 0]) ∧ E.tab 23 = some (.st [(0, 3), (1, 22)] 2 [.int .i64 0, .slice none 0 0]) ∧ E.tab 24 = some (.st [(0, 3), (1, 22)] 2 [.int .i64 0, .slice none 0 0]) ∧ E.tab 25 = some (.oth (.nilFunc)) ∧ E.tab 26 = some (.sl 3 1 8 [.int .i64 0]) ∧ E.tab 28 = some (.oth (.nilFunc)) ∧ E.tab 29 = some (.sl 50 3 24 [.int .i64 0, .int .i64 0, .int .i64 0]) ∧ E.tab 30 = some (.st [(0, 3), (1, 29)] 2 [.int .i64 0, .slice none 0 0]) ∧ E.tab 31 = some (.st [(0, 3), (1, 29)] 2 [.int .i64 0, .slice none 0 0]) ∧ E.tab 32 = some (.oth (.nilFunc)) ∧ E.tab 33 = some (.oth (.nilFunc)) ∧ E.tab 34 = some (.oth (.nilFunc)) ∧ E.tab 35 = some (.oth (.nilFunc)) ∧ E.tab 36 = some (.oth (.nilFunc)) ∧ E.tab 37 = some (.oth (.nilFunc)) ∧ E.tab 38 = some (.oth (.nilFunc)) ∧ E.tab 39 = some (.oth (.nilFunc)) ∧ E.tab 40 = some (.sl 26 1 24 [.slice none 0 0]) ∧ E.tab 41 = some (.oth (.nilFunc)) ∧ E.tab 42 = some (.oth (.nilFunc)) ∧ E.tab 43 = some (.oth (.nilFunc)) ∧ E.tab 44 = some (.oth (.nilFunc)) ∧ E.tab 45 = some (.oth (.nilFunc)) ∧ E.tab 46 = some (.oth (.nilFunc)) ∧ E.tab 47 = some (.oth (.nilFunc)) ∧ E.tab 48 = some (.oth (.nilFunc)) ∧ E.tab 49 = some (.st [(0, 3), (1, 3), (2, 3)] 3 [.int .i64 0, .int .i64 0, .int .i64 0]) ∧ E.tab 50 = some (.st [(0, 3), (1, 3), (2, 3)] 3 [.int .i64 0, .int .i64 0, .int .i64 0]) ∧ E.tab 51 = some (.oth (.nilFunc)) ∧ E.tab 52 = some (.oth (.nilFunc)) ∧ E.tab 53 = some (.oth (.pointer none)) ∧ E.tab 54 = some (.oth (.nilFunc)) ∧ E.tab 55 = some (.st [(0, 3), (1, 3), (2, 3)] 3 [.int .i64 0, .int .i64 0, .int .i64 0]) ∧ E.tab 56 = some (.oth (.nilFunc)) ∧ E.tab 57 = some (.oth (.nilFunc)) ∧ E.tab 58 = some (.oth (.nilFunc)) ∧ E.tab 59 = some (.oth (.nilFunc)) ∧ E.tab 60 = some (.oth (.nilFunc)) ∧ E.tab 61 = some (.oth (.nilFunc)) ∧ E.tab 62 = some (.oth (.nilFunc)) ∧ E.tab 63 = some (.oth (.nilFunc)) ∧ E.tab 64 = some (.oth (.nilFunc)) ∧ E.tab 65 = some (.oth (.nilFunc)) ∧ E.tab 66 = some (.oth (.nilFunc)) ∧ E.tab 67 = some (.oth (.nilFunc)) ∧ E.tab 68 = some (.oth (.nilFunc)) ∧ E.tab 69 = some (.oth (.nilFunc)) ∧ E.tab 71 = some (.oth (.nilFunc)) ∧ E.tab 72 = some (.oth (.nilFunc)) ∧ E.tab 73 = some (.oth (.nilFunc)) ∧ E.tab 74 = some (.oth (.nilFunc)) ∧ E.tab 75 = some (.st [(0, 26), (1, 3)] 2 [.slice none 0 0, .int .i64 0]) ∧ E.tab 76 = some (.st [(0, 26), (1, 3)] 2 [.slice none 0 0, .int .i64 0]) ∧ E.tab 77 = some (.st [(0, 40), (1, 9), (2, 4)] 3 [.slice none 0 0, .string ByteArray.empty, .bool false]) ∧ E.tab 78 = some (.st [(0, 40), (1, 9), (2, 4)] 3 [.slice none 0 0, .string ByteArray.empty, .bool false]) ∧ E.tab 79 = some (.oth (.nilFunc)) ∧ E.tab 80 = some (.oth (.nilFunc)) ∧ E.tab 81 = some (.oth (.nilFunc)) ∧ E.tab 82 = some (.oth (.nilFunc)) ∧ E.tab 83 = some (.oth (.nilFunc)) ∧ E.tab 84 = some (.oth (.nilFunc)) ∧ E.tab 85 = some (.oth (.nilFunc)) ∧ E.tab 86 = some (.oth (.nilFunc)) ∧ E.tab 87 = some (.oth (.nilFunc)) ∧ E.tab 88 = some (.oth (.nilFunc)) ∧ E.tab 89 = some (.int .u64) ∧ E.tab 90 = some (.oth (.nilFunc)) ∧ E.tab 91 = some (.oth (.nilFunc)) ∧ E.tab 92 = some (.int .i64) ∧ E.tab 94 = some (.oth (.nilFunc)) ∧ E.tab 95 = some (.oth (.nilFunc)) ∧ E.tab 96 = some (.oth (.nilFunc)) ∧ E.tab 97 = some (.oth (.nilFunc)) ∧ E.tab 99 = some (.oth (.nilFunc)) ∧ E.tab 100 = some (.oth (.nilFunc)) ∧ E.tab 101 = some (.int .u32) ∧ E.tab 102 = some (.oth (.nilFunc)) ∧ E.tab 103 = some (.int .u64) ∧ E.tab 104 = some (.oth (.nilFunc)) ∧ E.tab 105 = some (.oth (.nilFunc)) ∧ E.tab 106 = some (.oth (.nilFunc)) ∧ E.tab 107 = some (.oth (.nilFunc)) ∧ E.tab 108 = some (.oth (.nilFunc)) ∧ E.tab 109 = some (.int .u64) ∧ E.tab 110 = some (.oth (.nilFunc)) ∧ E.tab 111 = some (.oth (.nilFunc)) ∧ E.tab 112 = some (.oth (.nilFunc)) ∧ E.tab 113 = some (.oth (.pointer none)) ∧ E.tab 114 = some (.oth (.nilFunc)) ∧ E.tab 115 = some (.oth (.nilFunc)) ∧ E.tab 116 = some (.oth (.nilFunc)) ∧ E.tab 117 = some (.oth (.pointer none)) ∧ E.tab 119 = some (.oth (.nilFunc)) ∧ E.tab 120 = some (.oth (.nilFunc)) ∧ E.tab 121 = some (.oth (.nilFunc)) ∧ E.tab 122 = some (.st [(0, 17), (1, 17), (2, 17), (3, 9)] 4 [.pointer none, .pointer none, .pointer none, .string ByteArray.empty]) ∧ E.tab 123 = some (.st [(0, 17), (1, 17), (2, 17), (3, 9)] 4 [.pointer none, .pointer none, .pointer none, .string ByteArray.empty]) ∧ E.tab 124 = some (.ar 0 16 1 []) ∧ E.tab 125 = some (.st [(0, 124)] 0 []) ∧ E.tab 126 = some (.st [(0, 124)] 0 []) ∧ E.tab 127 = some (.int .u8) ∧ E.tab 128 = some (.int .u8) ∧ E.tab 129 = some (.oth (.nilFunc)) ∧ E.tab 130 = some (.oth (.pointer none)) ∧ E.tab 131 = some (.int .i32) ∧ E.tab 132 = some (.int .i32) ∧ E.tab 133 = some (.st [(0, 12), (1, 12), (2, 101), (3, 127), (4, 5), (5, 5), (6, 128), (7, 129), (8, 130), (9, 131), (10, 132)] 11 [.int .u64 0, .int .u64 0, .int .u32 0, .int .u8 0, .int .u8 0, .int .u8 0, .int .u8 0, .nilFunc, .pointer none, .int .i32 0, .int .i32 0]) ∧ E.tab 134 = some (.st [(0, 12), (1, 12), (2, 101), (3, 127), (4, 5), (5, 5), (6, 128), (7, 129), (8, 130), (9, 131), (10, 132)] 11 [.int .u64 0, .int .u64 0, .int .u32 0, .int .u8 0, .int .u8 0, .int .u8 0, .int .u8 0, .nilFunc, .pointer none, .int .i32 0, .int .i32 0]) ∧ E.eqs 49 = some 3 ∧ E.eqs 50 = some 3 ∧ E.eqs 55 = some 3 :=
  ⟨rfl, rfl, rfl, rfl, rfl, rfl, rfl, rfl, rfl, rfl, rfl, rfl, rfl, rfl, rfl, rfl, rfl, rfl, rfl, rfl, rfl, rfl, rfl, rfl, rfl, rfl, rfl, rfl, rfl, rfl, rfl, rfl, rfl, rfl, rfl, rfl, rfl, rfl, rfl, rfl, rfl, rfl, rfl, rfl, rfl, rfl, rfl, rfl, rfl, rfl, rfl, rfl, rfl, rfl, rfl, rfl, rfl, rfl, rfl, rfl, rfl, rfl, rfl, rfl, rfl, rfl, rfl, rfl, rfl, rfl, rfl, rfl, rfl, rfl, rfl, rfl, rfl, rfl, rfl, rfl, rfl, rfl, rfl, rfl, rfl, rfl, rfl, rfl, rfl, rfl, rfl, rfl, rfl, rfl, rfl, rfl, rfl, rfl, rfl, rfl, rfl, rfl, rfl, rfl, rfl, rfl, rfl, rfl, rfl, rfl, rfl, rfl, rfl, rfl, rfl, rfl, rfl, rfl, rfl, rfl, rfl, rfl, rfl, rfl, rfl, rfl, rfl, rfl, rfl, rfl, rfl, rfl⟩
end Go.Ax
