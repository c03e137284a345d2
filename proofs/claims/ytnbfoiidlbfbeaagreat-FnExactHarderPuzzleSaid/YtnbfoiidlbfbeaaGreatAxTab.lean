/- What the types of this seat are told as. Printed by tab.py (this session's own). -/
import Derived.Test.YtnbfoiidlbfbeaaGreatProg
import Derived.Test.YtnbfoiidlbfbeaaGreatAx14
import Derived.KernelRfl
set_option linter.unusedVariables false
namespace Go.Ax

def tab : TypeId → Option TD
  | 1 => some (.oth (.nilFunc))
  | 2 => some (.int .i64)
  | 3 => some (.int .i64)
  | 4 => some (.bool)
  | 5 => some (.int .u8)
  | 6 => some (.int .u8)
  | 7 => some (.st [(0, 2), (1, 3), (2, 4), (3, 6)] 4 [.int .i64 0, .int .i64 0, .bool false, .int .u8 0])
  | 8 => some (.st [(0, 2), (1, 3), (2, 4), (3, 6)] 4 [.int .i64 0, .int .i64 0, .bool false, .int .u8 0])
  | 9 => some (.str)
  | 10 => some (.str)
  | 11 => some (.str)
  | 12 => some (.int .u64)
  | 13 => some (.st [(0, 9), (1, 12)] 2 [.string ByteArray.empty, .int .u64 0])
  | 14 => some (.st [(0, 9), (1, 12)] 2 [.string ByteArray.empty, .int .u64 0])
  | 15 => some (.oth (.pointer none))
  | 16 => some (.oth (.pointer none))
  | 17 => some (.oth (.pointer none))
  | 18 => some (.st [(0, 17)] 1 [.pointer none])
  | 19 => some (.st [(0, 17)] 1 [.pointer none])
  | 20 => some (.oth (.nilIface))
  | 21 => some (.int .i32)
  | 22 => some (.sl 5 1 1 [.int .u8 0])
  | 23 => some (.oth (.nilFunc))
  | 24 => some (.sl 3 1 8 [.int .i64 0])
  | 25 => some (.oth (.nilFunc))
  | 27 => some (.oth (.nilFunc))
  | 29 => some (.oth (.nilFunc))
  | 30 => some (.oth (.nilFunc))
  | 31 => some (.oth (.nilFunc))
  | 33 => some (.oth (.nilFunc))
  | 35 => some (.oth (.nilFunc))
  | 37 => some (.oth (.nilFunc))
  | 38 => some (.oth (.nilFunc))
  | 39 => some (.oth (.nilFunc))
  | 41 => some (.oth (.nilFunc))
  | 42 => some (.oth (.nilFunc))
  | 43 => some (.oth (.nilFunc))
  | 44 => some (.sl 104 3 24 [.int .i64 0, .int .i64 0, .int .i64 0])
  | 45 => some (.st [(0, 3), (1, 44)] 2 [.int .i64 0, .slice none 0 0])
  | 46 => some (.st [(0, 3), (1, 44)] 2 [.int .i64 0, .slice none 0 0])
  | 47 => some (.oth (.nilFunc))
  | 48 => some (.sl 87 3 24 [.int .i64 0, .int .i64 0, .int .i64 0])
  | 49 => some (.st [(0, 3), (1, 48)] 2 [.int .i64 0, .slice none 0 0])
  | 50 => some (.st [(0, 3), (1, 48)] 2 [.int .i64 0, .slice none 0 0])
  | 52 => some (.oth (.nilFunc))
  | 53 => some (.oth (.nilFunc))
  | 54 => some (.oth (.nilFunc))
  | 55 => some (.oth (.nilFunc))
  | 56 => some (.oth (.nilFunc))
  | 57 => some (.oth (.nilFunc))
  | 58 => some (.oth (.nilFunc))
  | 59 => some (.sl 24 1 24 [.slice none 0 0])
  | 60 => some (.st [(0, 59), (1, 9), (2, 4)] 3 [.slice none 0 0, .string ByteArray.empty, .bool false])
  | 61 => some (.st [(0, 59), (1, 9), (2, 4)] 3 [.slice none 0 0, .string ByteArray.empty, .bool false])
  | 62 => some (.oth (.nilFunc))
  | 64 => some (.oth (.nilFunc))
  | 65 => some (.oth (.nilFunc))
  | 66 => some (.oth (.pointer none))
  | 67 => some (.int .u64)
  | 68 => some (.st [(0, 22), (1, 3), (2, 67)] 3 [.slice none 0 0, .int .i64 0, .int .u64 0])
  | 69 => some (.st [(0, 22), (1, 3), (2, 67)] 3 [.slice none 0 0, .int .i64 0, .int .u64 0])
  | 70 => some (.oth (.nilFunc))
  | 71 => some (.oth (.nilFunc))
  | 72 => some (.oth (.nilFunc))
  | 73 => some (.oth (.nilFunc))
  | 74 => some (.oth (.nilFunc))
  | 75 => some (.oth (.nilFunc))
  | 76 => some (.oth (.nilFunc))
  | 77 => some (.oth (.nilFunc))
  | 78 => some (.oth (.pointer none))
  | 79 => some (.oth (.nilFunc))
  | 80 => some (.oth (.nilFunc))
  | 81 => some (.oth (.nilFunc))
  | 82 => some (.oth (.nilFunc))
  | 83 => some (.oth (.nilFunc))
  | 84 => some (.oth (.nilFunc))
  | 85 => some (.oth (.nilFunc))
  | 86 => some (.st [(0, 3), (1, 3), (2, 3)] 3 [.int .i64 0, .int .i64 0, .int .i64 0])
  | 87 => some (.st [(0, 3), (1, 3), (2, 3)] 3 [.int .i64 0, .int .i64 0, .int .i64 0])
  | 88 => some (.oth (.nilFunc))
  | 89 => some (.oth (.nilFunc))
  | 90 => some (.oth (.nilFunc))
  | 91 => some (.oth (.nilFunc))
  | 92 => some (.oth (.nilFunc))
  | 93 => some (.oth (.nilFunc))
  | 94 => some (.oth (.nilFunc))
  | 95 => some (.oth (.nilFunc))
  | 96 => some (.oth (.nilFunc))
  | 97 => some (.oth (.nilFunc))
  | 98 => some (.oth (.nilFunc))
  | 99 => some (.oth (.nilFunc))
  | 100 => some (.oth (.nilFunc))
  | 101 => some (.oth (.nilFunc))
  | 102 => some (.oth (.nilFunc))
  | 103 => some (.oth (.nilFunc))
  | 104 => some (.st [(0, 3), (1, 3), (2, 3)] 3 [.int .i64 0, .int .i64 0, .int .i64 0])
  | 105 => some (.oth (.nilFunc))
  | 106 => some (.oth (.nilFunc))
  | 107 => some (.oth (.nilFunc))
  | 108 => some (.oth (.nilFunc))
  | 109 => some (.oth (.nilFunc))
  | 110 => some (.oth (.nilFunc))
  | 111 => some (.int .u64)
  | 112 => some (.oth (.nilFunc))
  | 113 => some (.oth (.nilFunc))
  | 114 => some (.oth (.nilFunc))
  | 115 => some (.st [(0, 24), (1, 3)] 2 [.slice none 0 0, .int .i64 0])
  | 116 => some (.st [(0, 24), (1, 3)] 2 [.slice none 0 0, .int .i64 0])
  | 117 => some (.oth (.nilFunc))
  | 119 => some (.oth (.nilFunc))
  | 120 => some (.oth (.nilFunc))
  | 121 => some (.oth (.nilFunc))
  | 122 => some (.oth (.nilFunc))
  | 123 => some (.oth (.nilFunc))
  | 124 => some (.int .i64)
  | 126 => some (.oth (.nilFunc))
  | 127 => some (.oth (.nilFunc))
  | 128 => some (.oth (.nilFunc))
  | 129 => some (.oth (.nilFunc))
  | 130 => some (.oth (.nilFunc))
  | 131 => some (.int .u32)
  | 132 => some (.oth (.nilFunc))
  | 133 => some (.oth (.nilFunc))
  | 134 => some (.oth (.nilFunc))
  | 135 => some (.oth (.nilFunc))
  | 136 => some (.oth (.nilFunc))
  | 137 => some (.oth (.nilFunc))
  | 138 => some (.oth (.nilFunc))
  | 139 => some (.oth (.nilFunc))
  | 140 => some (.oth (.nilFunc))
  | 141 => some (.oth (.nilFunc))
  | 142 => some (.int .u64)
  | 143 => some (.oth (.nilFunc))
  | 144 => some (.oth (.nilFunc))
  | 145 => some (.oth (.nilFunc))
  | 146 => some (.oth (.pointer none))
  | 147 => some (.oth (.nilFunc))
  | 148 => some (.oth (.nilFunc))
  | 149 => some (.oth (.nilFunc))
  | 150 => some (.oth (.nilFunc))
  | 151 => some (.oth (.pointer none))
  | 153 => some (.oth (.nilFunc))
  | 154 => some (.oth (.nilFunc))
  | 155 => some (.oth (.nilFunc))
  | 156 => some (.st [(0, 17), (1, 17), (2, 17), (3, 9)] 4 [.pointer none, .pointer none, .pointer none, .string ByteArray.empty])
  | 157 => some (.st [(0, 17), (1, 17), (2, 17), (3, 9)] 4 [.pointer none, .pointer none, .pointer none, .string ByteArray.empty])
  | 158 => some (.ar 0 16 1 [])
  | 159 => some (.st [(0, 158)] 0 [])
  | 160 => some (.st [(0, 158)] 0 [])
  | 161 => some (.int .u8)
  | 162 => some (.int .u8)
  | 163 => some (.oth (.nilFunc))
  | 164 => some (.oth (.pointer none))
  | 165 => some (.int .i32)
  | 166 => some (.int .i32)
  | 167 => some (.st [(0, 12), (1, 12), (2, 131), (3, 161), (4, 5), (5, 5), (6, 162), (7, 163), (8, 164), (9, 165), (10, 166)] 11 [.int .u64 0, .int .u64 0, .int .u32 0, .int .u8 0, .int .u8 0, .int .u8 0, .int .u8 0, .nilFunc, .pointer none, .int .i32 0, .int .i32 0])
  | 168 => some (.st [(0, 12), (1, 12), (2, 131), (3, 161), (4, 5), (5, 5), (6, 162), (7, 163), (8, 164), (9, 165), (10, 166)] 11 [.int .u64 0, .int .u64 0, .int .u32 0, .int .u8 0, .int .u8 0, .int .u8 0, .int .u8 0, .nilFunc, .pointer none, .int .i32 0, .int .i32 0])
  | _ => none
theorem tdok1 : TDok Go.Proofs.Tryz.prog 1 (.oth (.nilFunc)) := ⟨⟨by kernel_rfl, infoIs (by kernel_rfl)⟩, rfl⟩
theorem tdok2 : TDok Go.Proofs.Tryz.prog 2 (.int .i64) := ⟨by kernel_rfl, infoIs (by kernel_rfl)⟩
theorem tdok3 : TDok Go.Proofs.Tryz.prog 3 (.int .i64) := ⟨by kernel_rfl, infoIs (by kernel_rfl)⟩
theorem tdok4 : TDok Go.Proofs.Tryz.prog 4 (.bool) := ⟨by kernel_rfl, infoIs (by kernel_rfl)⟩
theorem tdok5 : TDok Go.Proofs.Tryz.prog 5 (.int .u8) := ⟨by kernel_rfl, infoIs (by kernel_rfl)⟩
theorem tdok6 : TDok Go.Proofs.Tryz.prog 6 (.int .u8) := ⟨by kernel_rfl, infoIs (by kernel_rfl)⟩
theorem tdok7 : TDok Go.Proofs.Tryz.prog 7 (.st [(0, 2), (1, 3), (2, 4), (3, 6)] 4 [.int .i64 0, .int .i64 0, .bool false, .int .u8 0]) := ⟨⟨by kernel_rfl, infoIs (by kernel_rfl)⟩, rfl⟩
theorem tdok8 : TDok Go.Proofs.Tryz.prog 8 (.st [(0, 2), (1, 3), (2, 4), (3, 6)] 4 [.int .i64 0, .int .i64 0, .bool false, .int .u8 0]) := ⟨⟨by kernel_rfl, infoIs (by kernel_rfl)⟩, rfl⟩
theorem tdok9 : TDok Go.Proofs.Tryz.prog 9 (.str) := ⟨by kernel_rfl, infoIs (by kernel_rfl)⟩
theorem tdok10 : TDok Go.Proofs.Tryz.prog 10 (.str) := ⟨by kernel_rfl, infoIs (by kernel_rfl)⟩
theorem tdok11 : TDok Go.Proofs.Tryz.prog 11 (.str) := ⟨by kernel_rfl, infoIs (by kernel_rfl)⟩
theorem tdok12 : TDok Go.Proofs.Tryz.prog 12 (.int .u64) := ⟨by kernel_rfl, infoIs (by kernel_rfl)⟩
theorem tdok13 : TDok Go.Proofs.Tryz.prog 13 (.st [(0, 9), (1, 12)] 2 [.string ByteArray.empty, .int .u64 0]) := ⟨⟨by kernel_rfl, infoIs (by kernel_rfl)⟩, rfl⟩
theorem tdok14 : TDok Go.Proofs.Tryz.prog 14 (.st [(0, 9), (1, 12)] 2 [.string ByteArray.empty, .int .u64 0]) := ⟨⟨by kernel_rfl, infoIs (by kernel_rfl)⟩, rfl⟩
theorem tdok15 : TDok Go.Proofs.Tryz.prog 15 (.oth (.pointer none)) := ⟨⟨by kernel_rfl, infoIs (by kernel_rfl)⟩, rfl⟩
theorem tdok16 : TDok Go.Proofs.Tryz.prog 16 (.oth (.pointer none)) := ⟨⟨by kernel_rfl, infoIs (by kernel_rfl)⟩, rfl⟩
theorem tdok17 : TDok Go.Proofs.Tryz.prog 17 (.oth (.pointer none)) := ⟨⟨by kernel_rfl, infoIs (by kernel_rfl)⟩, rfl⟩
theorem tdok18 : TDok Go.Proofs.Tryz.prog 18 (.st [(0, 17)] 1 [.pointer none]) := ⟨⟨by kernel_rfl, infoIs (by kernel_rfl)⟩, rfl⟩
theorem tdok19 : TDok Go.Proofs.Tryz.prog 19 (.st [(0, 17)] 1 [.pointer none]) := ⟨⟨by kernel_rfl, infoIs (by kernel_rfl)⟩, rfl⟩
theorem tdok20 : TDok Go.Proofs.Tryz.prog 20 (.oth (.nilIface)) := ⟨⟨by kernel_rfl, infoIs (by kernel_rfl)⟩, rfl⟩
theorem tdok21 : TDok Go.Proofs.Tryz.prog 21 (.int .i32) := ⟨by kernel_rfl, infoIs (by kernel_rfl)⟩
theorem tdok22 : TDok Go.Proofs.Tryz.prog 22 (.sl 5 1 1 [.int .u8 0]) := ⟨⟨by kernel_rfl, infoIs (by kernel_rfl)⟩, by kernel_rfl, rfl, by decide, by decide, rfl⟩
theorem tdok23 : TDok Go.Proofs.Tryz.prog 23 (.oth (.nilFunc)) := ⟨⟨by kernel_rfl, infoIs (by kernel_rfl)⟩, rfl⟩
theorem tdok24 : TDok Go.Proofs.Tryz.prog 24 (.sl 3 1 8 [.int .i64 0]) := ⟨⟨by kernel_rfl, infoIs (by kernel_rfl)⟩, by kernel_rfl, rfl, by decide, by decide, rfl⟩
theorem tdok25 : TDok Go.Proofs.Tryz.prog 25 (.oth (.nilFunc)) := ⟨⟨by kernel_rfl, infoIs (by kernel_rfl)⟩, rfl⟩
theorem tdok27 : TDok Go.Proofs.Tryz.prog 27 (.oth (.nilFunc)) := ⟨⟨by kernel_rfl, infoIs (by kernel_rfl)⟩, rfl⟩
theorem tdok29 : TDok Go.Proofs.Tryz.prog 29 (.oth (.nilFunc)) := ⟨⟨by kernel_rfl, infoIs (by kernel_rfl)⟩, rfl⟩
theorem tdok30 : TDok Go.Proofs.Tryz.prog 30 (.oth (.nilFunc)) := ⟨⟨by kernel_rfl, infoIs (by kernel_rfl)⟩, rfl⟩
theorem tdok31 : TDok Go.Proofs.Tryz.prog 31 (.oth (.nilFunc)) := ⟨⟨by kernel_rfl, infoIs (by kernel_rfl)⟩, rfl⟩
theorem tdok33 : TDok Go.Proofs.Tryz.prog 33 (.oth (.nilFunc)) := ⟨⟨by kernel_rfl, infoIs (by kernel_rfl)⟩, rfl⟩
theorem tdok35 : TDok Go.Proofs.Tryz.prog 35 (.oth (.nilFunc)) := ⟨⟨by kernel_rfl, infoIs (by kernel_rfl)⟩, rfl⟩
theorem tdok37 : TDok Go.Proofs.Tryz.prog 37 (.oth (.nilFunc)) := ⟨⟨by kernel_rfl, infoIs (by kernel_rfl)⟩, rfl⟩
theorem tdok38 : TDok Go.Proofs.Tryz.prog 38 (.oth (.nilFunc)) := ⟨⟨by kernel_rfl, infoIs (by kernel_rfl)⟩, rfl⟩
theorem tdok39 : TDok Go.Proofs.Tryz.prog 39 (.oth (.nilFunc)) := ⟨⟨by kernel_rfl, infoIs (by kernel_rfl)⟩, rfl⟩
theorem tdok41 : TDok Go.Proofs.Tryz.prog 41 (.oth (.nilFunc)) := ⟨⟨by kernel_rfl, infoIs (by kernel_rfl)⟩, rfl⟩
theorem tdok42 : TDok Go.Proofs.Tryz.prog 42 (.oth (.nilFunc)) := ⟨⟨by kernel_rfl, infoIs (by kernel_rfl)⟩, rfl⟩
theorem tdok43 : TDok Go.Proofs.Tryz.prog 43 (.oth (.nilFunc)) := ⟨⟨by kernel_rfl, infoIs (by kernel_rfl)⟩, rfl⟩
theorem tdok44 : TDok Go.Proofs.Tryz.prog 44 (.sl 104 3 24 [.int .i64 0, .int .i64 0, .int .i64 0]) := ⟨⟨by kernel_rfl, infoIs (by kernel_rfl)⟩, by kernel_rfl, rfl, by decide, by decide, rfl⟩
theorem tdok45 : TDok Go.Proofs.Tryz.prog 45 (.st [(0, 3), (1, 44)] 2 [.int .i64 0, .slice none 0 0]) := ⟨⟨by kernel_rfl, infoIs (by kernel_rfl)⟩, rfl⟩
theorem tdok46 : TDok Go.Proofs.Tryz.prog 46 (.st [(0, 3), (1, 44)] 2 [.int .i64 0, .slice none 0 0]) := ⟨⟨by kernel_rfl, infoIs (by kernel_rfl)⟩, rfl⟩
theorem tdok47 : TDok Go.Proofs.Tryz.prog 47 (.oth (.nilFunc)) := ⟨⟨by kernel_rfl, infoIs (by kernel_rfl)⟩, rfl⟩
theorem tdok48 : TDok Go.Proofs.Tryz.prog 48 (.sl 87 3 24 [.int .i64 0, .int .i64 0, .int .i64 0]) := ⟨⟨by kernel_rfl, infoIs (by kernel_rfl)⟩, by kernel_rfl, rfl, by decide, by decide, rfl⟩
theorem tdok49 : TDok Go.Proofs.Tryz.prog 49 (.st [(0, 3), (1, 48)] 2 [.int .i64 0, .slice none 0 0]) := ⟨⟨by kernel_rfl, infoIs (by kernel_rfl)⟩, rfl⟩
theorem tdok50 : TDok Go.Proofs.Tryz.prog 50 (.st [(0, 3), (1, 48)] 2 [.int .i64 0, .slice none 0 0]) := ⟨⟨by kernel_rfl, infoIs (by kernel_rfl)⟩, rfl⟩
theorem tdok52 : TDok Go.Proofs.Tryz.prog 52 (.oth (.nilFunc)) := ⟨⟨by kernel_rfl, infoIs (by kernel_rfl)⟩, rfl⟩
theorem tdok53 : TDok Go.Proofs.Tryz.prog 53 (.oth (.nilFunc)) := ⟨⟨by kernel_rfl, infoIs (by kernel_rfl)⟩, rfl⟩
theorem tdok54 : TDok Go.Proofs.Tryz.prog 54 (.oth (.nilFunc)) := ⟨⟨by kernel_rfl, infoIs (by kernel_rfl)⟩, rfl⟩
theorem tdok55 : TDok Go.Proofs.Tryz.prog 55 (.oth (.nilFunc)) := ⟨⟨by kernel_rfl, infoIs (by kernel_rfl)⟩, rfl⟩
theorem tdok56 : TDok Go.Proofs.Tryz.prog 56 (.oth (.nilFunc)) := ⟨⟨by kernel_rfl, infoIs (by kernel_rfl)⟩, rfl⟩
theorem tdok57 : TDok Go.Proofs.Tryz.prog 57 (.oth (.nilFunc)) := ⟨⟨by kernel_rfl, infoIs (by kernel_rfl)⟩, rfl⟩
theorem tdok58 : TDok Go.Proofs.Tryz.prog 58 (.oth (.nilFunc)) := ⟨⟨by kernel_rfl, infoIs (by kernel_rfl)⟩, rfl⟩
theorem tdok59 : TDok Go.Proofs.Tryz.prog 59 (.sl 24 1 24 [.slice none 0 0]) := ⟨⟨by kernel_rfl, infoIs (by kernel_rfl)⟩, by kernel_rfl, rfl, by decide, by decide, rfl⟩
theorem tdok60 : TDok Go.Proofs.Tryz.prog 60 (.st [(0, 59), (1, 9), (2, 4)] 3 [.slice none 0 0, .string ByteArray.empty, .bool false]) := ⟨⟨by kernel_rfl, infoIs (by kernel_rfl)⟩, rfl⟩
theorem tdok61 : TDok Go.Proofs.Tryz.prog 61 (.st [(0, 59), (1, 9), (2, 4)] 3 [.slice none 0 0, .string ByteArray.empty, .bool false]) := ⟨⟨by kernel_rfl, infoIs (by kernel_rfl)⟩, rfl⟩
theorem tdok62 : TDok Go.Proofs.Tryz.prog 62 (.oth (.nilFunc)) := ⟨⟨by kernel_rfl, infoIs (by kernel_rfl)⟩, rfl⟩
theorem tdok64 : TDok Go.Proofs.Tryz.prog 64 (.oth (.nilFunc)) := ⟨⟨by kernel_rfl, infoIs (by kernel_rfl)⟩, rfl⟩
theorem tdok65 : TDok Go.Proofs.Tryz.prog 65 (.oth (.nilFunc)) := ⟨⟨by kernel_rfl, infoIs (by kernel_rfl)⟩, rfl⟩
theorem tdok66 : TDok Go.Proofs.Tryz.prog 66 (.oth (.pointer none)) := ⟨⟨by kernel_rfl, infoIs (by kernel_rfl)⟩, rfl⟩
theorem tdok67 : TDok Go.Proofs.Tryz.prog 67 (.int .u64) := ⟨by kernel_rfl, infoIs (by kernel_rfl)⟩
theorem tdok68 : TDok Go.Proofs.Tryz.prog 68 (.st [(0, 22), (1, 3), (2, 67)] 3 [.slice none 0 0, .int .i64 0, .int .u64 0]) := ⟨⟨by kernel_rfl, infoIs (by kernel_rfl)⟩, rfl⟩
theorem tdok69 : TDok Go.Proofs.Tryz.prog 69 (.st [(0, 22), (1, 3), (2, 67)] 3 [.slice none 0 0, .int .i64 0, .int .u64 0]) := ⟨⟨by kernel_rfl, infoIs (by kernel_rfl)⟩, rfl⟩
theorem tdok70 : TDok Go.Proofs.Tryz.prog 70 (.oth (.nilFunc)) := ⟨⟨by kernel_rfl, infoIs (by kernel_rfl)⟩, rfl⟩
theorem tdok71 : TDok Go.Proofs.Tryz.prog 71 (.oth (.nilFunc)) := ⟨⟨by kernel_rfl, infoIs (by kernel_rfl)⟩, rfl⟩
theorem tdok72 : TDok Go.Proofs.Tryz.prog 72 (.oth (.nilFunc)) := ⟨⟨by kernel_rfl, infoIs (by kernel_rfl)⟩, rfl⟩
theorem tdok73 : TDok Go.Proofs.Tryz.prog 73 (.oth (.nilFunc)) := ⟨⟨by kernel_rfl, infoIs (by kernel_rfl)⟩, rfl⟩
theorem tdok74 : TDok Go.Proofs.Tryz.prog 74 (.oth (.nilFunc)) := ⟨⟨by kernel_rfl, infoIs (by kernel_rfl)⟩, rfl⟩
theorem tdok75 : TDok Go.Proofs.Tryz.prog 75 (.oth (.nilFunc)) := ⟨⟨by kernel_rfl, infoIs (by kernel_rfl)⟩, rfl⟩
theorem tdok76 : TDok Go.Proofs.Tryz.prog 76 (.oth (.nilFunc)) := ⟨⟨by kernel_rfl, infoIs (by kernel_rfl)⟩, rfl⟩
theorem tdok77 : TDok Go.Proofs.Tryz.prog 77 (.oth (.nilFunc)) := ⟨⟨by kernel_rfl, infoIs (by kernel_rfl)⟩, rfl⟩
theorem tdok78 : TDok Go.Proofs.Tryz.prog 78 (.oth (.pointer none)) := ⟨⟨by kernel_rfl, infoIs (by kernel_rfl)⟩, rfl⟩
theorem tdok79 : TDok Go.Proofs.Tryz.prog 79 (.oth (.nilFunc)) := ⟨⟨by kernel_rfl, infoIs (by kernel_rfl)⟩, rfl⟩
theorem tdok80 : TDok Go.Proofs.Tryz.prog 80 (.oth (.nilFunc)) := ⟨⟨by kernel_rfl, infoIs (by kernel_rfl)⟩, rfl⟩
theorem tdok81 : TDok Go.Proofs.Tryz.prog 81 (.oth (.nilFunc)) := ⟨⟨by kernel_rfl, infoIs (by kernel_rfl)⟩, rfl⟩
theorem tdok82 : TDok Go.Proofs.Tryz.prog 82 (.oth (.nilFunc)) := ⟨⟨by kernel_rfl, infoIs (by kernel_rfl)⟩, rfl⟩
theorem tdok83 : TDok Go.Proofs.Tryz.prog 83 (.oth (.nilFunc)) := ⟨⟨by kernel_rfl, infoIs (by kernel_rfl)⟩, rfl⟩
theorem tdok84 : TDok Go.Proofs.Tryz.prog 84 (.oth (.nilFunc)) := ⟨⟨by kernel_rfl, infoIs (by kernel_rfl)⟩, rfl⟩
theorem tdok85 : TDok Go.Proofs.Tryz.prog 85 (.oth (.nilFunc)) := ⟨⟨by kernel_rfl, infoIs (by kernel_rfl)⟩, rfl⟩
theorem tdok86 : TDok Go.Proofs.Tryz.prog 86 (.st [(0, 3), (1, 3), (2, 3)] 3 [.int .i64 0, .int .i64 0, .int .i64 0]) := ⟨⟨by kernel_rfl, infoIs (by kernel_rfl)⟩, rfl⟩
theorem tdok87 : TDok Go.Proofs.Tryz.prog 87 (.st [(0, 3), (1, 3), (2, 3)] 3 [.int .i64 0, .int .i64 0, .int .i64 0]) := ⟨⟨by kernel_rfl, infoIs (by kernel_rfl)⟩, rfl⟩
theorem tdok88 : TDok Go.Proofs.Tryz.prog 88 (.oth (.nilFunc)) := ⟨⟨by kernel_rfl, infoIs (by kernel_rfl)⟩, rfl⟩
theorem tdok89 : TDok Go.Proofs.Tryz.prog 89 (.oth (.nilFunc)) := ⟨⟨by kernel_rfl, infoIs (by kernel_rfl)⟩, rfl⟩
theorem tdok90 : TDok Go.Proofs.Tryz.prog 90 (.oth (.nilFunc)) := ⟨⟨by kernel_rfl, infoIs (by kernel_rfl)⟩, rfl⟩
theorem tdok91 : TDok Go.Proofs.Tryz.prog 91 (.oth (.nilFunc)) := ⟨⟨by kernel_rfl, infoIs (by kernel_rfl)⟩, rfl⟩
theorem tdok92 : TDok Go.Proofs.Tryz.prog 92 (.oth (.nilFunc)) := ⟨⟨by kernel_rfl, infoIs (by kernel_rfl)⟩, rfl⟩
theorem tdok93 : TDok Go.Proofs.Tryz.prog 93 (.oth (.nilFunc)) := ⟨⟨by kernel_rfl, infoIs (by kernel_rfl)⟩, rfl⟩
theorem tdok94 : TDok Go.Proofs.Tryz.prog 94 (.oth (.nilFunc)) := ⟨⟨by kernel_rfl, infoIs (by kernel_rfl)⟩, rfl⟩
theorem tdok95 : TDok Go.Proofs.Tryz.prog 95 (.oth (.nilFunc)) := ⟨⟨by kernel_rfl, infoIs (by kernel_rfl)⟩, rfl⟩
theorem tdok96 : TDok Go.Proofs.Tryz.prog 96 (.oth (.nilFunc)) := ⟨⟨by kernel_rfl, infoIs (by kernel_rfl)⟩, rfl⟩
theorem tdok97 : TDok Go.Proofs.Tryz.prog 97 (.oth (.nilFunc)) := ⟨⟨by kernel_rfl, infoIs (by kernel_rfl)⟩, rfl⟩
theorem tdok98 : TDok Go.Proofs.Tryz.prog 98 (.oth (.nilFunc)) := ⟨⟨by kernel_rfl, infoIs (by kernel_rfl)⟩, rfl⟩
theorem tdok99 : TDok Go.Proofs.Tryz.prog 99 (.oth (.nilFunc)) := ⟨⟨by kernel_rfl, infoIs (by kernel_rfl)⟩, rfl⟩
theorem tdok100 : TDok Go.Proofs.Tryz.prog 100 (.oth (.nilFunc)) := ⟨⟨by kernel_rfl, infoIs (by kernel_rfl)⟩, rfl⟩
theorem tdok101 : TDok Go.Proofs.Tryz.prog 101 (.oth (.nilFunc)) := ⟨⟨by kernel_rfl, infoIs (by kernel_rfl)⟩, rfl⟩
theorem tdok102 : TDok Go.Proofs.Tryz.prog 102 (.oth (.nilFunc)) := ⟨⟨by kernel_rfl, infoIs (by kernel_rfl)⟩, rfl⟩
theorem tdok103 : TDok Go.Proofs.Tryz.prog 103 (.oth (.nilFunc)) := ⟨⟨by kernel_rfl, infoIs (by kernel_rfl)⟩, rfl⟩
theorem tdok104 : TDok Go.Proofs.Tryz.prog 104 (.st [(0, 3), (1, 3), (2, 3)] 3 [.int .i64 0, .int .i64 0, .int .i64 0]) := ⟨⟨by kernel_rfl, infoIs (by kernel_rfl)⟩, rfl⟩
theorem tdok105 : TDok Go.Proofs.Tryz.prog 105 (.oth (.nilFunc)) := ⟨⟨by kernel_rfl, infoIs (by kernel_rfl)⟩, rfl⟩
theorem tdok106 : TDok Go.Proofs.Tryz.prog 106 (.oth (.nilFunc)) := ⟨⟨by kernel_rfl, infoIs (by kernel_rfl)⟩, rfl⟩
theorem tdok107 : TDok Go.Proofs.Tryz.prog 107 (.oth (.nilFunc)) := ⟨⟨by kernel_rfl, infoIs (by kernel_rfl)⟩, rfl⟩
theorem tdok108 : TDok Go.Proofs.Tryz.prog 108 (.oth (.nilFunc)) := ⟨⟨by kernel_rfl, infoIs (by kernel_rfl)⟩, rfl⟩
theorem tdok109 : TDok Go.Proofs.Tryz.prog 109 (.oth (.nilFunc)) := ⟨⟨by kernel_rfl, infoIs (by kernel_rfl)⟩, rfl⟩
theorem tdok110 : TDok Go.Proofs.Tryz.prog 110 (.oth (.nilFunc)) := ⟨⟨by kernel_rfl, infoIs (by kernel_rfl)⟩, rfl⟩
theorem tdok111 : TDok Go.Proofs.Tryz.prog 111 (.int .u64) := ⟨by kernel_rfl, infoIs (by kernel_rfl)⟩
theorem tdok112 : TDok Go.Proofs.Tryz.prog 112 (.oth (.nilFunc)) := ⟨⟨by kernel_rfl, infoIs (by kernel_rfl)⟩, rfl⟩
theorem tdok113 : TDok Go.Proofs.Tryz.prog 113 (.oth (.nilFunc)) := ⟨⟨by kernel_rfl, infoIs (by kernel_rfl)⟩, rfl⟩
theorem tdok114 : TDok Go.Proofs.Tryz.prog 114 (.oth (.nilFunc)) := ⟨⟨by kernel_rfl, infoIs (by kernel_rfl)⟩, rfl⟩
theorem tdok115 : TDok Go.Proofs.Tryz.prog 115 (.st [(0, 24), (1, 3)] 2 [.slice none 0 0, .int .i64 0]) := ⟨⟨by kernel_rfl, infoIs (by kernel_rfl)⟩, rfl⟩
theorem tdok116 : TDok Go.Proofs.Tryz.prog 116 (.st [(0, 24), (1, 3)] 2 [.slice none 0 0, .int .i64 0]) := ⟨⟨by kernel_rfl, infoIs (by kernel_rfl)⟩, rfl⟩
theorem tdok117 : TDok Go.Proofs.Tryz.prog 117 (.oth (.nilFunc)) := ⟨⟨by kernel_rfl, infoIs (by kernel_rfl)⟩, rfl⟩
theorem tdok119 : TDok Go.Proofs.Tryz.prog 119 (.oth (.nilFunc)) := ⟨⟨by kernel_rfl, infoIs (by kernel_rfl)⟩, rfl⟩
theorem tdok120 : TDok Go.Proofs.Tryz.prog 120 (.oth (.nilFunc)) := ⟨⟨by kernel_rfl, infoIs (by kernel_rfl)⟩, rfl⟩
theorem tdok121 : TDok Go.Proofs.Tryz.prog 121 (.oth (.nilFunc)) := ⟨⟨by kernel_rfl, infoIs (by kernel_rfl)⟩, rfl⟩
theorem tdok122 : TDok Go.Proofs.Tryz.prog 122 (.oth (.nilFunc)) := ⟨⟨by kernel_rfl, infoIs (by kernel_rfl)⟩, rfl⟩
theorem tdok123 : TDok Go.Proofs.Tryz.prog 123 (.oth (.nilFunc)) := ⟨⟨by kernel_rfl, infoIs (by kernel_rfl)⟩, rfl⟩
theorem tdok124 : TDok Go.Proofs.Tryz.prog 124 (.int .i64) := ⟨by kernel_rfl, infoIs (by kernel_rfl)⟩
theorem tdok126 : TDok Go.Proofs.Tryz.prog 126 (.oth (.nilFunc)) := ⟨⟨by kernel_rfl, infoIs (by kernel_rfl)⟩, rfl⟩
theorem tdok127 : TDok Go.Proofs.Tryz.prog 127 (.oth (.nilFunc)) := ⟨⟨by kernel_rfl, infoIs (by kernel_rfl)⟩, rfl⟩
theorem tdok128 : TDok Go.Proofs.Tryz.prog 128 (.oth (.nilFunc)) := ⟨⟨by kernel_rfl, infoIs (by kernel_rfl)⟩, rfl⟩
theorem tdok129 : TDok Go.Proofs.Tryz.prog 129 (.oth (.nilFunc)) := ⟨⟨by kernel_rfl, infoIs (by kernel_rfl)⟩, rfl⟩
theorem tdok130 : TDok Go.Proofs.Tryz.prog 130 (.oth (.nilFunc)) := ⟨⟨by kernel_rfl, infoIs (by kernel_rfl)⟩, rfl⟩
theorem tdok131 : TDok Go.Proofs.Tryz.prog 131 (.int .u32) := ⟨by kernel_rfl, infoIs (by kernel_rfl)⟩
theorem tdok132 : TDok Go.Proofs.Tryz.prog 132 (.oth (.nilFunc)) := ⟨⟨by kernel_rfl, infoIs (by kernel_rfl)⟩, rfl⟩
theorem tdok133 : TDok Go.Proofs.Tryz.prog 133 (.oth (.nilFunc)) := ⟨⟨by kernel_rfl, infoIs (by kernel_rfl)⟩, rfl⟩
theorem tdok134 : TDok Go.Proofs.Tryz.prog 134 (.oth (.nilFunc)) := ⟨⟨by kernel_rfl, infoIs (by kernel_rfl)⟩, rfl⟩
theorem tdok135 : TDok Go.Proofs.Tryz.prog 135 (.oth (.nilFunc)) := ⟨⟨by kernel_rfl, infoIs (by kernel_rfl)⟩, rfl⟩
theorem tdok136 : TDok Go.Proofs.Tryz.prog 136 (.oth (.nilFunc)) := ⟨⟨by kernel_rfl, infoIs (by kernel_rfl)⟩, rfl⟩
theorem tdok137 : TDok Go.Proofs.Tryz.prog 137 (.oth (.nilFunc)) := ⟨⟨by kernel_rfl, infoIs (by kernel_rfl)⟩, rfl⟩
theorem tdok138 : TDok Go.Proofs.Tryz.prog 138 (.oth (.nilFunc)) := ⟨⟨by kernel_rfl, infoIs (by kernel_rfl)⟩, rfl⟩
theorem tdok139 : TDok Go.Proofs.Tryz.prog 139 (.oth (.nilFunc)) := ⟨⟨by kernel_rfl, infoIs (by kernel_rfl)⟩, rfl⟩
theorem tdok140 : TDok Go.Proofs.Tryz.prog 140 (.oth (.nilFunc)) := ⟨⟨by kernel_rfl, infoIs (by kernel_rfl)⟩, rfl⟩
theorem tdok141 : TDok Go.Proofs.Tryz.prog 141 (.oth (.nilFunc)) := ⟨⟨by kernel_rfl, infoIs (by kernel_rfl)⟩, rfl⟩
theorem tdok142 : TDok Go.Proofs.Tryz.prog 142 (.int .u64) := ⟨by kernel_rfl, infoIs (by kernel_rfl)⟩
theorem tdok143 : TDok Go.Proofs.Tryz.prog 143 (.oth (.nilFunc)) := ⟨⟨by kernel_rfl, infoIs (by kernel_rfl)⟩, rfl⟩
theorem tdok144 : TDok Go.Proofs.Tryz.prog 144 (.oth (.nilFunc)) := ⟨⟨by kernel_rfl, infoIs (by kernel_rfl)⟩, rfl⟩
theorem tdok145 : TDok Go.Proofs.Tryz.prog 145 (.oth (.nilFunc)) := ⟨⟨by kernel_rfl, infoIs (by kernel_rfl)⟩, rfl⟩
theorem tdok146 : TDok Go.Proofs.Tryz.prog 146 (.oth (.pointer none)) := ⟨⟨by kernel_rfl, infoIs (by kernel_rfl)⟩, rfl⟩
theorem tdok147 : TDok Go.Proofs.Tryz.prog 147 (.oth (.nilFunc)) := ⟨⟨by kernel_rfl, infoIs (by kernel_rfl)⟩, rfl⟩
theorem tdok148 : TDok Go.Proofs.Tryz.prog 148 (.oth (.nilFunc)) := ⟨⟨by kernel_rfl, infoIs (by kernel_rfl)⟩, rfl⟩
theorem tdok149 : TDok Go.Proofs.Tryz.prog 149 (.oth (.nilFunc)) := ⟨⟨by kernel_rfl, infoIs (by kernel_rfl)⟩, rfl⟩
theorem tdok150 : TDok Go.Proofs.Tryz.prog 150 (.oth (.nilFunc)) := ⟨⟨by kernel_rfl, infoIs (by kernel_rfl)⟩, rfl⟩
theorem tdok151 : TDok Go.Proofs.Tryz.prog 151 (.oth (.pointer none)) := ⟨⟨by kernel_rfl, infoIs (by kernel_rfl)⟩, rfl⟩
theorem tdok153 : TDok Go.Proofs.Tryz.prog 153 (.oth (.nilFunc)) := ⟨⟨by kernel_rfl, infoIs (by kernel_rfl)⟩, rfl⟩
theorem tdok154 : TDok Go.Proofs.Tryz.prog 154 (.oth (.nilFunc)) := ⟨⟨by kernel_rfl, infoIs (by kernel_rfl)⟩, rfl⟩
theorem tdok155 : TDok Go.Proofs.Tryz.prog 155 (.oth (.nilFunc)) := ⟨⟨by kernel_rfl, infoIs (by kernel_rfl)⟩, rfl⟩
theorem tdok156 : TDok Go.Proofs.Tryz.prog 156 (.st [(0, 17), (1, 17), (2, 17), (3, 9)] 4 [.pointer none, .pointer none, .pointer none, .string ByteArray.empty]) := ⟨⟨by kernel_rfl, infoIs (by kernel_rfl)⟩, rfl⟩
theorem tdok157 : TDok Go.Proofs.Tryz.prog 157 (.st [(0, 17), (1, 17), (2, 17), (3, 9)] 4 [.pointer none, .pointer none, .pointer none, .string ByteArray.empty]) := ⟨⟨by kernel_rfl, infoIs (by kernel_rfl)⟩, rfl⟩
theorem tdok158 : TDok Go.Proofs.Tryz.prog 158 (.ar 0 16 1 []) := ⟨⟨by kernel_rfl, infoIs (by kernel_rfl)⟩, by kernel_rfl, rfl⟩
theorem tdok159 : TDok Go.Proofs.Tryz.prog 159 (.st [(0, 158)] 0 []) := ⟨⟨by kernel_rfl, infoIs (by kernel_rfl)⟩, rfl⟩
theorem tdok160 : TDok Go.Proofs.Tryz.prog 160 (.st [(0, 158)] 0 []) := ⟨⟨by kernel_rfl, infoIs (by kernel_rfl)⟩, rfl⟩
theorem tdok161 : TDok Go.Proofs.Tryz.prog 161 (.int .u8) := ⟨by kernel_rfl, infoIs (by kernel_rfl)⟩
theorem tdok162 : TDok Go.Proofs.Tryz.prog 162 (.int .u8) := ⟨by kernel_rfl, infoIs (by kernel_rfl)⟩
theorem tdok163 : TDok Go.Proofs.Tryz.prog 163 (.oth (.nilFunc)) := ⟨⟨by kernel_rfl, infoIs (by kernel_rfl)⟩, rfl⟩
theorem tdok164 : TDok Go.Proofs.Tryz.prog 164 (.oth (.pointer none)) := ⟨⟨by kernel_rfl, infoIs (by kernel_rfl)⟩, rfl⟩
theorem tdok165 : TDok Go.Proofs.Tryz.prog 165 (.int .i32) := ⟨by kernel_rfl, infoIs (by kernel_rfl)⟩
theorem tdok166 : TDok Go.Proofs.Tryz.prog 166 (.int .i32) := ⟨by kernel_rfl, infoIs (by kernel_rfl)⟩
theorem tdok167 : TDok Go.Proofs.Tryz.prog 167 (.st [(0, 12), (1, 12), (2, 131), (3, 161), (4, 5), (5, 5), (6, 162), (7, 163), (8, 164), (9, 165), (10, 166)] 11 [.int .u64 0, .int .u64 0, .int .u32 0, .int .u8 0, .int .u8 0, .int .u8 0, .int .u8 0, .nilFunc, .pointer none, .int .i32 0, .int .i32 0]) := ⟨⟨by kernel_rfl, infoIs (by kernel_rfl)⟩, rfl⟩
theorem tdok168 : TDok Go.Proofs.Tryz.prog 168 (.st [(0, 12), (1, 12), (2, 131), (3, 161), (4, 5), (5, 5), (6, 162), (7, 163), (8, 164), (9, 165), (10, 166)] 11 [.int .u64 0, .int .u64 0, .int .u32 0, .int .u8 0, .int .u8 0, .int .u8 0, .int .u8 0, .nilFunc, .pointer none, .int .i32 0, .int .i32 0]) := ⟨⟨by kernel_rfl, infoIs (by kernel_rfl)⟩, rfl⟩
theorem tab_ok (t : TypeId) (d : TD) (h : tab t = some d) : TDok Go.Proofs.Tryz.prog t d := by
  unfold tab at h
  split at h
  · injection h with h; subst h; exact tdok1
  · injection h with h; subst h; exact tdok2
  · injection h with h; subst h; exact tdok3
  · injection h with h; subst h; exact tdok4
  · injection h with h; subst h; exact tdok5
  · injection h with h; subst h; exact tdok6
  · injection h with h; subst h; exact tdok7
  · injection h with h; subst h; exact tdok8
  · injection h with h; subst h; exact tdok9
  · injection h with h; subst h; exact tdok10
  · injection h with h; subst h; exact tdok11
  · injection h with h; subst h; exact tdok12
  · injection h with h; subst h; exact tdok13
  · injection h with h; subst h; exact tdok14
  · injection h with h; subst h; exact tdok15
  · injection h with h; subst h; exact tdok16
  · injection h with h; subst h; exact tdok17
  · injection h with h; subst h; exact tdok18
  · injection h with h; subst h; exact tdok19
  · injection h with h; subst h; exact tdok20
  · injection h with h; subst h; exact tdok21
  · injection h with h; subst h; exact tdok22
  · injection h with h; subst h; exact tdok23
  · injection h with h; subst h; exact tdok24
  · injection h with h; subst h; exact tdok25
  · injection h with h; subst h; exact tdok27
  · injection h with h; subst h; exact tdok29
  · injection h with h; subst h; exact tdok30
  · injection h with h; subst h; exact tdok31
  · injection h with h; subst h; exact tdok33
  · injection h with h; subst h; exact tdok35
  · injection h with h; subst h; exact tdok37
  · injection h with h; subst h; exact tdok38
  · injection h with h; subst h; exact tdok39
  · injection h with h; subst h; exact tdok41
  · injection h with h; subst h; exact tdok42
  · injection h with h; subst h; exact tdok43
  · injection h with h; subst h; exact tdok44
  · injection h with h; subst h; exact tdok45
  · injection h with h; subst h; exact tdok46
  · injection h with h; subst h; exact tdok47
  · injection h with h; subst h; exact tdok48
  · injection h with h; subst h; exact tdok49
  · injection h with h; subst h; exact tdok50
  · injection h with h; subst h; exact tdok52
  · injection h with h; subst h; exact tdok53
  · injection h with h; subst h; exact tdok54
  · injection h with h; subst h; exact tdok55
  · injection h with h; subst h; exact tdok56
  · injection h with h; subst h; exact tdok57
  · injection h with h; subst h; exact tdok58
  · injection h with h; subst h; exact tdok59
  · injection h with h; subst h; exact tdok60
  · injection h with h; subst h; exact tdok61
  · injection h with h; subst h; exact tdok62
  · injection h with h; subst h; exact tdok64
  · injection h with h; subst h; exact tdok65
  · injection h with h; subst h; exact tdok66
  · injection h with h; subst h; exact tdok67
  · injection h with h; subst h; exact tdok68
  · injection h with h; subst h; exact tdok69
  · injection h with h; subst h; exact tdok70
  · injection h with h; subst h; exact tdok71
  · injection h with h; subst h; exact tdok72
  · injection h with h; subst h; exact tdok73
  · injection h with h; subst h; exact tdok74
  · injection h with h; subst h; exact tdok75
  · injection h with h; subst h; exact tdok76
  · injection h with h; subst h; exact tdok77
  · injection h with h; subst h; exact tdok78
  · injection h with h; subst h; exact tdok79
  · injection h with h; subst h; exact tdok80
  · injection h with h; subst h; exact tdok81
  · injection h with h; subst h; exact tdok82
  · injection h with h; subst h; exact tdok83
  · injection h with h; subst h; exact tdok84
  · injection h with h; subst h; exact tdok85
  · injection h with h; subst h; exact tdok86
  · injection h with h; subst h; exact tdok87
  · injection h with h; subst h; exact tdok88
  · injection h with h; subst h; exact tdok89
  · injection h with h; subst h; exact tdok90
  · injection h with h; subst h; exact tdok91
  · injection h with h; subst h; exact tdok92
  · injection h with h; subst h; exact tdok93
  · injection h with h; subst h; exact tdok94
  · injection h with h; subst h; exact tdok95
  · injection h with h; subst h; exact tdok96
  · injection h with h; subst h; exact tdok97
  · injection h with h; subst h; exact tdok98
  · injection h with h; subst h; exact tdok99
  · injection h with h; subst h; exact tdok100
  · injection h with h; subst h; exact tdok101
  · injection h with h; subst h; exact tdok102
  · injection h with h; subst h; exact tdok103
  · injection h with h; subst h; exact tdok104
  · injection h with h; subst h; exact tdok105
  · injection h with h; subst h; exact tdok106
  · injection h with h; subst h; exact tdok107
  · injection h with h; subst h; exact tdok108
  · injection h with h; subst h; exact tdok109
  · injection h with h; subst h; exact tdok110
  · injection h with h; subst h; exact tdok111
  · injection h with h; subst h; exact tdok112
  · injection h with h; subst h; exact tdok113
  · injection h with h; subst h; exact tdok114
  · injection h with h; subst h; exact tdok115
  · injection h with h; subst h; exact tdok116
  · injection h with h; subst h; exact tdok117
  · injection h with h; subst h; exact tdok119
  · injection h with h; subst h; exact tdok120
  · injection h with h; subst h; exact tdok121
  · injection h with h; subst h; exact tdok122
  · injection h with h; subst h; exact tdok123
  · injection h with h; subst h; exact tdok124
  · injection h with h; subst h; exact tdok126
  · injection h with h; subst h; exact tdok127
  · injection h with h; subst h; exact tdok128
  · injection h with h; subst h; exact tdok129
  · injection h with h; subst h; exact tdok130
  · injection h with h; subst h; exact tdok131
  · injection h with h; subst h; exact tdok132
  · injection h with h; subst h; exact tdok133
  · injection h with h; subst h; exact tdok134
  · injection h with h; subst h; exact tdok135
  · injection h with h; subst h; exact tdok136
  · injection h with h; subst h; exact tdok137
  · injection h with h; subst h; exact tdok138
  · injection h with h; subst h; exact tdok139
  · injection h with h; subst h; exact tdok140
  · injection h with h; subst h; exact tdok141
  · injection h with h; subst h; exact tdok142
  · injection h with h; subst h; exact tdok143
  · injection h with h; subst h; exact tdok144
  · injection h with h; subst h; exact tdok145
  · injection h with h; subst h; exact tdok146
  · injection h with h; subst h; exact tdok147
  · injection h with h; subst h; exact tdok148
  · injection h with h; subst h; exact tdok149
  · injection h with h; subst h; exact tdok150
  · injection h with h; subst h; exact tdok151
  · injection h with h; subst h; exact tdok153
  · injection h with h; subst h; exact tdok154
  · injection h with h; subst h; exact tdok155
  · injection h with h; subst h; exact tdok156
  · injection h with h; subst h; exact tdok157
  · injection h with h; subst h; exact tdok158
  · injection h with h; subst h; exact tdok159
  · injection h with h; subst h; exact tdok160
  · injection h with h; subst h; exact tdok161
  · injection h with h; subst h; exact tdok162
  · injection h with h; subst h; exact tdok163
  · injection h with h; subst h; exact tdok164
  · injection h with h; subst h; exact tdok165
  · injection h with h; subst h; exact tdok166
  · injection h with h; subst h; exact tdok167
  · injection h with h; subst h; exact tdok168
  · cases h
def eqs : TypeId → Option Nat
  | 86 => some 3
  | 87 => some 3
  | 104 => some 3
  | _ => none
theorem eqst86 : EqSt Go.Proofs.Tryz.prog 86 3 := ⟨by kernel_rfl, by kernel_rfl, by kernel_rfl, by kernel_rfl⟩
theorem eqst87 : EqSt Go.Proofs.Tryz.prog 87 3 := ⟨by kernel_rfl, by kernel_rfl, by kernel_rfl, by kernel_rfl⟩
theorem eqst104 : EqSt Go.Proofs.Tryz.prog 104 3 := ⟨by kernel_rfl, by kernel_rfl, by kernel_rfl, by kernel_rfl⟩
theorem eqs_ok (t n : Nat) (h : eqs t = some n) : EqSt Go.Proofs.Tryz.prog t n := by
  unfold eqs at h
  split at h
  · injection h with h; subst h; exact eqst86
  · injection h with h; subst h; exact eqst87
  · injection h with h; subst h; exact eqst104
  · cases h
noncomputable def E : Env := { P := Go.Proofs.Tryz.prog, tab := tab, eqs := eqs, eqok := eqs_ok, G := fun _ => none, ok := tab_ok, cl := fun _ _ h => by cases h }
theorem Eprog : E.P = Go.Proofs.Tryz.prog := rfl
theorem EG (g : Nat) : E.G g = none := rfl
theorem Emix : E.P.follows .mixedOrders = true := by kernel_rfl
theorem tabs : E.tab 1 = some (.oth (.nilFunc)) ∧ E.tab 2 = some (.int .i64) ∧ E.tab 3 = some (.int .i64) ∧ E.tab 4 = some (.bool) ∧ E.tab 5 = some (.int .u8) ∧ E.tab 6 = some (.int .u8) ∧ E.tab 7 = some (.st [(0, 2), (1, 3), (2, 4), (3, 6)] 4 [.int .i64 0, .int .i64 0, .bool false, .int .u8 0]) ∧ E.tab 8 = some (.st [(0, 2), (1, 3), (2, 4), (3, 6)] 4 [.int .i64 0, .int .i64 0, .bool false, .int .u8 0]) ∧ E.tab 9 = some (.str) ∧ E.tab 10 = some (.str) ∧ E.tab 11 = some (.str) ∧ E.tab 12 = some (.int .u64) ∧ E.tab 13 = some (.st [(0, 9), (1, 12)] 2 [.string ByteArray.empty, .int .u64 0]) ∧ E.tab 14 = some (.st [(0, 9), (1, 12)] 2 [.string ByteArray.empty, .int .u64 0]) ∧ E.tab 15 = some (.oth (.pointer none)) ∧ E.tab 16 = some (.oth (.pointer none)) ∧ E.tab 17 = some (.oth (.pointer none)) ∧ E.tab 18 = some (.st [(0, 17)] 1 [.pointer none]) ∧ E.tab 19 = some (.st [(0, 17)] 1 [.pointer none]) ∧ E.tab 20 = some (.oth (.nilIface)) ∧ E.tab 21 = some (.int .i32) ∧ E.tab 22 = some (.sl 5 1 1 [.int .u8 0]) ∧ E.tab 23 = some (.oth (.nilFunc)) ∧ E.tab 24 = some (.sl 3 1 8 [.int .i64 0]) ∧ E.tab 25 = some (.oth (.nilFunc)) ∧ E.tab 27 = some (.oth (.nilFunc)) ∧ E.tab 29 = some (.oth (.nilFunc)) ∧ E.tab 30 = some (.oth (.nilFunc)) ∧ E.tab 31 = some (.oth (.nilFunc)) ∧ E.tab 33 = some (.oth (.nilFunc)) ∧ E.tab 35 = some (.oth (.nilFunc)) ∧ E.tab 37 = some (.oth (.nilFunc)) ∧ E.tab 38 = some (.oth (.nilFunc)) ∧ E.tab 39 = some (.oth (.nilFunc)) ∧ E.tab 41 = some (.oth (.nilFunc)) ∧ E.tab 42 = some (.oth (.nilFunc)) ∧ E.tab 43 = some (.oth (.nilFunc)) ∧ E.tab 44 = some (.sl 104 3 24 [.int .i64 0, .int .i64 0, .int .i64 0]) ∧ E.tab 45 = some (.st [(0, 3), (1, 44)] 2 [.int .i64 0, .slice none 0 0]) ∧ E.tab 46 = some (.st [(0, 3), (1, 44)] 2 [.int .i64 0, .slice none 0 0]) ∧ E.tab 47 = some (.oth (.nilFunc)) ∧ E.tab 48 = some (.sl 87 3 24 [.int .i64 0, .int .i64 0, .int .i64 0]) ∧ E.tab 49 = some (.st [(0, 3), (1, 48)] 2 [.int .i64 0, .slice none 0 0]) ∧ E.tab 50 = some (.st [(0, 3), (1, 48)] 2 [.int .i64 0, .slice none 0 0]) ∧ E.tab 52 = some (.oth (.nilFunc)) ∧ E.tab 53 = some (.oth (.nilFunc)) ∧ E.tab 54 = some (.oth (.nilFunc)) ∧ E.tab 55 = some (.oth (.nilFunc)) ∧ E.tab 56 = some (.oth (.nilFunc)) ∧ E.tab 57 = some (.oth (.nilFunc)) ∧ E.tab 58 = some (.oth (.nilFunc)) ∧ E.tab 59 = some (.sl 24 1 24 [.slice none 0 0]) ∧ E.tab 60 = some (.st [(0, 59), (1, 9), (2, 4)] 3 [.slice none 0 0, .string ByteArray.empty, .bool false]) ∧ E.tab 61 = some (.st [(0, 59), (1, 9), (2, 4)] 3 [.slice none 0 0, .string ByteArray.empty, .bool false]) ∧ E.tab 62 = some (.oth (.nilFunc)) ∧ E.tab 64 = some (.oth (.nilFunc)) ∧ E.tab 65 = some (.oth (.nilFunc)) ∧ E.tab 66 = some (.oth (.pointer none)) ∧ E.tab 67 = some (.int .u64) ∧ E.tab 68 = some (.st [(0, 22), (1, 3), (2, 67)] 3 [.slice none 0 0, .int .i64 0, .int .u64 0]) ∧ E.tab 69 = some (.st [(0, 22), (1, 3), (2, 67)] 3 [.slice none 0 0, .int .i64 0, .int .u64 0]) ∧ E.tab 70 = some (.oth (.nilFunc)) ∧ E.tab 71 = some (.oth (.nilFunc)) ∧ E.tab 72 = some (.oth (.nilFunc)) ∧ E.tab 73 = some (.oth (.nilFunc)) ∧ E.tab 74 = some (.oth (.nilFunc)) ∧ E.tab 75 = some (.oth (.nilFunc)) ∧ E.tab 76 = some (.oth (.nilFunc)) ∧ E.tab 77 = some (.oth (.nilFunc)) ∧ E.tab 78 = some (.oth (.pointer none)) ∧ E.tab 79 = some (.oth (.nilFunc)) ∧ E.tab 80 = some (.oth (.nilFunc)) ∧ E.tab 81 = some (.oth (.nilFunc)) ∧ E.tab 82 = some (.oth (.nilFunc)) ∧ E.tab 83 = some (.oth (.nilFunc)) ∧ E.tab 84 = some (.oth (.nilFunc)) ∧ E.tab 85 = some (.oth (.nilFunc)) ∧ E.tab 86 = some (.st [(0, 3), (1, 3), (2, 3)] 3 [.int .i64 0, .int .i64 0, .int .i64 0]) ∧ E.tab 87 = some (.st [(0, 3), (1, 3), (2, 3)] 3 [.int .i64 0, .int .i64 0, .int .i64 0]) ∧ E.tab 88 = some (.oth (.nilFunc)) ∧ E.tab 89 = some (.oth (.nilFunc)) ∧ E.tab 90 = some (.oth (.nilFunc)) ∧ E.tab 91 = some (.oth (.nilFunc)) ∧ E.tab 92 = some (.oth (.nilFunc)) ∧ E.tab 93 = some (.oth (.nilFunc)) ∧ E.tab 94 = some (.oth (.nilFunc)) ∧ E.tab 95 = some (.oth (.nilFunc)) ∧ E.tab 96 = some (.oth (.nilFunc)) ∧ E.tab 97 = some (.oth (.nilFunc)) ∧ E.tab 98 = some (.oth (.nilFunc)) ∧ E.tab 99 = some (.oth (.nilFunc)) ∧ E.tab 100 = some (.oth (.nilFunc)) ∧ E.tab 101 = some (.oth (.nilFunc)) ∧ E.tab 102 = some (.oth (.nilFunc)) ∧ E.tab 103 = some (.oth (.nilFunc)) ∧ E.tab 104 = some (.st [(0, 3), (1, 3), (2, 3)] 3 [.int .i64 0, .int .i64 0, .int .i64 0]) ∧ E.tab 105 = some (.oth (.nilFunc)) ∧ E.tab 106 = some (.oth (.nilFunc)) ∧ E.tab 107 = some (.oth (.nilFunc)) ∧ E.tab 108 = some (.oth (.nilFunc)) ∧ E.tab 109 = some (.oth (.nilFunc)) ∧ E.tab 110 = some (.oth (.nilFunc)) ∧ E.tab 111 = some (.int .u64) ∧ E.tab 112 = some (.oth (.nilFunc)) ∧ E.tab 113 = some (.oth (.nilFunc)) ∧ E.tab 114 = some (.oth (.nilFunc)) ∧ E.tab 115 = some (.st [(0, 24), (1, 3)] 2 [.slice none 0 0, .int .i64 0]) ∧ E.tab 116 = some (.st [(0, 24), (1, 3)] 2 [.slice none 0 0, .int .i64 0]) ∧ E.tab 117 = some (.oth (.nilFunc)) ∧ E.tab 119 = some (.oth (.nilFunc)) ∧ E.tab 120 = some (.oth (.nilFunc)) ∧ E.tab 121 = some (.oth (.nilFunc)) ∧ E.tab 122 = some (.oth (.nilFunc)) ∧ E.tab 123 = some (.oth (.nilFunc)) ∧ E.tab 124 = some (.int .i64) ∧ E.tab 126 = some (.oth (.nilFunc)) ∧ E.tab 127 = some (.oth (.nilFunc)) ∧ E.tab 128 = some (.oth (.nilFunc)) ∧ E.tab 129 = some (.oth (.nilFunc)) ∧ E.tab 130 = some (.oth (.nilFunc)) ∧ E.tab 131 = some (.int .u32) ∧ E.tab 132 = some (.oth (.nilFunc)) ∧ E.tab 133 = some (.oth (.nilFunc)) ∧ E.tab 134 = some (.oth (.nilFunc)) ∧ E.tab 135 = some (.oth (.nilFunc)) ∧ E.tab 136 = some (.oth (.nilFunc)) ∧ E.tab 137 = some (.oth (.nilFunc)) ∧ E.tab 138 = some (.oth (.nilFunc)) ∧ E.tab 139 = some (.oth (.nilFunc)) ∧ E.tab 140 = some (.oth (.nilFunc)) ∧ E.tab 141 = some (.oth (.nilFunc)) ∧ E.tab 142 = some (.int .u64) ∧ E.tab 143 = some (.oth (.nilFunc)) ∧ E.tab 144 = some (.oth (.nilFunc)) ∧ E.tab 145 = some (.oth (.nilFunc)) ∧ E.tab 146 = some (.oth (.pointer none)) ∧ E.tab 147 = some (.oth (.nilFunc)) ∧ E.tab 148 = some (.oth (.nilFunc)) ∧ E.tab 149 = some (.oth (.nilFunc)) ∧ E.tab 150 = some (.oth (.nilFunc)) ∧ E.tab 151 = some (.oth (.pointer none)) ∧ E.tab 153 = some (.oth (.nilFunc)) ∧ E.tab 154 = some (.oth (.nilFunc)) ∧ E.tab 155 = some (.oth (.nilFunc)) ∧ E.tab 156 = some (.st [(0, 17), (1, 17), (2, 17), (3, 9)] 4 [.pointer none, .pointer none, .pointer none, .string ByteArray.empty]) ∧ E.tab 157 = some (.st [(0, 17), (1, 17), (2, 17), (3, 9)] 4 [.pointer none, .pointer none, .pointer none, .string ByteArray.empty]) ∧ E.tab 158 = some (.ar 0 16 1 []) ∧ E.tab 159 = some (.st [(0, 158)] 0 []) ∧ E.tab 160 = some (.st [(0, 158)] 0 []) ∧ E.tab 161 = some (.int .u8) ∧ E.tab 162 = some (.int .u8) ∧ E.tab 163 = some (.oth (.nilFunc)) ∧ E.tab 164 = some (.oth (.pointer none)) ∧ E.tab 165 = some (.int .i32) ∧ E.tab 166 = some (.int .i32) ∧ E.tab 167 = some (.st [(0, 12), (1, 12), (2, 131), (3, 161), (4, 5), (5, 5), (6, 162), (7, 163), (8, 164), (9, 165), (10, 166)] 11 [.int .u64 0, .int .u64 0, .int .u32 0, .int .u8 0, .int .u8 0, .int .u8 0, .int .u8 0, .nilFunc, .pointer none, .int .i32 0, .int .i32 0]) ∧ E.tab 168 = some (.st [(0, 12), (1, 12), (2, 131), (3, 161), (4, 5), (5, 5), (6, 162), (7, 163), (8, 164), (9, 165), (10, 166)] 11 [.int .u64 0, .int .u64 0, .int .u32 0, .int .u8 0, .int .u8 0, .int .u8 0, .int .u8 0, .nilFunc, .pointer none, .int .i32 0, .int .i32 0]) ∧ E.eqs 86 = some 3 ∧ E.eqs 87 = some 3 ∧ E.eqs 104 = some 3 :=
  ⟨rfl, rfl, rfl, rfl, rfl, rfl, rfl, rfl, rfl, rfl, rfl, rfl, rfl, rfl, rfl, rfl, rfl, rfl, rfl, rfl, rfl, rfl, rfl, rfl, rfl, rfl, rfl, rfl, rfl, rfl, rfl, rfl, rfl, rfl, rfl, rfl, rfl, rfl, rfl, rfl, rfl, rfl, rfl, rfl, rfl, rfl, rfl, rfl, rfl, rfl, rfl, rfl, rfl, rfl, rfl, rfl, rfl, rfl, rfl, rfl, rfl, rfl, rfl, rfl, rfl, rfl, rfl, rfl, rfl, rfl, rfl, rfl, rfl, rfl, rfl, rfl, rfl, rfl, rfl, rfl, rfl, rfl, rfl, rfl, rfl, rfl, rfl, rfl, rfl, rfl, rfl, rfl, rfl, rfl, rfl, rfl, rfl, rfl, rfl, rfl, rfl, rfl, rfl, rfl, rfl, rfl, rfl, rfl, rfl, rfl, rfl, rfl, rfl, rfl, rfl, rfl, rfl, rfl, rfl, rfl, rfl, rfl, rfl, rfl, rfl, rfl, rfl, rfl, rfl, rfl, rfl, rfl, rfl, rfl, rfl, rfl, rfl, rfl, rfl, rfl, rfl, rfl, rfl, rfl, rfl, rfl, rfl, rfl, rfl, rfl, rfl, rfl, rfl, rfl, rfl, rfl, rfl, rfl, rfl, rfl⟩
end Go.Ax
