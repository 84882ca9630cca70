/-
  What is proved here: closed facts on the rows of the translation's types and functions, as instances for the calculus. Written by a program (wip/types.py); the operations that make memory (slice literals, make, append), and what a slice holds, as predicates on worlds. No function of the program stands here; what it is for a slice to hold numbers, and what the laws' helpers on such slices do: eqIntS, markIntS, heldIntS, bcInts; what it is for memory to hold data with depth (statements, cells, tags), as predicates on worlds with the blocks that are met; that they are kept; struct literals; what the program's and the reference's functions on numbers of lists of choices compute (within, isLength, choicesOf, ChoicesOf; l8Runs, l8Choices, ChoicesOf), IsReference, SmallTests.
-/
import Derived.Test.YtplcmbipeanjdaaGreatDoorProg
import Derived.Test.YtplcmbipeanjdaaGreatDoorM2
import Derived.Great.FillDense
import Derived.Great.BuildSlice
import Derived.Laws.MakeOwn
namespace Go.Proofs.YtplcmbipeanjdaaGreatDoor
instance t1_2 : T1 Tryz.prog 2 := ⟨by kernel_rfl⟩      -- int64
instance tint_2 : TInt Tryz.prog 2 .i64 := ⟨by kernel_rfl⟩
instance te_2 : TE Tryz.prog 2 (.int .i64 0) 1 8 := ⟨by kernel_rfl, rfl⟩      -- int64
instance t1_3 : T1 Tryz.prog 3 := ⟨by kernel_rfl⟩      -- int
instance tint_3 : TInt Tryz.prog 3 .i64 := ⟨by kernel_rfl⟩
instance te_3 : TE Tryz.prog 3 (.int .i64 0) 1 8 := ⟨by kernel_rfl, rfl⟩      -- int
instance t1_4 : T1 Tryz.prog 4 := ⟨by kernel_rfl⟩      -- bool
instance tbool_4 : TBool Tryz.prog 4 := ⟨by kernel_rfl⟩
instance te_4 : TE Tryz.prog 4 (.bool false) 1 1 := ⟨by kernel_rfl, rfl⟩      -- bool
instance t1_5 : T1 Tryz.prog 5 := ⟨by kernel_rfl⟩      -- uint8
instance tint_5 : TInt Tryz.prog 5 .u8 := ⟨by kernel_rfl⟩
instance te_5 : TE Tryz.prog 5 (.int .u8 0) 1 1 := ⟨by kernel_rfl, rfl⟩      -- uint8
instance t1_9 : T1 Tryz.prog 9 := ⟨by kernel_rfl⟩      -- string
instance tstr_9 : TStr Tryz.prog 9 := ⟨by kernel_rfl⟩
instance te_9 : TE Tryz.prog 9 (.string ByteArray.empty) 1 16 := ⟨by kernel_rfl, rfl⟩      -- string
instance t1_12 : T1 Tryz.prog 12 := ⟨by kernel_rfl⟩      -- uintptr
instance tint_12 : TInt Tryz.prog 12 .u64 := ⟨by kernel_rfl⟩
instance te_12 : TE Tryz.prog 12 (.int .u64 0) 1 8 := ⟨by kernel_rfl, rfl⟩      -- uintptr
instance ts_13 : TS Tryz.prog 13 2 := ⟨by kernel_rfl⟩      -- struct { msg string; addr uintptr }
instance te_13 : TE Tryz.prog 13 (.agg #[.string ByteArray.empty, .int .u64 0]) 2 24 := ⟨by kernel_rfl, rfl⟩      -- struct { msg string; addr uintptr }
instance t1_21 : T1 Tryz.prog 21 := ⟨by kernel_rfl⟩      -- int32
instance tint_21 : TInt Tryz.prog 21 .i32 := ⟨by kernel_rfl⟩
instance te_21 : TE Tryz.prog 21 (.int .i32 0) 1 4 := ⟨by kernel_rfl, rfl⟩      -- int32
instance t1_22 : T1 Tryz.prog 22 := ⟨by kernel_rfl⟩      -- []uint8
instance tsl_22 : TSl Tryz.prog 22 5 1 := ⟨by kernel_rfl, by kernel_rfl⟩      -- []uint8
instance te_22 : TE Tryz.prog 22 (.slice none 0 0) 1 24 := ⟨by kernel_rfl, rfl⟩      -- []uint8
instance t1_23 : T1 Tryz.prog 23 := ⟨by kernel_rfl⟩      -- []int
instance tsl_23 : TSl Tryz.prog 23 3 1 := ⟨by kernel_rfl, by kernel_rfl⟩      -- []int
instance te_23 : TE Tryz.prog 23 (.slice none 0 0) 1 24 := ⟨by kernel_rfl, rfl⟩      -- []int
instance t1_24 : T1 Tryz.prog 24 := ⟨by kernel_rfl⟩      -- []impl.Stmt
instance tsl_24 : TSl Tryz.prog 24 59 6 := ⟨by kernel_rfl, by kernel_rfl⟩      -- []impl.Stmt
instance te_24 : TE Tryz.prog 24 (.slice none 0 0) 1 24 := ⟨by kernel_rfl, rfl⟩      -- []impl.Stmt
instance ts_25 : TS Tryz.prog 25 2 := ⟨by kernel_rfl⟩      -- struct { Types []int; Body []impl.Stmt }
instance te_25 : TE Tryz.prog 25 (.agg #[.slice none 0 0, .slice none 0 0]) 2 48 := ⟨by kernel_rfl, rfl⟩      -- struct { Types []int; Body []impl.Stmt }
instance ts_26 : TS Tryz.prog 26 2 := ⟨by kernel_rfl⟩      -- impl.Program
instance te_26 : TE Tryz.prog 26 (.agg #[.slice none 0 0, .slice none 0 0]) 2 48 := ⟨by kernel_rfl, rfl⟩      -- impl.Program
instance t1_38 : T1 Tryz.prog 38 := ⟨by kernel_rfl⟩      -- *impl.reader
instance te_38 : TE Tryz.prog 38 (.pointer none) 1 8 := ⟨by kernel_rfl, rfl⟩      -- *impl.reader
instance ts_39 : TS Tryz.prog 39 2 := ⟨by kernel_rfl⟩      -- struct { s string; bad bool }
instance te_39 : TE Tryz.prog 39 (.agg #[.string ByteArray.empty, .bool false]) 2 24 := ⟨by kernel_rfl, rfl⟩      -- struct { s string; bad bool }
instance ts_40 : TS Tryz.prog 40 2 := ⟨by kernel_rfl⟩      -- impl.reader
instance te_40 : TE Tryz.prog 40 (.agg #[.string ByteArray.empty, .bool false]) 2 24 := ⟨by kernel_rfl, rfl⟩      -- impl.reader
instance t1_44 : T1 Tryz.prog 44 := ⟨by kernel_rfl⟩      -- *int
instance te_44 : TE Tryz.prog 44 (.pointer none) 1 8 := ⟨by kernel_rfl, rfl⟩      -- *int
instance t1_49 : T1 Tryz.prog 49 := ⟨by kernel_rfl⟩      -- *spec.l17Rd
instance te_49 : TE Tryz.prog 49 (.pointer none) 1 8 := ⟨by kernel_rfl, rfl⟩      -- *spec.l17Rd
instance t1_53 : T1 Tryz.prog 53 := ⟨by kernel_rfl⟩      -- []string
instance tsl_53 : TSl Tryz.prog 53 9 1 := ⟨by kernel_rfl, by kernel_rfl⟩      -- []string
instance te_53 : TE Tryz.prog 53 (.slice none 0 0) 1 24 := ⟨by kernel_rfl, rfl⟩      -- []string
instance ts_58 : TS Tryz.prog 58 6 := ⟨by kernel_rfl⟩      -- struct { Op int; X int; Y int; N int; Then []impl.Stmt; Else []impl.Stmt }
instance te_58 : TE Tryz.prog 58 (.agg #[.int .i64 0, .int .i64 0, .int .i64 0, .int .i64 0, .slice none 0 0, .slice none 0 0]) 6 80 := ⟨by kernel_rfl, rfl⟩      -- struct { Op int; X int; Y int; N int; Then []impl.Stmt; Else []impl.Stmt }
instance ts_59 : TS Tryz.prog 59 6 := ⟨by kernel_rfl⟩      -- impl.Stmt
instance te_59 : TE Tryz.prog 59 (.agg #[.int .i64 0, .int .i64 0, .int .i64 0, .int .i64 0, .slice none 0 0, .slice none 0 0]) 6 80 := ⟨by kernel_rfl, rfl⟩      -- impl.Stmt
instance ts_69 : TS Tryz.prog 69 2 := ⟨by kernel_rfl⟩      -- struct { b []uint8; p int }
instance te_69 : TE Tryz.prog 69 (.agg #[.slice none 0 0, .int .i64 0]) 2 32 := ⟨by kernel_rfl, rfl⟩      -- struct { b []uint8; p int }
instance ts_70 : TS Tryz.prog 70 2 := ⟨by kernel_rfl⟩      -- spec.l17Rd
instance te_70 : TE Tryz.prog 70 (.agg #[.slice none 0 0, .int .i64 0]) 2 32 := ⟨by kernel_rfl, rfl⟩      -- spec.l17Rd
instance t1_93 : T1 Tryz.prog 93 := ⟨by kernel_rfl⟩      -- *strings.Builder
instance te_93 : TE Tryz.prog 93 (.pointer none) 1 8 := ⟨by kernel_rfl, rfl⟩      -- *strings.Builder
instance ts_94 : TS Tryz.prog 94 2 := ⟨by kernel_rfl⟩      -- struct { addr *strings.Builder; buf []uint8 }
instance te_94 : TE Tryz.prog 94 (.agg #[.pointer none, .slice none 0 0]) 2 32 := ⟨by kernel_rfl, rfl⟩      -- struct { addr *strings.Builder; buf []uint8 }
instance ts_95 : TS Tryz.prog 95 2 := ⟨by kernel_rfl⟩      -- strings.Builder
instance te_95 : TE Tryz.prog 95 (.agg #[.pointer none, .slice none 0 0]) 2 32 := ⟨by kernel_rfl, rfl⟩      -- strings.Builder
instance t1_102 : T1 Tryz.prog 102 := ⟨by kernel_rfl⟩      -- uint
instance tint_102 : TInt Tryz.prog 102 .u64 := ⟨by kernel_rfl⟩
instance te_102 : TE Tryz.prog 102 (.int .u64 0) 1 8 := ⟨by kernel_rfl, rfl⟩      -- uint
instance t1_105 : T1 Tryz.prog 105 := ⟨by kernel_rfl⟩      -- *uint8
instance te_105 : TE Tryz.prog 105 (.pointer none) 1 8 := ⟨by kernel_rfl, rfl⟩      -- *uint8
instance t1_106 : T1 Tryz.prog 106 := ⟨by kernel_rfl⟩      -- uint32
instance tint_106 : TInt Tryz.prog 106 .u32 := ⟨by kernel_rfl⟩
instance te_106 : TE Tryz.prog 106 (.int .u32 0) 1 4 := ⟨by kernel_rfl, rfl⟩      -- uint32
instance tarr_114 : TArr Tryz.prog 114 24 5 1 := ⟨by kernel_rfl, by kernel_rfl, by kernel_rfl⟩      -- [24]uint8
instance te_114 : TE Tryz.prog 114 (.agg #[.int .u8 0, .int .u8 0, .int .u8 0, .int .u8 0, .int .u8 0, .int .u8 0, .int .u8 0, .int .u8 0, .int .u8 0, .int .u8 0, .int .u8 0, .int .u8 0, .int .u8 0, .int .u8 0, .int .u8 0, .int .u8 0, .int .u8 0, .int .u8 0, .int .u8 0, .int .u8 0, .int .u8 0, .int .u8 0, .int .u8 0, .int .u8 0]) 24 24 := ⟨by kernel_rfl, rfl⟩      -- [24]uint8
instance t1_115 : T1 Tryz.prog 115 := ⟨by kernel_rfl⟩      -- uint64
instance tint_115 : TInt Tryz.prog 115 .u64 := ⟨by kernel_rfl⟩
instance te_115 : TE Tryz.prog 115 (.int .u64 0) 1 8 := ⟨by kernel_rfl, rfl⟩      -- uint64
instance tarr_121 : TArr Tryz.prog 121 20 115 1 := ⟨by kernel_rfl, by kernel_rfl, by kernel_rfl⟩      -- [20]uint64
instance te_121 : TE Tryz.prog 121 (.agg #[.int .u64 0, .int .u64 0, .int .u64 0, .int .u64 0, .int .u64 0, .int .u64 0, .int .u64 0, .int .u64 0, .int .u64 0, .int .u64 0, .int .u64 0, .int .u64 0, .int .u64 0, .int .u64 0, .int .u64 0, .int .u64 0, .int .u64 0, .int .u64 0, .int .u64 0, .int .u64 0]) 20 160 := ⟨by kernel_rfl, rfl⟩      -- [20]uint64
instance tarr_122 : TArr Tryz.prog 122 65 5 1 := ⟨by kernel_rfl, by kernel_rfl, by kernel_rfl⟩      -- [65]uint8
instance te_122 : TE Tryz.prog 122 (.agg #[.int .u8 0, .int .u8 0, .int .u8 0, .int .u8 0, .int .u8 0, .int .u8 0, .int .u8 0, .int .u8 0, .int .u8 0, .int .u8 0, .int .u8 0, .int .u8 0, .int .u8 0, .int .u8 0, .int .u8 0, .int .u8 0, .int .u8 0, .int .u8 0, .int .u8 0, .int .u8 0, .int .u8 0, .int .u8 0, .int .u8 0, .int .u8 0, .int .u8 0, .int .u8 0, .int .u8 0, .int .u8 0, .int .u8 0, .int .u8 0, .int .u8 0, .int .u8 0, .int .u8 0, .int .u8 0, .int .u8 0, .int .u8 0, .int .u8 0, .int .u8 0, .int .u8 0, .int .u8 0, .int .u8 0, .int .u8 0, .int .u8 0, .int .u8 0, .int .u8 0, .int .u8 0, .int .u8 0, .int .u8 0, .int .u8 0, .int .u8 0, .int .u8 0, .int .u8 0, .int .u8 0, .int .u8 0, .int .u8 0, .int .u8 0, .int .u8 0, .int .u8 0, .int .u8 0, .int .u8 0, .int .u8 0, .int .u8 0, .int .u8 0, .int .u8 0, .int .u8 0]) 65 65 := ⟨by kernel_rfl, rfl⟩      -- [65]uint8
instance tarr_125 : TArr Tryz.prog 125 32 5 1 := ⟨by kernel_rfl, by kernel_rfl, by kernel_rfl⟩      -- [32]uint8
instance te_125 : TE Tryz.prog 125 (.agg #[.int .u8 0, .int .u8 0, .int .u8 0, .int .u8 0, .int .u8 0, .int .u8 0, .int .u8 0, .int .u8 0, .int .u8 0, .int .u8 0, .int .u8 0, .int .u8 0, .int .u8 0, .int .u8 0, .int .u8 0, .int .u8 0, .int .u8 0, .int .u8 0, .int .u8 0, .int .u8 0, .int .u8 0, .int .u8 0, .int .u8 0, .int .u8 0, .int .u8 0, .int .u8 0, .int .u8 0, .int .u8 0, .int .u8 0, .int .u8 0, .int .u8 0, .int .u8 0]) 32 32 := ⟨by kernel_rfl, rfl⟩      -- [32]uint8
instance tarr_126 : TArr Tryz.prog 126 64 5 1 := ⟨by kernel_rfl, by kernel_rfl, by kernel_rfl⟩      -- [64]uint8
instance te_126 : TE Tryz.prog 126 (.agg #[.int .u8 0, .int .u8 0, .int .u8 0, .int .u8 0, .int .u8 0, .int .u8 0, .int .u8 0, .int .u8 0, .int .u8 0, .int .u8 0, .int .u8 0, .int .u8 0, .int .u8 0, .int .u8 0, .int .u8 0, .int .u8 0, .int .u8 0, .int .u8 0, .int .u8 0, .int .u8 0, .int .u8 0, .int .u8 0, .int .u8 0, .int .u8 0, .int .u8 0, .int .u8 0, .int .u8 0, .int .u8 0, .int .u8 0, .int .u8 0, .int .u8 0, .int .u8 0, .int .u8 0, .int .u8 0, .int .u8 0, .int .u8 0, .int .u8 0, .int .u8 0, .int .u8 0, .int .u8 0, .int .u8 0, .int .u8 0, .int .u8 0, .int .u8 0, .int .u8 0, .int .u8 0, .int .u8 0, .int .u8 0, .int .u8 0, .int .u8 0, .int .u8 0, .int .u8 0, .int .u8 0, .int .u8 0, .int .u8 0, .int .u8 0, .int .u8 0, .int .u8 0, .int .u8 0, .int .u8 0, .int .u8 0, .int .u8 0, .int .u8 0, .int .u8 0]) 64 64 := ⟨by kernel_rfl, rfl⟩      -- [64]uint8
instance fn_3 : Fn0 Tryz.prog 3 := ⟨by kernel_rfl⟩      -- loop.example/borrowcheck/laws.FnProgramText
instance fn_4 : Fn0 Tryz.prog 4 := ⟨by kernel_rfl⟩      -- loop.example/borrowcheck/spec.DrawFormatProgram
instance fn_5 : Fn0 Tryz.prog 5 := ⟨by kernel_rfl⟩      -- loop.example/borrowcheck/impl.FormatProgram
instance fn_6 : Fn0 Tryz.prog 6 := ⟨by kernel_rfl⟩      -- loop.example/borrowcheck/impl.ParseProgram
instance fn_7 : Fn0 Tryz.prog 7 := ⟨by kernel_rfl⟩      -- loop.example/borrowcheck/impl.ProgramValid
instance fn_8 : Fn0 Tryz.prog 8 := ⟨by kernel_rfl⟩      -- loop.example/borrowcheck/spec.FormatProgram
instance fn_9 : Fn0 Tryz.prog 9 := ⟨by kernel_rfl⟩      -- loop.example/borrowcheck/spec.ProgramValid
instance fn_10 : Fn0 Tryz.prog 10 := ⟨by kernel_rfl⟩      -- loop.example/borrowcheck/impl.ProgramSame
instance fn_11 : Fn0 Tryz.prog 11 := ⟨by kernel_rfl⟩      -- loop.example/borrowcheck/spec.DrawParseProgram
instance fn_12 : Fn0 Tryz.prog 12 := ⟨by kernel_rfl⟩      -- loop.example/borrowcheck/spec.ParseProgram
instance fn_13 : Fn0 Tryz.prog 13 := ⟨by kernel_rfl⟩      -- loop.example/borrowcheck/spec.DrawProgramValid
instance fn_14 : Fn0 Tryz.prog 14 := ⟨by kernel_rfl⟩      -- loop.example/borrowcheck/impl.programText
instance fn_15 : Fn0 Tryz.prog 15 := ⟨by kernel_rfl⟩      -- strings.Cut
instance fn_16 : Fn0 Tryz.prog 16 := ⟨by kernel_rfl⟩      -- strings.IndexByte
instance fn_17 : Fn0 Tryz.prog 17 := ⟨by kernel_rfl⟩      -- (*loop.example/borrowcheck/impl.reader).stmts
instance fn_18 : Fn0 Tryz.prog 18 := ⟨by kernel_rfl⟩      -- loop.example/borrowcheck/impl.typesOk
instance fn_19 : Fn0 Tryz.prog 19 := ⟨by kernel_rfl⟩      -- loop.example/borrowcheck/impl.scanAll
instance fn_20 : Fn0 Tryz.prog 20 := ⟨by kernel_rfl⟩      -- loop.example/borrowcheck/spec.l1Program
instance fn_21 : Fn0 Tryz.prog 21 := ⟨by kernel_rfl⟩      -- loop.example/borrowcheck/spec.l1Types
instance fn_22 : Fn0 Tryz.prog 22 := ⟨by kernel_rfl⟩      -- loop.example/borrowcheck/spec.l1Body
instance fn_23 : Fn0 Tryz.prog 23 := ⟨by kernel_rfl⟩      -- loop.example/borrowcheck/spec.l1Count
instance fn_24 : Fn0 Tryz.prog 24 := ⟨by kernel_rfl⟩      -- slices.Equal[[]int,int]
instance fn_25 : Fn0 Tryz.prog 25 := ⟨by kernel_rfl⟩      -- loop.example/borrowcheck/impl.sameStmts
instance fn_26 : Fn0 Tryz.prog 26 := ⟨by kernel_rfl⟩      -- loop.example/borrowcheck/spec.l17Open
instance fn_27 : Fn0 Tryz.prog 27 := ⟨by kernel_rfl⟩      -- loop.example/borrowcheck/spec.l1Bend
instance fn_28 : Fn0 Tryz.prog 28 := ⟨by kernel_rfl⟩      -- loop.example/borrowcheck/spec.l1Draw
instance fn_29 : Fn0 Tryz.prog 29 := ⟨by kernel_rfl⟩      -- loop.example/borrowcheck/spec.l1ParseList
instance fn_30 : Fn0 Tryz.prog 30 := ⟨by kernel_rfl⟩      -- loop.example/borrowcheck/spec.l1Mutate
instance fn_31 : Fn0 Tryz.prog 31 := ⟨by kernel_rfl⟩      -- loop.example/borrowcheck/impl.stmtsText
instance fn_32 : Fn0 Tryz.prog 32 := ⟨by kernel_rfl⟩      -- internal/stringslite.Cut
instance fn_33 : Fn0 Tryz.prog 33 := ⟨by kernel_rfl⟩      -- internal/stringslite.IndexByte
instance fn_34 : Fn0 Tryz.prog 34 := ⟨by kernel_rfl⟩      -- (*loop.example/borrowcheck/impl.reader).stmt
instance fn_35 : Fn0 Tryz.prog 35 := ⟨by kernel_rfl⟩      -- (*loop.example/borrowcheck/impl.reader).has
instance fn_36 : Fn0 Tryz.prog 36 := ⟨by kernel_rfl⟩      -- slices.ContainsFunc[[]int,int]
instance fn_37 : Fn0 Tryz.prog 37 := ⟨by kernel_rfl⟩      -- loop.example/borrowcheck/impl.typesOk$1
instance fn_38 : Fn0 Tryz.prog 38 := ⟨by kernel_rfl⟩      -- loop.example/borrowcheck/impl.within
instance fn_39 : Fn0 Tryz.prog 39 := ⟨by kernel_rfl⟩      -- loop.example/borrowcheck/impl.scan
instance fn_40 : Fn0 Tryz.prog 40 := ⟨by kernel_rfl⟩      -- loop.example/borrowcheck/spec.l1List
instance fn_41 : Fn0 Tryz.prog 41 := ⟨by kernel_rfl⟩      -- loop.example/borrowcheck/spec.l1Stmt
instance fn_42 : Fn0 Tryz.prog 42 := ⟨by kernel_rfl⟩      -- slices.EqualFunc[[]loop.example/borrowcheck/impl.Stmt,[]loop.example/borrowcheck/impl.Stmt,loop.example/borrowcheck/impl.Stmt,loop.example/borrowcheck/impl.Stmt]
instance fn_43 : Fn0 Tryz.prog 43 := ⟨by kernel_rfl⟩      -- loop.example/borrowcheck/impl.sameStmts$1
instance fn_44 : Fn0 Tryz.prog 44 := ⟨by kernel_rfl⟩      -- (*loop.example/borrowcheck/spec.l17Rd).pick
instance fn_45 : Fn0 Tryz.prog 45 := ⟨by kernel_rfl⟩      -- (*loop.example/borrowcheck/spec.l17Rd).of
instance fn_46 : Fn0 Tryz.prog 46 := ⟨by kernel_rfl⟩      -- loop.example/borrowcheck/spec.l1Texts
instance fn_47 : Fn0 Tryz.prog 47 := ⟨by kernel_rfl⟩      -- loop.example/borrowcheck/spec.l1Some
instance fn_48 : Fn0 Tryz.prog 48 := ⟨by kernel_rfl⟩      -- (*loop.example/borrowcheck/spec.l17Rd).num
instance fn_49 : Fn0 Tryz.prog 49 := ⟨by kernel_rfl⟩      -- loop.example/borrowcheck/spec.l1At
instance fn_50 : Fn0 Tryz.prog 50 := ⟨by kernel_rfl⟩      -- loop.example/borrowcheck/spec.l1Parse
instance fn_51 : Fn0 Tryz.prog 51 := ⟨by kernel_rfl⟩      -- loop.example/borrowcheck/spec.l1CopyOf
instance fn_52 : Fn0 Tryz.prog 52 := ⟨by kernel_rfl⟩      -- loop.example/borrowcheck/impl.simpleText
instance fn_53 : Fn0 Tryz.prog 53 := ⟨by kernel_rfl⟩      -- strings.Join
instance fn_54 : Fn0 Tryz.prog 54 := ⟨by kernel_rfl⟩      -- internal/stringslite.Index
instance fn_56 : Fn0 Tryz.prog 56 := ⟨by kernel_rfl⟩      -- (*loop.example/borrowcheck/impl.reader).skip
instance fn_57 : Fn0 Tryz.prog 57 := ⟨by kernel_rfl⟩      -- (*loop.example/borrowcheck/impl.reader).variable
instance fn_58 : Fn0 Tryz.prog 58 := ⟨by kernel_rfl⟩      -- (*loop.example/borrowcheck/impl.reader).number
instance fn_59 : Fn0 Tryz.prog 59 := ⟨by kernel_rfl⟩      -- strings.CutPrefix
instance fn_60 : Fn0 Tryz.prog 60 := ⟨by kernel_rfl⟩      -- slices.IndexFunc[[]int,int]
instance fn_61 : Fn0 Tryz.prog 61 := ⟨by kernel_rfl⟩      -- loop.example/borrowcheck/impl.isBranch
instance fn_62 : Fn0 Tryz.prog 62 := ⟨by kernel_rfl⟩      -- loop.example/borrowcheck/impl.simpleOk
instance fn_63 : Fn0 Tryz.prog 63 := ⟨by kernel_rfl⟩      -- loop.example/borrowcheck/spec.l1Text
instance fn_64 : Fn0 Tryz.prog 64 := ⟨by kernel_rfl⟩      -- loop.example/borrowcheck/spec.l1Simple
instance fn_65 : Fn0 Tryz.prog 65 := ⟨by kernel_rfl⟩      -- loop.example/borrowcheck/spec.l1One
instance fn_66 : Fn0 Tryz.prog 66 := ⟨by kernel_rfl⟩      -- loop.example/borrowcheck/spec.l1Var
instance fn_67 : Fn0 Tryz.prog 67 := ⟨by kernel_rfl⟩      -- loop.example/borrowcheck/spec.l1Braces
instance fn_68 : Fn0 Tryz.prog 68 := ⟨by kernel_rfl⟩      -- loop.example/borrowcheck/spec.l1Digit
instance fn_69 : Fn0 Tryz.prog 69 := ⟨by kernel_rfl⟩      -- loop.example/borrowcheck/spec.l1Copy
instance fn_70 : Fn0 Tryz.prog 70 := ⟨by kernel_rfl⟩      -- loop.example/borrowcheck/impl.letter
instance fn_71 : Fn0 Tryz.prog 71 := ⟨by kernel_rfl⟩      -- strconv.Itoa
instance fn_72 : Fn0 Tryz.prog 72 := ⟨by kernel_rfl⟩      -- (*strings.Builder).Grow
instance fn_73 : Fn0 Tryz.prog 73 := ⟨by kernel_rfl⟩      -- (*strings.Builder).WriteString
instance fn_74 : Fn0 Tryz.prog 74 := ⟨by kernel_rfl⟩      -- (*strings.Builder).String
instance fn_76 : Fn0 Tryz.prog 76 := ⟨by kernel_rfl⟩      -- internal/bytealg.Cutover
instance fn_77 : Fn0 Tryz.prog 77 := ⟨by kernel_rfl⟩      -- internal/bytealg.IndexRabinKarp[string]
instance fn_78 : Fn0 Tryz.prog 78 := ⟨by kernel_rfl⟩      -- (*loop.example/borrowcheck/impl.reader).from
instance fn_79 : Fn0 Tryz.prog 79 := ⟨by kernel_rfl⟩      -- internal/stringslite.CutPrefix
instance fn_80 : Fn0 Tryz.prog 80 := ⟨by kernel_rfl⟩      -- loop.example/borrowcheck/impl.typeOf
instance fn_81 : Fn0 Tryz.prog 81 := ⟨by kernel_rfl⟩      -- loop.example/borrowcheck/impl.isHolder
instance fn_82 : Fn0 Tryz.prog 82 := ⟨by kernel_rfl⟩      -- loop.example/borrowcheck/spec.l1Letter
instance fn_83 : Fn0 Tryz.prog 83 := ⟨by kernel_rfl⟩      -- loop.example/borrowcheck/spec.l17Dec
instance fn_84 : Fn0 Tryz.prog 84 := ⟨by kernel_rfl⟩      -- loop.example/borrowcheck/spec.l1Type
instance fn_85 : Fn0 Tryz.prog 85 := ⟨by kernel_rfl⟩      -- internal/strconv.Itoa
instance fn_86 : Fn0 Tryz.prog 86 := ⟨by kernel_rfl⟩      -- (*strings.Builder).copyCheck
instance fn_87 : Fn0 Tryz.prog 87 := ⟨by kernel_rfl⟩      -- (*strings.Builder).grow
instance fn_88 : Fn0 Tryz.prog 88 := ⟨by kernel_rfl⟩      -- internal/bytealg.hashStr[string]
instance fn_89 : Fn0 Tryz.prog 89 := ⟨by kernel_rfl⟩      -- internal/stringslite.HasPrefix
instance fn_90 : Fn0 Tryz.prog 90 := ⟨by kernel_rfl⟩      -- loop.example/borrowcheck/impl.IsReference
instance fn_91 : Fn0 Tryz.prog 91 := ⟨by kernel_rfl⟩      -- internal/strconv.FormatInt
instance fn_94 : Fn0 Tryz.prog 94 := ⟨by kernel_rfl⟩      -- internal/strconv.small
instance fn_95 : Fn0 Tryz.prog 95 := ⟨by kernel_rfl⟩      -- internal/strconv.numDigits
instance fn_96 : Fn0 Tryz.prog 96 := ⟨by kernel_rfl⟩      -- internal/strconv.formatBase10
instance fn_97 : Fn0 Tryz.prog 97 := ⟨by kernel_rfl⟩      -- internal/strconv.formatBits
instance fn_98 : Fn0 Tryz.prog 98 := ⟨by kernel_rfl⟩      -- internal/strconv.log10Pow2
instance fn_99 : Fn0 Tryz.prog 99 := ⟨by kernel_rfl⟩      -- math/bits.Len64
instance fn_100 : Fn0 Tryz.prog 100 := ⟨by kernel_rfl⟩      -- internal/strconv.bool2[int]
instance fn_101 : Fn0 Tryz.prog 101 := ⟨by kernel_rfl⟩      -- internal/strconv.isPowerOfTwo
instance fn_102 : Fn0 Tryz.prog 102 := ⟨by kernel_rfl⟩      -- math/bits.TrailingZeros
instance fn_103 : Fn0 Tryz.prog 103 := ⟨by kernel_rfl⟩      -- math/bits.TrailingZeros32
instance fn_104 : Fn0 Tryz.prog 104 := ⟨by kernel_rfl⟩      -- math/bits.TrailingZeros64
end Go.Proofs.YtplcmbipeanjdaaGreatDoor
namespace Go.Proofs.YtplcmbipeanjdaaGreatDoor
set_option linter.unusedVariables false
set_option linter.unusedSimpArgs false
set_option linter.unnecessarySimpa false
open Go.RowKit

section
variable {P : Program} {n : Nat} {ops : Array Oper} {Q : Exit → Act → World → Prop} {rest : List Oper} {σ : Env} {w w' : World} {v u : Value}
variable {d : Nat} {ty : TypeId} {pos : String} {af : Array Edge} {x y s : Operand}

theorem TE.row {e : TypeId} {z : Value} {k bytes : Nat} (h : TE P e z k bytes) : ∃ i, P.info? e = some i ∧ i.zero = some z ∧ i.size = k ∧ i.bytes = bytes := by
  have := h.info
  cases hi : P.info? e with
  | none => simp [hi] at this
  | some i => simp [hi] at this; exact ⟨i, rfl, this.1, this.2.1, this.2.2⟩

/-- A slice literal without elements. -/
theorem WO_build0 {t e k : Nat} [TSl P t e k]
    (h : ∀ w', Blk w' w.heap.size [] e → Ext w w' → w'.heap.size = w.heap.size + 1 → WO P n ops Q rest ((d, .slice (some ⟨w.heap.size, 0, none⟩) 0 0) :: σ) w') :
    WO P n ops Q (⟨some d, .buildSlice t 0 #[], ty, pos, af, none⟩ :: rest) σ w :=
  WO.value rfl (w' := w.alloc (.cells #[] e)) ⟨fun m c hf => by
    have hr : (Array.range 0).map (fun _ : Nat => (default : Value)) = #[] := by simp [Array.range]
    simp [execOp, Instr.buildSlice, run_underlying (TSl.und (P := P) (t := t) (e := e) (k := k)), TSl.run_sizeOf (P := P) (t := t) (e := e) (k := k) inferInstance, Instr.fill, newRow, hr]⟩
    (h _ (Blk.alloc w #[] e) (ext_alloc w _) (by simp))

theorem parts_run {a : Act} (hf : Fits n σ a) {parts : List (Nat × Operand)} {xs : List Operand} {vs : List Value} (hp : parts = (xs.zipIdx 0).map fun x => (x.2, x.1)) (hv : evs σ xs = some vs) :
    (parts.map fun (i, x) => (i, a.eval x)) = (vs.zipIdx 0).map fun x => (x.2, x.1) := by
  have h1 := fits_evs hf hv
  subst hp
  rw [← h1, List.zipIdx_map, List.map_map, List.map_map]
  rfl

/-- A slice literal whose elements are all given, in order. -/
theorem WO_build {t e k bytes len : Nat} {z : Value} [TSl P t e k] [TE P e z k bytes] {parts : Array (Nat × Operand)} (xs : List Operand) {vs cs : List Value}
    (hp : parts.toList = (xs.zipIdx 0).map fun x => (x.2, x.1)) (hv : evs σ xs = some vs) (hlen : vs.length = len) (hpos : Nat.ble 1 (len * k) = true) (hsmall : Nat.ble (len * k) 16777216 = true)
    (hk : ∀ v ∈ vs, v.cells.size = k) (hcs : (vs.flatMap fun v => v.cells.toList) = cs)
    (h : ∀ w', Blk w' w.heap.size cs e → Ext w w' → w'.heap.size = w.heap.size + 1 → WO P n ops Q rest ((d, .slice (some ⟨w.heap.size, 0, none⟩) len len) :: σ) w') :
    WO P n ops Q (⟨some d, .buildSlice t len parts, ty, pos, af, none⟩ :: rest) σ w := by
  obtain ⟨i, hi, hz, hsz, _⟩ := TE.row (P := P) (e := e) (z := z) (k := k) (bytes := bytes) inferInstance
  have hpos := Nat.le_of_ble_eq_true hpos
  have hsmall := Nat.le_of_ble_eq_true hsmall
  have hkp : 0 < k := by
    rcases Nat.eq_zero_or_pos k with h0 | h0
    · subst h0; simp at hpos
    · exact h0
  refine WO.value rfl (w' := w.alloc (.cells cs.toArray e)) ⟨fun m c hf => ?_⟩ (h _ (by simpa using Blk.alloc w cs.toArray e) (ext_alloc w _) (by simp))
  have hfill := Great.fill_whole hkp vs ((Array.range (len * i.size)).map (z.cells[· % z.cells.size]!)) hk (by simp [hlen, hsz])
  rw [hcs] at hfill
  have e1 : (parts.map fun (i, x) => (i, c.eval x)).toList = (vs.zipIdx 0).map fun x => (x.2, x.1) := by
    rw [Array.toList_map]; exact parts_run hf hp hv
  have hr := run_buildSlice (P := P) w t e len (parts.map fun (i, x) => (i, c.eval x)) cs.toArray i z (TSl.und (P := P) (t := t) (e := e) (k := k)) hi hz (by rw [hsz]; omega) (by rw [hsz]; omega)
    (by rw [e1, ← hfill, hsz])
  simp only [execOp, Sem.run_bind, hr, Result.andThen_ok, Sem.run_pure]

/-- append onto a slice of the call's own. -/
theorem WO_append {t e k bytes B m mm c b o : Nat} {z : Value} [TSl P t e k] [TE P e z k bytes] {xs news : List Value}
    (hs : ev σ s = some v) (hown : w.ownsRow B e k v m xs) (hx : ev σ x = some (.slice (some ⟨b, o, none⟩) mm c)) (hl : news.length = mm * k)
    (hc : ∀ j u, news[j]? = some u → w.cell? ⟨b, o + j, none⟩ = some u) (h1 : ∀ u ∈ news, u.oneCell' = true) (hB : B ≤ w.heap.size) (hk : 0 < k) (hm : m + mm ≤ 1000000000000) (hby : bytes ≤ 100)
    (h : ∀ v' w', w'.ownsRow B e k v' (m + mm) (xs ++ news) → w.grownBy w' v.ownBlock → (v'.ownBlock = v.ownBlock ∨ v'.ownBlock = some w.heap.size) → WO P n ops Q rest ((d, v') :: σ) w') :
    WO P n ops Q (⟨some d, .call ⟨.builtin .append, #[s, x], #[t, t]⟩, ty, pos, af, none⟩ :: rest) σ w := by
  obtain ⟨i, hi, hz, hsz, hb⟩ := TE.row (P := P) (e := e) (z := z) (k := k) (bytes := bytes) inferInstance
  have hbb : (m + mm) * bytes ≤ 140737488355328 := by
    have := Nat.mul_le_mul hm hby
    omega
  obtain ⟨v', w', hr, h2, h3, _, h5⟩ := run_append_own_at (P := P) w B t ty e i z k bytes (TSl.und (P := P) (t := t) (e := e) (k := k)) hi hz hsz hb (TE.cells (P := P) (e := e) (k := k) (bytes := bytes)) hk v m xs hown
    ⟨b, o, none⟩ mm c news hl (fun j u hu => by rw [add_some]; exact hc j u hu) h1 (by simp only [maxLen]; omega) hbb hB
  refine WO.value rfl ⟨fun _ a hf => ?_⟩ (h v' w' h2 h3 h5)
  simp [execOp, resolve, invoke, builtin, fits_ev hf hs, fits_ev hf hx, hr]

/-- One element is appended to a slice of the call's own. -/
theorem WO_app1 {t e k bytes B m d1 : Nat} {ty1 : TypeId} {pos1 : String} {af1 : Array Edge} {z : Value} [TSl P t e k] [TE P e z k bytes] {xs : List Value}
    (hx : ev σ x = some u) (hu : u.cells.size = k) (h1 : ∀ c ∈ u.cells.toList, c.oneCell' = true) (hs : ev ((d1, .slice (some ⟨w.heap.size, 0, none⟩) 1 1) :: σ) s = some v)
    (hown : w.ownsRow B e k v m xs) (hB : B ≤ w.heap.size) (hk : (0 < k && Nat.ble k 1000) = true) (hm : m + 1 ≤ 1000000000000) (hby : bytes ≤ 100)
    (h : ∀ v' w', w'.ownsRow B e k v' (m + 1) (xs ++ u.cells.toList) → w.grownBy w' v.ownBlock → (v'.ownBlock = v.ownBlock ∨ v'.ownBlock = some (w.heap.size + 1)) →
      WO P n ops Q rest ((d, v') :: (d1, .slice (some ⟨w.heap.size, 0, none⟩) 1 1) :: σ) w') :
    WO P n ops Q (⟨some d1, .buildSlice t 1 #[(0, x)], ty1, pos1, af1, none⟩ :: ⟨some d, .call ⟨.builtin .append, #[s, .tmp d1], #[t, t]⟩, ty, pos, af, none⟩ :: rest) σ w := by
  simp only [Bool.and_eq_true, decide_eq_true_eq] at hk
  have hk2 := Nat.le_of_ble_eq_true hk.2
  refine WO_build (e := e) (k := k) [x] (cs := u.cells.toList) (vs := [u]) rfl (by simp [evs, hx]) rfl (by rw [Nat.ble_eq]; omega) (by rw [Nat.ble_eq]; omega) (by simp [hu]) (by simp) fun w1 hb1 he1 hz1 => ?_
  have hown1 : w1.ownsRow B e k v m xs := hown.kept (row := none) ⟨he1.os, he1.tape, he1.output, he1.size, fun j hj _ => he1.block j hj⟩ (by
    cases hv : v.ownBlock with
    | none => exact .inl rfl
    | some q => exact .inr (by simp))
  refine WO_append (B := B) (b := w.heap.size) (o := 0) (mm := 1) (c := 1) (news := u.cells.toList) hs hown1 (look_cons_same _ _ _) (by simp [hu]) (fun j c hc => by rw [Nat.zero_add]; exact hb1.cell hc) h1 (by omega) hk.1 hm hby
    fun v' w' h2 h3 h4 => h v' w' h2 ⟨h3.os.trans he1.os, h3.tape.trans he1.tape, h3.output.trans he1.output, Nat.le_trans he1.size h3.size, fun j hj hne => (h3.block j (Nat.lt_of_lt_of_le hj he1.size) hne).trans (he1.block j hj)⟩ (by rw [hz1] at h4; exact h4)

/-- What a growing slice leaves alone. -/
theorem ext_grown {w0 w w' : World} {row : Option Nat} (h : Ext w0 w) (hg : w.grownBy w' row) (hr : ∀ k, row = some k → w0.heap.size ≤ k) : Ext w0 w' := Below.grown h hg h.size hr
theorem Blk.grown {b : Nat} {cs : List Value} {t : TypeId} {row : Option Nat} (h : Blk w b cs t) (hg : w.grownBy w' row) (hne : some b ≠ row) : Blk w' b cs t := (hg.block b h.lt hne).trans h
theorem cell_grown {a : Addr} {row : Option Nat} (h : w.cell? a = some v) (hg : w.grownBy w' row) (hne : some a.block ≠ row) : w'.cell? a = some v := hg.cell h hne
theorem ownsRow_ext {B e k m : Nat} {xs : List Value} (h : w.ownsRow B e k v m xs) (he : Ext w w') : w'.ownsRow B e k v m xs := h.kept (row := none) ⟨he.os, he.tape, he.output, he.size, fun j hj _ => he.block j hj⟩ (by
    cases hv : v.ownBlock with
    | none => exact .inl rfl
    | some q => exact .inr (by simp))
theorem ownsRow_only {B e k m c : Nat} {xs : List Value} (h : w.ownsRow B e k v m xs) (ho : Only c w w') (hne : v.ownBlock ≠ some c) : w'.ownsRow B e k v m xs :=
  h.kept (row := some c) ⟨ho.os, ho.tape, ho.output, by rw [ho.size]; exact Nat.le_refl _, fun j _ hj => ho.block j (fun e => hj (by rw [e]))⟩ (.inr hne)
/-- An empty slice of the call's own. -/
theorem owns_build0 {B e k : Nat} (hb : Blk w u.cells.size [] e) (hB : B ≤ u.cells.size) : w.ownsRow B e k (.slice (some ⟨u.cells.size, 0, none⟩) 0 0) 0 [] :=
  ⟨by simp, .inr ⟨_, 0, #[], rfl, hB, hb, Nat.le_refl _, Nat.zero_le _, by simp, by simp⟩⟩
theorem owns_empty {b B e k : Nat} (hb : Blk w b [] e) (hB : B ≤ b) : w.ownsRow B e k (.slice (some ⟨b, 0, none⟩) 0 0) 0 [] :=
  ⟨by simp, .inr ⟨_, 0, #[], rfl, hB, hb, Nat.le_refl _, Nat.zero_le _, by simp, by simp⟩⟩
theorem owns_blk {b B e k m : Nat} {xs : List Value} (hb : Blk w b xs e) (hB : B ≤ b) (hl : xs.length = m * k) (hm : m ≤ maxLen) : w.ownsRow B e k (.slice (some ⟨b, 0, none⟩) m m) m xs :=
  ⟨hl, .inr ⟨_, m, xs.toArray, rfl, hB, hb, Nat.le_refl _, hm, by simp [hl], by simp [← hl]⟩⟩

/-- make([]T, n): the cells are zero. -/
theorem made_list (z : Array Value) (m : Nat) (hz : 0 < z.size) : (madeCells z (m * z.size)).toList = (List.replicate m z.toList).flatten := by
  apply List.ext_getElem?
  intro i
  unfold madeCells
  simp only [Array.toList_map, Array.toList_range, List.getElem?_map]
  by_cases hi : i < m * z.size
  · rw [List.getElem?_range hi]
    have h1 : ∀ (m i : Nat), i < m * z.size → (List.replicate m z.toList).flatten[i]? = some z[i % z.size]! := by
      intro m
      induction m with
      | zero => intro i hi; simp at hi
      | succ m ih =>
        intro i hi
        rw [List.replicate_succ, List.flatten_cons]
        by_cases hlt : i < z.size
        · rw [List.getElem?_append_left (by simpa using hlt), Nat.mod_eq_of_lt hlt]
          simp [hlt]
        · rw [List.getElem?_append_right (by simpa using hlt)]
          rw [Nat.succ_mul] at hi
          have := ih (i - z.toList.length) (by simp; omega)
          rw [this]
          simp only [Array.length_toList]
          rw [show i % z.size = (i - z.size) % z.size from (Nat.mod_eq_sub_mod (by omega))]
    rw [h1 m i hi]
    rfl
  · rw [List.getElem?_eq_none (by simp; omega), List.getElem?_eq_none (by simp; omega)]
    rfl
theorem WO_make {t e k bytes m : Nat} {z : Value} [TSl P t e k] [TE P e z k bytes] {i j : Int}
    (hx : ev σ x = some (.int .i64 i)) (hy : ev σ y = some (.int .i64 j)) (hi : i = (m : Int)) (hj : j = (m : Int)) (hm : m ≤ 1000000000000) (hk : 0 < k) (hby : bytes ≤ 100)
    (h : ∀ w', Blk w' w.heap.size (List.replicate m z.cells.toList).flatten e → Ext w w' → w'.heap.size = w.heap.size + 1 → WO P n ops Q rest ((d, .slice (some ⟨w.heap.size, 0, none⟩) m m) :: σ) w') :
    WO P n ops Q (⟨some d, .makeSlice t x y, ty, pos, af, none⟩ :: rest) σ w := by
  obtain ⟨r, hr, hz, hsz, hb⟩ := TE.row (P := P) (e := e) (z := z) (k := k) (bytes := bytes) inferInstance
  have hbb : bytes * m ≤ 281474976710656 := by
    have := Nat.mul_le_mul hby hm
    omega
  have hbi : (r.bytes : Int) * (m : Int) ≤ 281474976710656 := by
    rw [hb]
    have h : ((bytes * m : Nat) : Int) ≤ 281474976710656 := by omega
    rwa [Int.natCast_mul] at h
  have hrun := run_make (P := P) w t e r z (TSl.und (P := P) (t := t) (e := e) (k := k)) hr hz .i64 .i64 (m : Int) (m : Int) (by omega) (Int.le_refl _) hbi (by omega)
  have hzc : z.cells.size = k := TE.cells (P := P) (e := e) (k := k) (bytes := bytes)
  rw [Int.toNat_natCast, hsz, ← hzc] at hrun
  have hml := made_list z.cells m (by omega)
  subst hi
  subst hj
  exact WO.value rfl (w' := w.alloc (.cells (madeCells z.cells (m * z.cells.size)) e)) ⟨fun _ a hf => by simp [execOp, fits_ev hf hx, fits_ev hf hy, hrun]⟩ (h _ (by rw [← hml]; exact Blk.alloc w _ e) (ext_alloc w _) (by simp))
end
end Go.Proofs.YtplcmbipeanjdaaGreatDoor
namespace Go.Proofs.YtplcmbipeanjdaaGreatDoor
set_option linter.unusedVariables false
set_option linter.unusedSimpArgs false
set_option linter.unnecessarySimpa false
open Go.RowKit

/-- Of what was there before only the blocks in F may have changed. -/
structure Chg (F : List Nat) (w w' : World) : Prop where
  os : w'.os = w.os
  tape : w'.tape = w.tape
  output : w'.output = w.output
  size : w.heap.size ≤ w'.heap.size
  block : ∀ k, k < w.heap.size → k ∉ F → w'.heap[k]? = w.heap[k]?
section
variable {w w' w'' w0 : World} {F G : List Nat} {b : Nat} {v : Value}
theorem Chg.refl (F : List Nat) (w : World) : Chg F w w := ⟨rfl, rfl, rfl, Nat.le_refl _, fun _ _ _ => rfl⟩
theorem Chg.trans (h : Chg F w w') (k : Chg F w' w'') : Chg F w w'' :=
  ⟨k.os.trans h.os, k.tape.trans h.tape, k.output.trans h.output, Nat.le_trans h.size k.size, fun i hi hn => (k.block i (Nat.lt_of_lt_of_le hi h.size) hn).trans (h.block i hi hn)⟩
theorem Chg.mono (h : Chg F w w') (hs : ∀ b ∈ F, b ∈ G) : Chg G w w' := ⟨h.os, h.tape, h.output, h.size, fun i hi hn => h.block i hi fun hf => hn (hs i hf)⟩
theorem Ext.chg (h : Ext w w') (F : List Nat) : Chg F w w' := ⟨h.os, h.tape, h.output, h.size, fun i hi _ => h.block i hi⟩
theorem Chg.ext (h : Chg [] w w') : Ext w w' := ⟨h.os, h.tape, h.output, h.size, fun i hi => h.block i hi (by simp)⟩
theorem Only.chg (h : Only b w w') : Chg [b] w w' := ⟨h.os, h.tape, h.output, by rw [h.size]; exact Nat.le_refl _, fun i _ hn => h.block i (by simpa using hn)⟩
theorem Chg.ext_of (h0 : Ext w0 w) (h : Chg F w w') (hF : ∀ b ∈ F, w0.heap.size ≤ b) : Ext w0 w' :=
  ⟨h.os.trans h0.os, h.tape.trans h0.tape, h.output.trans h0.output, Nat.le_trans h0.size h.size, fun i hi => (h.block i (Nat.lt_of_lt_of_le hi h0.size) fun hf => by have := hF i hf; omega).trans (h0.block i hi)⟩
theorem grown_chg {row : Option Nat} (h : w.grownBy w' row) : Chg row.toList w w' := ⟨h.os, h.tape, h.output, h.size, fun i hi hn => h.block i hi (by intro e; subst e; simp at hn)⟩
theorem Blk.chg {cs : List Value} {t : TypeId} (h : Blk w b cs t) (k : Chg F w w') (hn : b ∉ F) : Blk w' b cs t := (k.block b h.lt hn).trans h
theorem cell_chg {a : Addr} (h : w.cell? a = some v) (k : Chg F w w') (hn : a.block ∉ F) : w'.cell? a = some v :=
  (World.cell?_of_block (k.block a.block (World.block_lt_of_cell? w a h) hn)).trans h
end

def maxI : Nat := 4611686018427387904

/-- The slice holds these numbers, in the blocks F. -/
def IntF (w : World) (v : Value) (l : List Int) (F : List Nat) : Prop :=
  ∃ A c, v = .slice A l.length c ∧ (l.length ≤ maxI * 2 - 1 ∧ l.length ≤ c) ∧ ((l = [] ∧ F = []) ∨ ∃ b o, A = some ⟨b, o, none⟩ ∧ F = [b] ∧ ∀ (i : Nat) x, l[i]? = some x → w.cell? ⟨b, o + i * 1, none⟩ = some (.int .i64 x))
/-- The same, and the block is known whole: it may be written. -/
def OwnI (w : World) (v : Value) (l : List Int) (F : List Nat) : Prop :=
  ∃ A c, v = .slice A l.length c ∧ (l.length ≤ maxI * 2 - 1 ∧ l.length ≤ c) ∧ ((l = [] ∧ F = []) ∨ ∃ b o cs t, A = some ⟨b, o, none⟩ ∧ F = [b] ∧ Blk w b cs t ∧ o + l.length * 1 ≤ cs.length ∧ ∀ (i : Nat) x, l[i]? = some x → cs[o + i * 1]? = some (.int .i64 x))
section
variable {w w' : World} {v : Value} {l : List Int} {F G : List Nat}
theorem OwnI.int (h : OwnI w v l F) : IntF w v l F := by
  obtain ⟨A, c, rfl, hl, h | ⟨b, o, cs, t, rfl, rfl, hb, _, hx⟩⟩ := h
  · exact ⟨A, c, rfl, hl, .inl h⟩
  · exact ⟨_, c, rfl, hl, .inr ⟨b, o, rfl, rfl, fun i x hi => hb.cell (hx i x hi)⟩⟩
theorem IntF.chg (h : IntF w v l F) (k : Chg G w w') (hd : ∀ b ∈ F, b ∉ G) : IntF w' v l F := by
  obtain ⟨A, c, rfl, hl, h | ⟨b, o, rfl, rfl, hx⟩⟩ := h
  · exact ⟨A, c, rfl, hl, .inl h⟩
  · exact ⟨_, c, rfl, hl, .inr ⟨b, o, rfl, rfl, fun i x hi => cell_chg (hx i x hi) k (hd b (by simp))⟩⟩
theorem OwnI.chg (h : OwnI w v l F) (k : Chg G w w') (hd : ∀ b ∈ F, b ∉ G) : OwnI w' v l F := by
  obtain ⟨A, c, rfl, hl, h | ⟨b, o, cs, t, rfl, rfl, hb, hlen, hx⟩⟩ := h
  · exact ⟨A, c, rfl, hl, .inl h⟩
  · exact ⟨_, c, rfl, hl, .inr ⟨b, o, cs, t, rfl, rfl, hb.chg k (hd b (by simp)), hlen, hx⟩⟩
theorem IntF.ext (h : IntF w v l F) (he : Ext w w') : IntF w' v l F := h.chg (he.chg []) (by simp)
theorem OwnI.ext (h : OwnI w v l F) (he : Ext w w') : OwnI w' v l F := h.chg (he.chg []) (by simp)
theorem OwnI.lt (h : OwnI w v l F) : ∀ b ∈ F, b < w.heap.size := by
  obtain ⟨A, c, rfl, hl, ⟨rfl, rfl⟩ | ⟨b, o, cs, t, rfl, rfl, hb, _, hx⟩⟩ := h
  · simp
  · intro x hx; simp at hx; subst hx; exact hb.lt
/-- What append and make leave. -/
theorem OwnI.of_row {B e n : Nat} (h : w.ownsRow B e 1 v n (l.map (.int .i64))) (hn : n = l.length) (hm : l.length ≤ maxI) : ∃ F, OwnI w v l F ∧ (∀ b ∈ F, B ≤ b) ∧ F = v.ownBlock.toList := by
  subst hn
  have hm' : l.length ≤ maxI * 2 - 1 := by unfold maxI at *; omega
  obtain ⟨hl, ⟨rfl, h0⟩ | ⟨g, cap, cur, rfl, hB, hg, hnc, hcm, hcs, ht⟩⟩ := h
  · have : l = [] := List.eq_nil_of_length_eq_zero h0
    subst this
    exact ⟨[], ⟨none, 0, rfl, ⟨hm', Nat.zero_le _⟩, .inl ⟨rfl, rfl⟩⟩, by simp, rfl⟩
  · refine ⟨[g], ⟨_, cap, rfl, ⟨hm', hnc⟩, .inr ⟨g, 0, cur.toList, e, rfl, rfl, by simpa [Blk] using hg, by simp; omega, fun i x hi => ?_⟩⟩, by simpa using hB, rfl⟩
    have h1 : (l.map (Value.int .i64))[i]? = some (.int .i64 x) := by simp [hi]
    rw [← ht, List.getElem?_take] at h1
    split at h1
    · simpa using h1
    · cases h1
end

/-- A slice literal of numbers. -/
theorem WO_ints {P : Program} {n : Nat} {ops : Array Oper} {Q : Exit → Act → World → Prop} {rest : List Oper} {σ : Env} {w : World} {d : Nat} {ty : TypeId} {pos : String} {af : Array Edge}
    {t e bytes len : Nat} {z : Value} [TSl P t e 1] [TE P e z 1 bytes] {parts : Array (Nat × Operand)} (zs : List Int)
    (hp : parts.toList = (zs.zipIdx 0).map fun x => (x.2, Operand.const (.int .i64 x.1))) (hlen : zs.length = len) (hpos : Nat.ble 1 len = true) (hsmall : Nat.ble len 10000 = true)
    (h : ∀ w', OwnI w' (.slice (some ⟨w.heap.size, 0, none⟩) len len) zs [w.heap.size] → Ext w w' → w'.heap.size = w.heap.size + 1 → WO P n ops Q rest ((d, .slice (some ⟨w.heap.size, 0, none⟩) len len) :: σ) w') :
    WO P n ops Q (⟨some d, .buildSlice t len parts, ty, pos, af, none⟩ :: rest) σ w := by
  have hsm := Nat.le_of_ble_eq_true hsmall
  have hps := Nat.le_of_ble_eq_true hpos
  have hev : ∀ l : List Int, evs σ (l.map fun x => Operand.const (.int .i64 x)) = some (l.map (Value.int .i64)) := by
    intro l
    induction l with
    | nil => rfl
    | cons a r ih => simp [evs, ev, ih]
  have hfm : ∀ l : List Int, ((l.map (Value.int .i64)).flatMap fun v => v.cells.toList) = l.map (Value.int .i64) := by
    intro l
    induction l with
    | nil => rfl
    | cons a r ih => rw [List.map_cons, List.flatMap_cons, ih]; rfl
  refine WO_build (e := e) (k := 1) (zs.map fun x => Operand.const (.int .i64 x)) (by rw [hp, List.zipIdx_map, List.map_map]; rfl) (hev zs) (by simpa using hlen) (by rw [Nat.ble_eq]; omega) (by rw [Nat.ble_eq]; omega)
    (by intro v hv; obtain ⟨x, _, rfl⟩ := List.mem_map.1 hv; rfl) (hfm zs) fun w1 hb he hz => h w1 ?_ he hz
  refine ⟨_, len, by rw [hlen], by unfold maxI; omega, .inr ⟨_, 0, _, e, rfl, rfl, hb, by simp, fun i x hi => by simp [hi]⟩⟩

theorem take_succ_eq {α : Type} {la lb : List α} {i : Nat} (ha : i < la.length) (hb : i < lb.length) (ht : la.take i = lb.take i) (he : la[i] = lb[i]) : la.take (i + 1) = lb.take (i + 1) := by
  rw [List.take_succ_eq_append_getElem ha, List.take_succ_eq_append_getElem hb, ht, he]
theorem int_at {w : World} {A : Option Addr} {l : List Int} {F : List Nat} {i : Nat}
    (h : (l = [] ∧ F = []) ∨ ∃ b o, A = some ⟨b, o, none⟩ ∧ F = [b] ∧ ∀ (i : Nat) x, l[i]? = some x → w.cell? ⟨b, o + i * 1, none⟩ = some (.int .i64 x)) (hi : i < l.length) :
    ∃ b o, A = some ⟨b, o, none⟩ ∧ F = [b] ∧ w.cell? ⟨b, o + i * 1, none⟩ = some (.int .i64 l[i]) := by
  obtain ⟨rfl, _⟩ | ⟨b, o, rfl, hF, hc⟩ := h
  · simp at hi
  · exact ⟨b, o, rfl, hF, hc i _ (List.getElem?_eq_getElem hi)⟩


/-- k, k + 1, .. -/
def marks : Int → Nat → List Int
  | _, 0 => []
  | k, n + 1 => k :: marks (k + 1) n
theorem marks_length (k : Int) (n : Nat) : (marks k n).length = n := by
  induction n generalizing k with
  | zero => rfl
  | succ n ih => simp [marks, ih]
theorem marks_at : ∀ (n : Nat) (k : Int) (i : Nat), i < n → (marks k n)[i]? = some (k + i)
  | 0, _, _, h => by omega
  | n + 1, k, 0, _ => by simp [marks]
  | n + 1, k, i + 1, h => by
    simp only [marks, List.getElem?_cons_succ]
    rw [marks_at n (k + 1) i (by omega)]
    congr 1
    omega

end Go.Proofs.YtplcmbipeanjdaaGreatDoor
namespace Go.Proofs.YtplcmbipeanjdaaGreatDoor
set_option linter.unusedVariables false
set_option linter.unusedSimpArgs false
set_option linter.unnecessarySimpa false
open Go.RowKit

/-- The cells of a row, one after the other; a slice's own cells hang below it. -/
inductive Cs where
  | nil
  | int (n : Int) (r : Cs)
  | bool (b : Bool) (r : Cs)
  | sl (m : Nat) (c r : Cs)

/-- A slice value of m elements whose cells S tells. -/
def SlV (S : Nat → Nat → List Nat → Prop) (m : Nat) (v : Value) (F : List Nat) : Prop :=
  ∃ A c, v = .slice A m c ∧ (m ≤ maxI * 2 - 1 ∧ m ≤ c) ∧ ((m = 0 ∧ F = []) ∨ ∃ b o F', A = some ⟨b, o, none⟩ ∧ F = b :: F' ∧ S b o F')
def CsAt (w : World) : Cs → Nat → Nat → List Nat → Prop
  | .nil, _, _, F => F = []
  | .int n r, b, o, F => w.cell? ⟨b, o, none⟩ = some (.int .i64 n) ∧ CsAt w r b (o + 1) F
  | .bool p r, b, o, F => w.cell? ⟨b, o, none⟩ = some (.bool p) ∧ CsAt w r b (o + 1) F
  | .sl m c r, b, o, F => ∃ v F1 F2, F = F1 ++ F2 ∧ w.cell? ⟨b, o, none⟩ = some v ∧ SlV (CsAt w c) m v F1 ∧ CsAt w r b (o + 1) F2
/-- The same, and each block is known whole: it may be written. -/
def OSlV (w : World) (S : List Value → Nat → List Nat → Prop) (m : Nat) (v : Value) (F : List Nat) : Prop :=
  ∃ A c, v = .slice A m c ∧ (m ≤ maxI * 2 - 1 ∧ m ≤ c) ∧ ((m = 0 ∧ F = []) ∨ ∃ b o cs t F', A = some ⟨b, o, none⟩ ∧ F = b :: F' ∧ Blk w b cs t ∧ S cs o F')
def OCs (w : World) : Cs → List Value → Nat → List Nat → Prop
  | .nil, _, _, F => F = []
  | .int n r, cs, o, F => cs[o]? = some (.int .i64 n) ∧ OCs w r cs (o + 1) F
  | .bool p r, cs, o, F => cs[o]? = some (.bool p) ∧ OCs w r cs (o + 1) F
  | .sl m c r, cs, o, F => ∃ v F1 F2, F = F1 ++ F2 ∧ cs[o]? = some v ∧ OSlV w (OCs w c) m v F1 ∧ OCs w r cs (o + 1) F2

theorem SlV.mono {S S' : Nat → Nat → List Nat → Prop} {m : Nat} {v : Value} {F : List Nat} (h : SlV S m v F) (hs : ∀ b o F', (∀ x ∈ F', x ∈ F) → b ∈ F → S b o F' → S' b o F') : SlV S' m v F := by
  obtain ⟨A, c, rfl, hm, h | ⟨b, o, F', rfl, rfl, h⟩⟩ := h
  · exact ⟨A, c, rfl, hm, .inl h⟩
  · exact ⟨_, c, rfl, hm, .inr ⟨b, o, F', rfl, rfl, hs b o F' (fun x hx => List.mem_cons_of_mem _ hx) (List.mem_cons_self) h⟩⟩

section
variable {w w' : World} {G : List Nat}
theorem CsAt.chg (k : Chg G w w') : ∀ (c : Cs) (b o : Nat) (F : List Nat), (∀ x ∈ F, x ∉ G) → b ∉ G → CsAt w c b o F → CsAt w' c b o F
  | .nil, _, _, _, _, _, h => h
  | .int _ r, b, o, F, hF, hb, h => ⟨cell_chg h.1 k hb, CsAt.chg k r b (o + 1) F hF hb h.2⟩
  | .bool _ r, b, o, F, hF, hb, h => ⟨cell_chg h.1 k hb, CsAt.chg k r b (o + 1) F hF hb h.2⟩
  | .sl m c r, b, o, F, hF, hb, ⟨v, F1, F2, e, hc, hs, hr⟩ => by
    subst e
    refine ⟨v, F1, F2, rfl, cell_chg hc k hb, hs.mono fun b' o' F' h1 h2 h3 => ?_, CsAt.chg k r b (o + 1) F2 (fun x hx => hF x (by simp [hx])) hb hr⟩
    exact CsAt.chg k c b' o' F' (fun x hx => hF x (by simp [h1 x hx])) (hF b' (by simp [h2])) h3
theorem OCs.chg (k : Chg G w w') : ∀ (c : Cs) (cs : List Value) (o : Nat) (F : List Nat), (∀ x ∈ F, x ∉ G) → OCs w c cs o F → OCs w' c cs o F
  | .nil, _, _, _, _, h => h
  | .int _ r, cs, o, F, hF, h => ⟨h.1, OCs.chg k r cs (o + 1) F hF h.2⟩
  | .bool _ r, cs, o, F, hF, h => ⟨h.1, OCs.chg k r cs (o + 1) F hF h.2⟩
  | .sl m c r, cs, o, F, hF, ⟨v, F1, F2, e, hc, hs, hr⟩ => by
    subst e
    refine ⟨v, F1, F2, rfl, hc, ?_, OCs.chg k r cs (o + 1) F2 (fun x hx => hF x (by simp [hx])) hr⟩
    obtain ⟨A, cap, rfl, hm, h | ⟨b, o', cs', t, F', rfl, rfl, hb, h⟩⟩ := hs
    · exact ⟨A, cap, rfl, hm, .inl h⟩
    · exact ⟨_, cap, rfl, hm, .inr ⟨b, o', cs', t, F', rfl, rfl, hb.chg k (hF b (by simp)), OCs.chg k c cs' o' F' (fun x hx => hF x (by simp [hx])) h⟩⟩
theorem OSlV.chg {c : Cs} {m : Nat} {v : Value} {F : List Nat} (h : OSlV w (OCs w c) m v F) (k : Chg G w w') (hd : ∀ x ∈ F, x ∉ G) : OSlV w' (OCs w' c) m v F := by
  obtain ⟨A, cap, rfl, hm, h | ⟨b, o', cs', t, F', rfl, rfl, hb, h⟩⟩ := h
  · exact ⟨A, cap, rfl, hm, .inl h⟩
  · exact ⟨_, cap, rfl, hm, .inr ⟨b, o', cs', t, F', rfl, rfl, hb.chg k (hd b (by simp)), OCs.chg k c cs' o' F' (fun x hx => hd x (by simp [hx])) h⟩⟩
theorem SlV.chg {c : Cs} {m : Nat} {v : Value} {F : List Nat} (h : SlV (CsAt w c) m v F) (k : Chg G w w') (hd : ∀ x ∈ F, x ∉ G) : SlV (CsAt w' c) m v F :=
  h.mono fun b o F' h1 h2 h3 => CsAt.chg k c b o F' (fun x hx => hd x (h1 x hx)) (hd b h2) h3
theorem SlV.ext {c : Cs} {m : Nat} {v : Value} {F : List Nat} (h : SlV (CsAt w c) m v F) (he : Ext w w') : SlV (CsAt w' c) m v F := h.chg (he.chg []) (by simp)
theorem OSlV.ext {c : Cs} {m : Nat} {v : Value} {F : List Nat} (h : OSlV w (OCs w c) m v F) (he : Ext w w') : OSlV w' (OCs w' c) m v F := h.chg (he.chg []) (by simp)
theorem CsAt.ext (he : Ext w w') (c : Cs) (b o : Nat) (F : List Nat) (h : CsAt w c b o F) : CsAt w' c b o F := CsAt.chg (he.chg []) c b o F (by simp) (by simp) h
theorem OCs.lt : ∀ (c : Cs) (cs : List Value) (o : Nat) (F : List Nat), OCs w c cs o F → ∀ x ∈ F, x < w.heap.size
  | .nil, _, _, F, h => by simp only [OCs] at h; subst h; simp
  | .int _ r, cs, o, F, h => OCs.lt r cs (o + 1) F h.2
  | .bool _ r, cs, o, F, h => OCs.lt r cs (o + 1) F h.2
  | .sl m c r, cs, o, F, ⟨v, F1, F2, e, hc, hs, hr⟩ => by
    subst e
    intro x hx
    rcases List.mem_append.1 hx with hx | hx
    · obtain ⟨A, cap, rfl, hm, ⟨_, rfl⟩ | ⟨b, o', cs', t, F', rfl, rfl, hb, h⟩⟩ := hs
      · simp at hx
      · rcases List.mem_cons.1 hx with rfl | hx
        · exact hb.lt
        · exact OCs.lt c cs' o' F' h x hx
    · exact OCs.lt r cs (o + 1) F2 hr x hx
theorem OSlV.lt {c : Cs} {m : Nat} {v : Value} {F : List Nat} (h : OSlV w (OCs w c) m v F) : ∀ x ∈ F, x < w.heap.size := by
  obtain ⟨A, cap, rfl, hm, ⟨_, rfl⟩ | ⟨b, o', cs', t, F', rfl, rfl, hb, h⟩⟩ := h
  · simp
  · intro x hx
    rcases List.mem_cons.1 hx with rfl | hx
    · exact hb.lt
    · exact OCs.lt c cs' o' F' h x hx
theorem OCs.at_ : ∀ (c : Cs) (b : Nat) (cs : List Value) (t : TypeId) (o : Nat) (F : List Nat), Blk w b cs t → OCs w c cs o F → CsAt w c b o F
  | .nil, _, _, _, _, _, _, h => h
  | .int _ r, b, cs, t, o, F, hb, h => ⟨hb.cell h.1, OCs.at_ r b cs t (o + 1) F hb h.2⟩
  | .bool _ r, b, cs, t, o, F, hb, h => ⟨hb.cell h.1, OCs.at_ r b cs t (o + 1) F hb h.2⟩
  | .sl m c r, b, cs, t, o, F, hb, ⟨v, F1, F2, e, hc, hs, hr⟩ => by
    refine ⟨v, F1, F2, e, hb.cell hc, ?_, OCs.at_ r b cs t (o + 1) F2 hb hr⟩
    obtain ⟨A, cap, rfl, hm, h | ⟨b', o', cs', t', F', rfl, rfl, hb', h⟩⟩ := hs
    · exact ⟨A, cap, rfl, hm, .inl h⟩
    · exact ⟨_, cap, rfl, hm, .inr ⟨b', o', F', rfl, rfl, OCs.at_ c b' cs' t' o' F' hb' h⟩⟩
theorem OSlV.sl {c : Cs} {m : Nat} {v : Value} {F : List Nat} (h : OSlV w (OCs w c) m v F) : SlV (CsAt w c) m v F := by
  obtain ⟨A, cap, rfl, hm, h | ⟨b', o', cs', t', F', rfl, rfl, hb', h⟩⟩ := h
  · exact ⟨A, cap, rfl, hm, .inl h⟩
  · exact ⟨_, cap, rfl, hm, .inr ⟨b', o', F', rfl, rfl, OCs.at_ c b' cs' t' o' F' hb' h⟩⟩
end

/-! ### Statements -/
/-- A list of statements: its head's fields, the two lists in it, the rest. -/
inductive Ss where
  | nil
  | cons (op x y n : Int) (t e r : Ss)
deriving DecidableEq
def Ss.len : Ss → Nat
  | .nil => 0
  | .cons _ _ _ _ _ _ r => r.len + 1
def encS : Ss → Cs
  | .nil => .nil
  | .cons op x y n t e r => .int op (.int x (.int y (.int n (.sl t.len (encS t) (.sl e.len (encS e) (encS r))))))
/-- The slice holds these statements. -/
def StS (w : World) (v : Value) (l : Ss) (F : List Nat) : Prop := SlV (CsAt w (encS l)) l.len v F
def OStS (w : World) (v : Value) (l : Ss) (F : List Nat) : Prop := OSlV w (OCs w (encS l)) l.len v F
/-- A statement by value. -/
def stV (op x y n : Int) (tv ev : Value) : Value := .agg #[.int .i64 op, .int .i64 x, .int .i64 y, .int .i64 n, tv, ev]
section
variable {w w' : World} {v : Value} {l : Ss} {F G : List Nat}
theorem StS.chg (h : StS w v l F) (k : Chg G w w') (hd : ∀ x ∈ F, x ∉ G) : StS w' v l F := SlV.chg h k hd
theorem StS.ext (h : StS w v l F) (he : Ext w w') : StS w' v l F := SlV.ext h he
theorem OStS.chg (h : OStS w v l F) (k : Chg G w w') (hd : ∀ x ∈ F, x ∉ G) : OStS w' v l F := OSlV.chg h k hd
theorem OStS.ext (h : OStS w v l F) (he : Ext w w') : OStS w' v l F := OSlV.ext h he
theorem OStS.lt (h : OStS w v l F) : ∀ x ∈ F, x < w.heap.size := OSlV.lt h
theorem OStS.st (h : OStS w v l F) : StS w v l F := OSlV.sl h
theorem StS.nil_ (w : World) (A : Option Addr) (c : Nat) : StS w (.slice A 0 c) .nil [] := ⟨A, c, rfl, ⟨by simp [Ss.len], Nat.zero_le _⟩, .inl ⟨rfl, rfl⟩⟩
theorem OStS.nil_ (w : World) (A : Option Addr) (c : Nat) : OStS w (.slice A 0 c) .nil [] := ⟨A, c, rfl, ⟨by simp [Ss.len], Nat.zero_le _⟩, .inl ⟨rfl, rfl⟩⟩
end
theorem Ss.len_zero {l : Ss} (h : l.len = 0) : l = .nil := by
  cases l with
  | nil => rfl
  | cons => simp [Ss.len] at h

/-! ### Struct literals -/
def evP (σ : Env) : List (Nat × Operand) → Option (List (Nat × Value))
  | [] => some []
  | (i, x) :: r => match ev σ x, evP σ r with
    | some v, some vs => some ((i, v) :: vs)
    | _, _ => none
def Z84 : List Value → List (Nat × Value) → List Value
  | cs, [] => cs
  | cs, (i, v) :: r => Z84 (cs.set i v) r
def partsOk (k : Nat) : List (Nat × Value) → Bool
  | [] => true
  | (i, v) :: r => Nat.blt i k && v.oneCell' && partsOk k r
section
variable {P : Program} {n : Nat} {ops : Array Oper} {Q : Exit → Act → World → Prop} {rest : List Oper} {σ : Env} {w w' : World} {v u : Value}
variable {d : Nat} {ty : TypeId} {pos : String} {af : Array Edge} {x y s : Operand}
theorem fits_evP {a : Act} (h : Fits n σ a) : ∀ {xs : List (Nat × Operand)} {vs : List (Nat × Value)}, evP σ xs = some vs → (xs.map fun (i, x) => (i, a.eval x)) = vs
  | [], vs, hv => by simp [evP] at hv; simp [hv]
  | (i, x) :: r, vs, hv => by
    simp only [evP] at hv
    split at hv
    · rename_i v vs' h1 h2
      have hv' := Option.some.inj hv
      subst hv'
      simp [fits_ev h h1]
      exact fits_evP h h2
    · cases hv
theorem places_of : ∀ (fs : List Field) (i : Nat), fieldsB P i fs = true → fs.mapM (fun f => (P.info? f.type).map fun j => (f.offset, j.size)) = some ((List.range' i fs.length).map fun j => (j, 1))
  | [], i, _ => by simp
  | f :: r, i, h => by
    simp only [fieldsB, Bool.and_eq_true] at h
    have h1 := Nat.eq_of_beq_eq_true h.1.1
    have h2 := h.1.2
    unfold t1B at h2
    simp only [Bool.and_eq_true] at h2
    have hr := places_of r (i + 1) h.2
    cases hi : P.info? f.type with
    | none => simp [hi] at h2
    | some j =>
      simp only [hi] at h2
      have h3 := Nat.eq_of_beq_eq_true h2.2
      simp [List.mapM_cons, hi, hr, h1, h3, List.range'_succ]
theorem fill_parts (place : Nat → Option (Nat × Nat)) (k : Nat) (hp : ∀ i, i < k → place i = some (i, 1)) : ∀ (vs : List (Nat × Value)) (cs : List Value), cs.length = k → partsOk k vs = true → Instr.fill place cs.toArray vs = some (Z84 cs vs).toArray
  | [], cs, _, _ => rfl
  | (i, v) :: r, cs, hl, hok => by
    simp only [partsOk, Bool.and_eq_true] at hok
    have hi : i < k := by simpa [Nat.blt_eq] using hok.1.1
    have hv := cells_one hok.1.2
    simp only [Instr.fill, hp i hi, hv]
    have hc : ¬ (i + 1 > cs.length) := by omega
    simp [hc, Z84]
    exact fill_parts place k hp r (cs.set i v) (by simpa using hl) hok.2
theorem Z30 {g : Option (Nat × Bool)} {t k bytes : Nat} {zs : Array Value} [TS P t k] [TE P t (.agg zs) k bytes] {parts : Array (Nat × Operand)} {pvs : List (Nat × Value)} {cs : List Value}
    (hv : evP σ parts.toList = some pvs) (hok : partsOk k pvs = true) (hcs : Z84 zs.toList pvs = cs) : DoesQ P ⟨some d, .build t parts, ty, pos, af, g⟩ σ w (.agg cs.toArray) := by
  refine ⟨fun w2 he => ⟨fun m a hf => ?_⟩⟩
  obtain ⟨fs, hu, hl, hb⟩ := TS.und (P := P) (t := t) (k := k) inferInstance
  obtain ⟨i, hi, hz, hsz, _⟩ := TE.row (P := P) (e := t) (z := .agg zs) (k := k) (bytes := bytes) inferInstance
  have hpl := places_of (P := P) fs.toList 0 hb
  have hzl : zs.toList.length = k := by
    have := TE.cells (P := P) (e := t) (z := .agg zs) (k := k) (bytes := bytes)
    simpa [Value.cells] using this
  have hbuilt : P.built t (parts.map fun (i, x) => (i, a.eval x)).toList = some cs.toArray := by
    unfold Program.built
    simp only [hi, hu, hz, hpl]
    have e1 : (parts.map fun (i, x) => (i, a.eval x)).toList = pvs := by rw [Array.toList_map]; exact fits_evP hf hv
    rw [e1, ← hcs]
    have := fill_parts (fun j => ((List.map (fun j => (j, 1)) (List.range' 0 fs.toList.length)).toArray)[j]?) k (fun j hj => by
      simp only [List.getElem?_toArray, List.getElem?_map]
      rw [List.getElem?_range' (by omega)]
      simp) pvs zs.toList hzl hok
    simpa [Value.cells] using this
  have hr := run_build (P := P) w2 t _ _ hbuilt
  simp only [execOp, Sem.run_bind, hr, Result.andThen_ok, Sem.run_pure]
end
end Go.Proofs.YtplcmbipeanjdaaGreatDoor
namespace Go.Proofs.YtplcmbipeanjdaaGreatDoor
set_option linter.unusedVariables false
set_option linter.unusedSimpArgs false
set_option linter.unnecessarySimpa false
open Go.RowKit

/-- The result is a slice of numbers in new memory. -/
def NewInts (l : List Int) (w : World) (v : Value) (w' : World) : Prop := (∃ F, OwnI w' v l F ∧ ∀ b ∈ F, w.heap.size ≤ b) ∧ Ext w w'

theorem within_ret (n l h : Int) (w : World) : Ret Tryz.prog 38 [.int .i64 n, .int .i64 l, .int .i64 h] w fun v w' => v = .bool (decide (l ≤ n ∧ n ≤ h)) ∧ w' = w := by
  refine enter Tryz.func38 rfl Tryz.ntmps38 rfl rfl ?_
  (refine goS ?_; repeat' (first | ((refine Z51 rfl rfl (fun c' hc' => ?_)); cases c' <;> (try simp only [decide_eq_true_eq, decide_eq_false_iff_not, beq_iff_eq, beq_eq_false_iff_ne, bne_iff_ne, bne_eq_false_iff_eq, ne_eq, gt_iff_lt, ge_iff_le, Int.not_lt, Int.not_le, Bool.not_eq_true', Bool.not_eq_false', Bool.not_true, Bool.not_false, reduceCtorEq, Decidable.not_not, not_true_eq_false, Bool.true_eq_false, Bool.false_eq_true] at hc') <;> (try (exfalso; omega)) <;> refine goS ?_) | ((refine Z52 rfl (fun hc' => ?_) (fun hc' => ?_)) <;> (try simp only [decide_eq_true_eq, decide_eq_false_iff_not, beq_iff_eq, beq_eq_false_iff_ne, bne_iff_ne, bne_eq_false_iff_eq, ne_eq, gt_iff_lt, ge_iff_le, Int.not_lt, Int.not_le, Bool.not_eq_true', Bool.not_eq_false', Bool.not_true, Bool.not_false, reduceCtorEq, Decidable.not_not, not_true_eq_false, Bool.true_eq_false, Bool.false_eq_true] at hc') <;> (try (exfalso; omega)) <;> refine goS ?_)))
  all_goals (refine at_ret1 rfl rfl ⟨?_, rfl⟩; refine congrArg Value.bool ?_; rw [Bool.eq_iff_iff]; simp <;> omega)
theorem isReference_ret (t : Int) (w : World) : Ret Tryz.prog 90 [.int .i64 t] w fun v w' => v = .bool (decide (t = 3 ∨ t = 4)) ∧ w' = w := by
  refine enter Tryz.func90 rfl Tryz.ntmps90 rfl rfl ?_
  (refine goS ?_; repeat' (first | ((refine Z51 rfl rfl (fun c' hc' => ?_)); cases c' <;> (try simp only [decide_eq_true_eq, decide_eq_false_iff_not, beq_iff_eq, beq_eq_false_iff_ne, bne_iff_ne, bne_eq_false_iff_eq, ne_eq, gt_iff_lt, ge_iff_le, Int.not_lt, Int.not_le, Bool.not_eq_true', Bool.not_eq_false', Bool.not_true, Bool.not_false, reduceCtorEq, Decidable.not_not, not_true_eq_false, Bool.true_eq_false, Bool.false_eq_true] at hc') <;> (try (exfalso; omega)) <;> refine goS ?_) | ((refine Z52 rfl (fun hc' => ?_) (fun hc' => ?_)) <;> (try simp only [decide_eq_true_eq, decide_eq_false_iff_not, beq_iff_eq, beq_eq_false_iff_ne, bne_iff_ne, bne_eq_false_iff_eq, ne_eq, gt_iff_lt, ge_iff_le, Int.not_lt, Int.not_le, Bool.not_eq_true', Bool.not_eq_false', Bool.not_true, Bool.not_false, reduceCtorEq, Decidable.not_not, not_true_eq_false, Bool.true_eq_false, Bool.false_eq_true] at hc') <;> (try (exfalso; omega)) <;> refine goS ?_)))
  all_goals (refine at_ret1 rfl rfl ⟨?_, rfl⟩; refine congrArg Value.bool ?_; rw [Bool.eq_iff_iff]; simp <;> omega)

/-- The binary digits, the last one first. -/
def cho (n : Int) (m : Nat) : List Int := (List.range m).map fun i => n / 2 ^ i % 2
theorem cho_succ (n : Int) (m : Nat) : cho n (m + 1) = cho n m ++ [n / 2 ^ m % 2] := by simp [cho, List.range_succ]
theorem cho_length (n : Int) (m : Nat) : (cho n m).length = m := by simp [cho]
def choOf (n len : Int) : List Int := if 0 ≤ len ∧ len ≤ 6 ∧ 0 ≤ n ∧ n < 2 ^ len.toNat then cho n len.toNat else []

theorem one_int {a : Int} : ∀ c ∈ (Value.int .i64 a).cells.toList, c.oneCell' = true := by
  intro c hc
  simp [Value.cells] at hc
  subst hc
  rfl
theorem grown_below {w0 w w' : World} {v : Value} {B e k m : Nat} {xs : List Value} (h : Ext w0 w) (hown : w.ownsRow B e k v m xs) (hg : w.grownBy w' v.ownBlock) (hB : w0.heap.size ≤ B) : Ext w0 w' :=
  ext_grown h hg fun b hb => Nat.le_trans hB (hown.lt b hb).1
theorem div_pow_step (n : Int) (i : Nat) : n / 2 ^ i / 2 = n / 2 ^ (i + 1) := by
  rw [Int.ediv_ediv_of_nonneg (by exact Int.le_of_lt (Int.pow_pos (by omega))), Int.pow_succ]
theorem div_pow_bounds (n : Int) (i : Nat) (h : 0 ≤ n) : 0 ≤ n / 2 ^ i ∧ n / 2 ^ i ≤ n :=
  ⟨Int.ediv_nonneg h (by exact Int.le_of_lt (Int.pow_pos (by omega))), Int.ediv_le_self _ h⟩

end Go.Proofs.YtplcmbipeanjdaaGreatDoor
