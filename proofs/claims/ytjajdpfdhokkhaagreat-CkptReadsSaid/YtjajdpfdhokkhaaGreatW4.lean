/- The law CkptReads. Part 4 of 14. -/
import Derived.Test.YtjajdpfdhokkhaaGreatW3
import Derived.Test.YtjajdpfdhokkhaaGreatChecked
import Derived.KernelRfl
namespace Go.Proofs.E
open Go Go.Proofs.E
set_option linter.unusedVariables false


theorem tqI {t : TypeId} {b : Bool} (h : (Tryz.prog.underlying t).map isIfaceD = some b := by kernel_rfl) : TyIface Tryz.prog t b := mkTyIface h
theorem tqS {t : TypeId} (h : (Tryz.prog.underlying t).map isAggD = some false := by kernel_rfl) (k : (Tryz.prog.info? t).map (·.size) = some 1 := by kernel_rfl) : TyS Tryz.prog t := mkTyS h k
theorem tqA {t : TypeId} {n : Nat} (h : (Tryz.prog.underlying t).map isAggD = some true := by kernel_rfl) (k : (Tryz.prog.info? t).map (·.size) = some n := by kernel_rfl) : TyA Tryz.prog t n := mkTyA h k
theorem tqN {t : TypeId} {n : Nat} (k : (Tryz.prog.info? t).map (·.size) = some n := by kernel_rfl) : TySz Tryz.prog t n := mkTySz k
theorem tqB {t : TypeId} {n : Nat} (k : (Tryz.prog.info? t).map (·.bytes) = some n := by kernel_rfl) : TyBytes Tryz.prog t n := mkTyBytes k
theorem tqO {t : TypeId} {z : Value} (k : (Tryz.prog.info? t).bind (·.zero) = some z := by kernel_rfl) : TyZero Tryz.prog t z := mkTyZero k
theorem tqF {t : TypeId} (h : (Tryz.prog.underlying t).map isFuncD = some true := by kernel_rfl) : TyFunc Tryz.prog t := mkTyFunc h
theorem tqD {s : TypeId} {f off : Nat} {ft : TypeId} (h : fldB Tryz.prog s f = some (off, ft) := by kernel_rfl) : Fld Tryz.prog s f off ft := mkFld h
theorem tqU {f : FuncId} (h : funB Tryz.prog f = true := by kernel_rfl) : Fun Tryz.prog f := mkFun h

instance : TyS Tryz.prog 1 := tqS
instance : TyIface Tryz.prog 1 false := tqI
instance : TyFunc Tryz.prog 1 := tqF
instance : TySz Tryz.prog 1 1 := tqN
instance : TyBytes Tryz.prog 1 8 := tqB
instance : TyZero Tryz.prog 1 (.nilFunc) := tqO
instance : TyS Tryz.prog 2 := tqS
instance : TyIface Tryz.prog 2 false := tqI
instance : TySz Tryz.prog 2 1 := tqN
instance : TyBytes Tryz.prog 2 8 := tqB
instance : TyZero Tryz.prog 2 (.int .i64 0) := tqO
instance : TyInt Tryz.prog 2 .i64 := ⟨by kernel_rfl⟩
instance : TyS Tryz.prog 3 := tqS
instance : TyIface Tryz.prog 3 false := tqI
instance : TySz Tryz.prog 3 1 := tqN
instance : TyBytes Tryz.prog 3 8 := tqB
instance : TyZero Tryz.prog 3 (.int .i64 0) := tqO
instance : TyInt Tryz.prog 3 .i64 := ⟨by kernel_rfl⟩
instance : TyS Tryz.prog 4 := tqS
instance : TyIface Tryz.prog 4 false := tqI
instance : TySz Tryz.prog 4 1 := tqN
instance : TyBytes Tryz.prog 4 1 := tqB
instance : TyZero Tryz.prog 4 (.bool false) := tqO
instance : TyBool Tryz.prog 4 := ⟨by kernel_rfl⟩
instance : TyS Tryz.prog 5 := tqS
instance : TyIface Tryz.prog 5 false := tqI
instance : TySz Tryz.prog 5 1 := tqN
instance : TyBytes Tryz.prog 5 1 := tqB
instance : TyZero Tryz.prog 5 (.int .u8 0) := tqO
instance : TyInt Tryz.prog 5 .u8 := ⟨by kernel_rfl⟩
instance : TyA Tryz.prog 7 4 := tqA
instance : TyIface Tryz.prog 7 false := tqI
instance : TySz Tryz.prog 7 4 := tqN
instance : TyBytes Tryz.prog 7 24 := tqB
instance : TyZero Tryz.prog 7 (.agg ⟨[.int .i64 0, .int .i64 0, .bool false, .int .u8 0]⟩) := tqO
instance : NoGuard Tryz.prog 7 := ⟨by kernel_rfl⟩
instance : Fld Tryz.prog 7 0 0 2 := tqD
instance : Fld Tryz.prog 7 1 1 3 := tqD
instance : Fld Tryz.prog 7 2 2 4 := tqD
instance : Fld Tryz.prog 7 3 3 6 := tqD
instance : TyPlaces Tryz.prog 7 (([(0, 1), (1, 1), (2, 1), (3, 1)] : List (Nat × Nat))[·]?) := mkTyPlaces (by kernel_rfl)
instance : TyS Tryz.prog 9 := tqS
instance : TyIface Tryz.prog 9 false := tqI
instance : TySz Tryz.prog 9 1 := tqN
instance : TyBytes Tryz.prog 9 16 := tqB
instance : TyZero Tryz.prog 9 (.string ⟨⟨[]⟩⟩) := tqO
instance : TyStr Tryz.prog 9 := ⟨by kernel_rfl⟩
instance : TyS Tryz.prog 12 := tqS
instance : TyIface Tryz.prog 12 false := tqI
instance : TySz Tryz.prog 12 1 := tqN
instance : TyBytes Tryz.prog 12 8 := tqB
instance : TyZero Tryz.prog 12 (.int .u64 0) := tqO
instance : TyInt Tryz.prog 12 .u64 := ⟨by kernel_rfl⟩
instance : TyS Tryz.prog 16 := tqS
instance : TyIface Tryz.prog 16 false := tqI
instance : TySz Tryz.prog 16 1 := tqN
instance : TyBytes Tryz.prog 16 8 := tqB
instance : TyZero Tryz.prog 16 (.pointer none) := tqO
instance : TyPtr Tryz.prog 16 389 := ⟨by kernel_rfl⟩
instance : TyS Tryz.prog 17 := tqS
instance : TyIface Tryz.prog 17 false := tqI
instance : TySz Tryz.prog 17 1 := tqN
instance : TyBytes Tryz.prog 17 8 := tqB
instance : TyZero Tryz.prog 17 (.pointer none) := tqO
instance : TyPtr Tryz.prog 17 397 := ⟨by kernel_rfl⟩
instance : TyS Tryz.prog 20 := tqS
instance : TyIface Tryz.prog 20 true := tqI
instance : TySz Tryz.prog 20 1 := tqN
instance : TyBytes Tryz.prog 20 16 := tqB
instance : TyZero Tryz.prog 20 (.nilIface) := tqO
instance : TyS Tryz.prog 21 := tqS
instance : TyIface Tryz.prog 21 false := tqI
instance : TySz Tryz.prog 21 1 := tqN
instance : TyBytes Tryz.prog 21 4 := tqB
instance : TyZero Tryz.prog 21 (.int .i32 0) := tqO
instance : TyInt Tryz.prog 21 .i32 := ⟨by kernel_rfl⟩
instance : TyS Tryz.prog 22 := tqS
instance : TyIface Tryz.prog 22 false := tqI
instance : TySz Tryz.prog 22 1 := tqN
instance : TyBytes Tryz.prog 22 24 := tqB
instance : TyZero Tryz.prog 22 (.slice none 0 0) := tqO
instance : TySlice Tryz.prog 22 30 := ⟨by kernel_rfl⟩
instance : TyS Tryz.prog 23 := tqS
instance : TyIface Tryz.prog 23 false := tqI
instance : TyFunc Tryz.prog 23 := tqF
instance : TySz Tryz.prog 23 1 := tqN
instance : TyBytes Tryz.prog 23 8 := tqB
instance : TyZero Tryz.prog 23 (.nilFunc) := tqO
instance : TyS Tryz.prog 24 := tqS
instance : TyIface Tryz.prog 24 false := tqI
instance : TySz Tryz.prog 24 1 := tqN
instance : TyBytes Tryz.prog 24 8 := tqB
instance : TyZero Tryz.prog 24 (.int .u64 0) := tqO
instance : TyInt Tryz.prog 24 .u64 := ⟨by kernel_rfl⟩
instance : TyS Tryz.prog 25 := tqS
instance : TyIface Tryz.prog 25 false := tqI
instance : TySz Tryz.prog 25 1 := tqN
instance : TyBytes Tryz.prog 25 24 := tqB
instance : TyZero Tryz.prog 25 (.slice none 0 0) := tqO
instance : TySlice Tryz.prog 25 128 := ⟨by kernel_rfl⟩
instance : TyS Tryz.prog 26 := tqS
instance : TyIface Tryz.prog 26 false := tqI
instance : TySz Tryz.prog 26 1 := tqN
instance : TyBytes Tryz.prog 26 24 := tqB
instance : TyZero Tryz.prog 26 (.slice none 0 0) := tqO
instance : TySlice Tryz.prog 26 103 := ⟨by kernel_rfl⟩
instance : TyS Tryz.prog 27 := tqS
instance : TyIface Tryz.prog 27 false := tqI
instance : TySz Tryz.prog 27 1 := tqN
instance : TyBytes Tryz.prog 27 24 := tqB
instance : TyZero Tryz.prog 27 (.slice none 0 0) := tqO
instance : TySlice Tryz.prog 27 81 := ⟨by kernel_rfl⟩
instance : TyS Tryz.prog 28 := tqS
instance : TyIface Tryz.prog 28 false := tqI
instance : TySz Tryz.prog 28 1 := tqN
instance : TyBytes Tryz.prog 28 24 := tqB
instance : TyZero Tryz.prog 28 (.slice none 0 0) := tqO
instance : TySlice Tryz.prog 28 125 := ⟨by kernel_rfl⟩
instance : TyA Tryz.prog 29 10 := tqA
instance : TyIface Tryz.prog 29 false := tqI
instance : TySz Tryz.prog 29 10 := tqN
instance : TyBytes Tryz.prog 29 144 := tqB
instance : TyZero Tryz.prog 29 (.agg ⟨[.int .i64 0, .int .u64 0, .int .i64 0, .int .u64 0, .int .u64 0, .slice none 0 0, .slice none 0 0, .int .i64 0, .slice none 0 0, .slice none 0 0]⟩) := tqO
instance : NoGuard Tryz.prog 29 := ⟨by kernel_rfl⟩
instance : Fld Tryz.prog 29 0 0 3 := tqD
instance : Fld Tryz.prog 29 1 1 24 := tqD
instance : Fld Tryz.prog 29 2 2 3 := tqD
instance : Fld Tryz.prog 29 3 3 24 := tqD
instance : Fld Tryz.prog 29 4 4 24 := tqD
instance : Fld Tryz.prog 29 5 5 25 := tqD
instance : Fld Tryz.prog 29 6 6 26 := tqD
instance : Fld Tryz.prog 29 7 7 3 := tqD
instance : Fld Tryz.prog 29 8 8 27 := tqD
instance : Fld Tryz.prog 29 9 9 28 := tqD
instance : TyPlaces Tryz.prog 29 (([(0, 1), (1, 1), (2, 1), (3, 1), (4, 1), (5, 1), (6, 1), (7, 1), (8, 1), (9, 1)] : List (Nat × Nat))[·]?) := mkTyPlaces (by kernel_rfl)
instance : TyA Tryz.prog 30 10 := tqA
instance : TyIface Tryz.prog 30 false := tqI
instance : TySz Tryz.prog 30 10 := tqN
instance : TyBytes Tryz.prog 30 144 := tqB
instance : TyZero Tryz.prog 30 (.agg ⟨[.int .i64 0, .int .u64 0, .int .i64 0, .int .u64 0, .int .u64 0, .slice none 0 0, .slice none 0 0, .int .i64 0, .slice none 0 0, .slice none 0 0]⟩) := tqO
instance : NoGuard Tryz.prog 30 := ⟨by kernel_rfl⟩
instance : TyFlds Tryz.prog 30 [(0, 3), (1, 24), (2, 3), (3, 24), (4, 24), (5, 25), (6, 26), (7, 3), (8, 27), (9, 28)] := mkTyFlds (by kernel_rfl)
instance : Fld Tryz.prog 30 0 0 3 := tqD
instance : Fld Tryz.prog 30 1 1 24 := tqD
instance : Fld Tryz.prog 30 2 2 3 := tqD
instance : Fld Tryz.prog 30 3 3 24 := tqD
instance : Fld Tryz.prog 30 4 4 24 := tqD
instance : Fld Tryz.prog 30 5 5 25 := tqD
instance : Fld Tryz.prog 30 6 6 26 := tqD
instance : Fld Tryz.prog 30 7 7 3 := tqD
instance : Fld Tryz.prog 30 8 8 27 := tqD
instance : Fld Tryz.prog 30 9 9 28 := tqD
instance : TyPlaces Tryz.prog 30 (([(0, 1), (1, 1), (2, 1), (3, 1), (4, 1), (5, 1), (6, 1), (7, 1), (8, 1), (9, 1)] : List (Nat × Nat))[·]?) := mkTyPlaces (by kernel_rfl)
instance : TyS Tryz.prog 32 := tqS
instance : TyIface Tryz.prog 32 false := tqI
instance : TySz Tryz.prog 32 1 := tqN
instance : TyBytes Tryz.prog 32 24 := tqB
instance : TyZero Tryz.prog 32 (.slice none 0 0) := tqO
instance : TySlice Tryz.prog 32 72 := ⟨by kernel_rfl⟩
instance : TyA Tryz.prog 33 2 := tqA
instance : TyIface Tryz.prog 33 false := tqI
instance : TySz Tryz.prog 33 2 := tqN
instance : TyBytes Tryz.prog 33 32 := tqB
instance : TyZero Tryz.prog 33 (.agg ⟨[.int .i64 0, .slice none 0 0]⟩) := tqO
instance : NoGuard Tryz.prog 33 := ⟨by kernel_rfl⟩
instance : Fld Tryz.prog 33 0 0 3 := tqD
instance : Fld Tryz.prog 33 1 1 32 := tqD
instance : TyPlaces Tryz.prog 33 (([(0, 1), (1, 1)] : List (Nat × Nat))[·]?) := mkTyPlaces (by kernel_rfl)
instance : TyA Tryz.prog 34 2 := tqA
instance : TyIface Tryz.prog 34 false := tqI
instance : TySz Tryz.prog 34 2 := tqN
instance : TyBytes Tryz.prog 34 32 := tqB
instance : TyZero Tryz.prog 34 (.agg ⟨[.int .i64 0, .slice none 0 0]⟩) := tqO
instance : NoGuard Tryz.prog 34 := ⟨by kernel_rfl⟩
instance : TyFlds Tryz.prog 34 [(0, 3), (1, 32)] := mkTyFlds (by kernel_rfl)
instance : Fld Tryz.prog 34 0 0 3 := tqD
instance : Fld Tryz.prog 34 1 1 32 := tqD
instance : TyPlaces Tryz.prog 34 (([(0, 1), (1, 1)] : List (Nat × Nat))[·]?) := mkTyPlaces (by kernel_rfl)
instance : TyS Tryz.prog 35 := tqS
instance : TyIface Tryz.prog 35 false := tqI
instance : TySz Tryz.prog 35 1 := tqN
instance : TyBytes Tryz.prog 35 8 := tqB
instance : TyZero Tryz.prog 35 (.int .i64 0) := tqO
instance : TyInt Tryz.prog 35 .i64 := ⟨by kernel_rfl⟩
instance : TyS Tryz.prog 40 := tqS
instance : TyIface Tryz.prog 40 false := tqI
instance : TyFunc Tryz.prog 40 := tqF
instance : TySz Tryz.prog 40 1 := tqN
instance : TyBytes Tryz.prog 40 8 := tqB
instance : TyZero Tryz.prog 40 (.nilFunc) := tqO
instance : TyS Tryz.prog 44 := tqS
instance : TyIface Tryz.prog 44 false := tqI
instance : TySz Tryz.prog 44 1 := tqN
instance : TyBytes Tryz.prog 44 24 := tqB
instance : TyZero Tryz.prog 44 (.slice none 0 0) := tqO
instance : TySlice Tryz.prog 44 5 := ⟨by kernel_rfl⟩
instance : TyS Tryz.prog 48 := tqS
instance : TyIface Tryz.prog 48 false := tqI
instance : TyFunc Tryz.prog 48 := tqF
instance : TySz Tryz.prog 48 1 := tqN
instance : TyBytes Tryz.prog 48 8 := tqB
instance : TyZero Tryz.prog 48 (.nilFunc) := tqO
instance : TyS Tryz.prog 57 := tqS
instance : TyIface Tryz.prog 57 false := tqI
instance : TySz Tryz.prog 57 1 := tqN
instance : TyBytes Tryz.prog 57 24 := tqB
instance : TyZero Tryz.prog 57 (.slice none 0 0) := tqO
instance : TySlice Tryz.prog 57 3 := ⟨by kernel_rfl⟩
instance : TyA Tryz.prog 64 15 := tqA
instance : TyIface Tryz.prog 64 false := tqI
instance : TySz Tryz.prog 64 15 := tqN
instance : TyBytes Tryz.prog 64 184 := tqB
instance : TyZero Tryz.prog 64 (.agg ⟨[.int .i64 0, .int .i64 0, .int .i64 0, .int .i64 0, .bool false, .int .i64 0, .int .u64 0, .int .i64 0, .int .u64 0, .int .u64 0, .slice none 0 0, .slice none 0 0, .int .i64 0, .slice none 0 0, .slice none 0 0]⟩) := tqO
instance : NoGuard Tryz.prog 64 := ⟨by kernel_rfl⟩
instance : Fld Tryz.prog 64 0 0 3 := tqD
instance : Fld Tryz.prog 64 1 1 3 := tqD
instance : Fld Tryz.prog 64 2 2 3 := tqD
instance : Fld Tryz.prog 64 3 3 3 := tqD
instance : Fld Tryz.prog 64 4 4 4 := tqD
instance : Fld Tryz.prog 64 5 5 30 := tqD
instance : TyPlaces Tryz.prog 64 (([(0, 1), (1, 1), (2, 1), (3, 1), (4, 1), (5, 10)] : List (Nat × Nat))[·]?) := mkTyPlaces (by kernel_rfl)
instance : TyS Tryz.prog 69 := tqS
instance : TyIface Tryz.prog 69 false := tqI
instance : TySz Tryz.prog 69 1 := tqN
instance : TyBytes Tryz.prog 69 24 := tqB
instance : TyZero Tryz.prog 69 (.slice none 0 0) := tqO
instance : TySlice Tryz.prog 69 74 := ⟨by kernel_rfl⟩
instance : TyS Tryz.prog 70 := tqS
instance : TyIface Tryz.prog 70 false := tqI
instance : TySz Tryz.prog 70 1 := tqN
instance : TyBytes Tryz.prog 70 24 := tqB
instance : TyZero Tryz.prog 70 (.slice none 0 0) := tqO
instance : TySlice Tryz.prog 70 24 := ⟨by kernel_rfl⟩
instance : TyA Tryz.prog 71 7 := tqA
instance : TyIface Tryz.prog 71 false := tqI
instance : TySz Tryz.prog 71 7 := tqN
instance : TyBytes Tryz.prog 71 88 := tqB
instance : TyZero Tryz.prog 71 (.agg ⟨[.int .i64 0, .int .i64 0, .int .u64 0, .int .u64 0, .int .u64 0, .slice none 0 0, .slice none 0 0]⟩) := tqO
instance : NoGuard Tryz.prog 71 := ⟨by kernel_rfl⟩
instance : Fld Tryz.prog 71 0 0 3 := tqD
instance : Fld Tryz.prog 71 1 1 3 := tqD
instance : Fld Tryz.prog 71 2 2 24 := tqD
instance : Fld Tryz.prog 71 3 3 24 := tqD
instance : Fld Tryz.prog 71 4 4 24 := tqD
instance : Fld Tryz.prog 71 5 5 69 := tqD
instance : Fld Tryz.prog 71 6 6 70 := tqD
instance : TyPlaces Tryz.prog 71 (([(0, 1), (1, 1), (2, 1), (3, 1), (4, 1), (5, 1), (6, 1)] : List (Nat × Nat))[·]?) := mkTyPlaces (by kernel_rfl)
instance : TyA Tryz.prog 72 7 := tqA
instance : TyIface Tryz.prog 72 false := tqI
instance : TySz Tryz.prog 72 7 := tqN
instance : TyBytes Tryz.prog 72 88 := tqB
instance : TyZero Tryz.prog 72 (.agg ⟨[.int .i64 0, .int .i64 0, .int .u64 0, .int .u64 0, .int .u64 0, .slice none 0 0, .slice none 0 0]⟩) := tqO
instance : NoGuard Tryz.prog 72 := ⟨by kernel_rfl⟩
instance : TyFlds Tryz.prog 72 [(0, 3), (1, 3), (2, 24), (3, 24), (4, 24), (5, 69), (6, 70)] := mkTyFlds (by kernel_rfl)
instance : Fld Tryz.prog 72 0 0 3 := tqD
instance : Fld Tryz.prog 72 1 1 3 := tqD
instance : Fld Tryz.prog 72 2 2 24 := tqD
instance : Fld Tryz.prog 72 3 3 24 := tqD
instance : Fld Tryz.prog 72 4 4 24 := tqD
instance : Fld Tryz.prog 72 5 5 69 := tqD
instance : Fld Tryz.prog 72 6 6 70 := tqD
instance : TyPlaces Tryz.prog 72 (([(0, 1), (1, 1), (2, 1), (3, 1), (4, 1), (5, 1), (6, 1)] : List (Nat × Nat))[·]?) := mkTyPlaces (by kernel_rfl)
instance : TyA Tryz.prog 73 2 := tqA
instance : TyIface Tryz.prog 73 false := tqI
instance : TySz Tryz.prog 73 2 := tqN
instance : TyBytes Tryz.prog 73 16 := tqB
instance : TyZero Tryz.prog 73 (.agg ⟨[.int .u64 0, .int .i64 0]⟩) := tqO
instance : NoGuard Tryz.prog 73 := ⟨by kernel_rfl⟩
instance : Fld Tryz.prog 73 0 0 24 := tqD
instance : Fld Tryz.prog 73 1 1 3 := tqD
instance : TyPlaces Tryz.prog 73 (([(0, 1), (1, 1)] : List (Nat × Nat))[·]?) := mkTyPlaces (by kernel_rfl)
instance : TyA Tryz.prog 74 2 := tqA
instance : TyIface Tryz.prog 74 false := tqI
instance : TySz Tryz.prog 74 2 := tqN
instance : TyBytes Tryz.prog 74 16 := tqB
instance : TyZero Tryz.prog 74 (.agg ⟨[.int .u64 0, .int .i64 0]⟩) := tqO
instance : NoGuard Tryz.prog 74 := ⟨by kernel_rfl⟩
instance : TyFlds Tryz.prog 74 [(0, 24), (1, 3)] := mkTyFlds (by kernel_rfl)
instance : Fld Tryz.prog 74 0 0 24 := tqD
instance : Fld Tryz.prog 74 1 1 3 := tqD
instance : TyPlaces Tryz.prog 74 (([(0, 1), (1, 1)] : List (Nat × Nat))[·]?) := mkTyPlaces (by kernel_rfl)
instance : TyA Tryz.prog 80 5 := tqA
instance : TyIface Tryz.prog 80 false := tqI
instance : TySz Tryz.prog 80 5 := tqN
instance : TyBytes Tryz.prog 80 40 := tqB
instance : TyZero Tryz.prog 80 (.agg ⟨[.int .i64 0, .int .u64 0, .int .u64 0, .int .u64 0, .int .i64 0]⟩) := tqO
instance : NoGuard Tryz.prog 80 := ⟨by kernel_rfl⟩
instance : Fld Tryz.prog 80 0 0 3 := tqD
instance : Fld Tryz.prog 80 1 1 24 := tqD
instance : Fld Tryz.prog 80 2 2 24 := tqD
instance : Fld Tryz.prog 80 3 3 24 := tqD
instance : Fld Tryz.prog 80 4 4 3 := tqD
instance : TyPlaces Tryz.prog 80 (([(0, 1), (1, 1), (2, 1), (3, 1), (4, 1)] : List (Nat × Nat))[·]?) := mkTyPlaces (by kernel_rfl)
instance : TyA Tryz.prog 81 5 := tqA
instance : TyIface Tryz.prog 81 false := tqI
instance : TySz Tryz.prog 81 5 := tqN
instance : TyBytes Tryz.prog 81 40 := tqB
instance : TyZero Tryz.prog 81 (.agg ⟨[.int .i64 0, .int .u64 0, .int .u64 0, .int .u64 0, .int .i64 0]⟩) := tqO
instance : NoGuard Tryz.prog 81 := ⟨by kernel_rfl⟩
instance : TyFlds Tryz.prog 81 [(0, 3), (1, 24), (2, 24), (3, 24), (4, 3)] := mkTyFlds (by kernel_rfl)
instance : Fld Tryz.prog 81 0 0 3 := tqD
instance : Fld Tryz.prog 81 1 1 24 := tqD
instance : Fld Tryz.prog 81 2 2 24 := tqD
instance : Fld Tryz.prog 81 3 3 24 := tqD
instance : Fld Tryz.prog 81 4 4 3 := tqD
instance : TyPlaces Tryz.prog 81 (([(0, 1), (1, 1), (2, 1), (3, 1), (4, 1)] : List (Nat × Nat))[·]?) := mkTyPlaces (by kernel_rfl)
instance : TyS Tryz.prog 83 := tqS
instance : TyIface Tryz.prog 83 false := tqI
instance : TySz Tryz.prog 83 1 := tqN
instance : TyBytes Tryz.prog 83 8 := tqB
instance : TyZero Tryz.prog 83 (.int .u64 0) := tqO
instance : TyInt Tryz.prog 83 .u64 := ⟨by kernel_rfl⟩
instance : TyS Tryz.prog 88 := tqS
instance : TyIface Tryz.prog 88 false := tqI
instance : TyFunc Tryz.prog 88 := tqF
instance : TySz Tryz.prog 88 1 := tqN
instance : TyBytes Tryz.prog 88 8 := tqB
instance : TyZero Tryz.prog 88 (.nilFunc) := tqO
instance : TyS Tryz.prog 96 := tqS
instance : TyIface Tryz.prog 96 false := tqI
instance : TyFunc Tryz.prog 96 := tqF
instance : TySz Tryz.prog 96 1 := tqN
instance : TyBytes Tryz.prog 96 8 := tqB
instance : TyZero Tryz.prog 96 (.nilFunc) := tqO
instance : TyS Tryz.prog 97 := tqS
instance : TyIface Tryz.prog 97 false := tqI
instance : TySz Tryz.prog 97 1 := tqN
instance : TyBytes Tryz.prog 97 2 := tqB
instance : TyZero Tryz.prog 97 (.int .u16 0) := tqO
instance : TyInt Tryz.prog 97 .u16 := ⟨by kernel_rfl⟩
instance : TyA Tryz.prog 98 2 := tqA
instance : TyIface Tryz.prog 98 false := tqI
instance : TySz Tryz.prog 98 2 := tqN
instance : TyBytes Tryz.prog 98 16 := tqB
instance : TyZero Tryz.prog 98 (.agg ⟨[.int .i64 0, .int .u16 0]⟩) := tqO
instance : NoGuard Tryz.prog 98 := ⟨by kernel_rfl⟩
instance : Fld Tryz.prog 98 0 0 3 := tqD
instance : Fld Tryz.prog 98 1 1 97 := tqD
instance : TyPlaces Tryz.prog 98 (([(0, 1), (1, 1)] : List (Nat × Nat))[·]?) := mkTyPlaces (by kernel_rfl)
instance : TyA Tryz.prog 99 2 := tqA
instance : TyIface Tryz.prog 99 false := tqI
instance : TySz Tryz.prog 99 2 := tqN
instance : TyBytes Tryz.prog 99 16 := tqB
instance : TyZero Tryz.prog 99 (.agg ⟨[.int .i64 0, .int .u16 0]⟩) := tqO
instance : NoGuard Tryz.prog 99 := ⟨by kernel_rfl⟩
instance : TyFlds Tryz.prog 99 [(0, 3), (1, 97)] := mkTyFlds (by kernel_rfl)
instance : Fld Tryz.prog 99 0 0 3 := tqD
instance : Fld Tryz.prog 99 1 1 97 := tqD
instance : TyPlaces Tryz.prog 99 (([(0, 1), (1, 1)] : List (Nat × Nat))[·]?) := mkTyPlaces (by kernel_rfl)
instance : TyA Tryz.prog 100 4 := tqA
instance : TyIface Tryz.prog 100 false := tqI
instance : TySz Tryz.prog 100 4 := tqN
instance : TyBytes Tryz.prog 100 40 := tqB
instance : TyZero Tryz.prog 100 (.agg ⟨[.int .i64 0, .int .u16 0, .int .i64 0, .string ⟨⟨[]⟩⟩]⟩) := tqO
instance : NoGuard Tryz.prog 100 := ⟨by kernel_rfl⟩
instance : Fld Tryz.prog 100 0 0 99 := tqD
instance : Fld Tryz.prog 100 1 2 2 := tqD
instance : Fld Tryz.prog 100 2 3 9 := tqD
instance : TyPlaces Tryz.prog 100 (([(0, 2), (2, 1), (3, 1)] : List (Nat × Nat))[·]?) := mkTyPlaces (by kernel_rfl)
instance : TyA Tryz.prog 101 4 := tqA
instance : TyIface Tryz.prog 101 false := tqI
instance : TySz Tryz.prog 101 4 := tqN
instance : TyBytes Tryz.prog 101 40 := tqB
instance : TyZero Tryz.prog 101 (.agg ⟨[.int .i64 0, .int .u16 0, .int .i64 0, .string ⟨⟨[]⟩⟩]⟩) := tqO
instance : NoGuard Tryz.prog 101 := ⟨by kernel_rfl⟩
instance : TyFlds Tryz.prog 101 [(0, 99), (2, 2), (3, 9)] := mkTyFlds (by kernel_rfl)
instance : Fld Tryz.prog 101 0 0 99 := tqD
instance : Fld Tryz.prog 101 1 2 2 := tqD
instance : Fld Tryz.prog 101 2 3 9 := tqD
instance : TyPlaces Tryz.prog 101 (([(0, 2), (2, 1), (3, 1)] : List (Nat × Nat))[·]?) := mkTyPlaces (by kernel_rfl)
instance : TyA Tryz.prog 102 6 := tqA
instance : TyIface Tryz.prog 102 false := tqI
instance : TySz Tryz.prog 102 6 := tqN
instance : TyBytes Tryz.prog 102 56 := tqB
instance : TyZero Tryz.prog 102 (.agg ⟨[.int .i64 0, .int .i64 0, .int .u16 0, .int .i64 0, .string ⟨⟨[]⟩⟩, .int .i64 0]⟩) := tqO
instance : NoGuard Tryz.prog 102 := ⟨by kernel_rfl⟩
instance : Fld Tryz.prog 102 0 0 3 := tqD
instance : Fld Tryz.prog 102 1 1 101 := tqD
instance : Fld Tryz.prog 102 2 5 2 := tqD
instance : TyPlaces Tryz.prog 102 (([(0, 1), (1, 4), (5, 1)] : List (Nat × Nat))[·]?) := mkTyPlaces (by kernel_rfl)
instance : TyA Tryz.prog 103 6 := tqA
instance : TyIface Tryz.prog 103 false := tqI
instance : TySz Tryz.prog 103 6 := tqN
instance : TyBytes Tryz.prog 103 56 := tqB
instance : TyZero Tryz.prog 103 (.agg ⟨[.int .i64 0, .int .i64 0, .int .u16 0, .int .i64 0, .string ⟨⟨[]⟩⟩, .int .i64 0]⟩) := tqO
instance : NoGuard Tryz.prog 103 := ⟨by kernel_rfl⟩
instance : TyFlds Tryz.prog 103 [(0, 3), (1, 101), (5, 2)] := mkTyFlds (by kernel_rfl)
instance : Fld Tryz.prog 103 0 0 3 := tqD
instance : Fld Tryz.prog 103 1 1 101 := tqD
instance : Fld Tryz.prog 103 2 5 2 := tqD
instance : TyPlaces Tryz.prog 103 (([(0, 1), (1, 4), (5, 1)] : List (Nat × Nat))[·]?) := mkTyPlaces (by kernel_rfl)
instance : TyS Tryz.prog 107 := tqS
instance : TyIface Tryz.prog 107 false := tqI
instance : TySz Tryz.prog 107 1 := tqN
instance : TyBytes Tryz.prog 107 24 := tqB
instance : TyZero Tryz.prog 107 (.slice none 0 0) := tqO
instance : TySlice Tryz.prog 107 101 := ⟨by kernel_rfl⟩
instance : TyS Tryz.prog 108 := tqS
instance : TyIface Tryz.prog 108 false := tqI
instance : TySz Tryz.prog 108 1 := tqN
instance : TyBytes Tryz.prog 108 24 := tqB
instance : TyZero Tryz.prog 108 (.slice none 0 0) := tqO
instance : TySlice Tryz.prog 108 224 := ⟨by kernel_rfl⟩
instance : TyA Tryz.prog 109 3 := tqA
instance : TyIface Tryz.prog 109 false := tqI
instance : TySz Tryz.prog 109 3 := tqN
instance : TyBytes Tryz.prog 109 56 := tqB
instance : TyZero Tryz.prog 109 (.agg ⟨[.int .i64 0, .slice none 0 0, .slice none 0 0]⟩) := tqO
instance : NoGuard Tryz.prog 109 := ⟨by kernel_rfl⟩
instance : Fld Tryz.prog 109 0 0 3 := tqD
instance : Fld Tryz.prog 109 1 1 107 := tqD
instance : Fld Tryz.prog 109 2 2 108 := tqD
instance : TyPlaces Tryz.prog 109 (([(0, 1), (1, 1), (2, 1)] : List (Nat × Nat))[·]?) := mkTyPlaces (by kernel_rfl)
instance : TyA Tryz.prog 110 3 := tqA
instance : TyIface Tryz.prog 110 false := tqI
instance : TySz Tryz.prog 110 3 := tqN
instance : TyBytes Tryz.prog 110 56 := tqB
instance : TyZero Tryz.prog 110 (.agg ⟨[.int .i64 0, .slice none 0 0, .slice none 0 0]⟩) := tqO
instance : NoGuard Tryz.prog 110 := ⟨by kernel_rfl⟩
instance : TyFlds Tryz.prog 110 [(0, 3), (1, 107), (2, 108)] := mkTyFlds (by kernel_rfl)
instance : Fld Tryz.prog 110 0 0 3 := tqD
instance : Fld Tryz.prog 110 1 1 107 := tqD
instance : Fld Tryz.prog 110 2 2 108 := tqD
instance : TyPlaces Tryz.prog 110 (([(0, 1), (1, 1), (2, 1)] : List (Nat × Nat))[·]?) := mkTyPlaces (by kernel_rfl)
instance : TyS Tryz.prog 120 := tqS
instance : TyIface Tryz.prog 120 false := tqI
instance : TyFunc Tryz.prog 120 := tqF
instance : TySz Tryz.prog 120 1 := tqN
instance : TyBytes Tryz.prog 120 8 := tqB
instance : TyZero Tryz.prog 120 (.nilFunc) := tqO
instance : TyA Tryz.prog 124 2 := tqA
instance : TyIface Tryz.prog 124 false := tqI
instance : TySz Tryz.prog 124 2 := tqN
instance : TyBytes Tryz.prog 124 16 := tqB
instance : TyZero Tryz.prog 124 (.agg ⟨[.int .i64 0, .int .u64 0]⟩) := tqO
instance : NoGuard Tryz.prog 124 := ⟨by kernel_rfl⟩
instance : Fld Tryz.prog 124 0 0 3 := tqD
instance : Fld Tryz.prog 124 1 1 24 := tqD
instance : TyPlaces Tryz.prog 124 (([(0, 1), (1, 1)] : List (Nat × Nat))[·]?) := mkTyPlaces (by kernel_rfl)
instance : TyA Tryz.prog 125 2 := tqA
instance : TyIface Tryz.prog 125 false := tqI
instance : TySz Tryz.prog 125 2 := tqN
instance : TyBytes Tryz.prog 125 16 := tqB
instance : TyZero Tryz.prog 125 (.agg ⟨[.int .i64 0, .int .u64 0]⟩) := tqO
instance : NoGuard Tryz.prog 125 := ⟨by kernel_rfl⟩
instance : TyFlds Tryz.prog 125 [(0, 3), (1, 24)] := mkTyFlds (by kernel_rfl)
instance : Fld Tryz.prog 125 0 0 3 := tqD
instance : Fld Tryz.prog 125 1 1 24 := tqD
instance : TyPlaces Tryz.prog 125 (([(0, 1), (1, 1)] : List (Nat × Nat))[·]?) := mkTyPlaces (by kernel_rfl)
instance : TyA Tryz.prog 127 7 := tqA
instance : TyIface Tryz.prog 127 false := tqI
instance : TySz Tryz.prog 127 7 := tqN
instance : TyBytes Tryz.prog 127 120 := tqB
instance : TyZero Tryz.prog 127 (.agg ⟨[.int .i64 0, .int .i64 0, .slice none 0 0, .slice none 0 0, .int .i64 0, .slice none 0 0, .slice none 0 0]⟩) := tqO
instance : NoGuard Tryz.prog 127 := ⟨by kernel_rfl⟩
instance : Fld Tryz.prog 127 0 0 3 := tqD
instance : Fld Tryz.prog 127 1 1 110 := tqD
instance : Fld Tryz.prog 127 2 4 110 := tqD
instance : TyPlaces Tryz.prog 127 (([(0, 1), (1, 3), (4, 3)] : List (Nat × Nat))[·]?) := mkTyPlaces (by kernel_rfl)
instance : TyA Tryz.prog 128 7 := tqA
instance : TyIface Tryz.prog 128 false := tqI
instance : TySz Tryz.prog 128 7 := tqN
instance : TyBytes Tryz.prog 128 120 := tqB
instance : TyZero Tryz.prog 128 (.agg ⟨[.int .i64 0, .int .i64 0, .slice none 0 0, .slice none 0 0, .int .i64 0, .slice none 0 0, .slice none 0 0]⟩) := tqO
instance : NoGuard Tryz.prog 128 := ⟨by kernel_rfl⟩
instance : TyFlds Tryz.prog 128 [(0, 3), (1, 110), (4, 110)] := mkTyFlds (by kernel_rfl)
instance : Fld Tryz.prog 128 0 0 3 := tqD
instance : Fld Tryz.prog 128 1 1 110 := tqD
instance : Fld Tryz.prog 128 2 4 110 := tqD
instance : TyPlaces Tryz.prog 128 (([(0, 1), (1, 3), (4, 3)] : List (Nat × Nat))[·]?) := mkTyPlaces (by kernel_rfl)
instance : TyS Tryz.prog 130 := tqS
instance : TyIface Tryz.prog 130 false := tqI
instance : TyFunc Tryz.prog 130 := tqF
instance : TySz Tryz.prog 130 1 := tqN
instance : TyBytes Tryz.prog 130 8 := tqB
instance : TyZero Tryz.prog 130 (.nilFunc) := tqO
instance : TyS Tryz.prog 131 := tqS
instance : TyIface Tryz.prog 131 false := tqI
instance : TyFunc Tryz.prog 131 := tqF
instance : TySz Tryz.prog 131 1 := tqN
instance : TyBytes Tryz.prog 131 8 := tqB
instance : TyZero Tryz.prog 131 (.nilFunc) := tqO
instance : TyS Tryz.prog 141 := tqS
instance : TyIface Tryz.prog 141 false := tqI
instance : TySz Tryz.prog 141 1 := tqN
instance : TyBytes Tryz.prog 141 4 := tqB
instance : TyZero Tryz.prog 141 (.int .u32 0) := tqO
instance : TyInt Tryz.prog 141 .u32 := ⟨by kernel_rfl⟩
instance : TyS Tryz.prog 156 := tqS
instance : TyIface Tryz.prog 156 false := tqI
instance : TySz Tryz.prog 156 1 := tqN
instance : TyBytes Tryz.prog 156 8 := tqB
instance : TyZero Tryz.prog 156 (.pointer none) := tqO
instance : TyPtr Tryz.prog 156 158 := ⟨by kernel_rfl⟩
instance : TyA Tryz.prog 157 10 := tqA
instance : TyIface Tryz.prog 157 false := tqI
instance : TySz Tryz.prog 157 10 := tqN
instance : TyBytes Tryz.prog 157 144 := tqB
instance : TyZero Tryz.prog 157 (.agg ⟨[.int .i64 0, .int .u64 0, .int .i64 0, .int .u64 0, .int .u64 0, .slice none 0 0, .slice none 0 0, .int .i64 0, .slice none 0 0, .slice none 0 0]⟩) := tqO
instance : NoGuard Tryz.prog 157 := ⟨by kernel_rfl⟩
instance : Fld Tryz.prog 157 0 0 30 := tqD
instance : TyPlaces Tryz.prog 157 (([(0, 10)] : List (Nat × Nat))[·]?) := mkTyPlaces (by kernel_rfl)
instance : TyA Tryz.prog 158 10 := tqA
instance : TyIface Tryz.prog 158 false := tqI
instance : TySz Tryz.prog 158 10 := tqN
instance : TyBytes Tryz.prog 158 144 := tqB
instance : TyZero Tryz.prog 158 (.agg ⟨[.int .i64 0, .int .u64 0, .int .i64 0, .int .u64 0, .int .u64 0, .slice none 0 0, .slice none 0 0, .int .i64 0, .slice none 0 0, .slice none 0 0]⟩) := tqO
instance : NoGuard Tryz.prog 158 := ⟨by kernel_rfl⟩
instance : TyFlds Tryz.prog 158 [(0, 30)] := mkTyFlds (by kernel_rfl)
instance : Fld Tryz.prog 158 0 0 30 := tqD
instance : TyPlaces Tryz.prog 158 (([(0, 10)] : List (Nat × Nat))[·]?) := mkTyPlaces (by kernel_rfl)
instance : TyS Tryz.prog 159 := tqS
instance : TyIface Tryz.prog 159 false := tqI
instance : TySz Tryz.prog 159 1 := tqN
instance : TyBytes Tryz.prog 159 8 := tqB
instance : TyZero Tryz.prog 159 (.map none) := tqO
instance : TyMap Tryz.prog 159 3 23 := ⟨by kernel_rfl⟩
instance : TyS Tryz.prog 197 := tqS
instance : TyIface Tryz.prog 197 false := tqI
instance : TySz Tryz.prog 197 1 := tqN
instance : TyBytes Tryz.prog 197 8 := tqB
instance : TyZero Tryz.prog 197 (.pointer none) := tqO
instance : TyPtr Tryz.prog 197 28 := ⟨by kernel_rfl⟩
instance : TyS Tryz.prog 200 := tqS
instance : TyIface Tryz.prog 200 false := tqI
instance : TyFunc Tryz.prog 200 := tqF
instance : TySz Tryz.prog 200 1 := tqN
instance : TyBytes Tryz.prog 200 8 := tqB
instance : TyZero Tryz.prog 200 (.nilFunc) := tqO
instance : TyS Tryz.prog 203 := tqS
instance : TyIface Tryz.prog 203 false := tqI
instance : TyFunc Tryz.prog 203 := tqF
instance : TySz Tryz.prog 203 1 := tqN
instance : TyBytes Tryz.prog 203 8 := tqB
instance : TyZero Tryz.prog 203 (.nilFunc) := tqO
instance : TyA Tryz.prog 223 3 := tqA
instance : TyIface Tryz.prog 223 false := tqI
instance : TySz Tryz.prog 223 3 := tqN
instance : TyBytes Tryz.prog 223 24 := tqB
instance : TyZero Tryz.prog 223 (.agg ⟨[.int .i64 0, .int .u16 0, .int .i64 0]⟩) := tqO
instance : NoGuard Tryz.prog 223 := ⟨by kernel_rfl⟩
instance : Fld Tryz.prog 223 0 0 99 := tqD
instance : Fld Tryz.prog 223 1 2 3 := tqD
instance : TyPlaces Tryz.prog 223 (([(0, 2), (2, 1)] : List (Nat × Nat))[·]?) := mkTyPlaces (by kernel_rfl)
instance : TyA Tryz.prog 224 3 := tqA
instance : TyIface Tryz.prog 224 false := tqI
instance : TySz Tryz.prog 224 3 := tqN
instance : TyBytes Tryz.prog 224 24 := tqB
instance : TyZero Tryz.prog 224 (.agg ⟨[.int .i64 0, .int .u16 0, .int .i64 0]⟩) := tqO
instance : NoGuard Tryz.prog 224 := ⟨by kernel_rfl⟩
instance : TyFlds Tryz.prog 224 [(0, 99), (2, 3)] := mkTyFlds (by kernel_rfl)
instance : Fld Tryz.prog 224 0 0 99 := tqD
instance : Fld Tryz.prog 224 1 2 3 := tqD
instance : TyPlaces Tryz.prog 224 (([(0, 2), (2, 1)] : List (Nat × Nat))[·]?) := mkTyPlaces (by kernel_rfl)
instance : TyS Tryz.prog 227 := tqS
instance : TyIface Tryz.prog 227 false := tqI
instance : TyFunc Tryz.prog 227 := tqF
instance : TySz Tryz.prog 227 1 := tqN
instance : TyBytes Tryz.prog 227 8 := tqB
instance : TyZero Tryz.prog 227 (.nilFunc) := tqO
instance : TyS Tryz.prog 230 := tqS
instance : TyIface Tryz.prog 230 false := tqI
instance : TyFunc Tryz.prog 230 := tqF
instance : TySz Tryz.prog 230 1 := tqN
instance : TyBytes Tryz.prog 230 8 := tqB
instance : TyZero Tryz.prog 230 (.nilFunc) := tqO
instance : TyS Tryz.prog 231 := tqS
instance : TyIface Tryz.prog 231 false := tqI
instance : TyFunc Tryz.prog 231 := tqF
instance : TySz Tryz.prog 231 1 := tqN
instance : TyBytes Tryz.prog 231 8 := tqB
instance : TyZero Tryz.prog 231 (.nilFunc) := tqO
instance : TyS Tryz.prog 233 := tqS
instance : TyIface Tryz.prog 233 false := tqI
instance : TyFunc Tryz.prog 233 := tqF
instance : TySz Tryz.prog 233 1 := tqN
instance : TyBytes Tryz.prog 233 8 := tqB
instance : TyZero Tryz.prog 233 (.nilFunc) := tqO
instance : TyS Tryz.prog 234 := tqS
instance : TyIface Tryz.prog 234 false := tqI
instance : TyFunc Tryz.prog 234 := tqF
instance : TySz Tryz.prog 234 1 := tqN
instance : TyBytes Tryz.prog 234 8 := tqB
instance : TyZero Tryz.prog 234 (.nilFunc) := tqO
instance : TyS Tryz.prog 267 := tqS
instance : TyIface Tryz.prog 267 false := tqI
instance : TyFunc Tryz.prog 267 := tqF
instance : TySz Tryz.prog 267 1 := tqN
instance : TyBytes Tryz.prog 267 8 := tqB
instance : TyZero Tryz.prog 267 (.nilFunc) := tqO
instance : TyS Tryz.prog 270 := tqS
instance : TyIface Tryz.prog 270 false := tqI
instance : TyFunc Tryz.prog 270 := tqF
instance : TySz Tryz.prog 270 1 := tqN
instance : TyBytes Tryz.prog 270 8 := tqB
instance : TyZero Tryz.prog 270 (.nilFunc) := tqO
instance : TyS Tryz.prog 285 := tqS
instance : TyIface Tryz.prog 285 false := tqI
instance : TyFunc Tryz.prog 285 := tqF
instance : TySz Tryz.prog 285 1 := tqN
instance : TyBytes Tryz.prog 285 8 := tqB
instance : TyZero Tryz.prog 285 (.nilFunc) := tqO
instance : TyS Tryz.prog 333 := tqS
instance : TyIface Tryz.prog 333 false := tqI
instance : TyFunc Tryz.prog 333 := tqF
instance : TySz Tryz.prog 333 1 := tqN
instance : TyBytes Tryz.prog 333 8 := tqB
instance : TyZero Tryz.prog 333 (.nilFunc) := tqO
instance : TyS Tryz.prog 334 := tqS
instance : TyIface Tryz.prog 334 false := tqI
instance : TyFunc Tryz.prog 334 := tqF
instance : TySz Tryz.prog 334 1 := tqN
instance : TyBytes Tryz.prog 334 8 := tqB
instance : TyZero Tryz.prog 334 (.nilFunc) := tqO
instance : TyS Tryz.prog 335 := tqS
instance : TyIface Tryz.prog 335 false := tqI
instance : TySz Tryz.prog 335 1 := tqN
instance : TyBytes Tryz.prog 335 8 := tqB
instance : TyZero Tryz.prog 335 (.map none) := tqO
instance : TyMap Tryz.prog 335 3 4 := ⟨by kernel_rfl⟩
instance : TyS Tryz.prog 337 := tqS
instance : TyIface Tryz.prog 337 false := tqI
instance : TyFunc Tryz.prog 337 := tqF
instance : TySz Tryz.prog 337 1 := tqN
instance : TyBytes Tryz.prog 337 8 := tqB
instance : TyZero Tryz.prog 337 (.nilFunc) := tqO
instance : TyS Tryz.prog 338 := tqS
instance : TyIface Tryz.prog 338 false := tqI
instance : TyFunc Tryz.prog 338 := tqF
instance : TySz Tryz.prog 338 1 := tqN
instance : TyBytes Tryz.prog 338 8 := tqB
instance : TyZero Tryz.prog 338 (.nilFunc) := tqO
instance : TyS Tryz.prog 392 := tqS
instance : TyIface Tryz.prog 392 false := tqI
instance : TyFunc Tryz.prog 392 := tqF
instance : TySz Tryz.prog 392 1 := tqN
instance : TyBytes Tryz.prog 392 8 := tqB
instance : TyZero Tryz.prog 392 (.nilFunc) := tqO
instance : TyS Tryz.prog 393 := tqS
instance : TyIface Tryz.prog 393 false := tqI
instance : TySz Tryz.prog 393 1 := tqN
instance : TyBytes Tryz.prog 393 8 := tqB
instance : TyZero Tryz.prog 393 (.pointer none) := tqO
instance : TyPtr Tryz.prog 393 5 := ⟨by kernel_rfl⟩
instance : TyA Tryz.prog 396 11 := tqA
instance : TyIface Tryz.prog 396 false := tqI
instance : TySz Tryz.prog 396 11 := tqN
instance : TyBytes Tryz.prog 396 48 := tqB
instance : TyZero Tryz.prog 396 (.agg ⟨[.int .u64 0, .int .u64 0, .int .u32 0, .int .u8 0, .int .u8 0, .int .u8 0, .int .u8 0, .nilFunc, .pointer none, .int .i32 0, .int .i32 0]⟩) := tqO
instance : NoGuard Tryz.prog 396 := ⟨by kernel_rfl⟩
instance : Fld Tryz.prog 396 0 0 12 := tqD
instance : Fld Tryz.prog 396 1 1 12 := tqD
instance : Fld Tryz.prog 396 2 2 141 := tqD
instance : Fld Tryz.prog 396 3 3 390 := tqD
instance : Fld Tryz.prog 396 4 4 5 := tqD
instance : Fld Tryz.prog 396 5 5 5 := tqD
instance : Fld Tryz.prog 396 6 6 391 := tqD
instance : Fld Tryz.prog 396 7 7 392 := tqD
instance : Fld Tryz.prog 396 8 8 393 := tqD
instance : Fld Tryz.prog 396 9 9 394 := tqD
instance : Fld Tryz.prog 396 10 10 395 := tqD
instance : TyPlaces Tryz.prog 396 (([(0, 1), (1, 1), (2, 1), (3, 1), (4, 1), (5, 1), (6, 1), (7, 1), (8, 1), (9, 1), (10, 1)] : List (Nat × Nat))[·]?) := mkTyPlaces (by kernel_rfl)
instance : Fun Tryz.prog 3 := tqU
instance : Fun Tryz.prog 13 := tqU
instance : Fun Tryz.prog 14 := tqU
instance : Fun Tryz.prog 15 := tqU
instance : Fun Tryz.prog 16 := tqU
instance : Fun Tryz.prog 17 := tqU
instance : Fun Tryz.prog 18 := tqU
instance : Fun Tryz.prog 19 := tqU
instance : Fun Tryz.prog 20 := tqU
instance : Fun Tryz.prog 26 := tqU
instance : Fun Tryz.prog 27 := tqU
instance : Fun Tryz.prog 33 := tqU
instance : Fun Tryz.prog 34 := tqU
instance : Fun Tryz.prog 41 := tqU
instance : Fun Tryz.prog 42 := tqU
instance : Fun Tryz.prog 48 := tqU
instance : Fun Tryz.prog 54 := tqU
instance : Fun Tryz.prog 67 := tqU
instance : Fun Tryz.prog 68 := tqU
instance : Fun Tryz.prog 69 := tqU
instance : Fun Tryz.prog 70 := tqU
instance : Fun Tryz.prog 71 := tqU
instance : Fun Tryz.prog 72 := tqU
instance : Fun Tryz.prog 73 := tqU
instance : Fun Tryz.prog 74 := tqU
instance : Fun Tryz.prog 75 := tqU
instance : Fun Tryz.prog 76 := tqU
instance : Fun Tryz.prog 95 := tqU
instance : Fun Tryz.prog 96 := tqU
instance : Fun Tryz.prog 97 := tqU
instance : Fun Tryz.prog 98 := tqU
instance : Fun Tryz.prog 99 := tqU
instance : Fun Tryz.prog 100 := tqU
instance : Fun Tryz.prog 101 := tqU
instance : Fun Tryz.prog 102 := tqU
instance : Fun Tryz.prog 103 := tqU
instance : Fun Tryz.prog 104 := tqU
instance : Fun Tryz.prog 105 := tqU
instance : Fun Tryz.prog 121 := tqU
instance : Fun Tryz.prog 122 := tqU
instance : Fun Tryz.prog 129 := tqU
instance : Fun Tryz.prog 149 := tqU
instance : Fun Tryz.prog 150 := tqU
instance : Fun Tryz.prog 151 := tqU
instance : Fun Tryz.prog 152 := tqU
instance : Fun Tryz.prog 153 := tqU
instance : Fun Tryz.prog 154 := tqU
instance : Fun Tryz.prog 155 := tqU
instance : Fun Tryz.prog 156 := tqU
instance : Fun Tryz.prog 157 := tqU
instance : Fun Tryz.prog 158 := tqU
instance : Fun Tryz.prog 177 := tqU
instance : Fun Tryz.prog 178 := tqU
instance : Fun Tryz.prog 179 := tqU
instance : Fun Tryz.prog 180 := tqU
instance : Fun Tryz.prog 181 := tqU
instance : Fun Tryz.prog 182 := tqU
instance : Fun Tryz.prog 183 := tqU
instance : Fun Tryz.prog 184 := tqU
instance : Fun Tryz.prog 185 := tqU
instance : Fun Tryz.prog 186 := tqU
instance : Fun Tryz.prog 187 := tqU
instance : Fun Tryz.prog 188 := tqU
instance : Fun Tryz.prog 189 := tqU
instance : Fun Tryz.prog 190 := tqU
instance : Fun Tryz.prog 205 := tqU
instance : Fun Tryz.prog 206 := tqU
instance : Fun Tryz.prog 209 := tqU
instance : Fun Tryz.prog 228 := tqU
instance : Fun Tryz.prog 229 := tqU
instance : Fun Tryz.prog 232 := tqU
instance : Fun Tryz.prog 233 := tqU
instance : Fun Tryz.prog 243 := tqU
instance : Fun Tryz.prog 245 := tqU
instance : Fun Tryz.prog 246 := tqU
instance : Fun Tryz.prog 247 := tqU
instance : Fun Tryz.prog 248 := tqU
instance : Fun Tryz.prog 249 := tqU
instance : Fun Tryz.prog 250 := tqU
instance : Fun Tryz.prog 251 := tqU
instance : Fun Tryz.prog 252 := tqU
instance : Fun Tryz.prog 253 := tqU
instance : Fun Tryz.prog 261 := tqU
instance : Fun Tryz.prog 262 := tqU
instance : Fun Tryz.prog 280 := tqU
instance : Fun Tryz.prog 281 := tqU
instance : Fun Tryz.prog 282 := tqU
instance : Fun Tryz.prog 283 := tqU
instance : Fun Tryz.prog 302 := tqU
instance : Fun Tryz.prog 303 := tqU
instance : Fun Tryz.prog 304 := tqU
instance : Fun Tryz.prog 305 := tqU
instance : Fun Tryz.prog 306 := tqU
instance : Fun Tryz.prog 307 := tqU
instance : Fun Tryz.prog 317 := tqU
instance : Fun Tryz.prog 320 := tqU
instance : Fun Tryz.prog 321 := tqU
instance : Fun Tryz.prog 327 := tqU
instance : Mixed Tryz.prog := ⟨by kernel_rfl⟩
end Go.Proofs.E

namespace Go.Proofs.E
open Go
set_option linter.unusedVariables false
set_option linter.unusedSimpArgs false
set_option linter.unusedSectionVars false
set_option maxRecDepth 4000
set_option maxHeartbeats 1000000
attribute [local irreducible] Yl TL TC TE Spec YSpec R1 Hp.le EnvLe TS TR YS Stays
/-! ## octet: the reader -/
theorem OwnS.zero (b sz : Nat) : OwnS (.slice (some ⟨b, 0, none⟩) 0 0) 0 [] [] sz := ⟨.inr ⟨b, 0, rfl, by simp, by simp, Nat.le_refl _⟩⟩
end Go.Proofs.E

namespace Go.Proofs.E
open Go
set_option linter.unusedVariables false
set_option linter.unusedSimpArgs false
set_option linter.unusedSectionVars false
set_option maxRecDepth 4000
set_option maxHeartbeats 1000000
attribute [local irreducible] Yl TL TC TE Spec YSpec R1 Hp.le EnvLe TS TR YS Stays
structure Row where
  t : Int
  id : Nat
  val : Int
  note : List UInt8
deriving DecidableEq
structure Kid where
  t : Int
  id : Nat
  page : Int
deriving DecidableEq
abbrev keyV (t : Int) (id : Nat) : List Value := [.int .i64 t, .int .u16 id]
abbrev rowV (r : Row) : List Value := [.int .i64 r.t, .int .u16 r.id, .int .i64 r.val, strV r.note]
abbrev kidV (k : Kid) : List Value := [.int .i64 k.t, .int .u16 k.id, .int .i64 k.page]
theorem table_spec (ρ : Hp) (n : Int) : Spec Tryz.prog 280 [.int .i64 n] ρ [] (fun v ρ' L' => v = .bool (decide (0 ≤ n ∧ n < 3)) ∧ ρ' = ρ ∧ L' = []) := by
  refine spec_enter Tryz.func280 rfl rfl rfl fun u R => ?_
  simp only [argsE, List.cons_append, List.nil_append]
  by_cases h0 : 0 ≤ n
  · by_cases h1 : n < 3
    · rw [decide_eq_true ⟨h0, h1⟩]
      repeat' (first | (refine i_op ?_; first | (refine i_qq ?_; refine qQ ?_) | refine qEf ?_) | refine tl_nil ?_ | (refine i_tc ?_; refine qTc ?_) | (refine i_te ?_; refine qTe ?_) | intro _)
      exact qE ⟨rfl, rfl, rfl⟩
    · rw [decide_eq_false (fun h => h1 h.2)]
      repeat' (first | (refine i_op ?_; first | (refine i_qq ?_; refine qQ ?_) | refine qEf ?_) | refine tl_nil ?_ | (refine i_tc ?_; refine qTc ?_) | (refine i_te ?_; refine qTe ?_) | intro _)
      exact qE ⟨rfl, rfl, rfl⟩
  · rw [decide_eq_false (fun h => h0 h.1)]
    repeat' (first | (refine i_op ?_; first | (refine i_qq ?_; refine qQ ?_) | refine qEf ?_) | refine tl_nil ?_ | (refine i_tc ?_; refine qTc ?_) | (refine i_te ?_; refine qTe ?_) | intro _)
    exact qE ⟨rfl, rfl, rfl⟩
end Go.Proofs.E

namespace Go.Proofs.E
open Go
set_option linter.unusedVariables false
set_option linter.unusedSimpArgs false
set_option linter.unusedSectionVars false
set_option maxRecDepth 4000
set_option maxHeartbeats 1000000
attribute [local irreducible] Yl TL TC TE Spec YSpec R1 Hp.le EnvLe TS TR YS Stays
/-! ## codec: what may be -/
def cmpI (x y : Int) : Int := if x < y then -1 else if y < x then 1 else 0
theorem nanI_spec (ρ : Hp) (x : Int) : Spec Tryz.prog 262 [.int .i64 x] ρ [] (fun v ρ' L' => v = .bool false ∧ ρ' = ρ ∧ L' = []) := by
  refine spec_enter Tryz.func262 rfl rfl rfl fun u R => ?_
  simp only [argsE, List.cons_append, List.nil_append]
  repeat' (first | (refine i_op ?_; first | (refine i_qq ?_; refine qQ ?_) | refine qEf ?_) | refine tl_nil ?_ | (refine i_tc ?_; refine qTc ?_) | (refine i_te ?_; refine qTe ?_) | intro _)
  exact qE ⟨rfl, rfl, rfl⟩
theorem nanU_spec (ρ : Hp) (x : Int) : Spec Tryz.prog 327 [.int .u16 x] ρ [] (fun v ρ' L' => v = .bool false ∧ ρ' = ρ ∧ L' = []) := by
  refine spec_enter Tryz.func327 rfl rfl rfl fun u R => ?_
  simp only [argsE, List.cons_append, List.nil_append]
  repeat' (first | (refine i_op ?_; first | (refine i_qq ?_; refine qQ ?_) | refine qEf ?_) | refine tl_nil ?_ | (refine i_tc ?_; refine qTc ?_) | (refine i_te ?_; refine qTe ?_) | intro _)
  exact qE ⟨rfl, rfl, rfl⟩
theorem cmpI_spec (ρ : Hp) (x y : Int) : Spec Tryz.prog 209 [.int .i64 x, .int .i64 y] ρ [] (fun v ρ' L' => v = .int .i64 (cmpI x y) ∧ ρ' = ρ ∧ L' = []) := by
  refine spec_enter Tryz.func209 rfl rfl rfl fun u R => ?_
  simp only [argsE, List.cons_append, List.nil_append]
  unfold cmpI
  split
  · repeat' (first | (refine tl_is (.func 262) ?_; refine qC rfl rfl (nanI_spec _ _) ?_; rintro v ρ' L' hle ⟨rfl, rfl, rfl⟩ <;> (try simp only [kM, kN, kO])) | (refine i_op ?_; first | (refine i_qq ?_; refine qQ ?_) | refine qEf ?_) | refine tl_nil ?_ | (refine i_tc ?_; refine qTc ?_) | (refine i_te ?_; refine qTe ?_) | intro _)
    exact qE ⟨rfl, rfl, rfl⟩
  · split
    · repeat' (first | (refine tl_is (.func 262) ?_; refine qC rfl rfl (nanI_spec _ _) ?_; rintro v ρ' L' hle ⟨rfl, rfl, rfl⟩ <;> (try simp only [kM, kN, kO])) | (refine i_op ?_; first | (refine i_qq ?_; refine qQ ?_) | refine qEf ?_) | refine tl_nil ?_ | (refine i_tc ?_; refine qTc ?_) | (refine i_te ?_; refine qTe ?_) | intro _)
      exact qE ⟨rfl, rfl, rfl⟩
    · repeat' (first | (refine tl_is (.func 262) ?_; refine qC rfl rfl (nanI_spec _ _) ?_; rintro v ρ' L' hle ⟨rfl, rfl, rfl⟩ <;> (try simp only [kM, kN, kO])) | (refine i_op ?_; first | (refine i_qq ?_; refine qQ ?_) | refine qEf ?_) | refine tl_nil ?_ | (refine i_tc ?_; refine qTc ?_) | (refine i_te ?_; refine qTe ?_) | intro _)
      exact qE ⟨rfl, rfl, rfl⟩
theorem cmpU_spec (ρ : Hp) (x y : Int) : Spec Tryz.prog 321 [.int .u16 x, .int .u16 y] ρ [] (fun v ρ' L' => v = .int .i64 (cmpI x y) ∧ ρ' = ρ ∧ L' = []) := by
  refine spec_enter Tryz.func321 rfl rfl rfl fun u R => ?_
  simp only [argsE, List.cons_append, List.nil_append]
  unfold cmpI
  split
  · repeat' (first | (refine tl_is (.func 327) ?_; refine qC rfl rfl (nanU_spec _ _) ?_; rintro v ρ' L' hle ⟨rfl, rfl, rfl⟩ <;> (try simp only [kM, kN, kO])) | (refine i_op ?_; first | (refine i_qq ?_; refine qQ ?_) | refine qEf ?_) | refine tl_nil ?_ | (refine i_tc ?_; refine qTc ?_) | (refine i_te ?_; refine qTe ?_) | intro _)
    exact qE ⟨rfl, rfl, rfl⟩
  · split
    · repeat' (first | (refine tl_is (.func 327) ?_; refine qC rfl rfl (nanU_spec _ _) ?_; rintro v ρ' L' hle ⟨rfl, rfl, rfl⟩ <;> (try simp only [kM, kN, kO])) | (refine i_op ?_; first | (refine i_qq ?_; refine qQ ?_) | refine qEf ?_) | refine tl_nil ?_ | (refine i_tc ?_; refine qTc ?_) | (refine i_te ?_; refine qTe ?_) | intro _)
      exact qE ⟨rfl, rfl, rfl⟩
    · repeat' (first | (refine tl_is (.func 327) ?_; refine qC rfl rfl (nanU_spec _ _) ?_; rintro v ρ' L' hle ⟨rfl, rfl, rfl⟩ <;> (try simp only [kM, kN, kO])) | (refine i_op ?_; first | (refine i_qq ?_; refine qQ ?_) | refine qEf ?_) | refine tl_nil ?_ | (refine i_tc ?_; refine qTc ?_) | (refine i_te ?_; refine qTe ?_) | intro _)
      exact qE ⟨rfl, rfl, rfl⟩
theorem or2_spec (ρ : Hp) (b : Nat) (x y : Int) : Spec Tryz.prog 320 [.slice (some ⟨b, 0, none⟩) 2 2] ρ [[(b, .cells ⟨[.int .i64 x, .int .i64 y]⟩ 3 (0, 0))]]
    (fun v ρ' L' => v = .int .i64 (if x = 0 then y else x) ∧ ρ' = ρ ∧ L' = [[(b, .cells ⟨[.int .i64 x, .int .i64 y]⟩ 3 (0, 0))]]) := by
  refine spec_enter Tryz.func320 rfl rfl rfl fun u R => ?_
  simp only [argsE, List.cons_append, List.nil_append]
  repeat' (first | (refine i_op ?_; first | (refine i_qq ?_; refine qQ ?_) | refine qEf ?_) | refine tl_nil ?_ | (refine i_tc ?_; refine qTc ?_) | (refine i_te ?_; refine qTe ?_) | intro _)
  refine tc_loop_g [(2, _), (3, _), (6, _), (7, _)] (fun (ζ : (Nat)) => [(8, .int .i64 ζ)]) (fun (ζ : (Nat)) => ρ) (fun (ζ : (Nat)) => []) (fun (ζ : (Nat)) => ζ = 0 ∨ (ζ = 1 ∧ x = 0) ∨ (ζ = 2 ∧ x = 0 ∧ y = 0)) (fun (ζ : (Nat)) => 3 - ζ) (0) (.inl rfl) ev_le ev_le rfl tk ?_
  rintro k hI
  try simp only [List.cons_append, List.nil_append, List.append_assoc, List.append_eq] at hI ⊢
  try dsimp only at hI ⊢
  rcases hI with rfl | ⟨rfl, rfl⟩ | ⟨rfl, rfl, rfl⟩
  · by_cases h : x = 0
    · subst h
      repeat' (first | (refine i_op ?_; first | (refine i_qq ?_; refine qQ ?_) | refine qEf ?_) | refine tl_nil ?_ | (refine i_tc ?_; refine qTc ?_) | (refine i_te ?_; refine qTe ?_) | intro _)
      refine te_round_g (1) (.inr (.inl ⟨rfl, rfl⟩)) ev_le ev_le rfl tk inferInstance (by first | omega | (dsimp only; omega))
    · rw [if_neg h]
      repeat' (first | (refine i_op ?_; first | (refine i_qq ?_; refine qQ ?_) | refine qEf ?_) | refine tl_nil ?_ | (refine i_tc ?_; refine qTc ?_) | (refine i_te ?_; refine qTe ?_) | intro _)
      exact qE ⟨rfl, rfl, rfl⟩
  · by_cases h : y = 0
    · subst h
      repeat' (first | (refine i_op ?_; first | (refine i_qq ?_; refine qQ ?_) | refine qEf ?_) | refine tl_nil ?_ | (refine i_tc ?_; refine qTc ?_) | (refine i_te ?_; refine qTe ?_) | intro _)
      refine te_round_g (2) (.inr (.inr ⟨rfl, rfl, rfl⟩)) ev_le ev_le rfl tk inferInstance (by first | omega | (dsimp only; omega))
    · repeat' (first | (refine i_op ?_; first | (refine i_qq ?_; refine qQ ?_) | refine qEf ?_) | refine tl_nil ?_ | (refine i_tc ?_; refine qTc ?_) | (refine i_te ?_; refine qTe ?_) | intro _)
      exact qE ⟨rfl, rfl, rfl⟩
  · repeat' (first | (refine i_op ?_; first | (refine i_qq ?_; refine qQ ?_) | refine qEf ?_) | refine tl_nil ?_ | (refine i_tc ?_; refine qTc ?_) | (refine i_te ?_; refine qTe ?_) | intro _)
    exact qE ⟨rfl, rfl, rfl⟩
def cmpK (t1 : Int) (i1 : Nat) (t2 : Int) (i2 : Nat) : Int := if cmpI t1 t2 = 0 then cmpI i1 i2 else cmpI t1 t2
theorem cmpK_lt (t1 : Int) (i1 : Nat) (t2 : Int) (i2 : Nat) : cmpK t1 i1 t2 i2 < 0 ↔ t1 < t2 ∨ (t1 = t2 ∧ i1 < i2) := by
  unfold cmpK cmpI
  repeat' split
  all_goals omega
theorem compare_spec (ρ : Hp) (t1 : Int) (i1 : Nat) (t2 : Int) (i2 : Nat) : Spec Tryz.prog 317 [.agg ⟨keyV t1 i1⟩, .agg ⟨keyV t2 i2⟩] ρ [] (fun v ρ' L' => v = .int .i64 (cmpK t1 i1 t2 i2) ∧ ρ' = ρ ∧ L' = []) := by
  refine spec_enter Tryz.func317 rfl rfl rfl fun u R => ?_
  simp only [argsE, List.cons_append, List.nil_append]
  repeat' (first | (refine i_op ?_; first | (refine i_qq ?_; refine qQ ?_) | refine qEf ?_) | refine tl_nil ?_ | (refine i_tc ?_; refine qTc ?_) | (refine i_te ?_; refine qTe ?_) | intro _)
  refine tc_any (Stays _ _ _) stays_refl ?_
  all_goals refine rFa 0 ?_
  all_goals refine rLd 1 ?_
  all_goals refine rFa 2 ?_
  all_goals refine rLd 3 ?_
  all_goals refine rFa 5 ?_
  all_goals refine rLd 6 ?_
  all_goals refine rFa 7 ?_
  all_goals refine rLd 8 ?_
  all_goals (refine rStep (i := 4) ?_; ((try refine qWant ?_); (first | (refine tl_is (.func 209) ?_; refine qC rfl rfl (cmpI_spec _ _ _) ?_; rintro v ρ' L' hle ⟨rfl, rfl, rfl⟩ <;> (try simp only [kM, kN, kO])) | (refine qEf ?_; try intro _)) <;> ((try simp only [kM, kN, kO]); refine tl_nil ?_; refine rNext ?_)))
  all_goals (refine rStep (i := 9) ?_; ((try refine qWant ?_); (first | (refine tl_is (.func 321) ?_; refine qC rfl rfl (cmpU_spec _ _ _) ?_; rintro v ρ' L' hle ⟨rfl, rfl, rfl⟩ <;> (try simp only [kM, kN, kO])) | (refine qEf ?_; try intro _)) <;> ((try simp only [kM, kN, kO]); refine tl_nil ?_; refine rNext ?_)))
  all_goals (refine rStep (i := 10) ?_; ((try refine qWant ?_); (first | (refine tl_buildSlice_s rfl rfl rfl rfl (by simp) rfl rfl (fun _ => ?_)) | (refine qEf ?_; try intro _)) <;> ((try simp only [kM, kN, kO]); refine tl_nil ?_; refine rNext ?_)))
  all_goals (refine rStep (i := 11) ?_; ((try refine qWant ?_); (first | (refine tl_is (.func 320) ?_; refine qC rfl rfl (or2_spec _ _ _ _) ?_; rintro v ρ' L' hle ⟨rfl, rfl, rfl⟩ <;> (try simp only [kM, kN, kO])) | (refine qEf ?_; try intro _)) <;> ((try simp only [kM, kN, kO]); refine tl_nil ?_; refine rNext ?_)))
  all_goals refine rFull ?_
  all_goals refine rAs 12 ?_
  all_goals refine rDone ?_
  all_goals (repeat' (first | (refine i_op ?_; first | (refine i_qq ?_; refine qQ ?_) | refine qEf ?_) | refine tl_nil ?_ | (refine i_tc ?_; refine qTc ?_) | (refine i_te ?_; refine qTe ?_) | intro _))
  all_goals exact qE ⟨rfl, rfl, rfl⟩
def rowOk (r : Row) : Bool := decide ((0 ≤ r.t ∧ r.t < 3) ∧ r.note.length ≤ 8)
theorem checkRow_spec (ρ : Hp) (r : Row) : Spec Tryz.prog 253 [.agg ⟨rowV r⟩] ρ [] (fun v ρ' L' => v = .int .i64 (if rowOk r then 0 else 151) ∧ ρ' = ρ ∧ L' = []) := by
  obtain ⟨t, id, val, note⟩ := r
  refine spec_enter Tryz.func253 rfl rfl rfl fun u R => ?_
  simp only [argsE, List.cons_append, List.nil_append, rowOk, decide_eq_true_eq]
  by_cases h1 : 0 ≤ t ∧ t < 3
  · have hd : decide (0 ≤ t ∧ t < 3) = true := decide_eq_true h1
    by_cases h2 : note.length ≤ 8
    · rw [if_pos ⟨h1, h2⟩]
      repeat' (first | (refine tl_is (.func 280) ?_; refine qC rfl rfl (table_spec _ _) ?_; rintro v ρ' L' hle ⟨rfl, rfl, rfl⟩ <;> (try simp only [kM, kN, kO, hd])) | (refine i_op ?_; first | (refine i_qq ?_; refine qQ ?_) | refine qEf ?_) | refine tl_nil ?_ | (refine i_tc ?_; refine qTc ?_) | (refine i_te ?_; refine qTe ?_) | intro _)
      exact qE ⟨rfl, rfl, rfl⟩
    · rw [if_neg (fun h => h2 h.2)]
      repeat' (first | (refine tl_is (.func 280) ?_; refine qC rfl rfl (table_spec _ _) ?_; rintro v ρ' L' hle ⟨rfl, rfl, rfl⟩ <;> (try simp only [kM, kN, kO, hd])) | (refine i_op ?_; first | (refine i_qq ?_; refine qQ ?_) | refine qEf ?_) | refine tl_nil ?_ | (refine i_tc ?_; refine qTc ?_) | (refine i_te ?_; refine qTe ?_) | intro _)
      exact qE ⟨rfl, rfl, rfl⟩
  · have hd : decide (0 ≤ t ∧ t < 3) = false := decide_eq_false h1
    rw [if_neg (fun h => h1 h.1)]
    repeat' (first | (refine tl_is (.func 280) ?_; refine qC rfl rfl (table_spec _ _) ?_; rintro v ρ' L' hle ⟨rfl, rfl, rfl⟩ <;> (try simp only [kM, kN, kO, hd])) | (refine i_op ?_; first | (refine i_qq ?_; refine qQ ?_) | refine qEf ?_) | refine tl_nil ?_ | (refine i_tc ?_; refine qTc ?_) | (refine i_te ?_; refine qTe ?_) | intro _)
    exact qE ⟨rfl, rfl, rfl⟩
end Go.Proofs.E

namespace Go.Proofs.E
open Go
set_option linter.unusedVariables false
set_option linter.unusedSimpArgs false
set_option linter.unusedSectionVars false
set_option maxRecDepth 4000
set_option maxHeartbeats 1000000
attribute [local irreducible] Yl TL TC TE Spec YSpec R1 Hp.le EnvLe TS TR YS Stays
def risesB {α : Type} (most : Nat) (right : Nat → α → Bool) (lt : α → α → Bool) (l : List α) : Nat → Bool
  | 0 => decide (l.length ≤ most)
  | k + 1 => risesB most right lt l k && (match l[k]? with | some x => right k x && (decide (k = 0) || (match l[k - 1]? with | some y => lt y x | none => false)) | none => false)
theorem risesB_succ {α : Type} {most : Nat} {right : Nat → α → Bool} {lt : α → α → Bool} {l : List α} {k : Nat} (h : k < l.length) : risesB most right lt l (k + 1) = (risesB most right lt l k && (right k l[k] && (decide (k = 0) || lt (l[k - 1]'(by omega)) l[k]))) := by
  rw [risesB]
  simp [h, show k - 1 < l.length by omega]
theorem risesB_false {α : Type} {most : Nat} {right : Nat → α → Bool} {lt : α → α → Bool} {l : List α} {k : Nat} (h : risesB most right lt l k = false) : ∀ m, risesB most right lt l (k + m) = false
  | 0 => h
  | m + 1 => by rw [← Nat.add_assoc, risesB, risesB_false h m]; rfl
theorem risesB_false' {α : Type} {most : Nat} {right : Nat → α → Bool} {lt : α → α → Bool} {l : List α} {k n : Nat} (h : risesB most right lt l k = false) (hk : k ≤ n) : risesB most right lt l n = false := by
  have := risesB_false h (n - k)
  rwa [Nat.add_sub_cancel' hk] at this
theorem leaf1_spec (ρ : Hp) (r : Row) : Spec Tryz.prog 303 [.agg ⟨rowV r⟩] ρ [] (fun v ρ' L' => v = .agg ⟨keyV r.t r.id⟩ ∧ ρ' = ρ ∧ L' = []) := by
  refine spec_enter Tryz.func303 rfl rfl rfl fun u R => ?_
  simp only [argsE, List.cons_append, List.nil_append]
  repeat' (first | (refine i_op ?_; first | (refine i_qq ?_; refine qQ ?_) | refine qEf ?_) | refine tl_nil ?_ | (refine i_tc ?_; refine qTc ?_) | (refine i_te ?_; refine qTe ?_) | intro _)
  exact qE ⟨rfl, rfl, rfl⟩
theorem leaf2_spec (ρ : Hp) (i : Int) (r : Row) : Spec Tryz.prog 304 [.int .i64 i, .agg ⟨rowV r⟩] ρ [] (fun v ρ' L' => v = .bool (rowOk r) ∧ ρ' = ρ ∧ L' = []) := by
  refine spec_enter Tryz.func304 rfl rfl rfl fun u R => ?_
  simp only [argsE, List.cons_append, List.nil_append]
  cases h : rowOk r
  · repeat' (first | (refine tl_is (.func 253) ?_; refine qC rfl rfl (checkRow_spec _ r) ?_; rintro v ρ' L' hle ⟨rfl, rfl, rfl⟩ <;> (try simp only [kM, kN, kO, h, if_false, Bool.false_eq_true])) | (refine i_op ?_; first | (refine i_qq ?_; refine qQ ?_) | refine qEf ?_) | refine tl_nil ?_ | (refine i_tc ?_; refine qTc ?_) | (refine i_te ?_; refine qTe ?_) | intro _)
    exact qE ⟨rfl, rfl, rfl⟩
  · repeat' (first | (refine tl_is (.func 253) ?_; refine qC rfl rfl (checkRow_spec _ r) ?_; rintro v ρ' L' hle ⟨rfl, rfl, rfl⟩ <;> (try simp only [kM, kN, kO, h, if_true])) | (refine i_op ?_; first | (refine i_qq ?_; refine qQ ?_) | refine qEf ?_) | refine tl_nil ?_ | (refine i_tc ?_; refine qTc ?_) | (refine i_te ?_; refine qTe ?_) | intro _)
    exact qE ⟨rfl, rfl, rfl⟩
def ltR (y x : Row) : Bool := decide (cmpK y.t y.id x.t x.id < 0)
def rowsOk (l : List Row) : Bool := risesB 4 (fun _ r => rowOk r) ltR l l.length
theorem rowV_len (r : Row) : (rowV r).length = 4 := rfl
theorem risesRow_spec (ρ : Hp) (a : Option Addr) (n c : Nat) (l : List Row) (h : AIn ρ 4 rowV a n l) (hn : n ≤ 1000000) :
    Spec Tryz.prog 302 [.slice a n c, .int .i64 4, .func (.func 303) ⟨[]⟩ ⟨[]⟩, .func (.func 304) ⟨[]⟩ ⟨[]⟩] ρ [] (fun v ρ' L' => v = .bool (rowsOk l) ∧ ρ' = ρ ∧ L' = []) := by
  have hl := h.len
  unfold rowsOk
  rw [hl]
  refine spec_enter Tryz.func302 rfl rfl rfl fun u R => ?_
  simp only [argsE, List.cons_append, List.nil_append]
  repeat' (first | (refine i_op ?_; first | (refine i_qq ?_; refine qQ ?_) | refine qEf ?_) | refine tl_nil ?_ | (refine i_tc ?_; refine qTc ?_) | (refine i_te ?_; refine qTe ?_) | intro _)
  have e0 : decide ((n : Int) ≤ 4) = risesB 4 (fun _ r => rowOk r) ltR l 0 := by
    rw [risesB]; simp [hl]; omega
  rw [e0]
  refine tc_loop_g [(0, _), (2, _), (3, _), (8, _), (16, _), (17, _)] (fun (ζ : (Nat)) => [(18, .int .i64 ζ), (9, .bool (risesB 4 (fun _ r => rowOk r) ltR l ζ))]) (fun (ζ : (Nat)) => ρ) (fun (ζ : (Nat)) => []) (fun (ζ : (Nat)) => ζ ≤ n) (fun (ζ : (Nat)) => n - ζ) (0) (Nat.zero_le _) ev_le ev_le rfl tk ?_
  rintro k hI
  try simp only [List.cons_append, List.nil_append, List.append_assoc, List.append_eq] at hI ⊢
  try dsimp only at hI ⊢
  by_cases hlt : k < n
  · obtain ⟨b, off, C, T, fr, rfl, hb, hfit, hc⟩ := h.get (show k < l.length by omega)
    have hs := risesB_succ (most := 4) (right := fun _ r => rowOk r) (lt := ltR) (show k < l.length by omega)
    have hfin := fun (e : risesB 4 (fun _ r => rowOk r) ltR l (k + 1) = false) => risesB_false' e (show k + 1 ≤ n by omega)
    cases hok : risesB 4 (fun _ r => rowOk r) ltR l k
    · rw [hok, Bool.false_and] at hs
      rw [hfin hs]
      generalize l[k] = x at *
      repeat' (first | (refine i_op ?_; first | (refine i_qq ?_; refine qQ ?_) | refine qEf ?_) | refine tl_nil ?_ | (refine i_tc ?_; refine qTc ?_) | (refine i_te ?_; refine qTe ?_) | intro _)
      refine tc_any (Stays _ _ _) stays_refl ?_
      all_goals refine rMv 0 ?_
      all_goals refine rMv 1 ?_
      all_goals (first | refine wSkip 2 ?_ | refine wSkipU 2 ?_ | refine wMv 2 ?_ | (refine tr_guard (t := 24) rfl (fun hb => ?_) (fun hb => ?_) <;> (try simp only [kk] at hb) <;> first | refine wSkip 2 ?_ | refine wSkipU 2 ?_ | refine wMv 2 ?_))
      all_goals (first | refine wSkip 3 ?_ | refine wSkipU 3 ?_ | refine wMv 3 ?_ | (refine tr_guard (t := 24) rfl (fun hb => ?_) (fun hb => ?_) <;> (try simp only [kk] at hb) <;> first | refine wSkip 3 ?_ | refine wSkipU 3 ?_ | refine wMv 3 ?_))
      all_goals (first | refine wSkip 4 ?_ | refine wSkipU 4 ?_ | refine wLd 4 ?_ | (refine tr_guard (t := 24) rfl (fun hb => ?_) (fun hb => ?_) <;> (try simp only [kk] at hb) <;> first | refine wSkip 4 ?_ | refine wSkipU 4 ?_ | refine wLd 4 ?_))
      all_goals (first | refine wSkip 5 ?_ | refine wSkipU 5 ?_ | (refine rStep (i := 5) ?_; ((try refine qWant ?_); (first | (refine qEf ?_; try intro _)) <;> ((try simp only [kM, kN, kO]); refine tl_nil ?_; refine rNext ?_))))
      all_goals refine rPk 6 ?_
      all_goals refine rMv 7 ?_
      all_goals (first | refine wSkip 8 ?_ | refine wSkipU 8 ?_ | refine wMv 8 ?_ | (refine tr_guard (t := 30) rfl (fun hb => ?_) (fun hb => ?_) <;> (try simp only [kk] at hb) <;> first | refine wSkip 8 ?_ | refine wSkipU 8 ?_ | refine wMv 8 ?_))
      all_goals (first | refine wSkip 9 ?_ | refine wSkipU 9 ?_ | refine wCm 9 ?_ | (refine tr_guard (t := 30) rfl (fun hb => ?_) (fun hb => ?_) <;> (try simp only [kk] at hb) <;> first | refine wSkip 9 ?_ | refine wSkipU 9 ?_ | refine wCm 9 ?_))
      all_goals (first | refine wSkip 10 ?_ | refine wSkipU 10 ?_ | refine wMv 10 ?_ | (refine tr_guard (t := 30) rfl (fun hb => ?_) (fun hb => ?_) <;> (try simp only [kk] at hb) <;> first | refine wSkip 10 ?_ | refine wSkipU 10 ?_ | refine wMv 10 ?_))
      all_goals (first | refine wSkip 11 ?_ | refine wSkipU 11 ?_ | refine wMv 11 ?_ | (refine tr_guard (t := 33) rfl (fun hb => ?_) (fun hb => ?_) <;> (try simp only [kk] at hb) <;> first | refine wSkip 11 ?_ | refine wSkipU 11 ?_ | refine wMv 11 ?_))
      all_goals (first | refine wSkip 12 ?_ | refine wSkipU 12 ?_ | refine wMv 12 ?_ | (refine tr_guard (t := 33) rfl (fun hb => ?_) (fun hb => ?_) <;> (try simp only [kk] at hb) <;> first | refine wSkip 12 ?_ | refine wSkipU 12 ?_ | refine wMv 12 ?_))
      all_goals (first | refine wSkip 13 ?_ | refine wSkipU 13 ?_ | refine wMv 13 ?_ | (refine tr_guard (t := 33) rfl (fun hb => ?_) (fun hb => ?_) <;> (try simp only [kk] at hb) <;> first | refine wSkip 13 ?_ | refine wSkipU 13 ?_ | refine wMv 13 ?_))
      all_goals (first | refine wSkip 14 ?_ | refine wSkipU 14 ?_ | refine wSb 14 ?_ | (refine tr_guard (t := 33) rfl (fun hb => ?_) (fun hb => ?_) <;> (try simp only [kk] at hb) <;> first | refine wSkip 14 ?_ | refine wSkipU 14 ?_ | refine wSb 14 ?_))
      all_goals (first | refine wSkip 15 ?_ | refine wSkipU 15 ?_ | refine wIa 15 ?_ | (refine tr_guard (t := 33) rfl (fun hb => ?_) (fun hb => ?_) <;> (try simp only [kk] at hb) <;> first | refine wSkip 15 ?_ | refine wSkipU 15 ?_ | refine wIa 15 ?_))
      all_goals (first | refine wSkip 16 ?_ | refine wSkipU 16 ?_ | refine wLd 16 ?_ | (refine tr_guard (t := 33) rfl (fun hb => ?_) (fun hb => ?_) <;> (try simp only [kk] at hb) <;> first | refine wSkip 16 ?_ | refine wSkipU 16 ?_ | refine wLd 16 ?_))
      all_goals (first | refine wSkip 18 ?_ | refine wSkipU 18 ?_ | refine wMv 18 ?_ | (refine tr_guard (t := 33) rfl (fun hb => ?_) (fun hb => ?_) <;> (try simp only [kk] at hb) <;> first | refine wSkip 18 ?_ | refine wSkipU 18 ?_ | refine wMv 18 ?_))
      all_goals (first | refine wSkip 19 ?_ | refine wSkipU 19 ?_ | refine wLd 19 ?_ | (refine tr_guard (t := 33) rfl (fun hb => ?_) (fun hb => ?_) <;> (try simp only [kk] at hb) <;> first | refine wSkip 19 ?_ | refine wSkipU 19 ?_ | refine wLd 19 ?_))
      all_goals (first | refine wSkip 17 ?_ | refine wSkipU 17 ?_ | (refine rStep (i := 17) ?_; ((try refine qWant ?_); (first | (refine qEf ?_; try intro _)) <;> ((try simp only [kM, kN, kO]); refine tl_nil ?_; refine rNext ?_))))
      all_goals (first | refine wSkip 20 ?_ | refine wSkipU 20 ?_ | (refine rStep (i := 20) ?_; ((try refine qWant ?_); (first | (refine qEf ?_; try intro _)) <;> ((try simp only [kM, kN, kO]); refine tl_nil ?_; refine rNext ?_))))
      all_goals (first | refine wSkip 21 ?_ | refine wSkipU 21 ?_ | (refine rStep (i := 21) ?_; ((try refine qWant ?_); (first | (refine qEf ?_; try intro _)) <;> ((try simp only [kM, kN, kO]); refine tl_nil ?_; refine rNext ?_))))
      all_goals refine rFull ?_
      all_goals (first | refine wSkip 22 ?_ | refine wSkipU 22 ?_ | refine wCm 22 ?_ | (refine tr_guard (t := 33) rfl (fun hb => ?_) (fun hb => ?_) <;> (try simp only [kk] at hb) <;> first | refine wSkip 22 ?_ | refine wSkipU 22 ?_ | refine wCm 22 ?_))
      all_goals (first | refine wSkip 23 ?_ | refine wSkipU 23 ?_ | refine wPk 23 ?_ | (refine tr_guard (t := 30) rfl (fun hb => ?_) (fun hb => ?_) <;> (try simp only [kk] at hb) <;> first | refine wSkip 23 ?_ | refine wSkipU 23 ?_ | refine wPk 23 ?_))
      all_goals refine rPk 24 ?_
      all_goals refine rAs 25 ?_
      all_goals refine rDone ?_
      repeat' (first | (refine i_op ?_; first | (refine i_qq ?_; refine qQ ?_) | refine qEf ?_) | refine tl_nil ?_ | (refine i_tc ?_; refine qTc ?_) | (refine i_te ?_; refine qTe ?_) | intro _)
      exact qE ⟨rfl, rfl, rfl⟩
    · rw [hok, Bool.true_and] at hs
      cases hx : rowOk l[k]
      · rw [hx, Bool.false_and] at hs
        rw [hfin hs]
        generalize l[k] = x at *
        repeat' (first | (refine i_op ?_; first | (refine i_qq ?_; refine qQ ?_) | refine qEf ?_) | refine tl_nil ?_ | (refine i_tc ?_; refine qTc ?_) | (refine i_te ?_; refine qTe ?_) | intro _)
        refine tc_any (Stays _ _ _) stays_refl ?_
        all_goals refine rMv 0 ?_
        all_goals refine rMv 1 ?_
        all_goals (first | refine wSkip 2 ?_ | refine wSkipU 2 ?_ | refine wMv 2 ?_ | (refine tr_guard (t := 24) rfl (fun hb => ?_) (fun hb => ?_) <;> (try simp only [kk] at hb) <;> first | refine wSkip 2 ?_ | refine wSkipU 2 ?_ | refine wMv 2 ?_))
        all_goals (first | refine wSkip 3 ?_ | refine wSkipU 3 ?_ | refine wMv 3 ?_ | (refine tr_guard (t := 24) rfl (fun hb => ?_) (fun hb => ?_) <;> (try simp only [kk] at hb) <;> first | refine wSkip 3 ?_ | refine wSkipU 3 ?_ | refine wMv 3 ?_))
        all_goals (first | refine wSkip 4 ?_ | refine wSkipU 4 ?_ | refine wLd 4 ?_ | (refine tr_guard (t := 24) rfl (fun hb => ?_) (fun hb => ?_) <;> (try simp only [kk] at hb) <;> first | refine wSkip 4 ?_ | refine wSkipU 4 ?_ | refine wLd 4 ?_))
        all_goals (first | refine wSkip 5 ?_ | refine wSkipU 5 ?_ | (refine rStep (i := 5) ?_; ((try refine qWant ?_); (first | (refine tl_is (.tmp 25) ?_; refine qC rfl rfl (leaf2_spec _ _ _) ?_; rintro v ρ' L' hle ⟨rfl, rfl, rfl⟩ <;> (try simp only [kM, kN, kO, hx])) | (refine tl_is (.tmp 34) ?_; refine qC rfl rfl (leaf1_spec _ _) ?_; rintro v ρ' L' hle ⟨rfl, rfl, rfl⟩ <;> (try simp only [kM, kN, kO])) | (refine tl_is (.tmp 41) ?_; refine qC rfl rfl (leaf1_spec _ _) ?_; rintro v ρ' L' hle ⟨rfl, rfl, rfl⟩ <;> (try simp only [kM, kN, kO])) | (refine qEf ?_; try intro _)) <;> ((try simp only [kM, kN, kO]); refine tl_nil ?_; refine rNext ?_))))
        all_goals refine rPk 6 ?_
        all_goals refine rMv 7 ?_
        all_goals (first | refine wSkip 8 ?_ | refine wSkipU 8 ?_ | refine wMv 8 ?_ | (refine tr_guard (t := 30) rfl (fun hb => ?_) (fun hb => ?_) <;> (try simp only [kk] at hb) <;> first | refine wSkip 8 ?_ | refine wSkipU 8 ?_ | refine wMv 8 ?_))
        all_goals (first | refine wSkip 9 ?_ | refine wSkipU 9 ?_ | refine wCm 9 ?_ | (refine tr_guard (t := 30) rfl (fun hb => ?_) (fun hb => ?_) <;> (try simp only [kk] at hb) <;> first | refine wSkip 9 ?_ | refine wSkipU 9 ?_ | refine wCm 9 ?_))
        all_goals (first | refine wSkip 10 ?_ | refine wSkipU 10 ?_ | refine wMv 10 ?_ | (refine tr_guard (t := 30) rfl (fun hb => ?_) (fun hb => ?_) <;> (try simp only [kk] at hb) <;> first | refine wSkip 10 ?_ | refine wSkipU 10 ?_ | refine wMv 10 ?_))
        all_goals (first | refine wSkip 11 ?_ | refine wSkipU 11 ?_ | refine wMv 11 ?_ | (refine tr_guard (t := 33) rfl (fun hb => ?_) (fun hb => ?_) <;> (try simp only [kk] at hb) <;> first | refine wSkip 11 ?_ | refine wSkipU 11 ?_ | refine wMv 11 ?_))
        all_goals (first | refine wSkip 12 ?_ | refine wSkipU 12 ?_ | refine wMv 12 ?_ | (refine tr_guard (t := 33) rfl (fun hb => ?_) (fun hb => ?_) <;> (try simp only [kk] at hb) <;> first | refine wSkip 12 ?_ | refine wSkipU 12 ?_ | refine wMv 12 ?_))
        all_goals (first | refine wSkip 13 ?_ | refine wSkipU 13 ?_ | refine wMv 13 ?_ | (refine tr_guard (t := 33) rfl (fun hb => ?_) (fun hb => ?_) <;> (try simp only [kk] at hb) <;> first | refine wSkip 13 ?_ | refine wSkipU 13 ?_ | refine wMv 13 ?_))
        all_goals (first | refine wSkip 14 ?_ | refine wSkipU 14 ?_ | refine wSb 14 ?_ | (refine tr_guard (t := 33) rfl (fun hb => ?_) (fun hb => ?_) <;> (try simp only [kk] at hb) <;> first | refine wSkip 14 ?_ | refine wSkipU 14 ?_ | refine wSb 14 ?_))
        all_goals (first | refine wSkip 15 ?_ | refine wSkipU 15 ?_ | refine wIa 15 ?_ | (refine tr_guard (t := 33) rfl (fun hb => ?_) (fun hb => ?_) <;> (try simp only [kk] at hb) <;> first | refine wSkip 15 ?_ | refine wSkipU 15 ?_ | refine wIa 15 ?_))
        all_goals (first | refine wSkip 16 ?_ | refine wSkipU 16 ?_ | refine wLd 16 ?_ | (refine tr_guard (t := 33) rfl (fun hb => ?_) (fun hb => ?_) <;> (try simp only [kk] at hb) <;> first | refine wSkip 16 ?_ | refine wSkipU 16 ?_ | refine wLd 16 ?_))
        all_goals (first | refine wSkip 18 ?_ | refine wSkipU 18 ?_ | refine wMv 18 ?_ | (refine tr_guard (t := 33) rfl (fun hb => ?_) (fun hb => ?_) <;> (try simp only [kk] at hb) <;> first | refine wSkip 18 ?_ | refine wSkipU 18 ?_ | refine wMv 18 ?_))
        all_goals (first | refine wSkip 19 ?_ | refine wSkipU 19 ?_ | refine wLd 19 ?_ | (refine tr_guard (t := 33) rfl (fun hb => ?_) (fun hb => ?_) <;> (try simp only [kk] at hb) <;> first | refine wSkip 19 ?_ | refine wSkipU 19 ?_ | refine wLd 19 ?_))
        all_goals (first | refine wSkip 17 ?_ | refine wSkipU 17 ?_ | (refine rStep (i := 17) ?_; ((try refine qWant ?_); (first | (refine tl_is (.tmp 25) ?_; refine qC rfl rfl (leaf2_spec _ _ _) ?_; rintro v ρ' L' hle ⟨rfl, rfl, rfl⟩ <;> (try simp only [kM, kN, kO, hx])) | (refine tl_is (.tmp 34) ?_; refine qC rfl rfl (leaf1_spec _ _) ?_; rintro v ρ' L' hle ⟨rfl, rfl, rfl⟩ <;> (try simp only [kM, kN, kO])) | (refine tl_is (.tmp 41) ?_; refine qC rfl rfl (leaf1_spec _ _) ?_; rintro v ρ' L' hle ⟨rfl, rfl, rfl⟩ <;> (try simp only [kM, kN, kO])) | (refine qEf ?_; try intro _)) <;> ((try simp only [kM, kN, kO]); refine tl_nil ?_; refine rNext ?_))))
        all_goals (first | refine wSkip 20 ?_ | refine wSkipU 20 ?_ | (refine rStep (i := 20) ?_; ((try refine qWant ?_); (first | (refine tl_is (.tmp 25) ?_; refine qC rfl rfl (leaf2_spec _ _ _) ?_; rintro v ρ' L' hle ⟨rfl, rfl, rfl⟩ <;> (try simp only [kM, kN, kO, hx])) | (refine tl_is (.tmp 34) ?_; refine qC rfl rfl (leaf1_spec _ _) ?_; rintro v ρ' L' hle ⟨rfl, rfl, rfl⟩ <;> (try simp only [kM, kN, kO])) | (refine tl_is (.tmp 41) ?_; refine qC rfl rfl (leaf1_spec _ _) ?_; rintro v ρ' L' hle ⟨rfl, rfl, rfl⟩ <;> (try simp only [kM, kN, kO])) | (refine qEf ?_; try intro _)) <;> ((try simp only [kM, kN, kO]); refine tl_nil ?_; refine rNext ?_))))
        all_goals (first | refine wSkip 21 ?_ | refine wSkipU 21 ?_ | (refine rStep (i := 21) ?_; ((try refine qWant ?_); (first | (refine tl_is (.func 317) ?_; refine qC rfl rfl (compare_spec _ _ _ _ _) ?_; rintro v ρ' L' hle ⟨rfl, rfl, rfl⟩ <;> (try simp only [kM, kN, kO])) | (refine qEf ?_; try intro _)) <;> ((try simp only [kM, kN, kO]); refine tl_nil ?_; refine rNext ?_))))
        all_goals refine rFull ?_
        all_goals (first | refine wSkip 22 ?_ | refine wSkipU 22 ?_ | refine wCm 22 ?_ | (refine tr_guard (t := 33) rfl (fun hb => ?_) (fun hb => ?_) <;> (try simp only [kk] at hb) <;> first | refine wSkip 22 ?_ | refine wSkipU 22 ?_ | refine wCm 22 ?_))
        all_goals (first | refine wSkip 23 ?_ | refine wSkipU 23 ?_ | refine wPk 23 ?_ | (refine tr_guard (t := 30) rfl (fun hb => ?_) (fun hb => ?_) <;> (try simp only [kk] at hb) <;> first | refine wSkip 23 ?_ | refine wSkipU 23 ?_ | refine wPk 23 ?_))
        all_goals refine rPk 24 ?_
        all_goals refine rAs 25 ?_
        all_goals refine rDone ?_
        repeat' (first | (refine i_op ?_; first | (refine i_qq ?_; refine qQ ?_) | refine qEf ?_) | refine tl_nil ?_ | (refine i_tc ?_; refine qTc ?_) | (refine i_te ?_; refine qTe ?_) | intro _)
        exact qE ⟨rfl, rfl, rfl⟩
      · rw [hx, Bool.true_and] at hs
        by_cases hk0 : k = 0
        · have hs' : risesB 4 (fun _ r => rowOk r) ltR l (k + 1) = true := by rw [hs]; simp [hk0]
          generalize l[k] = x at *
          repeat' (first | (refine i_op ?_; first | (refine i_qq ?_; refine qQ ?_) | refine qEf ?_) | refine tl_nil ?_ | (refine i_tc ?_; refine qTc ?_) | (refine i_te ?_; refine qTe ?_) | intro _)
          refine tc_any (Stays _ _ _) stays_refl ?_
          all_goals refine rMv 0 ?_
          all_goals refine rMv 1 ?_
          all_goals (first | refine wSkip 2 ?_ | refine wSkipU 2 ?_ | refine wMv 2 ?_ | (refine tr_guard (t := 24) rfl (fun hb => ?_) (fun hb => ?_) <;> (try simp only [kk] at hb) <;> first | refine wSkip 2 ?_ | refine wSkipU 2 ?_ | refine wMv 2 ?_))
          all_goals (first | refine wSkip 3 ?_ | refine wSkipU 3 ?_ | refine wMv 3 ?_ | (refine tr_guard (t := 24) rfl (fun hb => ?_) (fun hb => ?_) <;> (try simp only [kk] at hb) <;> first | refine wSkip 3 ?_ | refine wSkipU 3 ?_ | refine wMv 3 ?_))
          all_goals (first | refine wSkip 4 ?_ | refine wSkipU 4 ?_ | refine wLd 4 ?_ | (refine tr_guard (t := 24) rfl (fun hb => ?_) (fun hb => ?_) <;> (try simp only [kk] at hb) <;> first | refine wSkip 4 ?_ | refine wSkipU 4 ?_ | refine wLd 4 ?_))
          all_goals (first | refine wSkip 5 ?_ | refine wSkipU 5 ?_ | (refine rStep (i := 5) ?_; ((try refine qWant ?_); (first | (refine tl_is (.tmp 25) ?_; refine qC rfl rfl (leaf2_spec _ _ _) ?_; rintro v ρ' L' hle ⟨rfl, rfl, rfl⟩ <;> (try simp only [kM, kN, kO, hx])) | (refine tl_is (.tmp 34) ?_; refine qC rfl rfl (leaf1_spec _ _) ?_; rintro v ρ' L' hle ⟨rfl, rfl, rfl⟩ <;> (try simp only [kM, kN, kO])) | (refine tl_is (.tmp 41) ?_; refine qC rfl rfl (leaf1_spec _ _) ?_; rintro v ρ' L' hle ⟨rfl, rfl, rfl⟩ <;> (try simp only [kM, kN, kO])) | (refine qEf ?_; try intro _)) <;> ((try simp only [kM, kN, kO]); refine tl_nil ?_; refine rNext ?_))))
          all_goals refine rPk 6 ?_
          all_goals refine rMv 7 ?_
          all_goals (first | refine wSkip 8 ?_ | refine wSkipU 8 ?_ | refine wMv 8 ?_ | (refine tr_guard (t := 30) rfl (fun hb => ?_) (fun hb => ?_) <;> (try simp only [kk] at hb) <;> first | refine wSkip 8 ?_ | refine wSkipU 8 ?_ | refine wMv 8 ?_))
          all_goals (first | refine wSkip 9 ?_ | refine wSkipU 9 ?_ | refine wCm 9 ?_ | (refine tr_guard (t := 30) rfl (fun hb => ?_) (fun hb => ?_) <;> (try simp only [kk] at hb) <;> first | refine wSkip 9 ?_ | refine wSkipU 9 ?_ | refine wCm 9 ?_))
          all_goals (first | refine wSkip 10 ?_ | refine wSkipU 10 ?_ | refine wMv 10 ?_ | (refine tr_guard (t := 30) rfl (fun hb => ?_) (fun hb => ?_) <;> (try simp only [kk] at hb) <;> first | refine wSkip 10 ?_ | refine wSkipU 10 ?_ | refine wMv 10 ?_))
          all_goals (first | refine wSkip 11 ?_ | refine wSkipU 11 ?_ | refine wMv 11 ?_ | (refine tr_guard (t := 33) rfl (fun hb => ?_) (fun hb => ?_) <;> (try simp only [kk] at hb) <;> first | refine wSkip 11 ?_ | refine wSkipU 11 ?_ | refine wMv 11 ?_))
          all_goals (first | refine wSkip 12 ?_ | refine wSkipU 12 ?_ | refine wMv 12 ?_ | (refine tr_guard (t := 33) rfl (fun hb => ?_) (fun hb => ?_) <;> (try simp only [kk] at hb) <;> first | refine wSkip 12 ?_ | refine wSkipU 12 ?_ | refine wMv 12 ?_))
          all_goals (first | refine wSkip 13 ?_ | refine wSkipU 13 ?_ | refine wMv 13 ?_ | (refine tr_guard (t := 33) rfl (fun hb => ?_) (fun hb => ?_) <;> (try simp only [kk] at hb) <;> first | refine wSkip 13 ?_ | refine wSkipU 13 ?_ | refine wMv 13 ?_))
          all_goals (first | refine wSkip 14 ?_ | refine wSkipU 14 ?_ | refine wSb 14 ?_ | (refine tr_guard (t := 33) rfl (fun hb => ?_) (fun hb => ?_) <;> (try simp only [kk] at hb) <;> first | refine wSkip 14 ?_ | refine wSkipU 14 ?_ | refine wSb 14 ?_))
          all_goals (first | refine wSkip 15 ?_ | refine wSkipU 15 ?_ | refine wIa 15 ?_ | (refine tr_guard (t := 33) rfl (fun hb => ?_) (fun hb => ?_) <;> (try simp only [kk] at hb) <;> first | refine wSkip 15 ?_ | refine wSkipU 15 ?_ | refine wIa 15 ?_))
          all_goals (first | refine wSkip 16 ?_ | refine wSkipU 16 ?_ | refine wLd 16 ?_ | (refine tr_guard (t := 33) rfl (fun hb => ?_) (fun hb => ?_) <;> (try simp only [kk] at hb) <;> first | refine wSkip 16 ?_ | refine wSkipU 16 ?_ | refine wLd 16 ?_))
          all_goals (first | refine wSkip 18 ?_ | refine wSkipU 18 ?_ | refine wMv 18 ?_ | (refine tr_guard (t := 33) rfl (fun hb => ?_) (fun hb => ?_) <;> (try simp only [kk] at hb) <;> first | refine wSkip 18 ?_ | refine wSkipU 18 ?_ | refine wMv 18 ?_))
          all_goals (first | refine wSkip 19 ?_ | refine wSkipU 19 ?_ | refine wLd 19 ?_ | (refine tr_guard (t := 33) rfl (fun hb => ?_) (fun hb => ?_) <;> (try simp only [kk] at hb) <;> first | refine wSkip 19 ?_ | refine wSkipU 19 ?_ | refine wLd 19 ?_))
          all_goals (first | refine wSkip 17 ?_ | refine wSkipU 17 ?_ | (refine rStep (i := 17) ?_; ((try refine qWant ?_); (first | (refine tl_is (.tmp 25) ?_; refine qC rfl rfl (leaf2_spec _ _ _) ?_; rintro v ρ' L' hle ⟨rfl, rfl, rfl⟩ <;> (try simp only [kM, kN, kO, hx])) | (refine tl_is (.tmp 34) ?_; refine qC rfl rfl (leaf1_spec _ _) ?_; rintro v ρ' L' hle ⟨rfl, rfl, rfl⟩ <;> (try simp only [kM, kN, kO])) | (refine tl_is (.tmp 41) ?_; refine qC rfl rfl (leaf1_spec _ _) ?_; rintro v ρ' L' hle ⟨rfl, rfl, rfl⟩ <;> (try simp only [kM, kN, kO])) | (refine qEf ?_; try intro _)) <;> ((try simp only [kM, kN, kO]); refine tl_nil ?_; refine rNext ?_))))
          all_goals (first | refine wSkip 20 ?_ | refine wSkipU 20 ?_ | (refine rStep (i := 20) ?_; ((try refine qWant ?_); (first | (refine tl_is (.tmp 25) ?_; refine qC rfl rfl (leaf2_spec _ _ _) ?_; rintro v ρ' L' hle ⟨rfl, rfl, rfl⟩ <;> (try simp only [kM, kN, kO, hx])) | (refine tl_is (.tmp 34) ?_; refine qC rfl rfl (leaf1_spec _ _) ?_; rintro v ρ' L' hle ⟨rfl, rfl, rfl⟩ <;> (try simp only [kM, kN, kO])) | (refine tl_is (.tmp 41) ?_; refine qC rfl rfl (leaf1_spec _ _) ?_; rintro v ρ' L' hle ⟨rfl, rfl, rfl⟩ <;> (try simp only [kM, kN, kO])) | (refine qEf ?_; try intro _)) <;> ((try simp only [kM, kN, kO]); refine tl_nil ?_; refine rNext ?_))))
          all_goals (first | refine wSkip 21 ?_ | refine wSkipU 21 ?_ | (refine rStep (i := 21) ?_; ((try refine qWant ?_); (first | (refine tl_is (.func 317) ?_; refine qC rfl rfl (compare_spec _ _ _ _ _) ?_; rintro v ρ' L' hle ⟨rfl, rfl, rfl⟩ <;> (try simp only [kM, kN, kO])) | (refine qEf ?_; try intro _)) <;> ((try simp only [kM, kN, kO]); refine tl_nil ?_; refine rNext ?_))))
          all_goals refine rFull ?_
          all_goals (first | refine wSkip 22 ?_ | refine wSkipU 22 ?_ | refine wCm 22 ?_ | (refine tr_guard (t := 33) rfl (fun hb => ?_) (fun hb => ?_) <;> (try simp only [kk] at hb) <;> first | refine wSkip 22 ?_ | refine wSkipU 22 ?_ | refine wCm 22 ?_))
          all_goals (first | refine wSkip 23 ?_ | refine wSkipU 23 ?_ | refine wPk 23 ?_ | (refine tr_guard (t := 30) rfl (fun hb => ?_) (fun hb => ?_) <;> (try simp only [kk] at hb) <;> first | refine wSkip 23 ?_ | refine wSkipU 23 ?_ | refine wPk 23 ?_))
          all_goals refine rPk 24 ?_
          all_goals refine rAs 25 ?_
          all_goals refine rDone ?_
          repeat' (first | (refine i_op ?_; first | (refine i_qq ?_; refine qQ ?_) | refine qEf ?_) | refine tl_nil ?_ | (refine i_tc ?_; refine qTc ?_) | (refine i_te ?_; refine qTe ?_) | intro _)
          rw [← hs']
          refine te_round_g (k + 1) (hlt) ev_le ev_le rfl tk inferInstance (by first | omega | (dsimp only; omega))
        · have hd : decide (k = 0) = false := decide_eq_false hk0
          obtain ⟨b2, off2, C2, T2, fr2, f1, hb2, hfit2, hc2⟩ := h.get (show k - 1 < l.length by omega)
          cases f1
          rw [hb] at hb2
          cases hb2
          have ek : ((k : Int) - 1).toNat = k - 1 := by omega
          rw [← ek] at hfit2
          have hc3 : List.take 4 (List.drop (off + ((k : Int) - 1).toNat * 4) C) = rowV (l[k - 1]'(by omega)) := by rw [ek]; exact hc2
          clear hc2
          rw [hd, Bool.false_or] at hs
          generalize l[k] = x at *
          generalize l[k - 1]'(by omega) = y at *
          unfold ltR at hs
          by_cases hcm : cmpK y.t y.id x.t x.id < 0
          · rw [decide_eq_true hcm] at hs
            repeat' (first | (refine i_op ?_; first | (refine i_qq ?_; refine qQ ?_) | refine qEf ?_) | refine tl_nil ?_ | (refine i_tc ?_; refine qTc ?_) | (refine i_te ?_; refine qTe ?_) | intro _)
            refine tc_any (Stays _ _ _) stays_refl ?_
            all_goals refine rMv 0 ?_
            all_goals refine rMv 1 ?_
            all_goals (first | refine wSkip 2 ?_ | refine wSkipU 2 ?_ | refine wMv 2 ?_ | (refine tr_guard (t := 24) rfl (fun hb => ?_) (fun hb => ?_) <;> (try simp only [kk] at hb) <;> first | refine wSkip 2 ?_ | refine wSkipU 2 ?_ | refine wMv 2 ?_))
            all_goals (first | refine wSkip 3 ?_ | refine wSkipU 3 ?_ | refine wMv 3 ?_ | (refine tr_guard (t := 24) rfl (fun hb => ?_) (fun hb => ?_) <;> (try simp only [kk] at hb) <;> first | refine wSkip 3 ?_ | refine wSkipU 3 ?_ | refine wMv 3 ?_))
            all_goals (first | refine wSkip 4 ?_ | refine wSkipU 4 ?_ | refine wLd 4 ?_ | (refine tr_guard (t := 24) rfl (fun hb => ?_) (fun hb => ?_) <;> (try simp only [kk] at hb) <;> first | refine wSkip 4 ?_ | refine wSkipU 4 ?_ | refine wLd 4 ?_))
            all_goals (first | refine wSkip 5 ?_ | refine wSkipU 5 ?_ | (refine rStep (i := 5) ?_; ((try refine qWant ?_); (first | (refine tl_is (.tmp 25) ?_; refine qC rfl rfl (leaf2_spec _ _ _) ?_; rintro v ρ' L' hle ⟨rfl, rfl, rfl⟩ <;> (try simp only [kM, kN, kO, hx])) | (refine tl_is (.tmp 34) ?_; refine qC rfl rfl (leaf1_spec _ _) ?_; rintro v ρ' L' hle ⟨rfl, rfl, rfl⟩ <;> (try simp only [kM, kN, kO])) | (refine tl_is (.tmp 41) ?_; refine qC rfl rfl (leaf1_spec _ _) ?_; rintro v ρ' L' hle ⟨rfl, rfl, rfl⟩ <;> (try simp only [kM, kN, kO])) | (refine qEf ?_; try intro _)) <;> ((try simp only [kM, kN, kO]); refine tl_nil ?_; refine rNext ?_))))
            all_goals refine rPk 6 ?_
            all_goals refine rMv 7 ?_
            all_goals (first | refine wSkip 8 ?_ | refine wSkipU 8 ?_ | refine wMv 8 ?_ | (refine tr_guard (t := 30) rfl (fun hb => ?_) (fun hb => ?_) <;> (try simp only [kk] at hb) <;> first | refine wSkip 8 ?_ | refine wSkipU 8 ?_ | refine wMv 8 ?_))
            all_goals (first | refine wSkip 9 ?_ | refine wSkipU 9 ?_ | refine wCm 9 ?_ | (refine tr_guard (t := 30) rfl (fun hb => ?_) (fun hb => ?_) <;> (try simp only [kk] at hb) <;> first | refine wSkip 9 ?_ | refine wSkipU 9 ?_ | refine wCm 9 ?_))
            all_goals (first | refine wSkip 10 ?_ | refine wSkipU 10 ?_ | refine wMv 10 ?_ | (refine tr_guard (t := 30) rfl (fun hb => ?_) (fun hb => ?_) <;> (try simp only [kk] at hb) <;> first | refine wSkip 10 ?_ | refine wSkipU 10 ?_ | refine wMv 10 ?_))
            all_goals (first | refine wSkip 11 ?_ | refine wSkipU 11 ?_ | refine wMv 11 ?_ | (refine tr_guard (t := 33) rfl (fun hb => ?_) (fun hb => ?_) <;> (try simp only [kk] at hb) <;> first | refine wSkip 11 ?_ | refine wSkipU 11 ?_ | refine wMv 11 ?_))
            all_goals (first | refine wSkip 12 ?_ | refine wSkipU 12 ?_ | refine wMv 12 ?_ | (refine tr_guard (t := 33) rfl (fun hb => ?_) (fun hb => ?_) <;> (try simp only [kk] at hb) <;> first | refine wSkip 12 ?_ | refine wSkipU 12 ?_ | refine wMv 12 ?_))
            all_goals (first | refine wSkip 13 ?_ | refine wSkipU 13 ?_ | refine wMv 13 ?_ | (refine tr_guard (t := 33) rfl (fun hb => ?_) (fun hb => ?_) <;> (try simp only [kk] at hb) <;> first | refine wSkip 13 ?_ | refine wSkipU 13 ?_ | refine wMv 13 ?_))
            all_goals (first | refine wSkip 14 ?_ | refine wSkipU 14 ?_ | refine wSb 14 ?_ | (refine tr_guard (t := 33) rfl (fun hb => ?_) (fun hb => ?_) <;> (try simp only [kk] at hb) <;> first | refine wSkip 14 ?_ | refine wSkipU 14 ?_ | refine wSb 14 ?_))
            all_goals (first | refine wSkip 15 ?_ | refine wSkipU 15 ?_ | refine wIa 15 ?_ | (refine tr_guard (t := 33) rfl (fun hb => ?_) (fun hb => ?_) <;> (try simp only [kk] at hb) <;> first | refine wSkip 15 ?_ | refine wSkipU 15 ?_ | refine wIa 15 ?_))
            all_goals (first | refine wSkip 16 ?_ | refine wSkipU 16 ?_ | refine wLd 16 ?_ | (refine tr_guard (t := 33) rfl (fun hb => ?_) (fun hb => ?_) <;> (try simp only [kk] at hb) <;> first | refine wSkip 16 ?_ | refine wSkipU 16 ?_ | refine wLd 16 ?_))
            all_goals (first | refine wSkip 18 ?_ | refine wSkipU 18 ?_ | refine wMv 18 ?_ | (refine tr_guard (t := 33) rfl (fun hb => ?_) (fun hb => ?_) <;> (try simp only [kk] at hb) <;> first | refine wSkip 18 ?_ | refine wSkipU 18 ?_ | refine wMv 18 ?_))
            all_goals (first | refine wSkip 19 ?_ | refine wSkipU 19 ?_ | refine wLd 19 ?_ | (refine tr_guard (t := 33) rfl (fun hb => ?_) (fun hb => ?_) <;> (try simp only [kk] at hb) <;> first | refine wSkip 19 ?_ | refine wSkipU 19 ?_ | refine wLd 19 ?_))
            all_goals (first | refine wSkip 17 ?_ | refine wSkipU 17 ?_ | (refine rStep (i := 17) ?_; ((try refine qWant ?_); (first | (refine tl_is (.tmp 25) ?_; refine qC rfl rfl (leaf2_spec _ _ _) ?_; rintro v ρ' L' hle ⟨rfl, rfl, rfl⟩ <;> (try simp only [kM, kN, kO, hx])) | (refine tl_is (.tmp 34) ?_; refine qC rfl rfl (leaf1_spec _ _) ?_; rintro v ρ' L' hle ⟨rfl, rfl, rfl⟩ <;> (try simp only [kM, kN, kO])) | (refine tl_is (.tmp 41) ?_; refine qC rfl rfl (leaf1_spec _ _) ?_; rintro v ρ' L' hle ⟨rfl, rfl, rfl⟩ <;> (try simp only [kM, kN, kO])) | (refine qEf ?_; try intro _)) <;> ((try simp only [kM, kN, kO]); refine tl_nil ?_; refine rNext ?_))))
            all_goals (first | refine wSkip 20 ?_ | refine wSkipU 20 ?_ | (refine rStep (i := 20) ?_; ((try refine qWant ?_); (first | (refine tl_is (.tmp 25) ?_; refine qC rfl rfl (leaf2_spec _ _ _) ?_; rintro v ρ' L' hle ⟨rfl, rfl, rfl⟩ <;> (try simp only [kM, kN, kO, hx])) | (refine tl_is (.tmp 34) ?_; refine qC rfl rfl (leaf1_spec _ _) ?_; rintro v ρ' L' hle ⟨rfl, rfl, rfl⟩ <;> (try simp only [kM, kN, kO])) | (refine tl_is (.tmp 41) ?_; refine qC rfl rfl (leaf1_spec _ _) ?_; rintro v ρ' L' hle ⟨rfl, rfl, rfl⟩ <;> (try simp only [kM, kN, kO])) | (refine qEf ?_; try intro _)) <;> ((try simp only [kM, kN, kO]); refine tl_nil ?_; refine rNext ?_))))
            all_goals (first | refine wSkip 21 ?_ | refine wSkipU 21 ?_ | (refine rStep (i := 21) ?_; ((try refine qWant ?_); (first | (refine tl_is (.func 317) ?_; refine qC rfl rfl (compare_spec _ _ _ _ _) ?_; rintro v ρ' L' hle ⟨rfl, rfl, rfl⟩ <;> (try simp only [kM, kN, kO])) | (refine qEf ?_; try intro _)) <;> ((try simp only [kM, kN, kO]); refine tl_nil ?_; refine rNext ?_))))
            all_goals refine rFull ?_
            all_goals (first | refine wSkip 22 ?_ | refine wSkipU 22 ?_ | refine wCm 22 ?_ | (refine tr_guard (t := 33) rfl (fun hb => ?_) (fun hb => ?_) <;> (try simp only [kk] at hb) <;> first | refine wSkip 22 ?_ | refine wSkipU 22 ?_ | refine wCm 22 ?_))
            all_goals (first | refine wSkip 23 ?_ | refine wSkipU 23 ?_ | refine wPk 23 ?_ | (refine tr_guard (t := 30) rfl (fun hb => ?_) (fun hb => ?_) <;> (try simp only [kk] at hb) <;> first | refine wSkip 23 ?_ | refine wSkipU 23 ?_ | refine wPk 23 ?_))
            all_goals refine rPk 24 ?_
            all_goals refine rAs 25 ?_
            all_goals refine rDone ?_
            all_goals (repeat' (first | (refine i_op ?_; first | (refine i_qq ?_; refine qQ ?_) | refine qEf ?_) | refine tl_nil ?_ | (refine i_tc ?_; refine qTc ?_) | (refine i_te ?_; refine qTe ?_) | intro _))
            all_goals rw [← hs]
            all_goals refine te_round_g (k + 1) (hlt) ev_le ev_le rfl tk inferInstance (by first | omega | (dsimp only; omega))
          · rw [decide_eq_false hcm] at hs
            rw [hfin hs]
            repeat' (first | (refine i_op ?_; first | (refine i_qq ?_; refine qQ ?_) | refine qEf ?_) | refine tl_nil ?_ | (refine i_tc ?_; refine qTc ?_) | (refine i_te ?_; refine qTe ?_) | intro _)
            refine tc_any (Stays _ _ _) stays_refl ?_
            all_goals refine rMv 0 ?_
            all_goals refine rMv 1 ?_
            all_goals (first | refine wSkip 2 ?_ | refine wSkipU 2 ?_ | refine wMv 2 ?_ | (refine tr_guard (t := 24) rfl (fun hb => ?_) (fun hb => ?_) <;> (try simp only [kk] at hb) <;> first | refine wSkip 2 ?_ | refine wSkipU 2 ?_ | refine wMv 2 ?_))
            all_goals (first | refine wSkip 3 ?_ | refine wSkipU 3 ?_ | refine wMv 3 ?_ | (refine tr_guard (t := 24) rfl (fun hb => ?_) (fun hb => ?_) <;> (try simp only [kk] at hb) <;> first | refine wSkip 3 ?_ | refine wSkipU 3 ?_ | refine wMv 3 ?_))
            all_goals (first | refine wSkip 4 ?_ | refine wSkipU 4 ?_ | refine wLd 4 ?_ | (refine tr_guard (t := 24) rfl (fun hb => ?_) (fun hb => ?_) <;> (try simp only [kk] at hb) <;> first | refine wSkip 4 ?_ | refine wSkipU 4 ?_ | refine wLd 4 ?_))
            all_goals (first | refine wSkip 5 ?_ | refine wSkipU 5 ?_ | (refine rStep (i := 5) ?_; ((try refine qWant ?_); (first | (refine tl_is (.tmp 25) ?_; refine qC rfl rfl (leaf2_spec _ _ _) ?_; rintro v ρ' L' hle ⟨rfl, rfl, rfl⟩ <;> (try simp only [kM, kN, kO, hx])) | (refine tl_is (.tmp 34) ?_; refine qC rfl rfl (leaf1_spec _ _) ?_; rintro v ρ' L' hle ⟨rfl, rfl, rfl⟩ <;> (try simp only [kM, kN, kO])) | (refine tl_is (.tmp 41) ?_; refine qC rfl rfl (leaf1_spec _ _) ?_; rintro v ρ' L' hle ⟨rfl, rfl, rfl⟩ <;> (try simp only [kM, kN, kO])) | (refine qEf ?_; try intro _)) <;> ((try simp only [kM, kN, kO]); refine tl_nil ?_; refine rNext ?_))))
            all_goals refine rPk 6 ?_
            all_goals refine rMv 7 ?_
            all_goals (first | refine wSkip 8 ?_ | refine wSkipU 8 ?_ | refine wMv 8 ?_ | (refine tr_guard (t := 30) rfl (fun hb => ?_) (fun hb => ?_) <;> (try simp only [kk] at hb) <;> first | refine wSkip 8 ?_ | refine wSkipU 8 ?_ | refine wMv 8 ?_))
            all_goals (first | refine wSkip 9 ?_ | refine wSkipU 9 ?_ | refine wCm 9 ?_ | (refine tr_guard (t := 30) rfl (fun hb => ?_) (fun hb => ?_) <;> (try simp only [kk] at hb) <;> first | refine wSkip 9 ?_ | refine wSkipU 9 ?_ | refine wCm 9 ?_))
            all_goals (first | refine wSkip 10 ?_ | refine wSkipU 10 ?_ | refine wMv 10 ?_ | (refine tr_guard (t := 30) rfl (fun hb => ?_) (fun hb => ?_) <;> (try simp only [kk] at hb) <;> first | refine wSkip 10 ?_ | refine wSkipU 10 ?_ | refine wMv 10 ?_))
            all_goals (first | refine wSkip 11 ?_ | refine wSkipU 11 ?_ | refine wMv 11 ?_ | (refine tr_guard (t := 33) rfl (fun hb => ?_) (fun hb => ?_) <;> (try simp only [kk] at hb) <;> first | refine wSkip 11 ?_ | refine wSkipU 11 ?_ | refine wMv 11 ?_))
            all_goals (first | refine wSkip 12 ?_ | refine wSkipU 12 ?_ | refine wMv 12 ?_ | (refine tr_guard (t := 33) rfl (fun hb => ?_) (fun hb => ?_) <;> (try simp only [kk] at hb) <;> first | refine wSkip 12 ?_ | refine wSkipU 12 ?_ | refine wMv 12 ?_))
            all_goals (first | refine wSkip 13 ?_ | refine wSkipU 13 ?_ | refine wMv 13 ?_ | (refine tr_guard (t := 33) rfl (fun hb => ?_) (fun hb => ?_) <;> (try simp only [kk] at hb) <;> first | refine wSkip 13 ?_ | refine wSkipU 13 ?_ | refine wMv 13 ?_))
            all_goals (first | refine wSkip 14 ?_ | refine wSkipU 14 ?_ | refine wSb 14 ?_ | (refine tr_guard (t := 33) rfl (fun hb => ?_) (fun hb => ?_) <;> (try simp only [kk] at hb) <;> first | refine wSkip 14 ?_ | refine wSkipU 14 ?_ | refine wSb 14 ?_))
            all_goals (first | refine wSkip 15 ?_ | refine wSkipU 15 ?_ | refine wIa 15 ?_ | (refine tr_guard (t := 33) rfl (fun hb => ?_) (fun hb => ?_) <;> (try simp only [kk] at hb) <;> first | refine wSkip 15 ?_ | refine wSkipU 15 ?_ | refine wIa 15 ?_))
            all_goals (first | refine wSkip 16 ?_ | refine wSkipU 16 ?_ | refine wLd 16 ?_ | (refine tr_guard (t := 33) rfl (fun hb => ?_) (fun hb => ?_) <;> (try simp only [kk] at hb) <;> first | refine wSkip 16 ?_ | refine wSkipU 16 ?_ | refine wLd 16 ?_))
            all_goals (first | refine wSkip 18 ?_ | refine wSkipU 18 ?_ | refine wMv 18 ?_ | (refine tr_guard (t := 33) rfl (fun hb => ?_) (fun hb => ?_) <;> (try simp only [kk] at hb) <;> first | refine wSkip 18 ?_ | refine wSkipU 18 ?_ | refine wMv 18 ?_))
            all_goals (first | refine wSkip 19 ?_ | refine wSkipU 19 ?_ | refine wLd 19 ?_ | (refine tr_guard (t := 33) rfl (fun hb => ?_) (fun hb => ?_) <;> (try simp only [kk] at hb) <;> first | refine wSkip 19 ?_ | refine wSkipU 19 ?_ | refine wLd 19 ?_))
            all_goals (first | refine wSkip 17 ?_ | refine wSkipU 17 ?_ | (refine rStep (i := 17) ?_; ((try refine qWant ?_); (first | (refine tl_is (.tmp 25) ?_; refine qC rfl rfl (leaf2_spec _ _ _) ?_; rintro v ρ' L' hle ⟨rfl, rfl, rfl⟩ <;> (try simp only [kM, kN, kO, hx])) | (refine tl_is (.tmp 34) ?_; refine qC rfl rfl (leaf1_spec _ _) ?_; rintro v ρ' L' hle ⟨rfl, rfl, rfl⟩ <;> (try simp only [kM, kN, kO])) | (refine tl_is (.tmp 41) ?_; refine qC rfl rfl (leaf1_spec _ _) ?_; rintro v ρ' L' hle ⟨rfl, rfl, rfl⟩ <;> (try simp only [kM, kN, kO])) | (refine qEf ?_; try intro _)) <;> ((try simp only [kM, kN, kO]); refine tl_nil ?_; refine rNext ?_))))
            all_goals (first | refine wSkip 20 ?_ | refine wSkipU 20 ?_ | (refine rStep (i := 20) ?_; ((try refine qWant ?_); (first | (refine tl_is (.tmp 25) ?_; refine qC rfl rfl (leaf2_spec _ _ _) ?_; rintro v ρ' L' hle ⟨rfl, rfl, rfl⟩ <;> (try simp only [kM, kN, kO, hx])) | (refine tl_is (.tmp 34) ?_; refine qC rfl rfl (leaf1_spec _ _) ?_; rintro v ρ' L' hle ⟨rfl, rfl, rfl⟩ <;> (try simp only [kM, kN, kO])) | (refine tl_is (.tmp 41) ?_; refine qC rfl rfl (leaf1_spec _ _) ?_; rintro v ρ' L' hle ⟨rfl, rfl, rfl⟩ <;> (try simp only [kM, kN, kO])) | (refine qEf ?_; try intro _)) <;> ((try simp only [kM, kN, kO]); refine tl_nil ?_; refine rNext ?_))))
            all_goals (first | refine wSkip 21 ?_ | refine wSkipU 21 ?_ | (refine rStep (i := 21) ?_; ((try refine qWant ?_); (first | (refine tl_is (.func 317) ?_; refine qC rfl rfl (compare_spec _ _ _ _ _) ?_; rintro v ρ' L' hle ⟨rfl, rfl, rfl⟩ <;> (try simp only [kM, kN, kO])) | (refine qEf ?_; try intro _)) <;> ((try simp only [kM, kN, kO]); refine tl_nil ?_; refine rNext ?_))))
            all_goals refine rFull ?_
            all_goals (first | refine wSkip 22 ?_ | refine wSkipU 22 ?_ | refine wCm 22 ?_ | (refine tr_guard (t := 33) rfl (fun hb => ?_) (fun hb => ?_) <;> (try simp only [kk] at hb) <;> first | refine wSkip 22 ?_ | refine wSkipU 22 ?_ | refine wCm 22 ?_))
            all_goals (first | refine wSkip 23 ?_ | refine wSkipU 23 ?_ | refine wPk 23 ?_ | (refine tr_guard (t := 30) rfl (fun hb => ?_) (fun hb => ?_) <;> (try simp only [kk] at hb) <;> first | refine wSkip 23 ?_ | refine wSkipU 23 ?_ | refine wPk 23 ?_))
            all_goals refine rPk 24 ?_
            all_goals refine rAs 25 ?_
            all_goals refine rDone ?_
            all_goals (repeat' (first | (refine i_op ?_; first | (refine i_qq ?_; refine qQ ?_) | refine qEf ?_) | refine tl_nil ?_ | (refine i_tc ?_; refine qTc ?_) | (refine i_te ?_; refine qTe ?_) | intro _))
            all_goals exact qE ⟨rfl, rfl, rfl⟩
  · have hk2 : k = n := by omega
    subst hk2
    repeat' (first | (refine i_op ?_; first | (refine i_qq ?_; refine qQ ?_) | refine qEf ?_) | refine tl_nil ?_ | (refine i_tc ?_; refine qTc ?_) | (refine i_te ?_; refine qTe ?_) | intro _)
    exact qE ⟨rfl, rfl, rfl⟩
end Go.Proofs.E

