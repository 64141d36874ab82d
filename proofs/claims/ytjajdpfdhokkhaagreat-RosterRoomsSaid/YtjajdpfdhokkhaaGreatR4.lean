/- Rosters as data, and what their functions come to. Part 4 of 16. -/
import Derived.Test.YtjajdpfdhokkhaaGreatR3
import Derived.Test.YtjajdpfdhokkhaaGreatChecked
import Derived.KernelRfl
namespace Go.Proofs.E
open Go Go.Proofs.E
set_option linter.unusedVariables false


theorem tqI {t : TypeId} {b : Bool} (h : (Tryz.prog.underlying t).map isIfaceD = some b := by kernel_rfl) : TyIface Tryz.prog t b := mkTyIface h
theorem tqS {t : TypeId} (h : (Tryz.prog.underlying t).map isAggD = some false := by kernel_rfl) (k : (Tryz.prog.info? t).map (·.size) = some 1 := by kernel_rfl) : TyS Tryz.prog t := mkTyS h k
theorem tqA {t : TypeId} {n : Nat} (h : (Tryz.prog.underlying t).map isAggD = some true := by kernel_rfl) (k : (Tryz.prog.info? t).map (·.size) = some n := by kernel_rfl) : TyA Tryz.prog t n := mkTyA h k
theorem tqN {t : TypeId} {n : Nat} (k : (Tryz.prog.info? t).map (·.size) = some n := by kernel_rfl) : TySz Tryz.prog t n := mkTySz k
theorem tqB {t : TypeId} {n : Nat} (k : (Tryz.prog.info? t).map (·.bytes) = some n := by kernel_rfl) : TyBytes Tryz.prog t n := mkTyBytes k
theorem tqO {t : TypeId} {z : Value} (k : (Tryz.prog.info? t).bind (·.zero) = some z := by kernel_rfl) : TyZero Tryz.prog t z := mkTyZero k
theorem tqF {t : TypeId} (h : (Tryz.prog.underlying t).map isFuncD = some true := by kernel_rfl) : TyFunc Tryz.prog t := mkTyFunc h
theorem tqD {s : TypeId} {f off : Nat} {ft : TypeId} (h : fldB Tryz.prog s f = some (off, ft) := by kernel_rfl) : Fld Tryz.prog s f off ft := mkFld h
theorem tqU {f : FuncId} (h : funB Tryz.prog f = true := by kernel_rfl) : Fun Tryz.prog f := mkFun h

instance : TyS Tryz.prog 1 := tqS
instance : TyIface Tryz.prog 1 false := tqI
instance : TyFunc Tryz.prog 1 := tqF
instance : TySz Tryz.prog 1 1 := tqN
instance : TyBytes Tryz.prog 1 8 := tqB
instance : TyZero Tryz.prog 1 (.nilFunc) := tqO
instance : TyS Tryz.prog 2 := tqS
instance : TyIface Tryz.prog 2 false := tqI
instance : TySz Tryz.prog 2 1 := tqN
instance : TyBytes Tryz.prog 2 8 := tqB
instance : TyZero Tryz.prog 2 (.int .i64 0) := tqO
instance : TyInt Tryz.prog 2 .i64 := ⟨by kernel_rfl⟩
instance : TyS Tryz.prog 3 := tqS
instance : TyIface Tryz.prog 3 false := tqI
instance : TySz Tryz.prog 3 1 := tqN
instance : TyBytes Tryz.prog 3 8 := tqB
instance : TyZero Tryz.prog 3 (.int .i64 0) := tqO
instance : TyInt Tryz.prog 3 .i64 := ⟨by kernel_rfl⟩
instance : TyS Tryz.prog 4 := tqS
instance : TyIface Tryz.prog 4 false := tqI
instance : TySz Tryz.prog 4 1 := tqN
instance : TyBytes Tryz.prog 4 1 := tqB
instance : TyZero Tryz.prog 4 (.bool false) := tqO
instance : TyBool Tryz.prog 4 := ⟨by kernel_rfl⟩
instance : TyS Tryz.prog 5 := tqS
instance : TyIface Tryz.prog 5 false := tqI
instance : TySz Tryz.prog 5 1 := tqN
instance : TyBytes Tryz.prog 5 1 := tqB
instance : TyZero Tryz.prog 5 (.int .u8 0) := tqO
instance : TyInt Tryz.prog 5 .u8 := ⟨by kernel_rfl⟩
instance : TyA Tryz.prog 7 4 := tqA
instance : TyIface Tryz.prog 7 false := tqI
instance : TySz Tryz.prog 7 4 := tqN
instance : TyBytes Tryz.prog 7 24 := tqB
instance : TyZero Tryz.prog 7 (.agg ⟨[.int .i64 0, .int .i64 0, .bool false, .int .u8 0]⟩) := tqO
instance : NoGuard Tryz.prog 7 := ⟨by kernel_rfl⟩
instance : Fld Tryz.prog 7 0 0 2 := tqD
instance : Fld Tryz.prog 7 1 1 3 := tqD
instance : Fld Tryz.prog 7 2 2 4 := tqD
instance : Fld Tryz.prog 7 3 3 6 := tqD
instance : TyPlaces Tryz.prog 7 (([(0, 1), (1, 1), (2, 1), (3, 1)] : List (Nat × Nat))[·]?) := mkTyPlaces (by kernel_rfl)
instance : TyS Tryz.prog 9 := tqS
instance : TyIface Tryz.prog 9 false := tqI
instance : TySz Tryz.prog 9 1 := tqN
instance : TyBytes Tryz.prog 9 16 := tqB
instance : TyZero Tryz.prog 9 (.string ⟨⟨[]⟩⟩) := tqO
instance : TyStr Tryz.prog 9 := ⟨by kernel_rfl⟩
instance : TyS Tryz.prog 12 := tqS
instance : TyIface Tryz.prog 12 false := tqI
instance : TySz Tryz.prog 12 1 := tqN
instance : TyBytes Tryz.prog 12 8 := tqB
instance : TyZero Tryz.prog 12 (.int .u64 0) := tqO
instance : TyInt Tryz.prog 12 .u64 := ⟨by kernel_rfl⟩
instance : TyS Tryz.prog 16 := tqS
instance : TyIface Tryz.prog 16 false := tqI
instance : TySz Tryz.prog 16 1 := tqN
instance : TyBytes Tryz.prog 16 8 := tqB
instance : TyZero Tryz.prog 16 (.pointer none) := tqO
instance : TyPtr Tryz.prog 16 389 := ⟨by kernel_rfl⟩
instance : TyS Tryz.prog 17 := tqS
instance : TyIface Tryz.prog 17 false := tqI
instance : TySz Tryz.prog 17 1 := tqN
instance : TyBytes Tryz.prog 17 8 := tqB
instance : TyZero Tryz.prog 17 (.pointer none) := tqO
instance : TyPtr Tryz.prog 17 397 := ⟨by kernel_rfl⟩
instance : TyS Tryz.prog 20 := tqS
instance : TyIface Tryz.prog 20 true := tqI
instance : TySz Tryz.prog 20 1 := tqN
instance : TyBytes Tryz.prog 20 16 := tqB
instance : TyZero Tryz.prog 20 (.nilIface) := tqO
instance : TyS Tryz.prog 21 := tqS
instance : TyIface Tryz.prog 21 false := tqI
instance : TySz Tryz.prog 21 1 := tqN
instance : TyBytes Tryz.prog 21 4 := tqB
instance : TyZero Tryz.prog 21 (.int .i32 0) := tqO
instance : TyInt Tryz.prog 21 .i32 := ⟨by kernel_rfl⟩
instance : TyS Tryz.prog 22 := tqS
instance : TyIface Tryz.prog 22 false := tqI
instance : TySz Tryz.prog 22 1 := tqN
instance : TyBytes Tryz.prog 22 24 := tqB
instance : TyZero Tryz.prog 22 (.slice none 0 0) := tqO
instance : TySlice Tryz.prog 22 30 := ⟨by kernel_rfl⟩
instance : TyS Tryz.prog 23 := tqS
instance : TyIface Tryz.prog 23 false := tqI
instance : TyFunc Tryz.prog 23 := tqF
instance : TySz Tryz.prog 23 1 := tqN
instance : TyBytes Tryz.prog 23 8 := tqB
instance : TyZero Tryz.prog 23 (.nilFunc) := tqO
instance : TyS Tryz.prog 24 := tqS
instance : TyIface Tryz.prog 24 false := tqI
instance : TySz Tryz.prog 24 1 := tqN
instance : TyBytes Tryz.prog 24 8 := tqB
instance : TyZero Tryz.prog 24 (.int .u64 0) := tqO
instance : TyInt Tryz.prog 24 .u64 := ⟨by kernel_rfl⟩
instance : TyS Tryz.prog 25 := tqS
instance : TyIface Tryz.prog 25 false := tqI
instance : TySz Tryz.prog 25 1 := tqN
instance : TyBytes Tryz.prog 25 24 := tqB
instance : TyZero Tryz.prog 25 (.slice none 0 0) := tqO
instance : TySlice Tryz.prog 25 128 := ⟨by kernel_rfl⟩
instance : TyS Tryz.prog 26 := tqS
instance : TyIface Tryz.prog 26 false := tqI
instance : TySz Tryz.prog 26 1 := tqN
instance : TyBytes Tryz.prog 26 24 := tqB
instance : TyZero Tryz.prog 26 (.slice none 0 0) := tqO
instance : TySlice Tryz.prog 26 103 := ⟨by kernel_rfl⟩
instance : TyS Tryz.prog 27 := tqS
instance : TyIface Tryz.prog 27 false := tqI
instance : TySz Tryz.prog 27 1 := tqN
instance : TyBytes Tryz.prog 27 24 := tqB
instance : TyZero Tryz.prog 27 (.slice none 0 0) := tqO
instance : TySlice Tryz.prog 27 81 := ⟨by kernel_rfl⟩
instance : TyS Tryz.prog 28 := tqS
instance : TyIface Tryz.prog 28 false := tqI
instance : TySz Tryz.prog 28 1 := tqN
instance : TyBytes Tryz.prog 28 24 := tqB
instance : TyZero Tryz.prog 28 (.slice none 0 0) := tqO
instance : TySlice Tryz.prog 28 125 := ⟨by kernel_rfl⟩
instance : TyA Tryz.prog 29 10 := tqA
instance : TyIface Tryz.prog 29 false := tqI
instance : TySz Tryz.prog 29 10 := tqN
instance : TyBytes Tryz.prog 29 144 := tqB
instance : TyZero Tryz.prog 29 (.agg ⟨[.int .i64 0, .int .u64 0, .int .i64 0, .int .u64 0, .int .u64 0, .slice none 0 0, .slice none 0 0, .int .i64 0, .slice none 0 0, .slice none 0 0]⟩) := tqO
instance : NoGuard Tryz.prog 29 := ⟨by kernel_rfl⟩
instance : Fld Tryz.prog 29 0 0 3 := tqD
instance : Fld Tryz.prog 29 1 1 24 := tqD
instance : Fld Tryz.prog 29 2 2 3 := tqD
instance : Fld Tryz.prog 29 3 3 24 := tqD
instance : Fld Tryz.prog 29 4 4 24 := tqD
instance : Fld Tryz.prog 29 5 5 25 := tqD
instance : Fld Tryz.prog 29 6 6 26 := tqD
instance : Fld Tryz.prog 29 7 7 3 := tqD
instance : Fld Tryz.prog 29 8 8 27 := tqD
instance : Fld Tryz.prog 29 9 9 28 := tqD
instance : TyPlaces Tryz.prog 29 (([(0, 1), (1, 1), (2, 1), (3, 1), (4, 1), (5, 1), (6, 1), (7, 1), (8, 1), (9, 1)] : List (Nat × Nat))[·]?) := mkTyPlaces (by kernel_rfl)
instance : TyA Tryz.prog 30 10 := tqA
instance : TyIface Tryz.prog 30 false := tqI
instance : TySz Tryz.prog 30 10 := tqN
instance : TyBytes Tryz.prog 30 144 := tqB
instance : TyZero Tryz.prog 30 (.agg ⟨[.int .i64 0, .int .u64 0, .int .i64 0, .int .u64 0, .int .u64 0, .slice none 0 0, .slice none 0 0, .int .i64 0, .slice none 0 0, .slice none 0 0]⟩) := tqO
instance : NoGuard Tryz.prog 30 := ⟨by kernel_rfl⟩
instance : TyFlds Tryz.prog 30 [(0, 3), (1, 24), (2, 3), (3, 24), (4, 24), (5, 25), (6, 26), (7, 3), (8, 27), (9, 28)] := mkTyFlds (by kernel_rfl)
instance : Fld Tryz.prog 30 0 0 3 := tqD
instance : Fld Tryz.prog 30 1 1 24 := tqD
instance : Fld Tryz.prog 30 2 2 3 := tqD
instance : Fld Tryz.prog 30 3 3 24 := tqD
instance : Fld Tryz.prog 30 4 4 24 := tqD
instance : Fld Tryz.prog 30 5 5 25 := tqD
instance : Fld Tryz.prog 30 6 6 26 := tqD
instance : Fld Tryz.prog 30 7 7 3 := tqD
instance : Fld Tryz.prog 30 8 8 27 := tqD
instance : Fld Tryz.prog 30 9 9 28 := tqD
instance : TyPlaces Tryz.prog 30 (([(0, 1), (1, 1), (2, 1), (3, 1), (4, 1), (5, 1), (6, 1), (7, 1), (8, 1), (9, 1)] : List (Nat × Nat))[·]?) := mkTyPlaces (by kernel_rfl)
instance : TyS Tryz.prog 32 := tqS
instance : TyIface Tryz.prog 32 false := tqI
instance : TySz Tryz.prog 32 1 := tqN
instance : TyBytes Tryz.prog 32 24 := tqB
instance : TyZero Tryz.prog 32 (.slice none 0 0) := tqO
instance : TySlice Tryz.prog 32 72 := ⟨by kernel_rfl⟩
instance : TyA Tryz.prog 33 2 := tqA
instance : TyIface Tryz.prog 33 false := tqI
instance : TySz Tryz.prog 33 2 := tqN
instance : TyBytes Tryz.prog 33 32 := tqB
instance : TyZero Tryz.prog 33 (.agg ⟨[.int .i64 0, .slice none 0 0]⟩) := tqO
instance : NoGuard Tryz.prog 33 := ⟨by kernel_rfl⟩
instance : Fld Tryz.prog 33 0 0 3 := tqD
instance : Fld Tryz.prog 33 1 1 32 := tqD
instance : TyPlaces Tryz.prog 33 (([(0, 1), (1, 1)] : List (Nat × Nat))[·]?) := mkTyPlaces (by kernel_rfl)
instance : TyA Tryz.prog 34 2 := tqA
instance : TyIface Tryz.prog 34 false := tqI
instance : TySz Tryz.prog 34 2 := tqN
instance : TyBytes Tryz.prog 34 32 := tqB
instance : TyZero Tryz.prog 34 (.agg ⟨[.int .i64 0, .slice none 0 0]⟩) := tqO
instance : NoGuard Tryz.prog 34 := ⟨by kernel_rfl⟩
instance : TyFlds Tryz.prog 34 [(0, 3), (1, 32)] := mkTyFlds (by kernel_rfl)
instance : Fld Tryz.prog 34 0 0 3 := tqD
instance : Fld Tryz.prog 34 1 1 32 := tqD
instance : TyPlaces Tryz.prog 34 (([(0, 1), (1, 1)] : List (Nat × Nat))[·]?) := mkTyPlaces (by kernel_rfl)
instance : TyS Tryz.prog 35 := tqS
instance : TyIface Tryz.prog 35 false := tqI
instance : TySz Tryz.prog 35 1 := tqN
instance : TyBytes Tryz.prog 35 8 := tqB
instance : TyZero Tryz.prog 35 (.int .i64 0) := tqO
instance : TyInt Tryz.prog 35 .i64 := ⟨by kernel_rfl⟩
instance : TyS Tryz.prog 40 := tqS
instance : TyIface Tryz.prog 40 false := tqI
instance : TyFunc Tryz.prog 40 := tqF
instance : TySz Tryz.prog 40 1 := tqN
instance : TyBytes Tryz.prog 40 8 := tqB
instance : TyZero Tryz.prog 40 (.nilFunc) := tqO
instance : TyS Tryz.prog 44 := tqS
instance : TyIface Tryz.prog 44 false := tqI
instance : TySz Tryz.prog 44 1 := tqN
instance : TyBytes Tryz.prog 44 24 := tqB
instance : TyZero Tryz.prog 44 (.slice none 0 0) := tqO
instance : TySlice Tryz.prog 44 5 := ⟨by kernel_rfl⟩
instance : TyS Tryz.prog 48 := tqS
instance : TyIface Tryz.prog 48 false := tqI
instance : TyFunc Tryz.prog 48 := tqF
instance : TySz Tryz.prog 48 1 := tqN
instance : TyBytes Tryz.prog 48 8 := tqB
instance : TyZero Tryz.prog 48 (.nilFunc) := tqO
instance : TyS Tryz.prog 57 := tqS
instance : TyIface Tryz.prog 57 false := tqI
instance : TySz Tryz.prog 57 1 := tqN
instance : TyBytes Tryz.prog 57 24 := tqB
instance : TyZero Tryz.prog 57 (.slice none 0 0) := tqO
instance : TySlice Tryz.prog 57 3 := ⟨by kernel_rfl⟩
instance : TyS Tryz.prog 62 := tqS
instance : TyIface Tryz.prog 62 false := tqI
instance : TySz Tryz.prog 62 1 := tqN
instance : TyBytes Tryz.prog 62 24 := tqB
instance : TyZero Tryz.prog 62 (.slice none 0 0) := tqO
instance : TySlice Tryz.prog 62 65 := ⟨by kernel_rfl⟩
instance : TyA Tryz.prog 64 15 := tqA
instance : TyIface Tryz.prog 64 false := tqI
instance : TySz Tryz.prog 64 15 := tqN
instance : TyBytes Tryz.prog 64 184 := tqB
instance : TyZero Tryz.prog 64 (.agg ⟨[.int .i64 0, .int .i64 0, .int .i64 0, .int .i64 0, .bool false, .int .i64 0, .int .u64 0, .int .i64 0, .int .u64 0, .int .u64 0, .slice none 0 0, .slice none 0 0, .int .i64 0, .slice none 0 0, .slice none 0 0]⟩) := tqO
instance : NoGuard Tryz.prog 64 := ⟨by kernel_rfl⟩
instance : Fld Tryz.prog 64 0 0 3 := tqD
instance : Fld Tryz.prog 64 1 1 3 := tqD
instance : Fld Tryz.prog 64 2 2 3 := tqD
instance : Fld Tryz.prog 64 3 3 3 := tqD
instance : Fld Tryz.prog 64 4 4 4 := tqD
instance : Fld Tryz.prog 64 5 5 30 := tqD
instance : TyPlaces Tryz.prog 64 (([(0, 1), (1, 1), (2, 1), (3, 1), (4, 1), (5, 10)] : List (Nat × Nat))[·]?) := mkTyPlaces (by kernel_rfl)
instance : TyA Tryz.prog 65 15 := tqA
instance : TyIface Tryz.prog 65 false := tqI
instance : TySz Tryz.prog 65 15 := tqN
instance : TyBytes Tryz.prog 65 184 := tqB
instance : TyZero Tryz.prog 65 (.agg ⟨[.int .i64 0, .int .i64 0, .int .i64 0, .int .i64 0, .bool false, .int .i64 0, .int .u64 0, .int .i64 0, .int .u64 0, .int .u64 0, .slice none 0 0, .slice none 0 0, .int .i64 0, .slice none 0 0, .slice none 0 0]⟩) := tqO
instance : NoGuard Tryz.prog 65 := ⟨by kernel_rfl⟩
instance : TyFlds Tryz.prog 65 [(0, 3), (1, 3), (2, 3), (3, 3), (4, 4), (5, 30)] := mkTyFlds (by kernel_rfl)
instance : Fld Tryz.prog 65 0 0 3 := tqD
instance : Fld Tryz.prog 65 1 1 3 := tqD
instance : Fld Tryz.prog 65 2 2 3 := tqD
instance : Fld Tryz.prog 65 3 3 3 := tqD
instance : Fld Tryz.prog 65 4 4 4 := tqD
instance : Fld Tryz.prog 65 5 5 30 := tqD
instance : TyPlaces Tryz.prog 65 (([(0, 1), (1, 1), (2, 1), (3, 1), (4, 1), (5, 10)] : List (Nat × Nat))[·]?) := mkTyPlaces (by kernel_rfl)
instance : TyA Tryz.prog 66 4 := tqA
instance : TyIface Tryz.prog 66 false := tqI
instance : TySz Tryz.prog 66 4 := tqN
instance : TyBytes Tryz.prog 66 48 := tqB
instance : TyZero Tryz.prog 66 (.agg ⟨[.int .i64 0, .slice none 0 0, .int .i64 0, .int .i64 0]⟩) := tqO
instance : NoGuard Tryz.prog 66 := ⟨by kernel_rfl⟩
instance : Fld Tryz.prog 66 0 0 34 := tqD
instance : Fld Tryz.prog 66 1 2 3 := tqD
instance : Fld Tryz.prog 66 2 3 35 := tqD
instance : TyPlaces Tryz.prog 66 (([(0, 2), (2, 1), (3, 1)] : List (Nat × Nat))[·]?) := mkTyPlaces (by kernel_rfl)
instance : TyA Tryz.prog 67 4 := tqA
instance : TyIface Tryz.prog 67 false := tqI
instance : TySz Tryz.prog 67 4 := tqN
instance : TyBytes Tryz.prog 67 48 := tqB
instance : TyZero Tryz.prog 67 (.agg ⟨[.int .i64 0, .slice none 0 0, .int .i64 0, .int .i64 0]⟩) := tqO
instance : NoGuard Tryz.prog 67 := ⟨by kernel_rfl⟩
instance : TyFlds Tryz.prog 67 [(0, 34), (2, 3), (3, 35)] := mkTyFlds (by kernel_rfl)
instance : Fld Tryz.prog 67 0 0 34 := tqD
instance : Fld Tryz.prog 67 1 2 3 := tqD
instance : Fld Tryz.prog 67 2 3 35 := tqD
instance : TyPlaces Tryz.prog 67 (([(0, 2), (2, 1), (3, 1)] : List (Nat × Nat))[·]?) := mkTyPlaces (by kernel_rfl)
instance : TyS Tryz.prog 69 := tqS
instance : TyIface Tryz.prog 69 false := tqI
instance : TySz Tryz.prog 69 1 := tqN
instance : TyBytes Tryz.prog 69 24 := tqB
instance : TyZero Tryz.prog 69 (.slice none 0 0) := tqO
instance : TySlice Tryz.prog 69 74 := ⟨by kernel_rfl⟩
instance : TyS Tryz.prog 70 := tqS
instance : TyIface Tryz.prog 70 false := tqI
instance : TySz Tryz.prog 70 1 := tqN
instance : TyBytes Tryz.prog 70 24 := tqB
instance : TyZero Tryz.prog 70 (.slice none 0 0) := tqO
instance : TySlice Tryz.prog 70 24 := ⟨by kernel_rfl⟩
instance : TyA Tryz.prog 71 7 := tqA
instance : TyIface Tryz.prog 71 false := tqI
instance : TySz Tryz.prog 71 7 := tqN
instance : TyBytes Tryz.prog 71 88 := tqB
instance : TyZero Tryz.prog 71 (.agg ⟨[.int .i64 0, .int .i64 0, .int .u64 0, .int .u64 0, .int .u64 0, .slice none 0 0, .slice none 0 0]⟩) := tqO
instance : NoGuard Tryz.prog 71 := ⟨by kernel_rfl⟩
instance : Fld Tryz.prog 71 0 0 3 := tqD
instance : Fld Tryz.prog 71 1 1 3 := tqD
instance : Fld Tryz.prog 71 2 2 24 := tqD
instance : Fld Tryz.prog 71 3 3 24 := tqD
instance : Fld Tryz.prog 71 4 4 24 := tqD
instance : Fld Tryz.prog 71 5 5 69 := tqD
instance : Fld Tryz.prog 71 6 6 70 := tqD
instance : TyPlaces Tryz.prog 71 (([(0, 1), (1, 1), (2, 1), (3, 1), (4, 1), (5, 1), (6, 1)] : List (Nat × Nat))[·]?) := mkTyPlaces (by kernel_rfl)
instance : TyA Tryz.prog 72 7 := tqA
instance : TyIface Tryz.prog 72 false := tqI
instance : TySz Tryz.prog 72 7 := tqN
instance : TyBytes Tryz.prog 72 88 := tqB
instance : TyZero Tryz.prog 72 (.agg ⟨[.int .i64 0, .int .i64 0, .int .u64 0, .int .u64 0, .int .u64 0, .slice none 0 0, .slice none 0 0]⟩) := tqO
instance : NoGuard Tryz.prog 72 := ⟨by kernel_rfl⟩
instance : TyFlds Tryz.prog 72 [(0, 3), (1, 3), (2, 24), (3, 24), (4, 24), (5, 69), (6, 70)] := mkTyFlds (by kernel_rfl)
instance : Fld Tryz.prog 72 0 0 3 := tqD
instance : Fld Tryz.prog 72 1 1 3 := tqD
instance : Fld Tryz.prog 72 2 2 24 := tqD
instance : Fld Tryz.prog 72 3 3 24 := tqD
instance : Fld Tryz.prog 72 4 4 24 := tqD
instance : Fld Tryz.prog 72 5 5 69 := tqD
instance : Fld Tryz.prog 72 6 6 70 := tqD
instance : TyPlaces Tryz.prog 72 (([(0, 1), (1, 1), (2, 1), (3, 1), (4, 1), (5, 1), (6, 1)] : List (Nat × Nat))[·]?) := mkTyPlaces (by kernel_rfl)
instance : TyA Tryz.prog 73 2 := tqA
instance : TyIface Tryz.prog 73 false := tqI
instance : TySz Tryz.prog 73 2 := tqN
instance : TyBytes Tryz.prog 73 16 := tqB
instance : TyZero Tryz.prog 73 (.agg ⟨[.int .u64 0, .int .i64 0]⟩) := tqO
instance : NoGuard Tryz.prog 73 := ⟨by kernel_rfl⟩
instance : Fld Tryz.prog 73 0 0 24 := tqD
instance : Fld Tryz.prog 73 1 1 3 := tqD
instance : TyPlaces Tryz.prog 73 (([(0, 1), (1, 1)] : List (Nat × Nat))[·]?) := mkTyPlaces (by kernel_rfl)
instance : TyA Tryz.prog 74 2 := tqA
instance : TyIface Tryz.prog 74 false := tqI
instance : TySz Tryz.prog 74 2 := tqN
instance : TyBytes Tryz.prog 74 16 := tqB
instance : TyZero Tryz.prog 74 (.agg ⟨[.int .u64 0, .int .i64 0]⟩) := tqO
instance : NoGuard Tryz.prog 74 := ⟨by kernel_rfl⟩
instance : TyFlds Tryz.prog 74 [(0, 24), (1, 3)] := mkTyFlds (by kernel_rfl)
instance : Fld Tryz.prog 74 0 0 24 := tqD
instance : Fld Tryz.prog 74 1 1 3 := tqD
instance : TyPlaces Tryz.prog 74 (([(0, 1), (1, 1)] : List (Nat × Nat))[·]?) := mkTyPlaces (by kernel_rfl)
instance : TyA Tryz.prog 80 5 := tqA
instance : TyIface Tryz.prog 80 false := tqI
instance : TySz Tryz.prog 80 5 := tqN
instance : TyBytes Tryz.prog 80 40 := tqB
instance : TyZero Tryz.prog 80 (.agg ⟨[.int .i64 0, .int .u64 0, .int .u64 0, .int .u64 0, .int .i64 0]⟩) := tqO
instance : NoGuard Tryz.prog 80 := ⟨by kernel_rfl⟩
instance : Fld Tryz.prog 80 0 0 3 := tqD
instance : Fld Tryz.prog 80 1 1 24 := tqD
instance : Fld Tryz.prog 80 2 2 24 := tqD
instance : Fld Tryz.prog 80 3 3 24 := tqD
instance : Fld Tryz.prog 80 4 4 3 := tqD
instance : TyPlaces Tryz.prog 80 (([(0, 1), (1, 1), (2, 1), (3, 1), (4, 1)] : List (Nat × Nat))[·]?) := mkTyPlaces (by kernel_rfl)
instance : TyA Tryz.prog 81 5 := tqA
instance : TyIface Tryz.prog 81 false := tqI
instance : TySz Tryz.prog 81 5 := tqN
instance : TyBytes Tryz.prog 81 40 := tqB
instance : TyZero Tryz.prog 81 (.agg ⟨[.int .i64 0, .int .u64 0, .int .u64 0, .int .u64 0, .int .i64 0]⟩) := tqO
instance : NoGuard Tryz.prog 81 := ⟨by kernel_rfl⟩
instance : TyFlds Tryz.prog 81 [(0, 3), (1, 24), (2, 24), (3, 24), (4, 3)] := mkTyFlds (by kernel_rfl)
instance : Fld Tryz.prog 81 0 0 3 := tqD
instance : Fld Tryz.prog 81 1 1 24 := tqD
instance : Fld Tryz.prog 81 2 2 24 := tqD
instance : Fld Tryz.prog 81 3 3 24 := tqD
instance : Fld Tryz.prog 81 4 4 3 := tqD
instance : TyPlaces Tryz.prog 81 (([(0, 1), (1, 1), (2, 1), (3, 1), (4, 1)] : List (Nat × Nat))[·]?) := mkTyPlaces (by kernel_rfl)
instance : TyS Tryz.prog 83 := tqS
instance : TyIface Tryz.prog 83 false := tqI
instance : TySz Tryz.prog 83 1 := tqN
instance : TyBytes Tryz.prog 83 8 := tqB
instance : TyZero Tryz.prog 83 (.int .u64 0) := tqO
instance : TyInt Tryz.prog 83 .u64 := ⟨by kernel_rfl⟩
instance : TyS Tryz.prog 88 := tqS
instance : TyIface Tryz.prog 88 false := tqI
instance : TyFunc Tryz.prog 88 := tqF
instance : TySz Tryz.prog 88 1 := tqN
instance : TyBytes Tryz.prog 88 8 := tqB
instance : TyZero Tryz.prog 88 (.nilFunc) := tqO
instance : TyS Tryz.prog 90 := tqS
instance : TyIface Tryz.prog 90 false := tqI
instance : TySz Tryz.prog 90 1 := tqN
instance : TyBytes Tryz.prog 90 24 := tqB
instance : TyZero Tryz.prog 90 (.slice none 0 0) := tqO
instance : TySlice Tryz.prog 90 34 := ⟨by kernel_rfl⟩
instance : TyS Tryz.prog 91 := tqS
instance : TyIface Tryz.prog 91 false := tqI
instance : TyFunc Tryz.prog 91 := tqF
instance : TySz Tryz.prog 91 1 := tqN
instance : TyBytes Tryz.prog 91 8 := tqB
instance : TyZero Tryz.prog 91 (.nilFunc) := tqO
instance : TyS Tryz.prog 96 := tqS
instance : TyIface Tryz.prog 96 false := tqI
instance : TyFunc Tryz.prog 96 := tqF
instance : TySz Tryz.prog 96 1 := tqN
instance : TyBytes Tryz.prog 96 8 := tqB
instance : TyZero Tryz.prog 96 (.nilFunc) := tqO
instance : TyS Tryz.prog 97 := tqS
instance : TyIface Tryz.prog 97 false := tqI
instance : TySz Tryz.prog 97 1 := tqN
instance : TyBytes Tryz.prog 97 2 := tqB
instance : TyZero Tryz.prog 97 (.int .u16 0) := tqO
instance : TyInt Tryz.prog 97 .u16 := ⟨by kernel_rfl⟩
instance : TyA Tryz.prog 98 2 := tqA
instance : TyIface Tryz.prog 98 false := tqI
instance : TySz Tryz.prog 98 2 := tqN
instance : TyBytes Tryz.prog 98 16 := tqB
instance : TyZero Tryz.prog 98 (.agg ⟨[.int .i64 0, .int .u16 0]⟩) := tqO
instance : NoGuard Tryz.prog 98 := ⟨by kernel_rfl⟩
instance : Fld Tryz.prog 98 0 0 3 := tqD
instance : Fld Tryz.prog 98 1 1 97 := tqD
instance : TyPlaces Tryz.prog 98 (([(0, 1), (1, 1)] : List (Nat × Nat))[·]?) := mkTyPlaces (by kernel_rfl)
instance : TyA Tryz.prog 99 2 := tqA
instance : TyIface Tryz.prog 99 false := tqI
instance : TySz Tryz.prog 99 2 := tqN
instance : TyBytes Tryz.prog 99 16 := tqB
instance : TyZero Tryz.prog 99 (.agg ⟨[.int .i64 0, .int .u16 0]⟩) := tqO
instance : NoGuard Tryz.prog 99 := ⟨by kernel_rfl⟩
instance : TyFlds Tryz.prog 99 [(0, 3), (1, 97)] := mkTyFlds (by kernel_rfl)
instance : Fld Tryz.prog 99 0 0 3 := tqD
instance : Fld Tryz.prog 99 1 1 97 := tqD
instance : TyPlaces Tryz.prog 99 (([(0, 1), (1, 1)] : List (Nat × Nat))[·]?) := mkTyPlaces (by kernel_rfl)
instance : TyA Tryz.prog 100 4 := tqA
instance : TyIface Tryz.prog 100 false := tqI
instance : TySz Tryz.prog 100 4 := tqN
instance : TyBytes Tryz.prog 100 40 := tqB
instance : TyZero Tryz.prog 100 (.agg ⟨[.int .i64 0, .int .u16 0, .int .i64 0, .string ⟨⟨[]⟩⟩]⟩) := tqO
instance : NoGuard Tryz.prog 100 := ⟨by kernel_rfl⟩
instance : Fld Tryz.prog 100 0 0 99 := tqD
instance : Fld Tryz.prog 100 1 2 2 := tqD
instance : Fld Tryz.prog 100 2 3 9 := tqD
instance : TyPlaces Tryz.prog 100 (([(0, 2), (2, 1), (3, 1)] : List (Nat × Nat))[·]?) := mkTyPlaces (by kernel_rfl)
instance : TyA Tryz.prog 101 4 := tqA
instance : TyIface Tryz.prog 101 false := tqI
instance : TySz Tryz.prog 101 4 := tqN
instance : TyBytes Tryz.prog 101 40 := tqB
instance : TyZero Tryz.prog 101 (.agg ⟨[.int .i64 0, .int .u16 0, .int .i64 0, .string ⟨⟨[]⟩⟩]⟩) := tqO
instance : NoGuard Tryz.prog 101 := ⟨by kernel_rfl⟩
instance : TyFlds Tryz.prog 101 [(0, 99), (2, 2), (3, 9)] := mkTyFlds (by kernel_rfl)
instance : Fld Tryz.prog 101 0 0 99 := tqD
instance : Fld Tryz.prog 101 1 2 2 := tqD
instance : Fld Tryz.prog 101 2 3 9 := tqD
instance : TyPlaces Tryz.prog 101 (([(0, 2), (2, 1), (3, 1)] : List (Nat × Nat))[·]?) := mkTyPlaces (by kernel_rfl)
instance : TyA Tryz.prog 102 6 := tqA
instance : TyIface Tryz.prog 102 false := tqI
instance : TySz Tryz.prog 102 6 := tqN
instance : TyBytes Tryz.prog 102 56 := tqB
instance : TyZero Tryz.prog 102 (.agg ⟨[.int .i64 0, .int .i64 0, .int .u16 0, .int .i64 0, .string ⟨⟨[]⟩⟩, .int .i64 0]⟩) := tqO
instance : NoGuard Tryz.prog 102 := ⟨by kernel_rfl⟩
instance : Fld Tryz.prog 102 0 0 3 := tqD
instance : Fld Tryz.prog 102 1 1 101 := tqD
instance : Fld Tryz.prog 102 2 5 2 := tqD
instance : TyPlaces Tryz.prog 102 (([(0, 1), (1, 4), (5, 1)] : List (Nat × Nat))[·]?) := mkTyPlaces (by kernel_rfl)
instance : TyA Tryz.prog 103 6 := tqA
instance : TyIface Tryz.prog 103 false := tqI
instance : TySz Tryz.prog 103 6 := tqN
instance : TyBytes Tryz.prog 103 56 := tqB
instance : TyZero Tryz.prog 103 (.agg ⟨[.int .i64 0, .int .i64 0, .int .u16 0, .int .i64 0, .string ⟨⟨[]⟩⟩, .int .i64 0]⟩) := tqO
instance : NoGuard Tryz.prog 103 := ⟨by kernel_rfl⟩
instance : TyFlds Tryz.prog 103 [(0, 3), (1, 101), (5, 2)] := mkTyFlds (by kernel_rfl)
instance : Fld Tryz.prog 103 0 0 3 := tqD
instance : Fld Tryz.prog 103 1 1 101 := tqD
instance : Fld Tryz.prog 103 2 5 2 := tqD
instance : TyPlaces Tryz.prog 103 (([(0, 1), (1, 4), (5, 1)] : List (Nat × Nat))[·]?) := mkTyPlaces (by kernel_rfl)
instance : TyS Tryz.prog 107 := tqS
instance : TyIface Tryz.prog 107 false := tqI
instance : TySz Tryz.prog 107 1 := tqN
instance : TyBytes Tryz.prog 107 24 := tqB
instance : TyZero Tryz.prog 107 (.slice none 0 0) := tqO
instance : TySlice Tryz.prog 107 101 := ⟨by kernel_rfl⟩
instance : TyS Tryz.prog 108 := tqS
instance : TyIface Tryz.prog 108 false := tqI
instance : TySz Tryz.prog 108 1 := tqN
instance : TyBytes Tryz.prog 108 24 := tqB
instance : TyZero Tryz.prog 108 (.slice none 0 0) := tqO
instance : TySlice Tryz.prog 108 224 := ⟨by kernel_rfl⟩
instance : TyA Tryz.prog 109 3 := tqA
instance : TyIface Tryz.prog 109 false := tqI
instance : TySz Tryz.prog 109 3 := tqN
instance : TyBytes Tryz.prog 109 56 := tqB
instance : TyZero Tryz.prog 109 (.agg ⟨[.int .i64 0, .slice none 0 0, .slice none 0 0]⟩) := tqO
instance : NoGuard Tryz.prog 109 := ⟨by kernel_rfl⟩
instance : Fld Tryz.prog 109 0 0 3 := tqD
instance : Fld Tryz.prog 109 1 1 107 := tqD
instance : Fld Tryz.prog 109 2 2 108 := tqD
instance : TyPlaces Tryz.prog 109 (([(0, 1), (1, 1), (2, 1)] : List (Nat × Nat))[·]?) := mkTyPlaces (by kernel_rfl)
instance : TyA Tryz.prog 110 3 := tqA
instance : TyIface Tryz.prog 110 false := tqI
instance : TySz Tryz.prog 110 3 := tqN
instance : TyBytes Tryz.prog 110 56 := tqB
instance : TyZero Tryz.prog 110 (.agg ⟨[.int .i64 0, .slice none 0 0, .slice none 0 0]⟩) := tqO
instance : NoGuard Tryz.prog 110 := ⟨by kernel_rfl⟩
instance : TyFlds Tryz.prog 110 [(0, 3), (1, 107), (2, 108)] := mkTyFlds (by kernel_rfl)
instance : Fld Tryz.prog 110 0 0 3 := tqD
instance : Fld Tryz.prog 110 1 1 107 := tqD
instance : Fld Tryz.prog 110 2 2 108 := tqD
instance : TyPlaces Tryz.prog 110 (([(0, 1), (1, 1), (2, 1)] : List (Nat × Nat))[·]?) := mkTyPlaces (by kernel_rfl)
instance : TyS Tryz.prog 120 := tqS
instance : TyIface Tryz.prog 120 false := tqI
instance : TyFunc Tryz.prog 120 := tqF
instance : TySz Tryz.prog 120 1 := tqN
instance : TyBytes Tryz.prog 120 8 := tqB
instance : TyZero Tryz.prog 120 (.nilFunc) := tqO
instance : TyA Tryz.prog 124 2 := tqA
instance : TyIface Tryz.prog 124 false := tqI
instance : TySz Tryz.prog 124 2 := tqN
instance : TyBytes Tryz.prog 124 16 := tqB
instance : TyZero Tryz.prog 124 (.agg ⟨[.int .i64 0, .int .u64 0]⟩) := tqO
instance : NoGuard Tryz.prog 124 := ⟨by kernel_rfl⟩
instance : Fld Tryz.prog 124 0 0 3 := tqD
instance : Fld Tryz.prog 124 1 1 24 := tqD
instance : TyPlaces Tryz.prog 124 (([(0, 1), (1, 1)] : List (Nat × Nat))[·]?) := mkTyPlaces (by kernel_rfl)
instance : TyA Tryz.prog 125 2 := tqA
instance : TyIface Tryz.prog 125 false := tqI
instance : TySz Tryz.prog 125 2 := tqN
instance : TyBytes Tryz.prog 125 16 := tqB
instance : TyZero Tryz.prog 125 (.agg ⟨[.int .i64 0, .int .u64 0]⟩) := tqO
instance : NoGuard Tryz.prog 125 := ⟨by kernel_rfl⟩
instance : TyFlds Tryz.prog 125 [(0, 3), (1, 24)] := mkTyFlds (by kernel_rfl)
instance : Fld Tryz.prog 125 0 0 3 := tqD
instance : Fld Tryz.prog 125 1 1 24 := tqD
instance : TyPlaces Tryz.prog 125 (([(0, 1), (1, 1)] : List (Nat × Nat))[·]?) := mkTyPlaces (by kernel_rfl)
instance : TyA Tryz.prog 127 7 := tqA
instance : TyIface Tryz.prog 127 false := tqI
instance : TySz Tryz.prog 127 7 := tqN
instance : TyBytes Tryz.prog 127 120 := tqB
instance : TyZero Tryz.prog 127 (.agg ⟨[.int .i64 0, .int .i64 0, .slice none 0 0, .slice none 0 0, .int .i64 0, .slice none 0 0, .slice none 0 0]⟩) := tqO
instance : NoGuard Tryz.prog 127 := ⟨by kernel_rfl⟩
instance : Fld Tryz.prog 127 0 0 3 := tqD
instance : Fld Tryz.prog 127 1 1 110 := tqD
instance : Fld Tryz.prog 127 2 4 110 := tqD
instance : TyPlaces Tryz.prog 127 (([(0, 1), (1, 3), (4, 3)] : List (Nat × Nat))[·]?) := mkTyPlaces (by kernel_rfl)
instance : TyA Tryz.prog 128 7 := tqA
instance : TyIface Tryz.prog 128 false := tqI
instance : TySz Tryz.prog 128 7 := tqN
instance : TyBytes Tryz.prog 128 120 := tqB
instance : TyZero Tryz.prog 128 (.agg ⟨[.int .i64 0, .int .i64 0, .slice none 0 0, .slice none 0 0, .int .i64 0, .slice none 0 0, .slice none 0 0]⟩) := tqO
instance : NoGuard Tryz.prog 128 := ⟨by kernel_rfl⟩
instance : TyFlds Tryz.prog 128 [(0, 3), (1, 110), (4, 110)] := mkTyFlds (by kernel_rfl)
instance : Fld Tryz.prog 128 0 0 3 := tqD
instance : Fld Tryz.prog 128 1 1 110 := tqD
instance : Fld Tryz.prog 128 2 4 110 := tqD
instance : TyPlaces Tryz.prog 128 (([(0, 1), (1, 3), (4, 3)] : List (Nat × Nat))[·]?) := mkTyPlaces (by kernel_rfl)
instance : TyS Tryz.prog 141 := tqS
instance : TyIface Tryz.prog 141 false := tqI
instance : TySz Tryz.prog 141 1 := tqN
instance : TyBytes Tryz.prog 141 4 := tqB
instance : TyZero Tryz.prog 141 (.int .u32 0) := tqO
instance : TyInt Tryz.prog 141 .u32 := ⟨by kernel_rfl⟩
instance : TyS Tryz.prog 143 := tqS
instance : TyIface Tryz.prog 143 false := tqI
instance : TySz Tryz.prog 143 1 := tqN
instance : TyBytes Tryz.prog 143 8 := tqB
instance : TyZero Tryz.prog 143 (.map none) := tqO
instance : TyMap Tryz.prog 143 3 1 := ⟨by kernel_rfl⟩
instance : TyS Tryz.prog 144 := tqS
instance : TyIface Tryz.prog 144 false := tqI
instance : TyFunc Tryz.prog 144 := tqF
instance : TySz Tryz.prog 144 1 := tqN
instance : TyBytes Tryz.prog 144 8 := tqB
instance : TyZero Tryz.prog 144 (.nilFunc) := tqO
instance : TyS Tryz.prog 156 := tqS
instance : TyIface Tryz.prog 156 false := tqI
instance : TySz Tryz.prog 156 1 := tqN
instance : TyBytes Tryz.prog 156 8 := tqB
instance : TyZero Tryz.prog 156 (.pointer none) := tqO
instance : TyPtr Tryz.prog 156 158 := ⟨by kernel_rfl⟩
instance : TyA Tryz.prog 157 10 := tqA
instance : TyIface Tryz.prog 157 false := tqI
instance : TySz Tryz.prog 157 10 := tqN
instance : TyBytes Tryz.prog 157 144 := tqB
instance : TyZero Tryz.prog 157 (.agg ⟨[.int .i64 0, .int .u64 0, .int .i64 0, .int .u64 0, .int .u64 0, .slice none 0 0, .slice none 0 0, .int .i64 0, .slice none 0 0, .slice none 0 0]⟩) := tqO
instance : NoGuard Tryz.prog 157 := ⟨by kernel_rfl⟩
instance : Fld Tryz.prog 157 0 0 30 := tqD
instance : TyPlaces Tryz.prog 157 (([(0, 10)] : List (Nat × Nat))[·]?) := mkTyPlaces (by kernel_rfl)
instance : TyA Tryz.prog 158 10 := tqA
instance : TyIface Tryz.prog 158 false := tqI
instance : TySz Tryz.prog 158 10 := tqN
instance : TyBytes Tryz.prog 158 144 := tqB
instance : TyZero Tryz.prog 158 (.agg ⟨[.int .i64 0, .int .u64 0, .int .i64 0, .int .u64 0, .int .u64 0, .slice none 0 0, .slice none 0 0, .int .i64 0, .slice none 0 0, .slice none 0 0]⟩) := tqO
instance : NoGuard Tryz.prog 158 := ⟨by kernel_rfl⟩
instance : TyFlds Tryz.prog 158 [(0, 30)] := mkTyFlds (by kernel_rfl)
instance : Fld Tryz.prog 158 0 0 30 := tqD
instance : TyPlaces Tryz.prog 158 (([(0, 10)] : List (Nat × Nat))[·]?) := mkTyPlaces (by kernel_rfl)
instance : TyS Tryz.prog 159 := tqS
instance : TyIface Tryz.prog 159 false := tqI
instance : TySz Tryz.prog 159 1 := tqN
instance : TyBytes Tryz.prog 159 8 := tqB
instance : TyZero Tryz.prog 159 (.map none) := tqO
instance : TyMap Tryz.prog 159 3 23 := ⟨by kernel_rfl⟩
instance : TyS Tryz.prog 168 := tqS
instance : TyIface Tryz.prog 168 false := tqI
instance : TyFunc Tryz.prog 168 := tqF
instance : TySz Tryz.prog 168 1 := tqN
instance : TyBytes Tryz.prog 168 8 := tqB
instance : TyZero Tryz.prog 168 (.nilFunc) := tqO
instance : TyS Tryz.prog 171 := tqS
instance : TyIface Tryz.prog 171 false := tqI
instance : TyFunc Tryz.prog 171 := tqF
instance : TySz Tryz.prog 171 1 := tqN
instance : TyBytes Tryz.prog 171 8 := tqB
instance : TyZero Tryz.prog 171 (.nilFunc) := tqO
instance : TyS Tryz.prog 176 := tqS
instance : TyIface Tryz.prog 176 false := tqI
instance : TyFunc Tryz.prog 176 := tqF
instance : TySz Tryz.prog 176 1 := tqN
instance : TyBytes Tryz.prog 176 8 := tqB
instance : TyZero Tryz.prog 176 (.nilFunc) := tqO
instance : TyS Tryz.prog 180 := tqS
instance : TyIface Tryz.prog 180 false := tqI
instance : TySz Tryz.prog 180 1 := tqN
instance : TyBytes Tryz.prog 180 8 := tqB
instance : TyZero Tryz.prog 180 (.pointer none) := tqO
instance : TyPtr Tryz.prog 180 72 := ⟨by kernel_rfl⟩
instance : TyS Tryz.prog 181 := tqS
instance : TyIface Tryz.prog 181 false := tqI
instance : TyFunc Tryz.prog 181 := tqF
instance : TySz Tryz.prog 181 1 := tqN
instance : TyBytes Tryz.prog 181 8 := tqB
instance : TyZero Tryz.prog 181 (.nilFunc) := tqO
instance : TyS Tryz.prog 185 := tqS
instance : TyIface Tryz.prog 185 false := tqI
instance : TySz Tryz.prog 185 1 := tqN
instance : TyBytes Tryz.prog 185 8 := tqB
instance : TyZero Tryz.prog 185 (.pointer none) := tqO
instance : TyPtr Tryz.prog 185 253 := ⟨by kernel_rfl⟩
instance : TyS Tryz.prog 186 := tqS
instance : TyIface Tryz.prog 186 false := tqI
instance : TyFunc Tryz.prog 186 := tqF
instance : TySz Tryz.prog 186 1 := tqN
instance : TyBytes Tryz.prog 186 8 := tqB
instance : TyZero Tryz.prog 186 (.nilFunc) := tqO
instance : TyS Tryz.prog 203 := tqS
instance : TyIface Tryz.prog 203 false := tqI
instance : TyFunc Tryz.prog 203 := tqF
instance : TySz Tryz.prog 203 1 := tqN
instance : TyBytes Tryz.prog 203 8 := tqB
instance : TyZero Tryz.prog 203 (.nilFunc) := tqO
instance : TyS Tryz.prog 220 := tqS
instance : TyIface Tryz.prog 220 false := tqI
instance : TyFunc Tryz.prog 220 := tqF
instance : TySz Tryz.prog 220 1 := tqN
instance : TyBytes Tryz.prog 220 8 := tqB
instance : TyZero Tryz.prog 220 (.nilFunc) := tqO
instance : TyA Tryz.prog 223 3 := tqA
instance : TyIface Tryz.prog 223 false := tqI
instance : TySz Tryz.prog 223 3 := tqN
instance : TyBytes Tryz.prog 223 24 := tqB
instance : TyZero Tryz.prog 223 (.agg ⟨[.int .i64 0, .int .u16 0, .int .i64 0]⟩) := tqO
instance : NoGuard Tryz.prog 223 := ⟨by kernel_rfl⟩
instance : Fld Tryz.prog 223 0 0 99 := tqD
instance : Fld Tryz.prog 223 1 2 3 := tqD
instance : TyPlaces Tryz.prog 223 (([(0, 2), (2, 1)] : List (Nat × Nat))[·]?) := mkTyPlaces (by kernel_rfl)
instance : TyA Tryz.prog 224 3 := tqA
instance : TyIface Tryz.prog 224 false := tqI
instance : TySz Tryz.prog 224 3 := tqN
instance : TyBytes Tryz.prog 224 24 := tqB
instance : TyZero Tryz.prog 224 (.agg ⟨[.int .i64 0, .int .u16 0, .int .i64 0]⟩) := tqO
instance : NoGuard Tryz.prog 224 := ⟨by kernel_rfl⟩
instance : TyFlds Tryz.prog 224 [(0, 99), (2, 3)] := mkTyFlds (by kernel_rfl)
instance : Fld Tryz.prog 224 0 0 99 := tqD
instance : Fld Tryz.prog 224 1 2 3 := tqD
instance : TyPlaces Tryz.prog 224 (([(0, 2), (2, 1)] : List (Nat × Nat))[·]?) := mkTyPlaces (by kernel_rfl)
instance : TyS Tryz.prog 227 := tqS
instance : TyIface Tryz.prog 227 false := tqI
instance : TyFunc Tryz.prog 227 := tqF
instance : TySz Tryz.prog 227 1 := tqN
instance : TyBytes Tryz.prog 227 8 := tqB
instance : TyZero Tryz.prog 227 (.nilFunc) := tqO
instance : TyS Tryz.prog 230 := tqS
instance : TyIface Tryz.prog 230 false := tqI
instance : TyFunc Tryz.prog 230 := tqF
instance : TySz Tryz.prog 230 1 := tqN
instance : TyBytes Tryz.prog 230 8 := tqB
instance : TyZero Tryz.prog 230 (.nilFunc) := tqO
instance : TyS Tryz.prog 231 := tqS
instance : TyIface Tryz.prog 231 false := tqI
instance : TyFunc Tryz.prog 231 := tqF
instance : TySz Tryz.prog 231 1 := tqN
instance : TyBytes Tryz.prog 231 8 := tqB
instance : TyZero Tryz.prog 231 (.nilFunc) := tqO
instance : TyS Tryz.prog 233 := tqS
instance : TyIface Tryz.prog 233 false := tqI
instance : TyFunc Tryz.prog 233 := tqF
instance : TySz Tryz.prog 233 1 := tqN
instance : TyBytes Tryz.prog 233 8 := tqB
instance : TyZero Tryz.prog 233 (.nilFunc) := tqO
instance : TyS Tryz.prog 234 := tqS
instance : TyIface Tryz.prog 234 false := tqI
instance : TyFunc Tryz.prog 234 := tqF
instance : TySz Tryz.prog 234 1 := tqN
instance : TyBytes Tryz.prog 234 8 := tqB
instance : TyZero Tryz.prog 234 (.nilFunc) := tqO
instance : TyS Tryz.prog 237 := tqS
instance : TyIface Tryz.prog 237 false := tqI
instance : TySz Tryz.prog 237 1 := tqN
instance : TyBytes Tryz.prog 237 8 := tqB
instance : TyZero Tryz.prog 237 (.pointer none) := tqO
instance : TyPtr Tryz.prog 237 239 := ⟨by kernel_rfl⟩
instance : TyA Tryz.prog 238 11 := tqA
instance : TyIface Tryz.prog 238 false := tqI
instance : TySz Tryz.prog 238 11 := tqN
instance : TyBytes Tryz.prog 238 168 := tqB
instance : TyZero Tryz.prog 238 (.agg ⟨[.int .i64 0, .int .u64 0, .int .i64 0, .int .u64 0, .int .u64 0, .slice none 0 0, .slice none 0 0, .int .i64 0, .slice none 0 0, .slice none 0 0, .slice none 0 0]⟩) := tqO
instance : NoGuard Tryz.prog 238 := ⟨by kernel_rfl⟩
instance : Fld Tryz.prog 238 0 0 30 := tqD
instance : Fld Tryz.prog 238 1 10 44 := tqD
instance : TyPlaces Tryz.prog 238 (([(0, 10), (10, 1)] : List (Nat × Nat))[·]?) := mkTyPlaces (by kernel_rfl)
instance : TyA Tryz.prog 239 11 := tqA
instance : TyIface Tryz.prog 239 false := tqI
instance : TySz Tryz.prog 239 11 := tqN
instance : TyBytes Tryz.prog 239 168 := tqB
instance : TyZero Tryz.prog 239 (.agg ⟨[.int .i64 0, .int .u64 0, .int .i64 0, .int .u64 0, .int .u64 0, .slice none 0 0, .slice none 0 0, .int .i64 0, .slice none 0 0, .slice none 0 0, .slice none 0 0]⟩) := tqO
instance : NoGuard Tryz.prog 239 := ⟨by kernel_rfl⟩
instance : TyFlds Tryz.prog 239 [(0, 30), (10, 44)] := mkTyFlds (by kernel_rfl)
instance : Fld Tryz.prog 239 0 0 30 := tqD
instance : Fld Tryz.prog 239 1 10 44 := tqD
instance : TyPlaces Tryz.prog 239 (([(0, 10), (10, 1)] : List (Nat × Nat))[·]?) := mkTyPlaces (by kernel_rfl)
instance : TyS Tryz.prog 251 := tqS
instance : TyIface Tryz.prog 251 false := tqI
instance : TyFunc Tryz.prog 251 := tqF
instance : TySz Tryz.prog 251 1 := tqN
instance : TyBytes Tryz.prog 251 8 := tqB
instance : TyZero Tryz.prog 251 (.nilFunc) := tqO
instance : TyA Tryz.prog 252 13 := tqA
instance : TyIface Tryz.prog 252 false := tqI
instance : TySz Tryz.prog 252 13 := tqN
instance : TyBytes Tryz.prog 252 184 := tqB
instance : TyZero Tryz.prog 252 (.agg ⟨[.int .i64 0, .slice none 0 0, .int .i64 0, .int .u64 0, .int .i64 0, .int .u64 0, .int .u64 0, .slice none 0 0, .slice none 0 0, .int .i64 0, .slice none 0 0, .slice none 0 0, .pointer none]⟩) := tqO
instance : NoGuard Tryz.prog 252 := ⟨by kernel_rfl⟩
instance : Fld Tryz.prog 252 0 0 34 := tqD
instance : Fld Tryz.prog 252 1 2 30 := tqD
instance : Fld Tryz.prog 252 2 12 180 := tqD
instance : TyPlaces Tryz.prog 252 (([(0, 2), (2, 10), (12, 1)] : List (Nat × Nat))[·]?) := mkTyPlaces (by kernel_rfl)
instance : TyA Tryz.prog 253 13 := tqA
instance : TyIface Tryz.prog 253 false := tqI
instance : TySz Tryz.prog 253 13 := tqN
instance : TyBytes Tryz.prog 253 184 := tqB
instance : TyZero Tryz.prog 253 (.agg ⟨[.int .i64 0, .slice none 0 0, .int .i64 0, .int .u64 0, .int .i64 0, .int .u64 0, .int .u64 0, .slice none 0 0, .slice none 0 0, .int .i64 0, .slice none 0 0, .slice none 0 0, .pointer none]⟩) := tqO
instance : NoGuard Tryz.prog 253 := ⟨by kernel_rfl⟩
instance : TyFlds Tryz.prog 253 [(0, 34), (2, 30), (12, 180)] := mkTyFlds (by kernel_rfl)
instance : Fld Tryz.prog 253 0 0 34 := tqD
instance : Fld Tryz.prog 253 1 2 30 := tqD
instance : Fld Tryz.prog 253 2 12 180 := tqD
instance : TyPlaces Tryz.prog 253 (([(0, 2), (2, 10), (12, 1)] : List (Nat × Nat))[·]?) := mkTyPlaces (by kernel_rfl)
instance : TyS Tryz.prog 257 := tqS
instance : TyIface Tryz.prog 257 false := tqI
instance : TySz Tryz.prog 257 1 := tqN
instance : TyBytes Tryz.prog 257 8 := tqB
instance : TyZero Tryz.prog 257 (.map none) := tqO
instance : TyMap Tryz.prog 257 3 220 := ⟨by kernel_rfl⟩
instance : TyS Tryz.prog 270 := tqS
instance : TyIface Tryz.prog 270 false := tqI
instance : TyFunc Tryz.prog 270 := tqF
instance : TySz Tryz.prog 270 1 := tqN
instance : TyBytes Tryz.prog 270 8 := tqB
instance : TyZero Tryz.prog 270 (.nilFunc) := tqO
instance : TyS Tryz.prog 285 := tqS
instance : TyIface Tryz.prog 285 false := tqI
instance : TyFunc Tryz.prog 285 := tqF
instance : TySz Tryz.prog 285 1 := tqN
instance : TyBytes Tryz.prog 285 8 := tqB
instance : TyZero Tryz.prog 285 (.nilFunc) := tqO
instance : TyS Tryz.prog 318 := tqS
instance : TyIface Tryz.prog 318 false := tqI
instance : TySz Tryz.prog 318 1 := tqN
instance : TyBytes Tryz.prog 318 24 := tqB
instance : TyZero Tryz.prog 318 (.slice none 0 0) := tqO
instance : TySlice Tryz.prog 318 4 := ⟨by kernel_rfl⟩
instance : TyS Tryz.prog 321 := tqS
instance : TyIface Tryz.prog 321 false := tqI
instance : TyFunc Tryz.prog 321 := tqF
instance : TySz Tryz.prog 321 1 := tqN
instance : TyBytes Tryz.prog 321 8 := tqB
instance : TyZero Tryz.prog 321 (.nilFunc) := tqO
instance : TyS Tryz.prog 333 := tqS
instance : TyIface Tryz.prog 333 false := tqI
instance : TyFunc Tryz.prog 333 := tqF
instance : TySz Tryz.prog 333 1 := tqN
instance : TyBytes Tryz.prog 333 8 := tqB
instance : TyZero Tryz.prog 333 (.nilFunc) := tqO
instance : TyS Tryz.prog 334 := tqS
instance : TyIface Tryz.prog 334 false := tqI
instance : TyFunc Tryz.prog 334 := tqF
instance : TySz Tryz.prog 334 1 := tqN
instance : TyBytes Tryz.prog 334 8 := tqB
instance : TyZero Tryz.prog 334 (.nilFunc) := tqO
instance : TyS Tryz.prog 335 := tqS
instance : TyIface Tryz.prog 335 false := tqI
instance : TySz Tryz.prog 335 1 := tqN
instance : TyBytes Tryz.prog 335 8 := tqB
instance : TyZero Tryz.prog 335 (.map none) := tqO
instance : TyMap Tryz.prog 335 3 4 := ⟨by kernel_rfl⟩
instance : TyS Tryz.prog 337 := tqS
instance : TyIface Tryz.prog 337 false := tqI
instance : TyFunc Tryz.prog 337 := tqF
instance : TySz Tryz.prog 337 1 := tqN
instance : TyBytes Tryz.prog 337 8 := tqB
instance : TyZero Tryz.prog 337 (.nilFunc) := tqO
instance : TyS Tryz.prog 338 := tqS
instance : TyIface Tryz.prog 338 false := tqI
instance : TyFunc Tryz.prog 338 := tqF
instance : TySz Tryz.prog 338 1 := tqN
instance : TyBytes Tryz.prog 338 8 := tqB
instance : TyZero Tryz.prog 338 (.nilFunc) := tqO
instance : TyS Tryz.prog 392 := tqS
instance : TyIface Tryz.prog 392 false := tqI
instance : TyFunc Tryz.prog 392 := tqF
instance : TySz Tryz.prog 392 1 := tqN
instance : TyBytes Tryz.prog 392 8 := tqB
instance : TyZero Tryz.prog 392 (.nilFunc) := tqO
instance : TyS Tryz.prog 393 := tqS
instance : TyIface Tryz.prog 393 false := tqI
instance : TySz Tryz.prog 393 1 := tqN
instance : TyBytes Tryz.prog 393 8 := tqB
instance : TyZero Tryz.prog 393 (.pointer none) := tqO
instance : TyPtr Tryz.prog 393 5 := ⟨by kernel_rfl⟩
instance : TyA Tryz.prog 396 11 := tqA
instance : TyIface Tryz.prog 396 false := tqI
instance : TySz Tryz.prog 396 11 := tqN
instance : TyBytes Tryz.prog 396 48 := tqB
instance : TyZero Tryz.prog 396 (.agg ⟨[.int .u64 0, .int .u64 0, .int .u32 0, .int .u8 0, .int .u8 0, .int .u8 0, .int .u8 0, .nilFunc, .pointer none, .int .i32 0, .int .i32 0]⟩) := tqO
instance : NoGuard Tryz.prog 396 := ⟨by kernel_rfl⟩
instance : Fld Tryz.prog 396 0 0 12 := tqD
instance : Fld Tryz.prog 396 1 1 12 := tqD
instance : Fld Tryz.prog 396 2 2 141 := tqD
instance : Fld Tryz.prog 396 3 3 390 := tqD
instance : Fld Tryz.prog 396 4 4 5 := tqD
instance : Fld Tryz.prog 396 5 5 5 := tqD
instance : Fld Tryz.prog 396 6 6 391 := tqD
instance : Fld Tryz.prog 396 7 7 392 := tqD
instance : Fld Tryz.prog 396 8 8 393 := tqD
instance : Fld Tryz.prog 396 9 9 394 := tqD
instance : Fld Tryz.prog 396 10 10 395 := tqD
instance : TyPlaces Tryz.prog 396 (([(0, 1), (1, 1), (2, 1), (3, 1), (4, 1), (5, 1), (6, 1), (7, 1), (8, 1), (9, 1), (10, 1)] : List (Nat × Nat))[·]?) := mkTyPlaces (by kernel_rfl)
instance : Fun Tryz.prog 6 := tqU
instance : Fun Tryz.prog 7 := tqU
instance : Fun Tryz.prog 8 := tqU
instance : Fun Tryz.prog 9 := tqU
instance : Fun Tryz.prog 10 := tqU
instance : Fun Tryz.prog 11 := tqU
instance : Fun Tryz.prog 19 := tqU
instance : Fun Tryz.prog 27 := tqU
instance : Fun Tryz.prog 32 := tqU
instance : Fun Tryz.prog 33 := tqU
instance : Fun Tryz.prog 34 := tqU
instance : Fun Tryz.prog 35 := tqU
instance : Fun Tryz.prog 36 := tqU
instance : Fun Tryz.prog 37 := tqU
instance : Fun Tryz.prog 38 := tqU
instance : Fun Tryz.prog 39 := tqU
instance : Fun Tryz.prog 40 := tqU
instance : Fun Tryz.prog 41 := tqU
instance : Fun Tryz.prog 42 := tqU
instance : Fun Tryz.prog 43 := tqU
instance : Fun Tryz.prog 44 := tqU
instance : Fun Tryz.prog 45 := tqU
instance : Fun Tryz.prog 47 := tqU
instance : Fun Tryz.prog 48 := tqU
instance : Fun Tryz.prog 49 := tqU
instance : Fun Tryz.prog 50 := tqU
instance : Fun Tryz.prog 51 := tqU
instance : Fun Tryz.prog 52 := tqU
instance : Fun Tryz.prog 53 := tqU
instance : Fun Tryz.prog 54 := tqU
instance : Fun Tryz.prog 55 := tqU
instance : Fun Tryz.prog 56 := tqU
instance : Fun Tryz.prog 57 := tqU
instance : Fun Tryz.prog 58 := tqU
instance : Fun Tryz.prog 59 := tqU
instance : Fun Tryz.prog 60 := tqU
instance : Fun Tryz.prog 77 := tqU
instance : Fun Tryz.prog 99 := tqU
instance : Fun Tryz.prog 100 := tqU
instance : Fun Tryz.prog 101 := tqU
instance : Fun Tryz.prog 102 := tqU
instance : Fun Tryz.prog 103 := tqU
instance : Fun Tryz.prog 104 := tqU
instance : Fun Tryz.prog 105 := tqU
instance : Fun Tryz.prog 112 := tqU
instance : Fun Tryz.prog 116 := tqU
instance : Fun Tryz.prog 117 := tqU
instance : Fun Tryz.prog 118 := tqU
instance : Fun Tryz.prog 119 := tqU
instance : Fun Tryz.prog 120 := tqU
instance : Fun Tryz.prog 121 := tqU
instance : Fun Tryz.prog 122 := tqU
instance : Fun Tryz.prog 123 := tqU
instance : Fun Tryz.prog 124 := tqU
instance : Fun Tryz.prog 125 := tqU
instance : Fun Tryz.prog 126 := tqU
instance : Fun Tryz.prog 127 := tqU
instance : Fun Tryz.prog 128 := tqU
instance : Fun Tryz.prog 129 := tqU
instance : Fun Tryz.prog 130 := tqU
instance : Fun Tryz.prog 131 := tqU
instance : Fun Tryz.prog 132 := tqU
instance : Fun Tryz.prog 133 := tqU
instance : Fun Tryz.prog 134 := tqU
instance : Fun Tryz.prog 135 := tqU
instance : Fun Tryz.prog 136 := tqU
instance : Fun Tryz.prog 137 := tqU
instance : Fun Tryz.prog 138 := tqU
instance : Fun Tryz.prog 139 := tqU
instance : Fun Tryz.prog 140 := tqU
instance : Fun Tryz.prog 141 := tqU
instance : Fun Tryz.prog 180 := tqU
instance : Fun Tryz.prog 181 := tqU
instance : Fun Tryz.prog 182 := tqU
instance : Fun Tryz.prog 183 := tqU
instance : Fun Tryz.prog 184 := tqU
instance : Fun Tryz.prog 185 := tqU
instance : Fun Tryz.prog 186 := tqU
instance : Fun Tryz.prog 187 := tqU
instance : Fun Tryz.prog 188 := tqU
instance : Fun Tryz.prog 189 := tqU
instance : Fun Tryz.prog 190 := tqU
instance : Fun Tryz.prog 193 := tqU
instance : Fun Tryz.prog 194 := tqU
instance : Fun Tryz.prog 195 := tqU
instance : Fun Tryz.prog 196 := tqU
instance : Fun Tryz.prog 197 := tqU
instance : Fun Tryz.prog 198 := tqU
instance : Fun Tryz.prog 199 := tqU
instance : Fun Tryz.prog 200 := tqU
instance : Fun Tryz.prog 203 := tqU
instance : Fun Tryz.prog 204 := tqU
instance : Fun Tryz.prog 205 := tqU
instance : Fun Tryz.prog 206 := tqU
instance : Fun Tryz.prog 207 := tqU
instance : Fun Tryz.prog 208 := tqU
instance : Fun Tryz.prog 209 := tqU
instance : Fun Tryz.prog 210 := tqU
instance : Fun Tryz.prog 211 := tqU
instance : Fun Tryz.prog 212 := tqU
instance : Fun Tryz.prog 213 := tqU
instance : Fun Tryz.prog 214 := tqU
instance : Fun Tryz.prog 215 := tqU
instance : Fun Tryz.prog 216 := tqU
instance : Fun Tryz.prog 217 := tqU
instance : Fun Tryz.prog 218 := tqU
instance : Fun Tryz.prog 219 := tqU
instance : Fun Tryz.prog 220 := tqU
instance : Fun Tryz.prog 221 := tqU
instance : Fun Tryz.prog 222 := tqU
instance : Fun Tryz.prog 248 := tqU
instance : Fun Tryz.prog 249 := tqU
instance : Fun Tryz.prog 250 := tqU
instance : Fun Tryz.prog 251 := tqU
instance : Fun Tryz.prog 252 := tqU
instance : Fun Tryz.prog 253 := tqU
instance : Fun Tryz.prog 254 := tqU
instance : Fun Tryz.prog 255 := tqU
instance : Fun Tryz.prog 256 := tqU
instance : Fun Tryz.prog 257 := tqU
instance : Fun Tryz.prog 258 := tqU
instance : Fun Tryz.prog 259 := tqU
instance : Fun Tryz.prog 260 := tqU
instance : Fun Tryz.prog 261 := tqU
instance : Fun Tryz.prog 262 := tqU
instance : Fun Tryz.prog 263 := tqU
instance : Fun Tryz.prog 264 := tqU
instance : Fun Tryz.prog 265 := tqU
instance : Fun Tryz.prog 266 := tqU
instance : Fun Tryz.prog 267 := tqU
instance : Fun Tryz.prog 268 := tqU
instance : Fun Tryz.prog 280 := tqU
instance : Fun Tryz.prog 282 := tqU
instance : Fun Tryz.prog 283 := tqU
instance : Fun Tryz.prog 284 := tqU
instance : Fun Tryz.prog 285 := tqU
instance : Fun Tryz.prog 286 := tqU
instance : Fun Tryz.prog 288 := tqU
instance : Fun Tryz.prog 289 := tqU
instance : Fun Tryz.prog 290 := tqU
instance : Fun Tryz.prog 291 := tqU
instance : Fun Tryz.prog 292 := tqU
instance : Fun Tryz.prog 293 := tqU
instance : Fun Tryz.prog 302 := tqU
instance : Fun Tryz.prog 303 := tqU
instance : Fun Tryz.prog 304 := tqU
instance : Fun Tryz.prog 305 := tqU
instance : Fun Tryz.prog 306 := tqU
instance : Fun Tryz.prog 307 := tqU
instance : Fun Tryz.prog 308 := tqU
instance : Fun Tryz.prog 311 := tqU
instance : Fun Tryz.prog 312 := tqU
instance : Fun Tryz.prog 313 := tqU
instance : Fun Tryz.prog 317 := tqU
instance : Fun Tryz.prog 320 := tqU
instance : Fun Tryz.prog 321 := tqU
instance : Fun Tryz.prog 327 := tqU
instance : Mixed Tryz.prog := ⟨by kernel_rfl⟩
end Go.Proofs.E

namespace Go.Proofs.E
open Go
set_option linter.unusedVariables false
set_option linter.unusedSimpArgs false
set_option linter.unusedSectionVars false
set_option maxRecDepth 4000
set_option maxHeartbeats 1000000
attribute [local irreducible] Yl TL TC TE Spec YSpec R1 Hp.le EnvLe TS TR YS Stays
/-! ## octet: numbers are laid -/
def z8 (n : Nat) : List UInt8 := List.replicate n 0
theorem stc_mid (A B vs ws : List Value) (h : ws.length = vs.length) : stc (A ++ (vs ++ B)) A.length ws = A ++ (ws ++ B) := by
  unfold stc
  rw [List.take_left, h, ← List.drop_drop, List.drop_left, List.drop_left, List.append_assoc]
theorem u8_wrap (y : Nat) : Value.int .u8 (IntKind.u8.wrap (y : Int)) = u8c (UInt8.ofNat y) := by
  simp only [u8c, UInt8.toNat_ofNat', IntKind.wrap, IntKind.bits, IntKind.signed, Bool.false_and, Bool.false_eq_true, if_false]
  congr 1
theorem made_z8 (m : Nat) : madeCells (Value.int .u8 0).cells m = ⟨(z8 m).map u8c⟩ := by
  have hz : (Value.int IntKind.u8 0).cells = ⟨[u8c 0]⟩ := rfl
  rw [hz]
  apply Array.ext'
  apply List.ext_getElem?
  intro i
  by_cases hi : i < m
  · simp [madeCells, z8, hi, Nat.mod_one]
  · rw [List.getElem?_eq_none (by simp [madeCells]; omega), List.getElem?_eq_none (by simp [z8]; omega)]
theorem own_chunk (b n c : Nat) {xs : List Value} {T : TypeId} : [(b, Obj.cells ⟨xs⟩ T (0, 0))] = ownC (.slice (some ⟨b, 0, none⟩) n c) xs [] T := by simp [ownC]
theorem stand_spec (ρ : Hp) (a : Option Addr) (n c : Nat) (l : List UInt8) (h : SIn ρ u8c a n l) (x p : Nat) (hx : x < 18446744073709551616) (hp : p ≤ 8) (hp1 : 1 ≤ p) (hn : n ≤ 1000000) :
    Spec Tryz.prog 284 [.slice a n c, .int .u64 x, .int .i64 p] ρ [] (fun v ρ' L' => ρ' = ρ ∧ ∃ sp, OwnS v (n + p) ((l ++ be p x).map u8c) sp 1 ∧ L' = [ownC v ((l ++ be p x).map u8c) sp 5]) := by
  have hl := h.len
  refine spec_enter Tryz.func284 rfl rfl rfl fun u R => ?_
  simp only [argsE, List.cons_append, List.nil_append]
  repeat' (first | (refine tl_makeSlice rfl rfl (by omega) (by omega) (by omega) (by omega) rfl (fun hbn => ?_)) | (refine i_op ?_; first | (refine i_qq ?_; refine qQ ?_) | refine qEf ?_) | refine tl_nil ?_ | (refine i_tc ?_; refine qTc ?_) | (refine i_te ?_; refine qTe ?_) | intro _)
  simp only [show ((n : Int) + (p : Int)).toNat = n + p by omega, Nat.mul_one, made_z8]
  have hinit : stc ((z8 (n + p)).map u8c) 0 ((l.map u8c).take (n + p)) = (l ++ (z8 (p - 0) ++ be 0 x)).map u8c := by
    rw [List.take_of_length_le (by simp; omega)]
    unfold stc
    have e : z8 (n + p) = z8 n ++ z8 p := by simp [z8, List.replicate_append_replicate]
    rw [e]
    simp [be, hl, z8]
  refine tl_copy (ys := l.map u8c) rfl rfl (SIn.srcV h) (by simpa using hl) (u8c_one l) (by simp [z8]) rfl ?_
  simp only [hinit]
  repeat' (first | (refine i_op ?_; first | (refine i_qq ?_; refine qQ ?_) | refine qEf ?_) | refine tl_nil ?_ | (refine i_tc ?_; refine qTc ?_) | (refine i_te ?_; refine qTe ?_) | intro _)
  refine tc_loop_g [(6, _), (7, _), (17, _)] (fun (ζ : (Nat) × (Nat)) => [(18, .int .i64 ζ.1), (1, .int .u64 (ζ.2 : Nat))]) (fun (ζ : (Nat) × (Nat)) => ρ) (fun (ζ : (Nat) × (Nat)) => [[(hbn, .cells ⟨(l ++ (z8 (p - ζ.1) ++ be ζ.1 x)).map u8c⟩ 5 (0, 0))]]) (fun (ζ : (Nat) × (Nat)) => ζ.1 ≤ p ∧ ζ.2 = x / 256 ^ ζ.1) (fun (ζ : (Nat) × (Nat)) => p - ζ.1) ((0, x)) (⟨Nat.zero_le _, by simp⟩) ev_le ev_le rfl tk ?_
  rintro ⟨k, y⟩ hI
  try simp only [List.cons_append, List.nil_append, List.append_assoc, List.append_eq] at hI ⊢
  try dsimp only at hI ⊢
  obtain ⟨hk, hy⟩ := hI
  by_cases hlt : k < p
  · have hlen : ((l ++ (z8 (p - k) ++ be k x)).map u8c).length = n + p := by simp [z8, be_length, hl]; omega
    have hst : stc ((l ++ (z8 (p - k) ++ be k x)).map u8c) (0 + ((n : Int) + (p : Int) - 1 - k).toNat * 1) [u8c (UInt8.ofNat y)] = (l ++ (z8 (p - (k + 1)) ++ be (k + 1) x)).map u8c := by
      have e1 : z8 (p - k) = z8 (p - (k + 1)) ++ [0] := by
        rw [show p - k = (p - (k + 1)) + 1 by omega]; simp [z8, List.replicate_succ']
      have e2 : 0 + ((n : Int) + (p : Int) - 1 - k).toNat * 1 = ((l ++ z8 (p - (k + 1))).map u8c).length := by simp [z8, hl]; omega
      have e3 : (l ++ (z8 (p - k) ++ be k x)).map u8c = (l ++ z8 (p - (k + 1))).map u8c ++ ([u8c 0] ++ (be k x).map u8c) := by rw [e1]; simp
      rw [e2, e3, stc_mid _ _ [u8c 0] [u8c (UInt8.ofNat y)] rfl, be, ← hy]
      simp
    have hyy : y / 256 = x / 256 ^ (k + 1) := by rw [hy, Nat.div_div_eq_div_mul, Nat.pow_succ]
    repeat' (first | (refine i_op ?_; first | (refine i_qq ?_; refine qQ ?_) | refine qEf ?_) | refine tl_nil ?_ | (refine i_tc ?_; refine qTc ?_) | (refine i_te ?_; refine qTe ?_) | intro _)
    have e8 : (y : Int) / 2 ^ 8 = ((x / 256 ^ (k + 1) : Nat) : Int) := by
      rw [← hyy]
      have : (2 : Int) ^ 8 = 256 := by decide
      omega
    rw [e8, u8_wrap, Int.natCast_add, hst]
    refine te_round_g (k + 1, x / 256 ^ (k + 1)) (⟨hlt, rfl⟩) ev_le ev_le rfl tk inferInstance (by first | omega | (dsimp only; omega))
  · have hk2 : k = p := by omega
    subst hk2
    simp only [Nat.sub_self, z8, List.replicate_zero, List.nil_append]
    repeat' (first | (refine i_op ?_; first | (refine i_qq ?_; refine qQ ?_) | refine qEf ?_) | refine tl_nil ?_ | (refine i_tc ?_; refine qTc ?_) | (refine i_te ?_; refine qTe ?_) | intro _)
    rw [own_chunk hbn (n + k) (n + k)]
    exact qE ⟨rfl, [], ⟨.inr ⟨hbn, n + k, rfl, by simp [be_length, hl], by simp [be_length, hl], Nat.le_refl _⟩⟩, rfl⟩
theorem put16_spec (ρ : Hp) (a : Option Addr) (n c : Nat) (l : List UInt8) (h : SIn ρ u8c a n l) (x : Nat) (hx : x < 65536) (hn : n ≤ 1000000) :
    Spec Tryz.prog 258 [.slice a n c, .int .u16 x] ρ [] (fun v ρ' L' => ρ' = ρ ∧ ∃ sp, OwnS v (n + 2) ((l ++ be 2 x).map u8c) sp 1 ∧ L' = [ownC v ((l ++ be 2 x).map u8c) sp 5]) := by
  have hw : IntKind.u64.wrap (x : Int) = x := wrap_id (by simp only [lo, hi]; omega)
  have hs := stand_spec ρ a n c l h x 2 (by omega) (by omega) (by omega) hn
  refine spec_enter Tryz.func258 rfl rfl rfl fun u R => ?_
  simp only [argsE, List.cons_append, List.nil_append]
  repeat' (first | (refine iCv ?_; refine tl_y (y_conv rfl) rfl rfl ?_; rw [hw]) | (refine tl_is (.func 284) ?_; refine qC rfl rfl (hs) ?_; rintro v ρ' L' hle ⟨rfl, sp, hown, rfl⟩ <;> (try simp only [kM, kN, kO])) | (refine i_op ?_; first | (refine i_qq ?_; refine qQ ?_) | refine qEf ?_) | refine tl_nil ?_ | (refine i_tc ?_; refine qTc ?_) | (refine i_te ?_; refine qTe ?_) | intro _)
  exact qE ⟨rfl, sp, hown, rfl⟩
theorem put64_spec (ρ : Hp) (a : Option Addr) (n c : Nat) (l : List UInt8) (h : SIn ρ u8c a n l) (x : Nat) (hx : x < 18446744073709551616) (hn : n ≤ 1000000) :
    Spec Tryz.prog 254 [.slice a n c, .int .u64 x] ρ [] (fun v ρ' L' => ρ' = ρ ∧ ∃ sp, OwnS v (n + 8) ((l ++ be 8 x).map u8c) sp 1 ∧ L' = [ownC v ((l ++ be 8 x).map u8c) sp 5]) := by
  have hs := stand_spec ρ a n c l h x 8 (by omega) (by omega) (by omega) hn
  refine spec_enter Tryz.func254 rfl rfl rfl fun u R => ?_
  simp only [argsE, List.cons_append, List.nil_append]
  repeat' (first | (refine tl_is (.func 284) ?_; refine qC rfl rfl (hs) ?_; rintro v ρ' L' hle ⟨rfl, sp, hown, rfl⟩ <;> (try simp only [kM, kN, kO])) | (refine i_op ?_; first | (refine i_qq ?_; refine qQ ?_) | refine qEf ?_) | refine tl_nil ?_ | (refine i_tc ?_; refine qTc ?_) | (refine i_te ?_; refine qTe ?_) | intro _)
  exact qE ⟨rfl, sp, hown, rfl⟩
end Go.Proofs.E

namespace Go.Proofs.E
open Go
set_option linter.unusedVariables false
set_option linter.unusedSimpArgs false
set_option linter.unusedSectionVars false
set_option maxRecDepth 4000
set_option maxHeartbeats 1000000
attribute [local irreducible] Yl TL TC TE Spec YSpec R1 Hp.le EnvLe TS TR YS Stays
/-! ## octet: the reader -/
theorem OwnS.zero (b sz : Nat) : OwnS (.slice (some ⟨b, 0, none⟩) 0 0) 0 [] [] sz := ⟨.inr ⟨b, 0, rfl, by simp, by simp, Nat.le_refl _⟩⟩
end Go.Proofs.E

namespace Go.Proofs.E
open Go
set_option linter.unusedVariables false
set_option linter.unusedSimpArgs false
set_option linter.unusedSectionVars false
set_option maxRecDepth 4000
set_option maxHeartbeats 1000000
attribute [local irreducible] Yl TL TC TE Spec YSpec R1 Hp.le EnvLe TS TR YS Stays
structure Row where
  t : Int
  id : Nat
  val : Int
  note : List UInt8
deriving DecidableEq
structure Kid where
  t : Int
  id : Nat
  page : Int
deriving DecidableEq
abbrev keyV (t : Int) (id : Nat) : List Value := [.int .i64 t, .int .u16 id]
abbrev rowV (r : Row) : List Value := [.int .i64 r.t, .int .u16 r.id, .int .i64 r.val, strV r.note]
abbrev kidV (k : Kid) : List Value := [.int .i64 k.t, .int .u16 k.id, .int .i64 k.page]
theorem table_spec (ρ : Hp) (n : Int) : Spec Tryz.prog 280 [.int .i64 n] ρ [] (fun v ρ' L' => v = .bool (decide (0 ≤ n ∧ n < 3)) ∧ ρ' = ρ ∧ L' = []) := by
  refine spec_enter Tryz.func280 rfl rfl rfl fun u R => ?_
  simp only [argsE, List.cons_append, List.nil_append]
  by_cases h0 : 0 ≤ n
  · by_cases h1 : n < 3
    · rw [decide_eq_true ⟨h0, h1⟩]
      repeat' (first | (refine i_op ?_; first | (refine i_qq ?_; refine qQ ?_) | refine qEf ?_) | refine tl_nil ?_ | (refine i_tc ?_; refine qTc ?_) | (refine i_te ?_; refine qTe ?_) | intro _)
      exact qE ⟨rfl, rfl, rfl⟩
    · rw [decide_eq_false (fun h => h1 h.2)]
      repeat' (first | (refine i_op ?_; first | (refine i_qq ?_; refine qQ ?_) | refine qEf ?_) | refine tl_nil ?_ | (refine i_tc ?_; refine qTc ?_) | (refine i_te ?_; refine qTe ?_) | intro _)
      exact qE ⟨rfl, rfl, rfl⟩
  · rw [decide_eq_false (fun h => h0 h.1)]
    repeat' (first | (refine i_op ?_; first | (refine i_qq ?_; refine qQ ?_) | refine qEf ?_) | refine tl_nil ?_ | (refine i_tc ?_; refine qTc ?_) | (refine i_te ?_; refine qTe ?_) | intro _)
    exact qE ⟨rfl, rfl, rfl⟩
end Go.Proofs.E

namespace Go.Proofs.E
open Go
set_option linter.unusedVariables false
set_option linter.unusedSimpArgs false
set_option linter.unusedSectionVars false
set_option maxRecDepth 4000
set_option maxHeartbeats 1000000
attribute [local irreducible] Yl TL TC TE Spec YSpec R1 Hp.le EnvLe TS TR YS Stays
/-! ## codec: what may be -/
def cmpI (x y : Int) : Int := if x < y then -1 else if y < x then 1 else 0
theorem nanI_spec (ρ : Hp) (x : Int) : Spec Tryz.prog 262 [.int .i64 x] ρ [] (fun v ρ' L' => v = .bool false ∧ ρ' = ρ ∧ L' = []) := by
  refine spec_enter Tryz.func262 rfl rfl rfl fun u R => ?_
  simp only [argsE, List.cons_append, List.nil_append]
  repeat' (first | (refine i_op ?_; first | (refine i_qq ?_; refine qQ ?_) | refine qEf ?_) | refine tl_nil ?_ | (refine i_tc ?_; refine qTc ?_) | (refine i_te ?_; refine qTe ?_) | intro _)
  exact qE ⟨rfl, rfl, rfl⟩
theorem nanU_spec (ρ : Hp) (x : Int) : Spec Tryz.prog 327 [.int .u16 x] ρ [] (fun v ρ' L' => v = .bool false ∧ ρ' = ρ ∧ L' = []) := by
  refine spec_enter Tryz.func327 rfl rfl rfl fun u R => ?_
  simp only [argsE, List.cons_append, List.nil_append]
  repeat' (first | (refine i_op ?_; first | (refine i_qq ?_; refine qQ ?_) | refine qEf ?_) | refine tl_nil ?_ | (refine i_tc ?_; refine qTc ?_) | (refine i_te ?_; refine qTe ?_) | intro _)
  exact qE ⟨rfl, rfl, rfl⟩
theorem cmpI_spec (ρ : Hp) (x y : Int) : Spec Tryz.prog 209 [.int .i64 x, .int .i64 y] ρ [] (fun v ρ' L' => v = .int .i64 (cmpI x y) ∧ ρ' = ρ ∧ L' = []) := by
  refine spec_enter Tryz.func209 rfl rfl rfl fun u R => ?_
  simp only [argsE, List.cons_append, List.nil_append]
  unfold cmpI
  split
  · repeat' (first | (refine tl_is (.func 262) ?_; refine qC rfl rfl (nanI_spec _ _) ?_; rintro v ρ' L' hle ⟨rfl, rfl, rfl⟩ <;> (try simp only [kM, kN, kO])) | (refine i_op ?_; first | (refine i_qq ?_; refine qQ ?_) | refine qEf ?_) | refine tl_nil ?_ | (refine i_tc ?_; refine qTc ?_) | (refine i_te ?_; refine qTe ?_) | intro _)
    exact qE ⟨rfl, rfl, rfl⟩
  · split
    · repeat' (first | (refine tl_is (.func 262) ?_; refine qC rfl rfl (nanI_spec _ _) ?_; rintro v ρ' L' hle ⟨rfl, rfl, rfl⟩ <;> (try simp only [kM, kN, kO])) | (refine i_op ?_; first | (refine i_qq ?_; refine qQ ?_) | refine qEf ?_) | refine tl_nil ?_ | (refine i_tc ?_; refine qTc ?_) | (refine i_te ?_; refine qTe ?_) | intro _)
      exact qE ⟨rfl, rfl, rfl⟩
    · repeat' (first | (refine tl_is (.func 262) ?_; refine qC rfl rfl (nanI_spec _ _) ?_; rintro v ρ' L' hle ⟨rfl, rfl, rfl⟩ <;> (try simp only [kM, kN, kO])) | (refine i_op ?_; first | (refine i_qq ?_; refine qQ ?_) | refine qEf ?_) | refine tl_nil ?_ | (refine i_tc ?_; refine qTc ?_) | (refine i_te ?_; refine qTe ?_) | intro _)
      exact qE ⟨rfl, rfl, rfl⟩
theorem cmpU_spec (ρ : Hp) (x y : Int) : Spec Tryz.prog 321 [.int .u16 x, .int .u16 y] ρ [] (fun v ρ' L' => v = .int .i64 (cmpI x y) ∧ ρ' = ρ ∧ L' = []) := by
  refine spec_enter Tryz.func321 rfl rfl rfl fun u R => ?_
  simp only [argsE, List.cons_append, List.nil_append]
  unfold cmpI
  split
  · repeat' (first | (refine tl_is (.func 327) ?_; refine qC rfl rfl (nanU_spec _ _) ?_; rintro v ρ' L' hle ⟨rfl, rfl, rfl⟩ <;> (try simp only [kM, kN, kO])) | (refine i_op ?_; first | (refine i_qq ?_; refine qQ ?_) | refine qEf ?_) | refine tl_nil ?_ | (refine i_tc ?_; refine qTc ?_) | (refine i_te ?_; refine qTe ?_) | intro _)
    exact qE ⟨rfl, rfl, rfl⟩
  · split
    · repeat' (first | (refine tl_is (.func 327) ?_; refine qC rfl rfl (nanU_spec _ _) ?_; rintro v ρ' L' hle ⟨rfl, rfl, rfl⟩ <;> (try simp only [kM, kN, kO])) | (refine i_op ?_; first | (refine i_qq ?_; refine qQ ?_) | refine qEf ?_) | refine tl_nil ?_ | (refine i_tc ?_; refine qTc ?_) | (refine i_te ?_; refine qTe ?_) | intro _)
      exact qE ⟨rfl, rfl, rfl⟩
    · repeat' (first | (refine tl_is (.func 327) ?_; refine qC rfl rfl (nanU_spec _ _) ?_; rintro v ρ' L' hle ⟨rfl, rfl, rfl⟩ <;> (try simp only [kM, kN, kO])) | (refine i_op ?_; first | (refine i_qq ?_; refine qQ ?_) | refine qEf ?_) | refine tl_nil ?_ | (refine i_tc ?_; refine qTc ?_) | (refine i_te ?_; refine qTe ?_) | intro _)
      exact qE ⟨rfl, rfl, rfl⟩
theorem or2_spec (ρ : Hp) (b : Nat) (x y : Int) : Spec Tryz.prog 320 [.slice (some ⟨b, 0, none⟩) 2 2] ρ [[(b, .cells ⟨[.int .i64 x, .int .i64 y]⟩ 3 (0, 0))]]
    (fun v ρ' L' => v = .int .i64 (if x = 0 then y else x) ∧ ρ' = ρ ∧ L' = [[(b, .cells ⟨[.int .i64 x, .int .i64 y]⟩ 3 (0, 0))]]) := by
  refine spec_enter Tryz.func320 rfl rfl rfl fun u R => ?_
  simp only [argsE, List.cons_append, List.nil_append]
  repeat' (first | (refine i_op ?_; first | (refine i_qq ?_; refine qQ ?_) | refine qEf ?_) | refine tl_nil ?_ | (refine i_tc ?_; refine qTc ?_) | (refine i_te ?_; refine qTe ?_) | intro _)
  refine tc_loop_g [(2, _), (3, _), (6, _), (7, _)] (fun (ζ : (Nat)) => [(8, .int .i64 ζ)]) (fun (ζ : (Nat)) => ρ) (fun (ζ : (Nat)) => []) (fun (ζ : (Nat)) => ζ = 0 ∨ (ζ = 1 ∧ x = 0) ∨ (ζ = 2 ∧ x = 0 ∧ y = 0)) (fun (ζ : (Nat)) => 3 - ζ) (0) (.inl rfl) ev_le ev_le rfl tk ?_
  rintro k hI
  try simp only [List.cons_append, List.nil_append, List.append_assoc, List.append_eq] at hI ⊢
  try dsimp only at hI ⊢
  rcases hI with rfl | ⟨rfl, rfl⟩ | ⟨rfl, rfl, rfl⟩
  · by_cases h : x = 0
    · subst h
      repeat' (first | (refine i_op ?_; first | (refine i_qq ?_; refine qQ ?_) | refine qEf ?_) | refine tl_nil ?_ | (refine i_tc ?_; refine qTc ?_) | (refine i_te ?_; refine qTe ?_) | intro _)
      refine te_round_g (1) (.inr (.inl ⟨rfl, rfl⟩)) ev_le ev_le rfl tk inferInstance (by first | omega | (dsimp only; omega))
    · rw [if_neg h]
      repeat' (first | (refine i_op ?_; first | (refine i_qq ?_; refine qQ ?_) | refine qEf ?_) | refine tl_nil ?_ | (refine i_tc ?_; refine qTc ?_) | (refine i_te ?_; refine qTe ?_) | intro _)
      exact qE ⟨rfl, rfl, rfl⟩
  · by_cases h : y = 0
    · subst h
      repeat' (first | (refine i_op ?_; first | (refine i_qq ?_; refine qQ ?_) | refine qEf ?_) | refine tl_nil ?_ | (refine i_tc ?_; refine qTc ?_) | (refine i_te ?_; refine qTe ?_) | intro _)
      refine te_round_g (2) (.inr (.inr ⟨rfl, rfl, rfl⟩)) ev_le ev_le rfl tk inferInstance (by first | omega | (dsimp only; omega))
    · repeat' (first | (refine i_op ?_; first | (refine i_qq ?_; refine qQ ?_) | refine qEf ?_) | refine tl_nil ?_ | (refine i_tc ?_; refine qTc ?_) | (refine i_te ?_; refine qTe ?_) | intro _)
      exact qE ⟨rfl, rfl, rfl⟩
  · repeat' (first | (refine i_op ?_; first | (refine i_qq ?_; refine qQ ?_) | refine qEf ?_) | refine tl_nil ?_ | (refine i_tc ?_; refine qTc ?_) | (refine i_te ?_; refine qTe ?_) | intro _)
    exact qE ⟨rfl, rfl, rfl⟩
def cmpK (t1 : Int) (i1 : Nat) (t2 : Int) (i2 : Nat) : Int := if cmpI t1 t2 = 0 then cmpI i1 i2 else cmpI t1 t2
theorem compare_spec (ρ : Hp) (t1 : Int) (i1 : Nat) (t2 : Int) (i2 : Nat) : Spec Tryz.prog 317 [.agg ⟨keyV t1 i1⟩, .agg ⟨keyV t2 i2⟩] ρ [] (fun v ρ' L' => v = .int .i64 (cmpK t1 i1 t2 i2) ∧ ρ' = ρ ∧ L' = []) := by
  refine spec_enter Tryz.func317 rfl rfl rfl fun u R => ?_
  simp only [argsE, List.cons_append, List.nil_append]
  repeat' (first | (refine i_op ?_; first | (refine i_qq ?_; refine qQ ?_) | refine qEf ?_) | refine tl_nil ?_ | (refine i_tc ?_; refine qTc ?_) | (refine i_te ?_; refine qTe ?_) | intro _)
  refine tc_any (Stays _ _ _) stays_refl ?_
  all_goals refine rFa 0 ?_
  all_goals refine rLd 1 ?_
  all_goals refine rFa 2 ?_
  all_goals refine rLd 3 ?_
  all_goals refine rFa 5 ?_
  all_goals refine rLd 6 ?_
  all_goals refine rFa 7 ?_
  all_goals refine rLd 8 ?_
  all_goals (refine rStep (i := 4) ?_; ((try refine qWant ?_); (first | (refine tl_is (.func 209) ?_; refine qC rfl rfl (cmpI_spec _ _ _) ?_; rintro v ρ' L' hle ⟨rfl, rfl, rfl⟩ <;> (try simp only [kM, kN, kO])) | (refine qEf ?_; try intro _)) <;> ((try simp only [kM, kN, kO]); refine tl_nil ?_; refine rNext ?_)))
  all_goals (refine rStep (i := 9) ?_; ((try refine qWant ?_); (first | (refine tl_is (.func 321) ?_; refine qC rfl rfl (cmpU_spec _ _ _) ?_; rintro v ρ' L' hle ⟨rfl, rfl, rfl⟩ <;> (try simp only [kM, kN, kO])) | (refine qEf ?_; try intro _)) <;> ((try simp only [kM, kN, kO]); refine tl_nil ?_; refine rNext ?_)))
  all_goals (refine rStep (i := 10) ?_; ((try refine qWant ?_); (first | (refine tl_buildSlice_s rfl rfl rfl rfl (by simp) rfl rfl (fun _ => ?_)) | (refine qEf ?_; try intro _)) <;> ((try simp only [kM, kN, kO]); refine tl_nil ?_; refine rNext ?_)))
  all_goals (refine rStep (i := 11) ?_; ((try refine qWant ?_); (first | (refine tl_is (.func 320) ?_; refine qC rfl rfl (or2_spec _ _ _ _) ?_; rintro v ρ' L' hle ⟨rfl, rfl, rfl⟩ <;> (try simp only [kM, kN, kO])) | (refine qEf ?_; try intro _)) <;> ((try simp only [kM, kN, kO]); refine tl_nil ?_; refine rNext ?_)))
  all_goals refine rFull ?_
  all_goals refine rAs 12 ?_
  all_goals refine rDone ?_
  all_goals (repeat' (first | (refine i_op ?_; first | (refine i_qq ?_; refine qQ ?_) | refine qEf ?_) | refine tl_nil ?_ | (refine i_tc ?_; refine qTc ?_) | (refine i_te ?_; refine qTe ?_) | intro _))
  all_goals exact qE ⟨rfl, rfl, rfl⟩
def rowOk (r : Row) : Bool := decide ((0 ≤ r.t ∧ r.t < 3) ∧ r.note.length ≤ 8)
theorem checkRow_spec (ρ : Hp) (r : Row) : Spec Tryz.prog 253 [.agg ⟨rowV r⟩] ρ [] (fun v ρ' L' => v = .int .i64 (if rowOk r then 0 else 151) ∧ ρ' = ρ ∧ L' = []) := by
  obtain ⟨t, id, val, note⟩ := r
  refine spec_enter Tryz.func253 rfl rfl rfl fun u R => ?_
  simp only [argsE, List.cons_append, List.nil_append, rowOk, decide_eq_true_eq]
  by_cases h1 : 0 ≤ t ∧ t < 3
  · have hd : decide (0 ≤ t ∧ t < 3) = true := decide_eq_true h1
    by_cases h2 : note.length ≤ 8
    · rw [if_pos ⟨h1, h2⟩]
      repeat' (first | (refine tl_is (.func 280) ?_; refine qC rfl rfl (table_spec _ _) ?_; rintro v ρ' L' hle ⟨rfl, rfl, rfl⟩ <;> (try simp only [kM, kN, kO, hd])) | (refine i_op ?_; first | (refine i_qq ?_; refine qQ ?_) | refine qEf ?_) | refine tl_nil ?_ | (refine i_tc ?_; refine qTc ?_) | (refine i_te ?_; refine qTe ?_) | intro _)
      exact qE ⟨rfl, rfl, rfl⟩
    · rw [if_neg (fun h => h2 h.2)]
      repeat' (first | (refine tl_is (.func 280) ?_; refine qC rfl rfl (table_spec _ _) ?_; rintro v ρ' L' hle ⟨rfl, rfl, rfl⟩ <;> (try simp only [kM, kN, kO, hd])) | (refine i_op ?_; first | (refine i_qq ?_; refine qQ ?_) | refine qEf ?_) | refine tl_nil ?_ | (refine i_tc ?_; refine qTc ?_) | (refine i_te ?_; refine qTe ?_) | intro _)
      exact qE ⟨rfl, rfl, rfl⟩
  · have hd : decide (0 ≤ t ∧ t < 3) = false := decide_eq_false h1
    rw [if_neg (fun h => h1 h.1)]
    repeat' (first | (refine tl_is (.func 280) ?_; refine qC rfl rfl (table_spec _ _) ?_; rintro v ρ' L' hle ⟨rfl, rfl, rfl⟩ <;> (try simp only [kM, kN, kO, hd])) | (refine i_op ?_; first | (refine i_qq ?_; refine qQ ?_) | refine qEf ?_) | refine tl_nil ?_ | (refine i_tc ?_; refine qTc ?_) | (refine i_te ?_; refine qTe ?_) | intro _)
    exact qE ⟨rfl, rfl, rfl⟩
end Go.Proofs.E

