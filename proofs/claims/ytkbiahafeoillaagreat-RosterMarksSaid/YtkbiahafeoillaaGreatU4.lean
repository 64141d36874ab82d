/- The law RosterMarks. Part 4 of 20. -/
import Derived.Test.YtkbiahafeoillaaGreatU3
import Derived.Test.YtkbiahafeoillaaGreatChecked
import Derived.KernelRfl
namespace Go.Proofs.E
open Go Go.Proofs.E
set_option linter.unusedVariables false
theorem tqI {t : TypeId} {b : Bool} (h : (Tryz.prog.underlying t).map isIfaceD = some b := by kernel_rfl) : Zv Tryz.prog t b := mkTyIface h
theorem tqS {t : TypeId} (h : (Tryz.prog.underlying t).map isAggD = some false := by kernel_rfl) (k : (Tryz.prog.info? t).map (·.size) = some 1 := by kernel_rfl) : TyS Tryz.prog t := mkTyS h k
theorem tqA {t : TypeId} {n : Nat} (h : (Tryz.prog.underlying t).map isAggD = some true := by kernel_rfl) (k : (Tryz.prog.info? t).map (·.size) = some n := by kernel_rfl) : TyA Tryz.prog t n := mkTyA h k
theorem tqN {t : TypeId} {n : Nat} (k : (Tryz.prog.info? t).map (·.size) = some n := by kernel_rfl) : ZN Tryz.prog t n := mkTySz k
theorem tqB {t : TypeId} {n : Nat} (k : (Tryz.prog.info? t).map (·.bytes) = some n := by kernel_rfl) : Zu Tryz.prog t n := mkTyBytes k
theorem tqO {t : TypeId} {z : Value} (k : (Tryz.prog.info? t).bind (·.zero) = some z := by kernel_rfl) : Zw Tryz.prog t z := mkTyZero k
theorem tqF {t : TypeId} (h : (Tryz.prog.underlying t).map isFuncD = some true := by kernel_rfl) : YC Tryz.prog t := mkTyFunc h
theorem tqD {s : TypeId} {f off : Nat} {ft : TypeId} (h : fldB Tryz.prog s f = some (off, ft) := by kernel_rfl) : Fld Tryz.prog s f off ft := mkFld h
theorem tqU {f : FuncId} (h : funB Tryz.prog f = true := by kernel_rfl) : Fun Tryz.prog f := mkFun h
instance : TyS Tryz.prog 1 := tqS
instance : Zv Tryz.prog 1 false := tqI
instance : YC Tryz.prog 1 := tqF
instance : ZN Tryz.prog 1 1 := tqN
instance : Zu Tryz.prog 1 8 := tqB
instance : Zw Tryz.prog 1 (.nilFunc) := tqO
instance : TyS Tryz.prog 2 := tqS
instance : Zv Tryz.prog 2 false := tqI
instance : ZN Tryz.prog 2 1 := tqN
instance : Zu Tryz.prog 2 8 := tqB
instance : Zw Tryz.prog 2 (.int .i64 0) := tqO
instance : YU Tryz.prog 2 .i64 := ⟨by kernel_rfl⟩
instance : TyS Tryz.prog 3 := tqS
instance : Zv Tryz.prog 3 false := tqI
instance : ZN Tryz.prog 3 1 := tqN
instance : Zu Tryz.prog 3 8 := tqB
instance : Zw Tryz.prog 3 (.int .i64 0) := tqO
instance : YU Tryz.prog 3 .i64 := ⟨by kernel_rfl⟩
instance : TyS Tryz.prog 4 := tqS
instance : Zv Tryz.prog 4 false := tqI
instance : ZN Tryz.prog 4 1 := tqN
instance : Zu Tryz.prog 4 1 := tqB
instance : Zw Tryz.prog 4 (.bool false) := tqO
instance : TyBool Tryz.prog 4 := ⟨by kernel_rfl⟩
instance : TyS Tryz.prog 5 := tqS
instance : Zv Tryz.prog 5 false := tqI
instance : ZN Tryz.prog 5 1 := tqN
instance : Zu Tryz.prog 5 1 := tqB
instance : Zw Tryz.prog 5 (.int .u8 0) := tqO
instance : YU Tryz.prog 5 .u8 := ⟨by kernel_rfl⟩
instance : TyA Tryz.prog 7 4 := tqA
instance : Zv Tryz.prog 7 false := tqI
instance : ZN Tryz.prog 7 4 := tqN
instance : Zu Tryz.prog 7 24 := tqB
instance : Zw Tryz.prog 7 (.agg ⟨[.int .i64 0, .int .i64 0, .bool false, .int .u8 0]⟩) := tqO
instance : ZW Tryz.prog 7 := ⟨by kernel_rfl⟩
instance : Fld Tryz.prog 7 0 0 2 := tqD
instance : Fld Tryz.prog 7 1 1 3 := tqD
instance : Fld Tryz.prog 7 2 2 4 := tqD
instance : Fld Tryz.prog 7 3 3 6 := tqD
instance : ZP Tryz.prog 7 (([(0, 1), (1, 1), (2, 1), (3, 1)] : List (Nat × Nat))[·]?) := ZM (by kernel_rfl)
instance : TyS Tryz.prog 9 := tqS
instance : Zv Tryz.prog 9 false := tqI
instance : ZN Tryz.prog 9 1 := tqN
instance : Zu Tryz.prog 9 16 := tqB
instance : Zw Tryz.prog 9 (.string ⟨⟨[]⟩⟩) := tqO
instance : TyStr Tryz.prog 9 := ⟨by kernel_rfl⟩
instance : TyS Tryz.prog 12 := tqS
instance : Zv Tryz.prog 12 false := tqI
instance : ZN Tryz.prog 12 1 := tqN
instance : Zu Tryz.prog 12 8 := tqB
instance : Zw Tryz.prog 12 (.int .u64 0) := tqO
instance : YU Tryz.prog 12 .u64 := ⟨by kernel_rfl⟩
instance : TyS Tryz.prog 16 := tqS
instance : Zv Tryz.prog 16 false := tqI
instance : ZN Tryz.prog 16 1 := tqN
instance : Zu Tryz.prog 16 8 := tqB
instance : Zw Tryz.prog 16 (.pointer none) := tqO
instance : TyPtr Tryz.prog 16 274 := ⟨by kernel_rfl⟩
instance : TyS Tryz.prog 17 := tqS
instance : Zv Tryz.prog 17 false := tqI
instance : ZN Tryz.prog 17 1 := tqN
instance : Zu Tryz.prog 17 8 := tqB
instance : Zw Tryz.prog 17 (.pointer none) := tqO
instance : TyPtr Tryz.prog 17 283 := ⟨by kernel_rfl⟩
instance : TyS Tryz.prog 20 := tqS
instance : Zv Tryz.prog 20 true := tqI
instance : ZN Tryz.prog 20 1 := tqN
instance : Zu Tryz.prog 20 16 := tqB
instance : Zw Tryz.prog 20 (.nilIface) := tqO
instance : TyS Tryz.prog 21 := tqS
instance : Zv Tryz.prog 21 false := tqI
instance : ZN Tryz.prog 21 1 := tqN
instance : Zu Tryz.prog 21 4 := tqB
instance : Zw Tryz.prog 21 (.int .i32 0) := tqO
instance : YU Tryz.prog 21 .i32 := ⟨by kernel_rfl⟩
instance : TyS Tryz.prog 22 := tqS
instance : Zv Tryz.prog 22 false := tqI
instance : ZN Tryz.prog 22 1 := tqN
instance : Zu Tryz.prog 22 24 := tqB
instance : Zw Tryz.prog 22 (.slice none 0 0) := tqO
instance : Ya Tryz.prog 22 36 := ⟨by kernel_rfl⟩
instance : TyS Tryz.prog 23 := tqS
instance : Zv Tryz.prog 23 false := tqI
instance : YC Tryz.prog 23 := tqF
instance : ZN Tryz.prog 23 1 := tqN
instance : Zu Tryz.prog 23 8 := tqB
instance : Zw Tryz.prog 23 (.nilFunc) := tqO
instance : TyS Tryz.prog 24 := tqS
instance : Zv Tryz.prog 24 false := tqI
instance : ZN Tryz.prog 24 1 := tqN
instance : Zu Tryz.prog 24 24 := tqB
instance : Zw Tryz.prog 24 (.slice none 0 0) := tqO
instance : Ya Tryz.prog 24 45 := ⟨by kernel_rfl⟩
instance : TyA Tryz.prog 25 2 := tqA
instance : Zv Tryz.prog 25 false := tqI
instance : ZN Tryz.prog 25 2 := tqN
instance : Zu Tryz.prog 25 32 := tqB
instance : Zw Tryz.prog 25 (.agg ⟨[.int .i64 0, .slice none 0 0]⟩) := tqO
instance : ZW Tryz.prog 25 := ⟨by kernel_rfl⟩
instance : Fld Tryz.prog 25 0 0 3 := tqD
instance : Fld Tryz.prog 25 1 1 24 := tqD
instance : ZP Tryz.prog 25 (([(0, 1), (1, 1)] : List (Nat × Nat))[·]?) := ZM (by kernel_rfl)
instance : TyA Tryz.prog 26 2 := tqA
instance : Zv Tryz.prog 26 false := tqI
instance : ZN Tryz.prog 26 2 := tqN
instance : Zu Tryz.prog 26 32 := tqB
instance : Zw Tryz.prog 26 (.agg ⟨[.int .i64 0, .slice none 0 0]⟩) := tqO
instance : ZW Tryz.prog 26 := ⟨by kernel_rfl⟩
instance : Xv Tryz.prog 26 [(0, 3), (1, 24)] := YT (by kernel_rfl)
instance : Fld Tryz.prog 26 0 0 3 := tqD
instance : Fld Tryz.prog 26 1 1 24 := tqD
instance : ZP Tryz.prog 26 (([(0, 1), (1, 1)] : List (Nat × Nat))[·]?) := ZM (by kernel_rfl)
instance : TyS Tryz.prog 28 := tqS
instance : Zv Tryz.prog 28 false := tqI
instance : ZN Tryz.prog 28 1 := tqN
instance : Zu Tryz.prog 28 8 := tqB
instance : Zw Tryz.prog 28 (.int .u64 0) := tqO
instance : YU Tryz.prog 28 .u64 := ⟨by kernel_rfl⟩
instance : TyS Tryz.prog 29 := tqS
instance : Zv Tryz.prog 29 false := tqI
instance : ZN Tryz.prog 29 1 := tqN
instance : Zu Tryz.prog 29 24 := tqB
instance : Zw Tryz.prog 29 (.slice none 0 0) := tqO
instance : Ya Tryz.prog 29 100 := ⟨by kernel_rfl⟩
instance : TyS Tryz.prog 30 := tqS
instance : Zv Tryz.prog 30 false := tqI
instance : ZN Tryz.prog 30 1 := tqN
instance : Zu Tryz.prog 30 24 := tqB
instance : Zw Tryz.prog 30 (.slice none 0 0) := tqO
instance : Ya Tryz.prog 30 60 := ⟨by kernel_rfl⟩
instance : TyS Tryz.prog 31 := tqS
instance : Zv Tryz.prog 31 false := tqI
instance : ZN Tryz.prog 31 1 := tqN
instance : Zu Tryz.prog 31 24 := tqB
instance : Zw Tryz.prog 31 (.slice none 0 0) := tqO
instance : Ya Tryz.prog 31 169 := ⟨by kernel_rfl⟩
instance : TyS Tryz.prog 32 := tqS
instance : Zv Tryz.prog 32 false := tqI
instance : ZN Tryz.prog 32 1 := tqN
instance : Zu Tryz.prog 32 24 := tqB
instance : Zw Tryz.prog 32 (.slice none 0 0) := tqO
instance : Ya Tryz.prog 32 92 := ⟨by kernel_rfl⟩
instance : TyA Tryz.prog 33 10 := tqA
instance : Zv Tryz.prog 33 false := tqI
instance : ZN Tryz.prog 33 10 := tqN
instance : Zu Tryz.prog 33 144 := tqB
instance : Zw Tryz.prog 33 (.agg ⟨[.int .i64 0, .int .u64 0, .int .i64 0, .int .u64 0, .int .u64 0, .slice none 0 0, .slice none 0 0, .int .i64 0, .slice none 0 0, .slice none 0 0]⟩) := tqO
instance : ZW Tryz.prog 33 := ⟨by kernel_rfl⟩
instance : Fld Tryz.prog 33 0 0 3 := tqD
instance : Fld Tryz.prog 33 1 1 28 := tqD
instance : Fld Tryz.prog 33 2 2 3 := tqD
instance : Fld Tryz.prog 33 3 3 28 := tqD
instance : Fld Tryz.prog 33 4 4 28 := tqD
instance : Fld Tryz.prog 33 5 5 29 := tqD
instance : Fld Tryz.prog 33 6 6 30 := tqD
instance : Fld Tryz.prog 33 7 7 3 := tqD
instance : Fld Tryz.prog 33 8 8 31 := tqD
instance : Fld Tryz.prog 33 9 9 32 := tqD
instance : ZP Tryz.prog 33 (([(0, 1), (1, 1), (2, 1), (3, 1), (4, 1), (5, 1), (6, 1), (7, 1), (8, 1), (9, 1)] : List (Nat × Nat))[·]?) := ZM (by kernel_rfl)
instance : TyA Tryz.prog 34 10 := tqA
instance : Zv Tryz.prog 34 false := tqI
instance : ZN Tryz.prog 34 10 := tqN
instance : Zu Tryz.prog 34 144 := tqB
instance : Zw Tryz.prog 34 (.agg ⟨[.int .i64 0, .int .u64 0, .int .i64 0, .int .u64 0, .int .u64 0, .slice none 0 0, .slice none 0 0, .int .i64 0, .slice none 0 0, .slice none 0 0]⟩) := tqO
instance : ZW Tryz.prog 34 := ⟨by kernel_rfl⟩
instance : Xv Tryz.prog 34 [(0, 3), (1, 28), (2, 3), (3, 28), (4, 28), (5, 29), (6, 30), (7, 3), (8, 31), (9, 32)] := YT (by kernel_rfl)
instance : Fld Tryz.prog 34 0 0 3 := tqD
instance : Fld Tryz.prog 34 1 1 28 := tqD
instance : Fld Tryz.prog 34 2 2 3 := tqD
instance : Fld Tryz.prog 34 3 3 28 := tqD
instance : Fld Tryz.prog 34 4 4 28 := tqD
instance : Fld Tryz.prog 34 5 5 29 := tqD
instance : Fld Tryz.prog 34 6 6 30 := tqD
instance : Fld Tryz.prog 34 7 7 3 := tqD
instance : Fld Tryz.prog 34 8 8 31 := tqD
instance : Fld Tryz.prog 34 9 9 32 := tqD
instance : ZP Tryz.prog 34 (([(0, 1), (1, 1), (2, 1), (3, 1), (4, 1), (5, 1), (6, 1), (7, 1), (8, 1), (9, 1)] : List (Nat × Nat))[·]?) := ZM (by kernel_rfl)
instance : TyA Tryz.prog 35 15 := tqA
instance : Zv Tryz.prog 35 false := tqI
instance : ZN Tryz.prog 35 15 := tqN
instance : Zu Tryz.prog 35 184 := tqB
instance : Zw Tryz.prog 35 (.agg ⟨[.int .i64 0, .int .i64 0, .int .i64 0, .int .i64 0, .bool false, .int .i64 0, .int .u64 0, .int .i64 0, .int .u64 0, .int .u64 0, .slice none 0 0, .slice none 0 0, .int .i64 0, .slice none 0 0, .slice none 0 0]⟩) := tqO
instance : ZW Tryz.prog 35 := ⟨by kernel_rfl⟩
instance : Fld Tryz.prog 35 0 0 3 := tqD
instance : Fld Tryz.prog 35 1 1 3 := tqD
instance : Fld Tryz.prog 35 2 2 3 := tqD
instance : Fld Tryz.prog 35 3 3 3 := tqD
instance : Fld Tryz.prog 35 4 4 4 := tqD
instance : Fld Tryz.prog 35 5 5 34 := tqD
instance : ZP Tryz.prog 35 (([(0, 1), (1, 1), (2, 1), (3, 1), (4, 1), (5, 10)] : List (Nat × Nat))[·]?) := ZM (by kernel_rfl)
instance : TyA Tryz.prog 36 15 := tqA
instance : Zv Tryz.prog 36 false := tqI
instance : ZN Tryz.prog 36 15 := tqN
instance : Zu Tryz.prog 36 184 := tqB
instance : Zw Tryz.prog 36 (.agg ⟨[.int .i64 0, .int .i64 0, .int .i64 0, .int .i64 0, .bool false, .int .i64 0, .int .u64 0, .int .i64 0, .int .u64 0, .int .u64 0, .slice none 0 0, .slice none 0 0, .int .i64 0, .slice none 0 0, .slice none 0 0]⟩) := tqO
instance : ZW Tryz.prog 36 := ⟨by kernel_rfl⟩
instance : Xv Tryz.prog 36 [(0, 3), (1, 3), (2, 3), (3, 3), (4, 4), (5, 34)] := YT (by kernel_rfl)
instance : Fld Tryz.prog 36 0 0 3 := tqD
instance : Fld Tryz.prog 36 1 1 3 := tqD
instance : Fld Tryz.prog 36 2 2 3 := tqD
instance : Fld Tryz.prog 36 3 3 3 := tqD
instance : Fld Tryz.prog 36 4 4 4 := tqD
instance : Fld Tryz.prog 36 5 5 34 := tqD
instance : ZP Tryz.prog 36 (([(0, 1), (1, 1), (2, 1), (3, 1), (4, 1), (5, 10)] : List (Nat × Nat))[·]?) := ZM (by kernel_rfl)
instance : TyS Tryz.prog 37 := tqS
instance : Zv Tryz.prog 37 false := tqI
instance : ZN Tryz.prog 37 1 := tqN
instance : Zu Tryz.prog 37 8 := tqB
instance : Zw Tryz.prog 37 (.int .i64 0) := tqO
instance : YU Tryz.prog 37 .i64 := ⟨by kernel_rfl⟩
instance : TyA Tryz.prog 38 4 := tqA
instance : Zv Tryz.prog 38 false := tqI
instance : ZN Tryz.prog 38 4 := tqN
instance : Zu Tryz.prog 38 48 := tqB
instance : Zw Tryz.prog 38 (.agg ⟨[.int .i64 0, .slice none 0 0, .int .i64 0, .int .i64 0]⟩) := tqO
instance : ZW Tryz.prog 38 := ⟨by kernel_rfl⟩
instance : Fld Tryz.prog 38 0 0 26 := tqD
instance : Fld Tryz.prog 38 1 2 3 := tqD
instance : Fld Tryz.prog 38 2 3 37 := tqD
instance : ZP Tryz.prog 38 (([(0, 2), (2, 1), (3, 1)] : List (Nat × Nat))[·]?) := ZM (by kernel_rfl)
instance : TyA Tryz.prog 39 4 := tqA
instance : Zv Tryz.prog 39 false := tqI
instance : ZN Tryz.prog 39 4 := tqN
instance : Zu Tryz.prog 39 48 := tqB
instance : Zw Tryz.prog 39 (.agg ⟨[.int .i64 0, .slice none 0 0, .int .i64 0, .int .i64 0]⟩) := tqO
instance : ZW Tryz.prog 39 := ⟨by kernel_rfl⟩
instance : Xv Tryz.prog 39 [(0, 26), (2, 3), (3, 37)] := YT (by kernel_rfl)
instance : Fld Tryz.prog 39 0 0 26 := tqD
instance : Fld Tryz.prog 39 1 2 3 := tqD
instance : Fld Tryz.prog 39 2 3 37 := tqD
instance : ZP Tryz.prog 39 (([(0, 2), (2, 1), (3, 1)] : List (Nat × Nat))[·]?) := ZM (by kernel_rfl)
instance : TyS Tryz.prog 40 := tqS
instance : Zv Tryz.prog 40 false := tqI
instance : YC Tryz.prog 40 := tqF
instance : ZN Tryz.prog 40 1 := tqN
instance : Zu Tryz.prog 40 8 := tqB
instance : Zw Tryz.prog 40 (.nilFunc) := tqO
instance : TyS Tryz.prog 42 := tqS
instance : Zv Tryz.prog 42 false := tqI
instance : ZN Tryz.prog 42 1 := tqN
instance : Zu Tryz.prog 42 24 := tqB
instance : Zw Tryz.prog 42 (.slice none 0 0) := tqO
instance : Ya Tryz.prog 42 108 := ⟨by kernel_rfl⟩
instance : TyS Tryz.prog 43 := tqS
instance : Zv Tryz.prog 43 false := tqI
instance : ZN Tryz.prog 43 1 := tqN
instance : Zu Tryz.prog 43 24 := tqB
instance : Zw Tryz.prog 43 (.slice none 0 0) := tqO
instance : Ya Tryz.prog 43 28 := ⟨by kernel_rfl⟩
instance : TyA Tryz.prog 44 7 := tqA
instance : Zv Tryz.prog 44 false := tqI
instance : ZN Tryz.prog 44 7 := tqN
instance : Zu Tryz.prog 44 88 := tqB
instance : Zw Tryz.prog 44 (.agg ⟨[.int .i64 0, .int .i64 0, .int .u64 0, .int .u64 0, .int .u64 0, .slice none 0 0, .slice none 0 0]⟩) := tqO
instance : ZW Tryz.prog 44 := ⟨by kernel_rfl⟩
instance : Fld Tryz.prog 44 0 0 3 := tqD
instance : Fld Tryz.prog 44 1 1 3 := tqD
instance : Fld Tryz.prog 44 2 2 28 := tqD
instance : Fld Tryz.prog 44 3 3 28 := tqD
instance : Fld Tryz.prog 44 4 4 28 := tqD
instance : Fld Tryz.prog 44 5 5 42 := tqD
instance : Fld Tryz.prog 44 6 6 43 := tqD
instance : ZP Tryz.prog 44 (([(0, 1), (1, 1), (2, 1), (3, 1), (4, 1), (5, 1), (6, 1)] : List (Nat × Nat))[·]?) := ZM (by kernel_rfl)
instance : TyA Tryz.prog 45 7 := tqA
instance : Zv Tryz.prog 45 false := tqI
instance : ZN Tryz.prog 45 7 := tqN
instance : Zu Tryz.prog 45 88 := tqB
instance : Zw Tryz.prog 45 (.agg ⟨[.int .i64 0, .int .i64 0, .int .u64 0, .int .u64 0, .int .u64 0, .slice none 0 0, .slice none 0 0]⟩) := tqO
instance : ZW Tryz.prog 45 := ⟨by kernel_rfl⟩
instance : Xv Tryz.prog 45 [(0, 3), (1, 3), (2, 28), (3, 28), (4, 28), (5, 42), (6, 43)] := YT (by kernel_rfl)
instance : Fld Tryz.prog 45 0 0 3 := tqD
instance : Fld Tryz.prog 45 1 1 3 := tqD
instance : Fld Tryz.prog 45 2 2 28 := tqD
instance : Fld Tryz.prog 45 3 3 28 := tqD
instance : Fld Tryz.prog 45 4 4 28 := tqD
instance : Fld Tryz.prog 45 5 5 42 := tqD
instance : Fld Tryz.prog 45 6 6 43 := tqD
instance : ZP Tryz.prog 45 (([(0, 1), (1, 1), (2, 1), (3, 1), (4, 1), (5, 1), (6, 1)] : List (Nat × Nat))[·]?) := ZM (by kernel_rfl)
instance : TyS Tryz.prog 54 := tqS
instance : Zv Tryz.prog 54 false := tqI
instance : ZN Tryz.prog 54 1 := tqN
instance : Zu Tryz.prog 54 2 := tqB
instance : Zw Tryz.prog 54 (.int .u16 0) := tqO
instance : YU Tryz.prog 54 .u16 := ⟨by kernel_rfl⟩
instance : TyA Tryz.prog 55 2 := tqA
instance : Zv Tryz.prog 55 false := tqI
instance : ZN Tryz.prog 55 2 := tqN
instance : Zu Tryz.prog 55 16 := tqB
instance : Zw Tryz.prog 55 (.agg ⟨[.int .i64 0, .int .u16 0]⟩) := tqO
instance : ZW Tryz.prog 55 := ⟨by kernel_rfl⟩
instance : Fld Tryz.prog 55 0 0 3 := tqD
instance : Fld Tryz.prog 55 1 1 54 := tqD
instance : ZP Tryz.prog 55 (([(0, 1), (1, 1)] : List (Nat × Nat))[·]?) := ZM (by kernel_rfl)
instance : TyA Tryz.prog 56 2 := tqA
instance : Zv Tryz.prog 56 false := tqI
instance : ZN Tryz.prog 56 2 := tqN
instance : Zu Tryz.prog 56 16 := tqB
instance : Zw Tryz.prog 56 (.agg ⟨[.int .i64 0, .int .u16 0]⟩) := tqO
instance : ZW Tryz.prog 56 := ⟨by kernel_rfl⟩
instance : Xv Tryz.prog 56 [(0, 3), (1, 54)] := YT (by kernel_rfl)
instance : Fld Tryz.prog 56 0 0 3 := tqD
instance : Fld Tryz.prog 56 1 1 54 := tqD
instance : ZP Tryz.prog 56 (([(0, 1), (1, 1)] : List (Nat × Nat))[·]?) := ZM (by kernel_rfl)
instance : TyA Tryz.prog 57 4 := tqA
instance : Zv Tryz.prog 57 false := tqI
instance : ZN Tryz.prog 57 4 := tqN
instance : Zu Tryz.prog 57 40 := tqB
instance : Zw Tryz.prog 57 (.agg ⟨[.int .i64 0, .int .u16 0, .int .i64 0, .string ⟨⟨[]⟩⟩]⟩) := tqO
instance : ZW Tryz.prog 57 := ⟨by kernel_rfl⟩
instance : Fld Tryz.prog 57 0 0 56 := tqD
instance : Fld Tryz.prog 57 1 2 2 := tqD
instance : Fld Tryz.prog 57 2 3 9 := tqD
instance : ZP Tryz.prog 57 (([(0, 2), (2, 1), (3, 1)] : List (Nat × Nat))[·]?) := ZM (by kernel_rfl)
instance : TyA Tryz.prog 58 4 := tqA
instance : Zv Tryz.prog 58 false := tqI
instance : ZN Tryz.prog 58 4 := tqN
instance : Zu Tryz.prog 58 40 := tqB
instance : Zw Tryz.prog 58 (.agg ⟨[.int .i64 0, .int .u16 0, .int .i64 0, .string ⟨⟨[]⟩⟩]⟩) := tqO
instance : ZW Tryz.prog 58 := ⟨by kernel_rfl⟩
instance : Xv Tryz.prog 58 [(0, 56), (2, 2), (3, 9)] := YT (by kernel_rfl)
instance : Fld Tryz.prog 58 0 0 56 := tqD
instance : Fld Tryz.prog 58 1 2 2 := tqD
instance : Fld Tryz.prog 58 2 3 9 := tqD
instance : ZP Tryz.prog 58 (([(0, 2), (2, 1), (3, 1)] : List (Nat × Nat))[·]?) := ZM (by kernel_rfl)
instance : TyA Tryz.prog 59 6 := tqA
instance : Zv Tryz.prog 59 false := tqI
instance : ZN Tryz.prog 59 6 := tqN
instance : Zu Tryz.prog 59 56 := tqB
instance : Zw Tryz.prog 59 (.agg ⟨[.int .i64 0, .int .i64 0, .int .u16 0, .int .i64 0, .string ⟨⟨[]⟩⟩, .int .i64 0]⟩) := tqO
instance : ZW Tryz.prog 59 := ⟨by kernel_rfl⟩
instance : Fld Tryz.prog 59 0 0 3 := tqD
instance : Fld Tryz.prog 59 1 1 58 := tqD
instance : Fld Tryz.prog 59 2 5 2 := tqD
instance : ZP Tryz.prog 59 (([(0, 1), (1, 4), (5, 1)] : List (Nat × Nat))[·]?) := ZM (by kernel_rfl)
instance : TyA Tryz.prog 60 6 := tqA
instance : Zv Tryz.prog 60 false := tqI
instance : ZN Tryz.prog 60 6 := tqN
instance : Zu Tryz.prog 60 56 := tqB
instance : Zw Tryz.prog 60 (.agg ⟨[.int .i64 0, .int .i64 0, .int .u16 0, .int .i64 0, .string ⟨⟨[]⟩⟩, .int .i64 0]⟩) := tqO
instance : ZW Tryz.prog 60 := ⟨by kernel_rfl⟩
instance : Xv Tryz.prog 60 [(0, 3), (1, 58), (5, 2)] := YT (by kernel_rfl)
instance : Fld Tryz.prog 60 0 0 3 := tqD
instance : Fld Tryz.prog 60 1 1 58 := tqD
instance : Fld Tryz.prog 60 2 5 2 := tqD
instance : ZP Tryz.prog 60 (([(0, 1), (1, 4), (5, 1)] : List (Nat × Nat))[·]?) := ZM (by kernel_rfl)
instance : TyS Tryz.prog 64 := tqS
instance : Zv Tryz.prog 64 false := tqI
instance : YC Tryz.prog 64 := tqF
instance : ZN Tryz.prog 64 1 := tqN
instance : Zu Tryz.prog 64 8 := tqB
instance : Zw Tryz.prog 64 (.nilFunc) := tqO
instance : TyS Tryz.prog 88 := tqS
instance : Zv Tryz.prog 88 false := tqI
instance : YC Tryz.prog 88 := tqF
instance : ZN Tryz.prog 88 1 := tqN
instance : Zu Tryz.prog 88 8 := tqB
instance : Zw Tryz.prog 88 (.nilFunc) := tqO
instance : TyS Tryz.prog 89 := tqS
instance : Zv Tryz.prog 89 false := tqI
instance : ZN Tryz.prog 89 1 := tqN
instance : Zu Tryz.prog 89 8 := tqB
instance : Zw Tryz.prog 89 (.int .u64 0) := tqO
instance : YU Tryz.prog 89 .u64 := ⟨by kernel_rfl⟩
instance : TyA Tryz.prog 91 2 := tqA
instance : Zv Tryz.prog 91 false := tqI
instance : ZN Tryz.prog 91 2 := tqN
instance : Zu Tryz.prog 91 16 := tqB
instance : Zw Tryz.prog 91 (.agg ⟨[.int .i64 0, .int .u64 0]⟩) := tqO
instance : ZW Tryz.prog 91 := ⟨by kernel_rfl⟩
instance : Fld Tryz.prog 91 0 0 3 := tqD
instance : Fld Tryz.prog 91 1 1 28 := tqD
instance : ZP Tryz.prog 91 (([(0, 1), (1, 1)] : List (Nat × Nat))[·]?) := ZM (by kernel_rfl)
instance : TyA Tryz.prog 92 2 := tqA
instance : Zv Tryz.prog 92 false := tqI
instance : ZN Tryz.prog 92 2 := tqN
instance : Zu Tryz.prog 92 16 := tqB
instance : Zw Tryz.prog 92 (.agg ⟨[.int .i64 0, .int .u64 0]⟩) := tqO
instance : ZW Tryz.prog 92 := ⟨by kernel_rfl⟩
instance : Xv Tryz.prog 92 [(0, 3), (1, 28)] := YT (by kernel_rfl)
instance : Fld Tryz.prog 92 0 0 3 := tqD
instance : Fld Tryz.prog 92 1 1 28 := tqD
instance : ZP Tryz.prog 92 (([(0, 1), (1, 1)] : List (Nat × Nat))[·]?) := ZM (by kernel_rfl)
instance : TyS Tryz.prog 95 := tqS
instance : Zv Tryz.prog 95 false := tqI
instance : ZN Tryz.prog 95 1 := tqN
instance : Zu Tryz.prog 95 24 := tqB
instance : Zw Tryz.prog 95 (.slice none 0 0) := tqO
instance : Ya Tryz.prog 95 58 := ⟨by kernel_rfl⟩
instance : TyS Tryz.prog 96 := tqS
instance : Zv Tryz.prog 96 false := tqI
instance : ZN Tryz.prog 96 1 := tqN
instance : Zu Tryz.prog 96 24 := tqB
instance : Zw Tryz.prog 96 (.slice none 0 0) := tqO
instance : Ya Tryz.prog 96 230 := ⟨by kernel_rfl⟩
instance : TyA Tryz.prog 97 3 := tqA
instance : Zv Tryz.prog 97 false := tqI
instance : ZN Tryz.prog 97 3 := tqN
instance : Zu Tryz.prog 97 56 := tqB
instance : Zw Tryz.prog 97 (.agg ⟨[.int .i64 0, .slice none 0 0, .slice none 0 0]⟩) := tqO
instance : ZW Tryz.prog 97 := ⟨by kernel_rfl⟩
instance : Fld Tryz.prog 97 0 0 3 := tqD
instance : Fld Tryz.prog 97 1 1 95 := tqD
instance : Fld Tryz.prog 97 2 2 96 := tqD
instance : ZP Tryz.prog 97 (([(0, 1), (1, 1), (2, 1)] : List (Nat × Nat))[·]?) := ZM (by kernel_rfl)
instance : TyA Tryz.prog 98 3 := tqA
instance : Zv Tryz.prog 98 false := tqI
instance : ZN Tryz.prog 98 3 := tqN
instance : Zu Tryz.prog 98 56 := tqB
instance : Zw Tryz.prog 98 (.agg ⟨[.int .i64 0, .slice none 0 0, .slice none 0 0]⟩) := tqO
instance : ZW Tryz.prog 98 := ⟨by kernel_rfl⟩
instance : Xv Tryz.prog 98 [(0, 3), (1, 95), (2, 96)] := YT (by kernel_rfl)
instance : Fld Tryz.prog 98 0 0 3 := tqD
instance : Fld Tryz.prog 98 1 1 95 := tqD
instance : Fld Tryz.prog 98 2 2 96 := tqD
instance : ZP Tryz.prog 98 (([(0, 1), (1, 1), (2, 1)] : List (Nat × Nat))[·]?) := ZM (by kernel_rfl)
instance : TyA Tryz.prog 99 7 := tqA
instance : Zv Tryz.prog 99 false := tqI
instance : ZN Tryz.prog 99 7 := tqN
instance : Zu Tryz.prog 99 120 := tqB
instance : Zw Tryz.prog 99 (.agg ⟨[.int .i64 0, .int .i64 0, .slice none 0 0, .slice none 0 0, .int .i64 0, .slice none 0 0, .slice none 0 0]⟩) := tqO
instance : ZW Tryz.prog 99 := ⟨by kernel_rfl⟩
instance : Fld Tryz.prog 99 0 0 3 := tqD
instance : Fld Tryz.prog 99 1 1 98 := tqD
instance : Fld Tryz.prog 99 2 4 98 := tqD
instance : ZP Tryz.prog 99 (([(0, 1), (1, 3), (4, 3)] : List (Nat × Nat))[·]?) := ZM (by kernel_rfl)
instance : TyA Tryz.prog 100 7 := tqA
instance : Zv Tryz.prog 100 false := tqI
instance : ZN Tryz.prog 100 7 := tqN
instance : Zu Tryz.prog 100 120 := tqB
instance : Zw Tryz.prog 100 (.agg ⟨[.int .i64 0, .int .i64 0, .slice none 0 0, .slice none 0 0, .int .i64 0, .slice none 0 0, .slice none 0 0]⟩) := tqO
instance : ZW Tryz.prog 100 := ⟨by kernel_rfl⟩
instance : Xv Tryz.prog 100 [(0, 3), (1, 98), (4, 98)] := YT (by kernel_rfl)
instance : Fld Tryz.prog 100 0 0 3 := tqD
instance : Fld Tryz.prog 100 1 1 98 := tqD
instance : Fld Tryz.prog 100 2 4 98 := tqD
instance : ZP Tryz.prog 100 (([(0, 1), (1, 3), (4, 3)] : List (Nat × Nat))[·]?) := ZM (by kernel_rfl)
instance : TyS Tryz.prog 103 := tqS
instance : Zv Tryz.prog 103 false := tqI
instance : ZN Tryz.prog 103 1 := tqN
instance : Zu Tryz.prog 103 8 := tqB
instance : Zw Tryz.prog 103 (.pointer none) := tqO
instance : TyPtr Tryz.prog 103 45 := ⟨by kernel_rfl⟩
instance : TyS Tryz.prog 104 := tqS
instance : Zv Tryz.prog 104 false := tqI
instance : YC Tryz.prog 104 := tqF
instance : ZN Tryz.prog 104 1 := tqN
instance : Zu Tryz.prog 104 8 := tqB
instance : Zw Tryz.prog 104 (.nilFunc) := tqO
instance : TyA Tryz.prog 107 2 := tqA
instance : Zv Tryz.prog 107 false := tqI
instance : ZN Tryz.prog 107 2 := tqN
instance : Zu Tryz.prog 107 16 := tqB
instance : Zw Tryz.prog 107 (.agg ⟨[.int .u64 0, .int .i64 0]⟩) := tqO
instance : ZW Tryz.prog 107 := ⟨by kernel_rfl⟩
instance : Fld Tryz.prog 107 0 0 28 := tqD
instance : Fld Tryz.prog 107 1 1 3 := tqD
instance : ZP Tryz.prog 107 (([(0, 1), (1, 1)] : List (Nat × Nat))[·]?) := ZM (by kernel_rfl)
instance : TyA Tryz.prog 108 2 := tqA
instance : Zv Tryz.prog 108 false := tqI
instance : ZN Tryz.prog 108 2 := tqN
instance : Zu Tryz.prog 108 16 := tqB
instance : Zw Tryz.prog 108 (.agg ⟨[.int .u64 0, .int .i64 0]⟩) := tqO
instance : ZW Tryz.prog 108 := ⟨by kernel_rfl⟩
instance : Xv Tryz.prog 108 [(0, 28), (1, 3)] := YT (by kernel_rfl)
instance : Fld Tryz.prog 108 0 0 28 := tqD
instance : Fld Tryz.prog 108 1 1 3 := tqD
instance : ZP Tryz.prog 108 (([(0, 1), (1, 1)] : List (Nat × Nat))[·]?) := ZM (by kernel_rfl)
instance : TyS Tryz.prog 110 := tqS
instance : Zv Tryz.prog 110 false := tqI
instance : YC Tryz.prog 110 := tqF
instance : ZN Tryz.prog 110 1 := tqN
instance : Zu Tryz.prog 110 8 := tqB
instance : Zw Tryz.prog 110 (.nilFunc) := tqO
instance : TyS Tryz.prog 112 := tqS
instance : Zv Tryz.prog 112 false := tqI
instance : ZN Tryz.prog 112 1 := tqN
instance : Zu Tryz.prog 112 8 := tqB
instance : Zw Tryz.prog 112 (.pointer none) := tqO
instance : TyPtr Tryz.prog 112 149 := ⟨by kernel_rfl⟩
instance : TyS Tryz.prog 114 := tqS
instance : Zv Tryz.prog 114 false := tqI
instance : YC Tryz.prog 114 := tqF
instance : ZN Tryz.prog 114 1 := tqN
instance : Zu Tryz.prog 114 8 := tqB
instance : Zw Tryz.prog 114 (.nilFunc) := tqO
instance : TyS Tryz.prog 118 := tqS
instance : Zv Tryz.prog 118 false := tqI
instance : ZN Tryz.prog 118 1 := tqN
instance : Zu Tryz.prog 118 24 := tqB
instance : Zw Tryz.prog 118 (.slice none 0 0) := tqO
instance : Ya Tryz.prog 118 3 := ⟨by kernel_rfl⟩
instance : TyS Tryz.prog 120 := tqS
instance : Zv Tryz.prog 120 false := tqI
instance : YC Tryz.prog 120 := tqF
instance : ZN Tryz.prog 120 1 := tqN
instance : Zu Tryz.prog 120 8 := tqB
instance : Zw Tryz.prog 120 (.nilFunc) := tqO
instance : TyS Tryz.prog 144 := tqS
instance : Zv Tryz.prog 144 false := tqI
instance : YC Tryz.prog 144 := tqF
instance : ZN Tryz.prog 144 1 := tqN
instance : Zu Tryz.prog 144 8 := tqB
instance : Zw Tryz.prog 144 (.nilFunc) := tqO
instance : TyS Tryz.prog 147 := tqS
instance : Zv Tryz.prog 147 false := tqI
instance : YC Tryz.prog 147 := tqF
instance : ZN Tryz.prog 147 1 := tqN
instance : Zu Tryz.prog 147 8 := tqB
instance : Zw Tryz.prog 147 (.nilFunc) := tqO
instance : TyA Tryz.prog 148 13 := tqA
instance : Zv Tryz.prog 148 false := tqI
instance : ZN Tryz.prog 148 13 := tqN
instance : Zu Tryz.prog 148 184 := tqB
instance : Zw Tryz.prog 148 (.agg ⟨[.int .i64 0, .slice none 0 0, .int .i64 0, .int .u64 0, .int .i64 0, .int .u64 0, .int .u64 0, .slice none 0 0, .slice none 0 0, .int .i64 0, .slice none 0 0, .slice none 0 0, .pointer none]⟩) := tqO
instance : ZW Tryz.prog 148 := ⟨by kernel_rfl⟩
instance : Fld Tryz.prog 148 0 0 26 := tqD
instance : Fld Tryz.prog 148 1 2 34 := tqD
instance : Fld Tryz.prog 148 2 12 103 := tqD
instance : ZP Tryz.prog 148 (([(0, 2), (2, 10), (12, 1)] : List (Nat × Nat))[·]?) := ZM (by kernel_rfl)
instance : TyA Tryz.prog 149 13 := tqA
instance : Zv Tryz.prog 149 false := tqI
instance : ZN Tryz.prog 149 13 := tqN
instance : Zu Tryz.prog 149 184 := tqB
instance : Zw Tryz.prog 149 (.agg ⟨[.int .i64 0, .slice none 0 0, .int .i64 0, .int .u64 0, .int .i64 0, .int .u64 0, .int .u64 0, .slice none 0 0, .slice none 0 0, .int .i64 0, .slice none 0 0, .slice none 0 0, .pointer none]⟩) := tqO
instance : ZW Tryz.prog 149 := ⟨by kernel_rfl⟩
instance : Xv Tryz.prog 149 [(0, 26), (2, 34), (12, 103)] := YT (by kernel_rfl)
instance : Fld Tryz.prog 149 0 0 26 := tqD
instance : Fld Tryz.prog 149 1 2 34 := tqD
instance : Fld Tryz.prog 149 2 12 103 := tqD
instance : ZP Tryz.prog 149 (([(0, 2), (2, 10), (12, 1)] : List (Nat × Nat))[·]?) := ZM (by kernel_rfl)
instance : TyS Tryz.prog 153 := tqS
instance : Zv Tryz.prog 153 false := tqI
instance : ZN Tryz.prog 153 1 := tqN
instance : Zu Tryz.prog 153 8 := tqB
instance : Zw Tryz.prog 153 (.pointer none) := tqO
instance : TyPtr Tryz.prog 153 155 := ⟨by kernel_rfl⟩
instance : TyA Tryz.prog 154 10 := tqA
instance : Zv Tryz.prog 154 false := tqI
instance : ZN Tryz.prog 154 10 := tqN
instance : Zu Tryz.prog 154 144 := tqB
instance : Zw Tryz.prog 154 (.agg ⟨[.int .i64 0, .int .u64 0, .int .i64 0, .int .u64 0, .int .u64 0, .slice none 0 0, .slice none 0 0, .int .i64 0, .slice none 0 0, .slice none 0 0]⟩) := tqO
instance : ZW Tryz.prog 154 := ⟨by kernel_rfl⟩
instance : Fld Tryz.prog 154 0 0 34 := tqD
instance : ZP Tryz.prog 154 (([(0, 10)] : List (Nat × Nat))[·]?) := ZM (by kernel_rfl)
instance : TyA Tryz.prog 155 10 := tqA
instance : Zv Tryz.prog 155 false := tqI
instance : ZN Tryz.prog 155 10 := tqN
instance : Zu Tryz.prog 155 144 := tqB
instance : Zw Tryz.prog 155 (.agg ⟨[.int .i64 0, .int .u64 0, .int .i64 0, .int .u64 0, .int .u64 0, .slice none 0 0, .slice none 0 0, .int .i64 0, .slice none 0 0, .slice none 0 0]⟩) := tqO
instance : ZW Tryz.prog 155 := ⟨by kernel_rfl⟩
instance : Xv Tryz.prog 155 [(0, 34)] := YT (by kernel_rfl)
instance : Fld Tryz.prog 155 0 0 34 := tqD
instance : ZP Tryz.prog 155 (([(0, 10)] : List (Nat × Nat))[·]?) := ZM (by kernel_rfl)
instance : TyS Tryz.prog 156 := tqS
instance : Zv Tryz.prog 156 false := tqI
instance : ZN Tryz.prog 156 1 := tqN
instance : Zu Tryz.prog 156 8 := tqB
instance : Zw Tryz.prog 156 (.map none) := tqO
instance : TyMap Tryz.prog 156 3 23 := ⟨by kernel_rfl⟩
instance : TyS Tryz.prog 157 := tqS
instance : Zv Tryz.prog 157 false := tqI
instance : YC Tryz.prog 157 := tqF
instance : ZN Tryz.prog 157 1 := tqN
instance : Zu Tryz.prog 157 8 := tqB
instance : Zw Tryz.prog 157 (.nilFunc) := tqO
instance : TyS Tryz.prog 158 := tqS
instance : Zv Tryz.prog 158 false := tqI
instance : ZN Tryz.prog 158 1 := tqN
instance : Zu Tryz.prog 158 8 := tqB
instance : Zw Tryz.prog 158 (.map none) := tqO
instance : TyMap Tryz.prog 158 3 157 := ⟨by kernel_rfl⟩
instance : TyS Tryz.prog 161 := tqS
instance : Zv Tryz.prog 161 false := tqI
instance : YC Tryz.prog 161 := tqF
instance : ZN Tryz.prog 161 1 := tqN
instance : Zu Tryz.prog 161 8 := tqB
instance : Zw Tryz.prog 161 (.nilFunc) := tqO
instance : TyS Tryz.prog 162 := tqS
instance : Zv Tryz.prog 162 false := tqI
instance : YC Tryz.prog 162 := tqF
instance : ZN Tryz.prog 162 1 := tqN
instance : Zu Tryz.prog 162 8 := tqB
instance : Zw Tryz.prog 162 (.nilFunc) := tqO
instance : TyS Tryz.prog 164 := tqS
instance : Zv Tryz.prog 164 false := tqI
instance : YC Tryz.prog 164 := tqF
instance : ZN Tryz.prog 164 1 := tqN
instance : Zu Tryz.prog 164 8 := tqB
instance : Zw Tryz.prog 164 (.nilFunc) := tqO
instance : TyA Tryz.prog 168 5 := tqA
instance : Zv Tryz.prog 168 false := tqI
instance : ZN Tryz.prog 168 5 := tqN
instance : Zu Tryz.prog 168 40 := tqB
instance : Zw Tryz.prog 168 (.agg ⟨[.int .i64 0, .int .u64 0, .int .u64 0, .int .u64 0, .int .i64 0]⟩) := tqO
instance : ZW Tryz.prog 168 := ⟨by kernel_rfl⟩
instance : Fld Tryz.prog 168 0 0 3 := tqD
instance : Fld Tryz.prog 168 1 1 28 := tqD
instance : Fld Tryz.prog 168 2 2 28 := tqD
instance : Fld Tryz.prog 168 3 3 28 := tqD
instance : Fld Tryz.prog 168 4 4 3 := tqD
instance : ZP Tryz.prog 168 (([(0, 1), (1, 1), (2, 1), (3, 1), (4, 1)] : List (Nat × Nat))[·]?) := ZM (by kernel_rfl)
instance : TyA Tryz.prog 169 5 := tqA
instance : Zv Tryz.prog 169 false := tqI
instance : ZN Tryz.prog 169 5 := tqN
instance : Zu Tryz.prog 169 40 := tqB
instance : Zw Tryz.prog 169 (.agg ⟨[.int .i64 0, .int .u64 0, .int .u64 0, .int .u64 0, .int .i64 0]⟩) := tqO
instance : ZW Tryz.prog 169 := ⟨by kernel_rfl⟩
instance : Xv Tryz.prog 169 [(0, 3), (1, 28), (2, 28), (3, 28), (4, 3)] := YT (by kernel_rfl)
instance : Fld Tryz.prog 169 0 0 3 := tqD
instance : Fld Tryz.prog 169 1 1 28 := tqD
instance : Fld Tryz.prog 169 2 2 28 := tqD
instance : Fld Tryz.prog 169 3 3 28 := tqD
instance : Fld Tryz.prog 169 4 4 3 := tqD
instance : ZP Tryz.prog 169 (([(0, 1), (1, 1), (2, 1), (3, 1), (4, 1)] : List (Nat × Nat))[·]?) := ZM (by kernel_rfl)
instance : TyS Tryz.prog 175 := tqS
instance : Zv Tryz.prog 175 false := tqI
instance : YC Tryz.prog 175 := tqF
instance : ZN Tryz.prog 175 1 := tqN
instance : Zu Tryz.prog 175 8 := tqB
instance : Zw Tryz.prog 175 (.nilFunc) := tqO
instance : TyS Tryz.prog 176 := tqS
instance : Zv Tryz.prog 176 false := tqI
instance : YC Tryz.prog 176 := tqF
instance : ZN Tryz.prog 176 1 := tqN
instance : Zu Tryz.prog 176 8 := tqB
instance : Zw Tryz.prog 176 (.nilFunc) := tqO
instance : TyS Tryz.prog 182 := tqS
instance : Zv Tryz.prog 182 false := tqI
instance : YC Tryz.prog 182 := tqF
instance : ZN Tryz.prog 182 1 := tqN
instance : Zu Tryz.prog 182 8 := tqB
instance : Zw Tryz.prog 182 (.nilFunc) := tqO
instance : TyS Tryz.prog 185 := tqS
instance : Zv Tryz.prog 185 false := tqI
instance : YC Tryz.prog 185 := tqF
instance : ZN Tryz.prog 185 1 := tqN
instance : Zu Tryz.prog 185 8 := tqB
instance : Zw Tryz.prog 185 (.nilFunc) := tqO
instance : TyS Tryz.prog 186 := tqS
instance : Zv Tryz.prog 186 false := tqI
instance : YC Tryz.prog 186 := tqF
instance : ZN Tryz.prog 186 1 := tqN
instance : Zu Tryz.prog 186 8 := tqB
instance : Zw Tryz.prog 186 (.nilFunc) := tqO
instance : TyS Tryz.prog 188 := tqS
instance : Zv Tryz.prog 188 false := tqI
instance : YC Tryz.prog 188 := tqF
instance : ZN Tryz.prog 188 1 := tqN
instance : Zu Tryz.prog 188 8 := tqB
instance : Zw Tryz.prog 188 (.nilFunc) := tqO
instance : TyS Tryz.prog 211 := tqS
instance : Zv Tryz.prog 211 false := tqI
instance : YC Tryz.prog 211 := tqF
instance : ZN Tryz.prog 211 1 := tqN
instance : Zu Tryz.prog 211 8 := tqB
instance : Zw Tryz.prog 211 (.nilFunc) := tqO
instance : TyS Tryz.prog 213 := tqS
instance : Zv Tryz.prog 213 false := tqI
instance : YC Tryz.prog 213 := tqF
instance : ZN Tryz.prog 213 1 := tqN
instance : Zu Tryz.prog 213 8 := tqB
instance : Zw Tryz.prog 213 (.nilFunc) := tqO
instance : TyS Tryz.prog 217 := tqS
instance : Zv Tryz.prog 217 false := tqI
instance : ZN Tryz.prog 217 1 := tqN
instance : Zu Tryz.prog 217 24 := tqB
instance : Zw Tryz.prog 217 (.slice none 0 0) := tqO
instance : Ya Tryz.prog 217 5 := ⟨by kernel_rfl⟩
instance : TyS Tryz.prog 219 := tqS
instance : Zv Tryz.prog 219 false := tqI
instance : ZN Tryz.prog 219 1 := tqN
instance : Zu Tryz.prog 219 24 := tqB
instance : Zw Tryz.prog 219 (.slice none 0 0) := tqO
instance : Ya Tryz.prog 219 4 := ⟨by kernel_rfl⟩
instance : TyS Tryz.prog 222 := tqS
instance : Zv Tryz.prog 222 false := tqI
instance : YC Tryz.prog 222 := tqF
instance : ZN Tryz.prog 222 1 := tqN
instance : Zu Tryz.prog 222 8 := tqB
instance : Zw Tryz.prog 222 (.nilFunc) := tqO
instance : TyA Tryz.prog 229 3 := tqA
instance : Zv Tryz.prog 229 false := tqI
instance : ZN Tryz.prog 229 3 := tqN
instance : Zu Tryz.prog 229 24 := tqB
instance : Zw Tryz.prog 229 (.agg ⟨[.int .i64 0, .int .u16 0, .int .i64 0]⟩) := tqO
instance : ZW Tryz.prog 229 := ⟨by kernel_rfl⟩
instance : Fld Tryz.prog 229 0 0 56 := tqD
instance : Fld Tryz.prog 229 1 2 3 := tqD
instance : ZP Tryz.prog 229 (([(0, 2), (2, 1)] : List (Nat × Nat))[·]?) := ZM (by kernel_rfl)
instance : TyA Tryz.prog 230 3 := tqA
instance : Zv Tryz.prog 230 false := tqI
instance : ZN Tryz.prog 230 3 := tqN
instance : Zu Tryz.prog 230 24 := tqB
instance : Zw Tryz.prog 230 (.agg ⟨[.int .i64 0, .int .u16 0, .int .i64 0]⟩) := tqO
instance : ZW Tryz.prog 230 := ⟨by kernel_rfl⟩
instance : Xv Tryz.prog 230 [(0, 56), (2, 3)] := YT (by kernel_rfl)
instance : Fld Tryz.prog 230 0 0 56 := tqD
instance : Fld Tryz.prog 230 1 2 3 := tqD
instance : ZP Tryz.prog 230 (([(0, 2), (2, 1)] : List (Nat × Nat))[·]?) := ZM (by kernel_rfl)
instance : TyS Tryz.prog 231 := tqS
instance : Zv Tryz.prog 231 false := tqI
instance : ZN Tryz.prog 231 1 := tqN
instance : Zu Tryz.prog 231 8 := tqB
instance : Zw Tryz.prog 231 (.pointer none) := tqO
instance : TyPtr Tryz.prog 231 233 := ⟨by kernel_rfl⟩
instance : TyA Tryz.prog 232 11 := tqA
instance : Zv Tryz.prog 232 false := tqI
instance : ZN Tryz.prog 232 11 := tqN
instance : Zu Tryz.prog 232 168 := tqB
instance : Zw Tryz.prog 232 (.agg ⟨[.int .i64 0, .int .u64 0, .int .i64 0, .int .u64 0, .int .u64 0, .slice none 0 0, .slice none 0 0, .int .i64 0, .slice none 0 0, .slice none 0 0, .slice none 0 0]⟩) := tqO
instance : ZW Tryz.prog 232 := ⟨by kernel_rfl⟩
instance : Fld Tryz.prog 232 0 0 34 := tqD
instance : Fld Tryz.prog 232 1 10 217 := tqD
instance : ZP Tryz.prog 232 (([(0, 10), (10, 1)] : List (Nat × Nat))[·]?) := ZM (by kernel_rfl)
instance : TyA Tryz.prog 233 11 := tqA
instance : Zv Tryz.prog 233 false := tqI
instance : ZN Tryz.prog 233 11 := tqN
instance : Zu Tryz.prog 233 168 := tqB
instance : Zw Tryz.prog 233 (.agg ⟨[.int .i64 0, .int .u64 0, .int .i64 0, .int .u64 0, .int .u64 0, .slice none 0 0, .slice none 0 0, .int .i64 0, .slice none 0 0, .slice none 0 0, .slice none 0 0]⟩) := tqO
instance : ZW Tryz.prog 233 := ⟨by kernel_rfl⟩
instance : Xv Tryz.prog 233 [(0, 34), (10, 217)] := YT (by kernel_rfl)
instance : Fld Tryz.prog 233 0 0 34 := tqD
instance : Fld Tryz.prog 233 1 10 217 := tqD
instance : ZP Tryz.prog 233 (([(0, 10), (10, 1)] : List (Nat × Nat))[·]?) := ZM (by kernel_rfl)
instance : TyS Tryz.prog 237 := tqS
instance : Zv Tryz.prog 237 false := tqI
instance : ZN Tryz.prog 237 1 := tqN
instance : Zu Tryz.prog 237 8 := tqB
instance : Zw Tryz.prog 237 (.map none) := tqO
instance : TyMap Tryz.prog 237 3 1 := ⟨by kernel_rfl⟩
instance : TyS Tryz.prog 244 := tqS
instance : Zv Tryz.prog 244 false := tqI
instance : YC Tryz.prog 244 := tqF
instance : ZN Tryz.prog 244 1 := tqN
instance : Zu Tryz.prog 244 8 := tqB
instance : Zw Tryz.prog 244 (.nilFunc) := tqO
instance : TyS Tryz.prog 245 := tqS
instance : Zv Tryz.prog 245 false := tqI
instance : YC Tryz.prog 245 := tqF
instance : ZN Tryz.prog 245 1 := tqN
instance : Zu Tryz.prog 245 8 := tqB
instance : Zw Tryz.prog 245 (.nilFunc) := tqO
instance : TyS Tryz.prog 246 := tqS
instance : Zv Tryz.prog 246 false := tqI
instance : ZN Tryz.prog 246 1 := tqN
instance : Zu Tryz.prog 246 8 := tqB
instance : Zw Tryz.prog 246 (.map none) := tqO
instance : TyMap Tryz.prog 246 3 4 := ⟨by kernel_rfl⟩
instance : TyS Tryz.prog 248 := tqS
instance : Zv Tryz.prog 248 false := tqI
instance : YC Tryz.prog 248 := tqF
instance : ZN Tryz.prog 248 1 := tqN
instance : Zu Tryz.prog 248 8 := tqB
instance : Zw Tryz.prog 248 (.nilFunc) := tqO
instance : TyS Tryz.prog 249 := tqS
instance : Zv Tryz.prog 249 false := tqI
instance : YC Tryz.prog 249 := tqF
instance : ZN Tryz.prog 249 1 := tqN
instance : Zu Tryz.prog 249 8 := tqB
instance : Zw Tryz.prog 249 (.nilFunc) := tqO
instance : TyS Tryz.prog 252 := tqS
instance : Zv Tryz.prog 252 false := tqI
instance : ZN Tryz.prog 252 1 := tqN
instance : Zu Tryz.prog 252 4 := tqB
instance : Zw Tryz.prog 252 (.int .u32 0) := tqO
instance : YU Tryz.prog 252 .u32 := ⟨by kernel_rfl⟩
instance : TyS Tryz.prog 278 := tqS
instance : Zv Tryz.prog 278 false := tqI
instance : YC Tryz.prog 278 := tqF
instance : ZN Tryz.prog 278 1 := tqN
instance : Zu Tryz.prog 278 8 := tqB
instance : Zw Tryz.prog 278 (.nilFunc) := tqO
instance : TyS Tryz.prog 279 := tqS
instance : Zv Tryz.prog 279 false := tqI
instance : ZN Tryz.prog 279 1 := tqN
instance : Zu Tryz.prog 279 8 := tqB
instance : Zw Tryz.prog 279 (.pointer none) := tqO
instance : TyPtr Tryz.prog 279 5 := ⟨by kernel_rfl⟩
instance : TyA Tryz.prog 282 11 := tqA
instance : Zv Tryz.prog 282 false := tqI
instance : ZN Tryz.prog 282 11 := tqN
instance : Zu Tryz.prog 282 48 := tqB
instance : Zw Tryz.prog 282 (.agg ⟨[.int .u64 0, .int .u64 0, .int .u32 0, .int .u8 0, .int .u8 0, .int .u8 0, .int .u8 0, .nilFunc, .pointer none, .int .i32 0, .int .i32 0]⟩) := tqO
instance : ZW Tryz.prog 282 := ⟨by kernel_rfl⟩
instance : Fld Tryz.prog 282 0 0 12 := tqD
instance : Fld Tryz.prog 282 1 1 12 := tqD
instance : Fld Tryz.prog 282 2 2 252 := tqD
instance : Fld Tryz.prog 282 3 3 276 := tqD
instance : Fld Tryz.prog 282 4 4 5 := tqD
instance : Fld Tryz.prog 282 5 5 5 := tqD
instance : Fld Tryz.prog 282 6 6 277 := tqD
instance : Fld Tryz.prog 282 7 7 278 := tqD
instance : Fld Tryz.prog 282 8 8 279 := tqD
instance : Fld Tryz.prog 282 9 9 280 := tqD
instance : Fld Tryz.prog 282 10 10 281 := tqD
instance : ZP Tryz.prog 282 (([(0, 1), (1, 1), (2, 1), (3, 1), (4, 1), (5, 1), (6, 1), (7, 1), (8, 1), (9, 1), (10, 1)] : List (Nat × Nat))[·]?) := ZM (by kernel_rfl)
instance : Fun Tryz.prog 3 := tqU
instance : Fun Tryz.prog 9 := tqU
instance : Fun Tryz.prog 10 := tqU
instance : Fun Tryz.prog 11 := tqU
instance : Fun Tryz.prog 12 := tqU
instance : Fun Tryz.prog 13 := tqU
instance : Fun Tryz.prog 14 := tqU
instance : Fun Tryz.prog 15 := tqU
instance : Fun Tryz.prog 16 := tqU
instance : Fun Tryz.prog 17 := tqU
instance : Fun Tryz.prog 18 := tqU
instance : Fun Tryz.prog 19 := tqU
instance : Fun Tryz.prog 20 := tqU
instance : Fun Tryz.prog 39 := tqU
instance : Fun Tryz.prog 40 := tqU
instance : Fun Tryz.prog 41 := tqU
instance : Fun Tryz.prog 42 := tqU
instance : Fun Tryz.prog 43 := tqU
instance : Fun Tryz.prog 44 := tqU
instance : Fun Tryz.prog 45 := tqU
instance : Fun Tryz.prog 46 := tqU
instance : Fun Tryz.prog 47 := tqU
instance : Fun Tryz.prog 48 := tqU
instance : Fun Tryz.prog 49 := tqU
instance : Fun Tryz.prog 50 := tqU
instance : Fun Tryz.prog 51 := tqU
instance : Fun Tryz.prog 52 := tqU
instance : Fun Tryz.prog 53 := tqU
instance : Fun Tryz.prog 54 := tqU
instance : Fun Tryz.prog 55 := tqU
instance : Fun Tryz.prog 56 := tqU
instance : Fun Tryz.prog 78 := tqU
instance : Fun Tryz.prog 79 := tqU
instance : Fun Tryz.prog 80 := tqU
instance : Fun Tryz.prog 81 := tqU
instance : Fun Tryz.prog 82 := tqU
instance : Fun Tryz.prog 83 := tqU
instance : Fun Tryz.prog 84 := tqU
instance : Fun Tryz.prog 85 := tqU
instance : Fun Tryz.prog 86 := tqU
instance : Fun Tryz.prog 87 := tqU
instance : Fun Tryz.prog 88 := tqU
instance : Fun Tryz.prog 89 := tqU
instance : Fun Tryz.prog 90 := tqU
instance : Fun Tryz.prog 91 := tqU
instance : Fun Tryz.prog 92 := tqU
instance : Fun Tryz.prog 93 := tqU
instance : Fun Tryz.prog 94 := tqU
instance : Fun Tryz.prog 95 := tqU
instance : Fun Tryz.prog 96 := tqU
instance : Fun Tryz.prog 97 := tqU
instance : Fun Tryz.prog 98 := tqU
instance : Fun Tryz.prog 99 := tqU
instance : Fun Tryz.prog 100 := tqU
instance : Fun Tryz.prog 101 := tqU
instance : Fun Tryz.prog 102 := tqU
instance : Fun Tryz.prog 103 := tqU
instance : Fun Tryz.prog 104 := tqU
instance : Fun Tryz.prog 105 := tqU
instance : Fun Tryz.prog 134 := tqU
instance : Fun Tryz.prog 135 := tqU
instance : Fun Tryz.prog 136 := tqU
instance : Fun Tryz.prog 137 := tqU
instance : Fun Tryz.prog 138 := tqU
instance : Fun Tryz.prog 139 := tqU
instance : Fun Tryz.prog 140 := tqU
instance : Fun Tryz.prog 141 := tqU
instance : Fun Tryz.prog 142 := tqU
instance : Fun Tryz.prog 143 := tqU
instance : Fun Tryz.prog 144 := tqU
instance : Fun Tryz.prog 145 := tqU
instance : Fun Tryz.prog 146 := tqU
instance : Fun Tryz.prog 147 := tqU
instance : Fun Tryz.prog 148 := tqU
instance : Fun Tryz.prog 149 := tqU
instance : Fun Tryz.prog 150 := tqU
instance : Fun Tryz.prog 151 := tqU
instance : Fun Tryz.prog 152 := tqU
instance : Fun Tryz.prog 153 := tqU
instance : Fun Tryz.prog 154 := tqU
instance : Fun Tryz.prog 155 := tqU
instance : Fun Tryz.prog 169 := tqU
instance : Fun Tryz.prog 170 := tqU
instance : Fun Tryz.prog 171 := tqU
instance : Fun Tryz.prog 172 := tqU
instance : Fun Tryz.prog 173 := tqU
instance : Fun Tryz.prog 174 := tqU
instance : Fun Tryz.prog 175 := tqU
instance : Fun Tryz.prog 176 := tqU
instance : Fun Tryz.prog 177 := tqU
instance : Fun Tryz.prog 178 := tqU
instance : Fun Tryz.prog 179 := tqU
instance : Fun Tryz.prog 180 := tqU
instance : Fun Tryz.prog 181 := tqU
instance : Fun Tryz.prog 182 := tqU
instance : Fun Tryz.prog 189 := tqU
instance : Fun Tryz.prog 190 := tqU
instance : Fun Tryz.prog 191 := tqU
instance : Fun Tryz.prog 192 := tqU
instance : Fun Tryz.prog 193 := tqU
instance : Fun Tryz.prog 194 := tqU
instance : Fun Tryz.prog 195 := tqU
instance : Fun Tryz.prog 196 := tqU
instance : Fun Tryz.prog 197 := tqU
instance : Fun Tryz.prog 198 := tqU
instance : Fun Tryz.prog 199 := tqU
instance : Fun Tryz.prog 200 := tqU
instance : Fun Tryz.prog 201 := tqU
instance : Fun Tryz.prog 202 := tqU
instance : Fun Tryz.prog 205 := tqU
instance : Fun Tryz.prog 206 := tqU
instance : Fun Tryz.prog 207 := tqU
instance : Fun Tryz.prog 208 := tqU
instance : Fun Tryz.prog 209 := tqU
instance : Fun Tryz.prog 210 := tqU
instance : Fun Tryz.prog 211 := tqU
instance : Fun Tryz.prog 212 := tqU
instance : Fun Tryz.prog 213 := tqU
instance : Fun Tryz.prog 214 := tqU
instance : Fun Tryz.prog 215 := tqU
instance : Fun Tryz.prog 219 := tqU
instance : Fun Tryz.prog 220 := tqU
instance : Fun Tryz.prog 221 := tqU
instance : Fun Tryz.prog 222 := tqU
instance : Fun Tryz.prog 226 := tqU
instance : Fun Tryz.prog 227 := tqU
instance : Fun Tryz.prog 228 := tqU
instance : Fun Tryz.prog 231 := tqU
instance : Mixed Tryz.prog := ⟨by kernel_rfl⟩
end Go.Proofs.E
namespace Go.Proofs.E
open Go
set_option linter.unusedVariables false
set_option linter.unusedSimpArgs false
set_option linter.unusedSectionVars false
set_option maxRecDepth 4000
set_option maxHeartbeats 1000000
attribute [local irreducible] Yl TL TC TE Spec Wh R1 Hp.le EnvLe TS TR YS Zq
def be : Nat → Nat → List UInt8
 | 0, _ => []
 | n + 1, x => UInt8.ofNat (x / 256 ^ n) :: be n x
theorem ZJ (n x : Nat) : (be n x).length = n := by induction n <;> simp [be, *]
def z8 (n : Nat) : List UInt8 := List.replicate n 0
theorem stc_mid (A B vs ws : List Value) (h : ws.length = vs.length) : stc (A ++ (vs ++ B)) A.length ws = A ++ (ws ++ B) := by
 unfold stc
 rw [List.take_left, h, ← List.drop_drop, List.drop_left, List.drop_left, List.append_assoc]
theorem u8_wrap (y : Nat) : Value.int .u8 (IntKind.u8.wrap (y : Int)) = u8c (UInt8.ofNat y) := by
 simp only [u8c, UInt8.toNat_ofNat', IntKind.wrap, IntKind.bits, IntKind.signed, Bool.false_and, Bool.false_eq_true, if_false]
 congr 1
theorem made_z8 (m : Nat) : madeCells (Value.int .u8 0).cells m = ⟨(z8 m).map u8c⟩ := by
 have hz : (Value.int IntKind.u8 0).cells = ⟨[u8c 0]⟩ := rfl
 rw [hz]
 apply Array.ext'
 apply List.ext_getElem?
 intro i
 by_cases hi : i < m
 ·simp [madeCells, z8, hi, Nat.mod_one]
 ·rw [List.getElem?_eq_none (by simp [madeCells]; omega), List.getElem?_eq_none (by simp [z8]; omega)]
theorem own_chunk (b n c : Nat) {xs : List Value} {T : TypeId} : [(b, Obj.cells ⟨xs⟩ T (0, 0))] = ZZ (.slice (some ⟨b, 0, none⟩) n c) xs [] T := by simp [ZZ]
theorem stand_spec (ρ : Hp) (a : Option Addr) (n c : Nat) (l : List UInt8) (h : SIn ρ u8c a n l) (x p : Nat) (hx : x < 18446744073709551616) (hp : p ≤ 8) (hp1 : 1 ≤ p) (hn : n ≤ 1000000) :
  Spec Tryz.prog 220 [.slice a n c, .int .u64 x, .int .i64 p] ρ [] (fun v ρ' L' => ρ' = ρ ∧ ∃ sp, OwnS v (n + p) ((l ++ be p x).map u8c) sp 1 ∧ L' = [ZZ v ((l ++ be p x).map u8c) sp 5]) := by
 have hl := h.len
 refine Zg Tryz.func220 rfl rfl rfl fun u R => ?_
 simp only [Zx, List.cons_append, List.nil_append]
 repeat' (first | (refine tl_makeSlice rfl rfl (by omega) (by omega) (by omega) (by omega) rfl (fun hbn => ?_)) | (refine Zj ?_; first | (refine Zf ?_; refine qQ ?_) | refine Zm ?_) | refine Za ?_ | (refine Zi ?_; refine Zt ?_) | (refine Zh ?_; refine Zs ?_) | intro _)
 simp only [show ((n : Int) + (p : Int)).toNat = n + p by omega, Nat.mul_one, made_z8]
 have hinit : stc ((z8 (n + p)).map u8c) 0 ((l.map u8c).take (n + p)) = (l ++ (z8 (p - 0) ++ be 0 x)).map u8c := by
  rw [List.take_of_length_le (by simp; omega)]
  unfold stc
  have e : z8 (n + p) = z8 n ++ z8 p := by simp [z8, List.replicate_append_replicate]
  rw [e]
  simp [be, hl, z8]
 refine tl_copy (ys := l.map u8c) rfl rfl (SIn.srcV h) (by simpa using hl) (u8c_one l) (by simp [z8]) rfl ?_
 simp only [hinit]
 repeat' (first | (refine Zj ?_; first | (refine Zf ?_; refine qQ ?_) | refine Zm ?_) | refine Za ?_ | (refine Zi ?_; refine Zt ?_) | (refine Zh ?_; refine Zs ?_) | intro _)
 refine ZG [(6, _), (7, _), (17, _)] (fun (ζ : (Nat) × (Nat)) => [(18, .int .i64 ζ.1), (1, .int .u64 (ζ.2 : Nat))]) (fun (ζ : (Nat) × (Nat)) => ρ) (fun (ζ : (Nat) × (Nat)) => [[(hbn, .cells ⟨(l ++ (z8 (p - ζ.1) ++ be ζ.1 x)).map u8c⟩ 5 (0, 0))]]) (fun (ζ : (Nat) × (Nat)) => ζ.1 ≤ p ∧ ζ.2 = x / 256 ^ ζ.1) (fun (ζ : (Nat) × (Nat)) => p - ζ.1) ((0, x)) (⟨Nat.zero_le _, by simp⟩) Zo Zo rfl tk ?_
 rintro ⟨k, y⟩ hI
 try simp only [List.cons_append, List.nil_append, List.append_assoc, List.append_eq] at hI ⊢
 try dsimp only at hI ⊢
 obtain ⟨hk, hy⟩ := hI
 by_cases hlt : k < p
 ·have hlen : ((l ++ (z8 (p - k) ++ be k x)).map u8c).length = n + p := by simp [z8, ZJ, hl]; omega
  have hst : stc ((l ++ (z8 (p - k) ++ be k x)).map u8c) (0 + ((n : Int) + (p : Int) - 1 - k).toNat * 1) [u8c (UInt8.ofNat y)] = (l ++ (z8 (p - (k + 1)) ++ be (k + 1) x)).map u8c := by
   have e1 : z8 (p - k) = z8 (p - (k + 1)) ++ [0] := by
    rw [show p - k = (p - (k + 1)) + 1 by omega]; simp [z8, List.replicate_succ']
   have e2 : 0 + ((n : Int) + (p : Int) - 1 - k).toNat * 1 = ((l ++ z8 (p - (k + 1))).map u8c).length := by simp [z8, hl]; omega
   have e3 : (l ++ (z8 (p - k) ++ be k x)).map u8c = (l ++ z8 (p - (k + 1))).map u8c ++ ([u8c 0] ++ (be k x).map u8c) := by rw [e1]; simp
   rw [e2, e3, stc_mid _ _ [u8c 0] [u8c (UInt8.ofNat y)] rfl, be, ← hy]
   simp
  have hyy : y / 256 = x / 256 ^ (k + 1) := by rw [hy, Nat.div_div_eq_div_mul, Nat.pow_succ]
  repeat' (first | (refine Zj ?_; first | (refine Zf ?_; refine qQ ?_) | refine Zm ?_) | refine Za ?_ | (refine Zi ?_; refine Zt ?_) | (refine Zh ?_; refine Zs ?_) | intro _)
  have e8 : (y : Int) / 2 ^ 8 = ((x / 256 ^ (k + 1) : Nat) : Int) := by
   rw [← hyy]
   have : (2 : Int) ^ 8 = 256 := by decide
   omega
  rw [e8, u8_wrap, Int.natCast_add, hst]
  refine Zr (k + 1, x / 256 ^ (k + 1)) (⟨hlt, rfl⟩) Zo Zo rfl tk inferInstance (by first | omega | (dsimp only; omega))
 ·have hk2 : k = p := by omega
  subst hk2
  simp only [Nat.sub_self, z8, List.replicate_zero, List.nil_append]
  repeat' (first | (refine Zj ?_; first | (refine Zf ?_; refine qQ ?_) | refine Zm ?_) | refine Za ?_ | (refine Zi ?_; refine Zt ?_) | (refine Zh ?_; refine Zs ?_) | intro _)
  rw [own_chunk hbn (n + k) (n + k)]
  exact qE ⟨rfl, [], ⟨.inr ⟨hbn, n + k, rfl, by simp [ZJ, hl], by simp [ZJ, hl], Nat.le_refl _⟩⟩, rfl⟩
theorem put16_spec (ρ : Hp) (a : Option Addr) (n c : Nat) (l : List UInt8) (h : SIn ρ u8c a n l) (x : Nat) (hx : x < 65536) (hn : n ≤ 1000000) :
  Spec Tryz.prog 215 [.slice a n c, .int .u16 x] ρ [] (fun v ρ' L' => ρ' = ρ ∧ ∃ sp, OwnS v (n + 2) ((l ++ be 2 x).map u8c) sp 1 ∧ L' = [ZZ v ((l ++ be 2 x).map u8c) sp 5]) := by
 have hw : IntKind.u64.wrap (x : Int) = x := wrap_id (by simp only [lo, hi]; omega)
 have hs := stand_spec ρ a n c l h x 2 (by omega) (by omega) (by omega) hn
 refine Zg Tryz.func215 rfl rfl rfl fun u R => ?_
 simp only [Zx, List.cons_append, List.nil_append]
 repeat' (first | (refine iCv ?_; refine Zn (y_conv rfl) rfl rfl ?_; rw [hw]) | (refine Ze (.func 220) ?_; refine qC rfl rfl (hs) ?_; rintro v ρ' L' hle ⟨rfl, sp, hown, rfl⟩ <;> (try simp only [kM, kN, kO])) | (refine Zj ?_; first | (refine Zf ?_; refine qQ ?_) | refine Zm ?_) | refine Za ?_ | (refine Zi ?_; refine Zt ?_) | (refine Zh ?_; refine Zs ?_) | intro _)
 exact qE ⟨rfl, sp, hown, rfl⟩
theorem put64_spec (ρ : Hp) (a : Option Addr) (n c : Nat) (l : List UInt8) (h : SIn ρ u8c a n l) (x : Nat) (hx : x < 18446744073709551616) (hn : n ≤ 1000000) :
  Spec Tryz.prog 211 [.slice a n c, .int .u64 x] ρ [] (fun v ρ' L' => ρ' = ρ ∧ ∃ sp, OwnS v (n + 8) ((l ++ be 8 x).map u8c) sp 1 ∧ L' = [ZZ v ((l ++ be 8 x).map u8c) sp 5]) := by
 have hs := stand_spec ρ a n c l h x 8 (by omega) (by omega) (by omega) hn
 refine Zg Tryz.func211 rfl rfl rfl fun u R => ?_
 simp only [Zx, List.cons_append, List.nil_append]
 repeat' (first | (refine Ze (.func 220) ?_; refine qC rfl rfl (hs) ?_; rintro v ρ' L' hle ⟨rfl, sp, hown, rfl⟩ <;> (try simp only [kM, kN, kO])) | (refine Zj ?_; first | (refine Zf ?_; refine qQ ?_) | refine Zm ?_) | refine Za ?_ | (refine Zi ?_; refine Zt ?_) | (refine Zh ?_; refine Zs ?_) | intro _)
 exact qE ⟨rfl, sp, hown, rfl⟩
theorem OwnS.zero (b sz : Nat) : OwnS (.slice (some ⟨b, 0, none⟩) 0 0) 0 [] [] sz := ⟨.inr ⟨b, 0, rfl, by simp, by simp, Nat.le_refl _⟩⟩
structure Row where
 t : Int
 id : Nat
 val : Int
 note : List UInt8
deriving DecidableEq
structure Kid where
 t : Int
 id : Nat
 page : Int
deriving DecidableEq
abbrev keyV (t : Int) (id : Nat) : List Value := [.int .i64 t, .int .u16 id]
abbrev rowV (r : Row) : List Value := [.int .i64 r.t, .int .u16 r.id, .int .i64 r.val, strV r.note]
abbrev kidV (k : Kid) : List Value := [.int .i64 k.t, .int .u16 k.id, .int .i64 k.page]
theorem XU (ρ : Hp) (n : Int) : Spec Tryz.prog 191 [.int .i64 n] ρ [] (fun v ρ' L' => v = .bool (decide (0 ≤ n ∧ n < 3)) ∧ ρ' = ρ ∧ L' = []) := by
 refine Zg Tryz.func191 rfl rfl rfl fun u R => ?_
 simp only [Zx, List.cons_append, List.nil_append]
 by_cases h0 : 0 ≤ n
 ·by_cases h1 : n < 3
  ·rw [decide_eq_true ⟨h0, h1⟩]
   repeat' (first | (refine Zj ?_; first | (refine Zf ?_; refine qQ ?_) | refine Zm ?_) | refine Za ?_ | (refine Zi ?_; refine Zt ?_) | (refine Zh ?_; refine Zs ?_) | intro _)
   exact qE ⟨rfl, rfl, rfl⟩
  ·rw [decide_eq_false (fun h => h1 h.2)]
   repeat' (first | (refine Zj ?_; first | (refine Zf ?_; refine qQ ?_) | refine Zm ?_) | refine Za ?_ | (refine Zi ?_; refine Zt ?_) | (refine Zh ?_; refine Zs ?_) | intro _)
   exact qE ⟨rfl, rfl, rfl⟩
 ·rw [decide_eq_false (fun h => h0 h.1)]
  repeat' (first | (refine Zj ?_; first | (refine Zf ?_; refine qQ ?_) | refine Zm ?_) | refine Za ?_ | (refine Zi ?_; refine Zt ?_) | (refine Zh ?_; refine Zs ?_) | intro _)
  exact qE ⟨rfl, rfl, rfl⟩
def cmpI (x y : Int) : Int := if x < y then -1 else if y < x then 1 else 0
theorem nanI_spec (ρ : Hp) (x : Int) : Spec Tryz.prog 153 [.int .i64 x] ρ [] (fun v ρ' L' => v = .bool false ∧ ρ' = ρ ∧ L' = []) := by
 refine Zg Tryz.func153 rfl rfl rfl fun u R => ?_
 simp only [Zx, List.cons_append, List.nil_append]
 repeat' (first | (refine Zj ?_; first | (refine Zf ?_; refine qQ ?_) | refine Zm ?_) | refine Za ?_ | (refine Zi ?_; refine Zt ?_) | (refine Zh ?_; refine Zs ?_) | intro _)
 exact qE ⟨rfl, rfl, rfl⟩
theorem nanU_spec (ρ : Hp) (x : Int) : Spec Tryz.prog 231 [.int .u16 x] ρ [] (fun v ρ' L' => v = .bool false ∧ ρ' = ρ ∧ L' = []) := by
 refine Zg Tryz.func231 rfl rfl rfl fun u R => ?_
 simp only [Zx, List.cons_append, List.nil_append]
 repeat' (first | (refine Zj ?_; first | (refine Zf ?_; refine qQ ?_) | refine Zm ?_) | refine Za ?_ | (refine Zi ?_; refine Zt ?_) | (refine Zh ?_; refine Zs ?_) | intro _)
 exact qE ⟨rfl, rfl, rfl⟩
theorem cmpI_spec (ρ : Hp) (x y : Int) : Spec Tryz.prog 103 [.int .i64 x, .int .i64 y] ρ [] (fun v ρ' L' => v = .int .i64 (cmpI x y) ∧ ρ' = ρ ∧ L' = []) := by
 refine Zg Tryz.func103 rfl rfl rfl fun u R => ?_
 simp only [Zx, List.cons_append, List.nil_append]
 unfold cmpI
 split
 ·repeat' (first | (refine Ze (.func 153) ?_; refine qC rfl rfl (nanI_spec _ _) ?_; rintro v ρ' L' hle ⟨rfl, rfl, rfl⟩ <;> (try simp only [kM, kN, kO])) | (refine Zj ?_; first | (refine Zf ?_; refine qQ ?_) | refine Zm ?_) | refine Za ?_ | (refine Zi ?_; refine Zt ?_) | (refine Zh ?_; refine Zs ?_) | intro _)
  exact qE ⟨rfl, rfl, rfl⟩
 ·split
  ·repeat' (first | (refine Ze (.func 153) ?_; refine qC rfl rfl (nanI_spec _ _) ?_; rintro v ρ' L' hle ⟨rfl, rfl, rfl⟩ <;> (try simp only [kM, kN, kO])) | (refine Zj ?_; first | (refine Zf ?_; refine qQ ?_) | refine Zm ?_) | refine Za ?_ | (refine Zi ?_; refine Zt ?_) | (refine Zh ?_; refine Zs ?_) | intro _)
   exact qE ⟨rfl, rfl, rfl⟩
  ·repeat' (first | (refine Ze (.func 153) ?_; refine qC rfl rfl (nanI_spec _ _) ?_; rintro v ρ' L' hle ⟨rfl, rfl, rfl⟩ <;> (try simp only [kM, kN, kO])) | (refine Zj ?_; first | (refine Zf ?_; refine qQ ?_) | refine Zm ?_) | refine Za ?_ | (refine Zi ?_; refine Zt ?_) | (refine Zh ?_; refine Zs ?_) | intro _)
   exact qE ⟨rfl, rfl, rfl⟩
theorem cmpU_spec (ρ : Hp) (x y : Int) : Spec Tryz.prog 227 [.int .u16 x, .int .u16 y] ρ [] (fun v ρ' L' => v = .int .i64 (cmpI x y) ∧ ρ' = ρ ∧ L' = []) := by
 refine Zg Tryz.func227 rfl rfl rfl fun u R => ?_
 simp only [Zx, List.cons_append, List.nil_append]
 unfold cmpI
 split
 ·repeat' (first | (refine Ze (.func 231) ?_; refine qC rfl rfl (nanU_spec _ _) ?_; rintro v ρ' L' hle ⟨rfl, rfl, rfl⟩ <;> (try simp only [kM, kN, kO])) | (refine Zj ?_; first | (refine Zf ?_; refine qQ ?_) | refine Zm ?_) | refine Za ?_ | (refine Zi ?_; refine Zt ?_) | (refine Zh ?_; refine Zs ?_) | intro _)
  exact qE ⟨rfl, rfl, rfl⟩
 ·split
  ·repeat' (first | (refine Ze (.func 231) ?_; refine qC rfl rfl (nanU_spec _ _) ?_; rintro v ρ' L' hle ⟨rfl, rfl, rfl⟩ <;> (try simp only [kM, kN, kO])) | (refine Zj ?_; first | (refine Zf ?_; refine qQ ?_) | refine Zm ?_) | refine Za ?_ | (refine Zi ?_; refine Zt ?_) | (refine Zh ?_; refine Zs ?_) | intro _)
   exact qE ⟨rfl, rfl, rfl⟩
  ·repeat' (first | (refine Ze (.func 231) ?_; refine qC rfl rfl (nanU_spec _ _) ?_; rintro v ρ' L' hle ⟨rfl, rfl, rfl⟩ <;> (try simp only [kM, kN, kO])) | (refine Zj ?_; first | (refine Zf ?_; refine qQ ?_) | refine Zm ?_) | refine Za ?_ | (refine Zi ?_; refine Zt ?_) | (refine Zh ?_; refine Zs ?_) | intro _)
   exact qE ⟨rfl, rfl, rfl⟩
theorem or2_spec (ρ : Hp) (b : Nat) (x y : Int) : Spec Tryz.prog 226 [.slice (some ⟨b, 0, none⟩) 2 2] ρ [[(b, .cells ⟨[.int .i64 x, .int .i64 y]⟩ 3 (0, 0))]]
  (fun v ρ' L' => v = .int .i64 (if x = 0 then y else x) ∧ ρ' = ρ ∧ L' = [[(b, .cells ⟨[.int .i64 x, .int .i64 y]⟩ 3 (0, 0))]]) := by
 refine Zg Tryz.func226 rfl rfl rfl fun u R => ?_
 simp only [Zx, List.cons_append, List.nil_append]
 repeat' (first | (refine Zj ?_; first | (refine Zf ?_; refine qQ ?_) | refine Zm ?_) | refine Za ?_ | (refine Zi ?_; refine Zt ?_) | (refine Zh ?_; refine Zs ?_) | intro _)
 refine ZG [(2, _), (3, _), (6, _), (7, _)] (fun (ζ : (Nat)) => [(8, .int .i64 ζ)]) (fun (ζ : (Nat)) => ρ) (fun (ζ : (Nat)) => []) (fun (ζ : (Nat)) => ζ = 0 ∨ (ζ = 1 ∧ x = 0) ∨ (ζ = 2 ∧ x = 0 ∧ y = 0)) (fun (ζ : (Nat)) => 3 - ζ) (0) (.inl rfl) Zo Zo rfl tk ?_
 rintro k hI
 try simp only [List.cons_append, List.nil_append, List.append_assoc, List.append_eq] at hI ⊢
 try dsimp only at hI ⊢
 rcases hI with rfl | ⟨rfl, rfl⟩ | ⟨rfl, rfl, rfl⟩
 ·by_cases h : x = 0
  ·subst h
   repeat' (first | (refine Zj ?_; first | (refine Zf ?_; refine qQ ?_) | refine Zm ?_) | refine Za ?_ | (refine Zi ?_; refine Zt ?_) | (refine Zh ?_; refine Zs ?_) | intro _)
   refine Zr (1) (.inr (.inl ⟨rfl, rfl⟩)) Zo Zo rfl tk inferInstance (by first | omega | (dsimp only; omega))
  ·rw [if_neg h]
   repeat' (first | (refine Zj ?_; first | (refine Zf ?_; refine qQ ?_) | refine Zm ?_) | refine Za ?_ | (refine Zi ?_; refine Zt ?_) | (refine Zh ?_; refine Zs ?_) | intro _)
   exact qE ⟨rfl, rfl, rfl⟩
 ·by_cases h : y = 0
  ·subst h
   repeat' (first | (refine Zj ?_; first | (refine Zf ?_; refine qQ ?_) | refine Zm ?_) | refine Za ?_ | (refine Zi ?_; refine Zt ?_) | (refine Zh ?_; refine Zs ?_) | intro _)
   refine Zr (2) (.inr (.inr ⟨rfl, rfl, rfl⟩)) Zo Zo rfl tk inferInstance (by first | omega | (dsimp only; omega))
  ·repeat' (first | (refine Zj ?_; first | (refine Zf ?_; refine qQ ?_) | refine Zm ?_) | refine Za ?_ | (refine Zi ?_; refine Zt ?_) | (refine Zh ?_; refine Zs ?_) | intro _)
   exact qE ⟨rfl, rfl, rfl⟩
 ·repeat' (first | (refine Zj ?_; first | (refine Zf ?_; refine qQ ?_) | refine Zm ?_) | refine Za ?_ | (refine Zi ?_; refine Zt ?_) | (refine Zh ?_; refine Zs ?_) | intro _)
  exact qE ⟨rfl, rfl, rfl⟩
def cmpK (t1 : Int) (i1 : Nat) (t2 : Int) (i2 : Nat) : Int := if cmpI t1 t2 = 0 then cmpI i1 i2 else cmpI t1 t2
theorem Yk (ρ : Hp) (t1 : Int) (i1 : Nat) (t2 : Int) (i2 : Nat) : Spec Tryz.prog 219 [.agg ⟨keyV t1 i1⟩, .agg ⟨keyV t2 i2⟩] ρ [] (fun v ρ' L' => v = .int .i64 (cmpK t1 i1 t2 i2) ∧ ρ' = ρ ∧ L' = []) := by
 refine Zg Tryz.func219 rfl rfl rfl fun u R => ?_
 simp only [Zx, List.cons_append, List.nil_append]
 repeat' (first | (refine Zj ?_; first | (refine Zf ?_; refine qQ ?_) | refine Zm ?_) | refine Za ?_ | (refine Zi ?_; refine Zt ?_) | (refine Zh ?_; refine Zs ?_) | intro _)
 refine ZC (Zq _ _ _) ZF ?_
 all_goals (refine ZY 0 ?_; refine Yf 1 ?_; refine ZY 2 ?_; refine Yf 3 ?_; refine ZY 5 ?_; refine Yf 6 ?_; refine ZY 7 ?_; refine Yf 8 ?_)
 all_goals (refine Zp (i := 4) ?_; ((try refine Zk ?_); (first | (refine Ze (.func 103) ?_; refine qC rfl rfl (cmpI_spec _ _ _) ?_; rintro v ρ' L' hle ⟨rfl, rfl, rfl⟩ <;> (try simp only [kM, kN, kO])) | (refine Zm ?_; try intro _)) <;> ((try simp only [kM, kN, kO]); refine Za ?_; refine Zl ?_)))
 all_goals (refine Zp (i := 9) ?_; ((try refine Zk ?_); (first | (refine Ze (.func 227) ?_; refine qC rfl rfl (cmpU_spec _ _ _) ?_; rintro v ρ' L' hle ⟨rfl, rfl, rfl⟩ <;> (try simp only [kM, kN, kO])) | (refine Zm ?_; try intro _)) <;> ((try simp only [kM, kN, kO]); refine Za ?_; refine Zl ?_)))
 all_goals (refine Zp (i := 10) ?_; ((try refine Zk ?_); (first | (refine Zz rfl rfl rfl rfl (by simp) rfl rfl (fun _ => ?_)) | (refine Zm ?_; try intro _)) <;> ((try simp only [kM, kN, kO]); refine Za ?_; refine Zl ?_)))
 all_goals (refine Zp (i := 11) ?_; ((try refine Zk ?_); (first | (refine Ze (.func 226) ?_; refine qC rfl rfl (or2_spec _ _ _ _) ?_; rintro v ρ' L' hle ⟨rfl, rfl, rfl⟩ <;> (try simp only [kM, kN, kO])) | (refine Zm ?_; try intro _)) <;> ((try simp only [kM, kN, kO]); refine Za ?_; refine Zl ?_)))
 all_goals (refine ZS ?_; refine rAs 12 ?_; refine ZH ?_)
 all_goals (repeat' (first | (refine Zj ?_; first | (refine Zf ?_; refine qQ ?_) | refine Zm ?_) | refine Za ?_ | (refine Zi ?_; refine Zt ?_) | (refine Zh ?_; refine Zs ?_) | intro _))
 all_goals exact qE ⟨rfl, rfl, rfl⟩
def Xd (r : Row) : Bool := decide ((0 ≤ r.t ∧ r.t < 3) ∧ r.note.length ≤ 8)
theorem checkRow_spec (ρ : Hp) (r : Row) : Spec Tryz.prog 174 [.agg ⟨rowV r⟩] ρ [] (fun v ρ' L' => v = .int .i64 (if Xd r then 0 else 151) ∧ ρ' = ρ ∧ L' = []) := by
 obtain ⟨t, id, val, note⟩ := r
 refine Zg Tryz.func174 rfl rfl rfl fun u R => ?_
 simp only [Zx, List.cons_append, List.nil_append, Xd, decide_eq_true_eq]
 by_cases h1 : 0 ≤ t ∧ t < 3
 ·have hd : decide (0 ≤ t ∧ t < 3) = true := decide_eq_true h1
  by_cases h2 : note.length ≤ 8
  ·rw [if_pos ⟨h1, h2⟩]
   repeat' (first | (refine Ze (.func 191) ?_; refine qC rfl rfl (XU _ _) ?_; rintro v ρ' L' hle ⟨rfl, rfl, rfl⟩ <;> (try simp only [kM, kN, kO, hd])) | (refine Zj ?_; first | (refine Zf ?_; refine qQ ?_) | refine Zm ?_) | refine Za ?_ | (refine Zi ?_; refine Zt ?_) | (refine Zh ?_; refine Zs ?_) | intro _)
   exact qE ⟨rfl, rfl, rfl⟩
  ·rw [if_neg (fun h => h2 h.2)]
   repeat' (first | (refine Ze (.func 191) ?_; refine qC rfl rfl (XU _ _) ?_; rintro v ρ' L' hle ⟨rfl, rfl, rfl⟩ <;> (try simp only [kM, kN, kO, hd])) | (refine Zj ?_; first | (refine Zf ?_; refine qQ ?_) | refine Zm ?_) | refine Za ?_ | (refine Zi ?_; refine Zt ?_) | (refine Zh ?_; refine Zs ?_) | intro _)
   exact qE ⟨rfl, rfl, rfl⟩
 ·have hd : decide (0 ≤ t ∧ t < 3) = false := decide_eq_false h1
  rw [if_neg (fun h => h1 h.1)]
  repeat' (first | (refine Ze (.func 191) ?_; refine qC rfl rfl (XU _ _) ?_; rintro v ρ' L' hle ⟨rfl, rfl, rfl⟩ <;> (try simp only [kM, kN, kO, hd])) | (refine Zj ?_; first | (refine Zf ?_; refine qQ ?_) | refine Zm ?_) | refine Za ?_ | (refine Zi ?_; refine Zt ?_) | (refine Zh ?_; refine Zs ?_) | intro _)
  exact qE ⟨rfl, rfl, rfl⟩
def ZK {α : Type} (most : Nat) (right : Nat → α → Bool) (lt : α → α → Bool) (l : List α) : Nat → Bool
 | 0 => decide (l.length ≤ most)
 | k + 1 => ZK most right lt l k && (match l[k]? with | some x => right k x && (decide (k = 0) || (match l[k - 1]? with | some y => lt y x | none => false)) | none => false)
theorem YR {α : Type} {most : Nat} {right : Nat → α → Bool} {lt : α → α → Bool} {l : List α} {k : Nat} (h : k < l.length) : ZK most right lt l (k + 1) = (ZK most right lt l k && (right k l[k] && (decide (k = 0) || lt (l[k - 1]'(by omega)) l[k]))) := by
 rw [ZK]
 simp [h, show k - 1 < l.length by omega]
theorem risesB_false {α : Type} {most : Nat} {right : Nat → α → Bool} {lt : α → α → Bool} {l : List α} {k : Nat} (h : ZK most right lt l k = false) : ∀ m, ZK most right lt l (k + m) = false
 | 0 => h
 | m + 1 => by rw [← Nat.add_assoc, ZK, risesB_false h m]; rfl
theorem YK {α : Type} {most : Nat} {right : Nat → α → Bool} {lt : α → α → Bool} {l : List α} {k n : Nat} (h : ZK most right lt l k = false) (hk : k ≤ n) : ZK most right lt l n = false := by
 have := risesB_false h (n - k)
 rwa [Nat.add_sub_cancel' hk] at this
theorem ZD (ρ : Hp) (r : Row) : Spec Tryz.prog 206 [.agg ⟨rowV r⟩] ρ [] (fun v ρ' L' => v = .agg ⟨keyV r.t r.id⟩ ∧ ρ' = ρ ∧ L' = []) := by
 refine Zg Tryz.func206 rfl rfl rfl fun u R => ?_
 simp only [Zx, List.cons_append, List.nil_append]
 repeat' (first | (refine Zj ?_; first | (refine Zf ?_; refine qQ ?_) | refine Zm ?_) | refine Za ?_ | (refine Zi ?_; refine Zt ?_) | (refine Zh ?_; refine Zs ?_) | intro _)
 exact qE ⟨rfl, rfl, rfl⟩
theorem Yb (ρ : Hp) (i : Int) (r : Row) : Spec Tryz.prog 207 [.int .i64 i, .agg ⟨rowV r⟩] ρ [] (fun v ρ' L' => v = .bool (Xd r) ∧ ρ' = ρ ∧ L' = []) := by
 refine Zg Tryz.func207 rfl rfl rfl fun u R => ?_
 simp only [Zx, List.cons_append, List.nil_append]
 cases h : Xd r
 ·repeat' (first | (refine Ze (.func 174) ?_; refine qC rfl rfl (checkRow_spec _ r) ?_; rintro v ρ' L' hle ⟨rfl, rfl, rfl⟩ <;> (try simp only [kM, kN, kO, h, if_false, Bool.false_eq_true])) | (refine Zj ?_; first | (refine Zf ?_; refine qQ ?_) | refine Zm ?_) | refine Za ?_ | (refine Zi ?_; refine Zt ?_) | (refine Zh ?_; refine Zs ?_) | intro _)
  exact qE ⟨rfl, rfl, rfl⟩
 ·repeat' (first | (refine Ze (.func 174) ?_; refine qC rfl rfl (checkRow_spec _ r) ?_; rintro v ρ' L' hle ⟨rfl, rfl, rfl⟩ <;> (try simp only [kM, kN, kO, h, if_true])) | (refine Zj ?_; first | (refine Zf ?_; refine qQ ?_) | refine Zm ?_) | refine Za ?_ | (refine Zi ?_; refine Zt ?_) | (refine Zh ?_; refine Zs ?_) | intro _)
  exact qE ⟨rfl, rfl, rfl⟩
def ltR (y x : Row) : Bool := decide (cmpK y.t y.id x.t x.id < 0)
def rowsOk (l : List Row) : Bool := ZK 4 (fun _ r => Xd r) ltR l l.length
theorem rowV_len (r : Row) : (rowV r).length = 4 := rfl
theorem risesRow_spec (ρ : Hp) (a : Option Addr) (n c : Nat) (l : List Row) (h : AIn ρ 4 rowV a n l) (hn : n ≤ 1000000) :
  Spec Tryz.prog 205 [.slice a n c, .int .i64 4, .func (.func 206) ⟨[]⟩ ⟨[]⟩, .func (.func 207) ⟨[]⟩ ⟨[]⟩] ρ [] (fun v ρ' L' => v = .bool (rowsOk l) ∧ ρ' = ρ ∧ L' = []) := by
 have hl := h.len
 unfold rowsOk
 rw [hl]
 refine Zg Tryz.func205 rfl rfl rfl fun u R => ?_
 simp only [Zx, List.cons_append, List.nil_append]
 repeat' (first | (refine Zj ?_; first | (refine Zf ?_; refine qQ ?_) | refine Zm ?_) | refine Za ?_ | (refine Zi ?_; refine Zt ?_) | (refine Zh ?_; refine Zs ?_) | intro _)
 have e0 : decide ((n : Int) ≤ 4) = ZK 4 (fun _ r => Xd r) ltR l 0 := by
  rw [ZK]; simp [hl]; omega
 rw [e0]
 refine ZG [(0, _), (2, _), (3, _), (8, _), (16, _), (17, _)] (fun (ζ : (Nat)) => [(18, .int .i64 ζ), (9, .bool (ZK 4 (fun _ r => Xd r) ltR l ζ))]) (fun (ζ : (Nat)) => ρ) (fun (ζ : (Nat)) => []) (fun (ζ : (Nat)) => ζ ≤ n) (fun (ζ : (Nat)) => n - ζ) (0) (Nat.zero_le _) Zo Zo rfl tk ?_
 rintro k hI
 try simp only [List.cons_append, List.nil_append, List.append_assoc, List.append_eq] at hI ⊢
 try dsimp only at hI ⊢
 by_cases hlt : k < n
 ·obtain ⟨b, off, C, T, fr, rfl, hb, hfit, hc⟩ := h.get (show k < l.length by omega)
  have hs := YR (most := 4) (right := fun _ r => Xd r) (lt := ltR) (show k < l.length by omega)
  have hfin := fun (e : ZK 4 (fun _ r => Xd r) ltR l (k + 1) = false) => YK e (show k + 1 ≤ n by omega)
  cases hok : ZK 4 (fun _ r => Xd r) ltR l k
  ·rw [hok, Bool.false_and] at hs
   rw [hfin hs]
   generalize l[k] = x at *
   repeat' (first | (refine Zj ?_; first | (refine Zf ?_; refine qQ ?_) | refine Zm ?_) | refine Za ?_ | (refine Zi ?_; refine Zt ?_) | (refine Zh ?_; refine Zs ?_) | intro _)
   refine ZC (Zq _ _ _) ZF ?_
   all_goals (refine ZU 0 ?_; refine ZU 1 ?_; (first | refine Zc 2 ?_ | refine Zb 2 ?_ | refine ZI 2 ?_); (first | refine Zc 3 ?_ | refine Zb 3 ?_ | refine ZI 3 ?_); (first | refine Zc 4 ?_ | refine Zb 4 ?_ | refine wLd 4 ?_))
   all_goals (first | refine Zc 5 ?_ | refine Zb 5 ?_ | (refine Zp (i := 5) ?_; ((try refine Zk ?_); (first | (refine Zm ?_; try intro _)) <;> ((try simp only [kM, kN, kO]); refine Za ?_; refine Zl ?_))))
   all_goals (refine rPk 6 ?_; refine ZU 7 ?_; (first | refine Zc 8 ?_ | refine Zb 8 ?_ | refine ZI 8 ?_); (first | refine Zc 9 ?_ | refine Zb 9 ?_ | refine wCm 9 ?_); (first | refine Zc 10 ?_ | refine Zb 10 ?_ | refine ZI 10 ?_); (first | refine Zc 11 ?_ | refine Zb 11 ?_ | refine ZI 11 ?_); (first | refine Zc 12 ?_ | refine Zb 12 ?_ | refine ZI 12 ?_); (first | refine Zc 13 ?_ | refine Zb 13 ?_ | refine ZI 13 ?_); (first | refine Zc 14 ?_ | refine Zb 14 ?_ | refine wSb 14 ?_); (first | refine Zc 15 ?_ | refine Zb 15 ?_ | refine wIa 15 ?_); (first | refine Zc 16 ?_ | refine Zb 16 ?_ | refine wLd 16 ?_); (first | refine Zc 18 ?_ | refine Zb 18 ?_ | refine ZI 18 ?_); (first | refine Zc 19 ?_ | refine Zb 19 ?_ | refine wLd 19 ?_))
   all_goals (first | refine Zc 17 ?_ | refine Zb 17 ?_ | (refine Zp (i := 17) ?_; ((try refine Zk ?_); (first | (refine Zm ?_; try intro _)) <;> ((try simp only [kM, kN, kO]); refine Za ?_; refine Zl ?_))))
   all_goals (first | refine Zc 20 ?_ | refine Zb 20 ?_ | (refine Zp (i := 20) ?_; ((try refine Zk ?_); (first | (refine Zm ?_; try intro _)) <;> ((try simp only [kM, kN, kO]); refine Za ?_; refine Zl ?_))))
   all_goals (first | refine Zc 21 ?_ | refine Zb 21 ?_ | (refine Zp (i := 21) ?_; ((try refine Zk ?_); (first | (refine Zm ?_; try intro _)) <;> ((try simp only [kM, kN, kO]); refine Za ?_; refine Zl ?_))))
   all_goals (refine ZS ?_; (first | refine Zc 22 ?_ | refine Zb 22 ?_ | refine wCm 22 ?_); (first | refine Zc 23 ?_ | refine Zb 23 ?_ | refine wPk 23 ?_); refine rPk 24 ?_; refine rAs 25 ?_; refine ZH ?_)
   repeat' (first | (refine Zj ?_; first | (refine Zf ?_; refine qQ ?_) | refine Zm ?_) | refine Za ?_ | (refine Zi ?_; refine Zt ?_) | (refine Zh ?_; refine Zs ?_) | intro _)
   exact qE ⟨rfl, rfl, rfl⟩
  ·rw [hok, Bool.true_and] at hs
   cases hx : Xd l[k]
   ·rw [hx, Bool.false_and] at hs
    rw [hfin hs]
    generalize l[k] = x at *
    repeat' (first | (refine Zj ?_; first | (refine Zf ?_; refine qQ ?_) | refine Zm ?_) | refine Za ?_ | (refine Zi ?_; refine Zt ?_) | (refine Zh ?_; refine Zs ?_) | intro _)
    refine ZC (Zq _ _ _) ZF ?_
    all_goals (refine ZU 0 ?_; refine ZU 1 ?_; (first | refine Zc 2 ?_ | refine Zb 2 ?_ | refine ZI 2 ?_); (first | refine Zc 3 ?_ | refine Zb 3 ?_ | refine ZI 3 ?_); (first | refine Zc 4 ?_ | refine Zb 4 ?_ | refine wLd 4 ?_))
    all_goals (first | refine Zc 5 ?_ | refine Zb 5 ?_ | (refine Zp (i := 5) ?_; ((try refine Zk ?_); (first | (refine Ze (.tmp 25) ?_; refine qC rfl rfl (Yb _ _ _) ?_; rintro v ρ' L' hle ⟨rfl, rfl, rfl⟩ <;> (try simp only [kM, kN, kO, hx])) | (refine Ze (.tmp 34) ?_; refine qC rfl rfl (ZD _ _) ?_; rintro v ρ' L' hle ⟨rfl, rfl, rfl⟩ <;> (try simp only [kM, kN, kO])) | (refine Ze (.tmp 41) ?_; refine qC rfl rfl (ZD _ _) ?_; rintro v ρ' L' hle ⟨rfl, rfl, rfl⟩ <;> (try simp only [kM, kN, kO])) | (refine Zm ?_; try intro _)) <;> ((try simp only [kM, kN, kO]); refine Za ?_; refine Zl ?_))))
    all_goals (refine rPk 6 ?_; refine ZU 7 ?_; (first | refine Zc 8 ?_ | refine Zb 8 ?_ | refine ZI 8 ?_); (first | refine Zc 9 ?_ | refine Zb 9 ?_ | refine wCm 9 ?_); (first | refine Zc 10 ?_ | refine Zb 10 ?_ | refine ZI 10 ?_); (first | refine Zc 11 ?_ | refine Zb 11 ?_ | refine ZI 11 ?_); (first | refine Zc 12 ?_ | refine Zb 12 ?_ | refine ZI 12 ?_); (first | refine Zc 13 ?_ | refine Zb 13 ?_ | refine ZI 13 ?_); (first | refine Zc 14 ?_ | refine Zb 14 ?_ | refine wSb 14 ?_); (first | refine Zc 15 ?_ | refine Zb 15 ?_ | refine wIa 15 ?_); (first | refine Zc 16 ?_ | refine Zb 16 ?_ | refine wLd 16 ?_); (first | refine Zc 18 ?_ | refine Zb 18 ?_ | refine ZI 18 ?_); (first | refine Zc 19 ?_ | refine Zb 19 ?_ | refine wLd 19 ?_))
    all_goals (first | refine Zc 17 ?_ | refine Zb 17 ?_ | (refine Zp (i := 17) ?_; ((try refine Zk ?_); (first | (refine Ze (.tmp 25) ?_; refine qC rfl rfl (Yb _ _ _) ?_; rintro v ρ' L' hle ⟨rfl, rfl, rfl⟩ <;> (try simp only [kM, kN, kO, hx])) | (refine Ze (.tmp 34) ?_; refine qC rfl rfl (ZD _ _) ?_; rintro v ρ' L' hle ⟨rfl, rfl, rfl⟩ <;> (try simp only [kM, kN, kO])) | (refine Ze (.tmp 41) ?_; refine qC rfl rfl (ZD _ _) ?_; rintro v ρ' L' hle ⟨rfl, rfl, rfl⟩ <;> (try simp only [kM, kN, kO])) | (refine Zm ?_; try intro _)) <;> ((try simp only [kM, kN, kO]); refine Za ?_; refine Zl ?_))))
    all_goals (first | refine Zc 20 ?_ | refine Zb 20 ?_ | (refine Zp (i := 20) ?_; ((try refine Zk ?_); (first | (refine Ze (.tmp 25) ?_; refine qC rfl rfl (Yb _ _ _) ?_; rintro v ρ' L' hle ⟨rfl, rfl, rfl⟩ <;> (try simp only [kM, kN, kO, hx])) | (refine Ze (.tmp 34) ?_; refine qC rfl rfl (ZD _ _) ?_; rintro v ρ' L' hle ⟨rfl, rfl, rfl⟩ <;> (try simp only [kM, kN, kO])) | (refine Ze (.tmp 41) ?_; refine qC rfl rfl (ZD _ _) ?_; rintro v ρ' L' hle ⟨rfl, rfl, rfl⟩ <;> (try simp only [kM, kN, kO])) | (refine Zm ?_; try intro _)) <;> ((try simp only [kM, kN, kO]); refine Za ?_; refine Zl ?_))))
    all_goals (first | refine Zc 21 ?_ | refine Zb 21 ?_ | (refine Zp (i := 21) ?_; ((try refine Zk ?_); (first | (refine Ze (.func 219) ?_; refine qC rfl rfl (Yk _ _ _ _ _) ?_; rintro v ρ' L' hle ⟨rfl, rfl, rfl⟩ <;> (try simp only [kM, kN, kO])) | (refine Zm ?_; try intro _)) <;> ((try simp only [kM, kN, kO]); refine Za ?_; refine Zl ?_))))
    all_goals (refine ZS ?_; (first | refine Zc 22 ?_ | refine Zb 22 ?_ | refine wCm 22 ?_); (first | refine Zc 23 ?_ | refine Zb 23 ?_ | refine wPk 23 ?_); refine rPk 24 ?_; refine rAs 25 ?_; refine ZH ?_)
    repeat' (first | (refine Zj ?_; first | (refine Zf ?_; refine qQ ?_) | refine Zm ?_) | refine Za ?_ | (refine Zi ?_; refine Zt ?_) | (refine Zh ?_; refine Zs ?_) | intro _)
    exact qE ⟨rfl, rfl, rfl⟩
   ·rw [hx, Bool.true_and] at hs
    by_cases hk0 : k = 0
    ·have hs' : ZK 4 (fun _ r => Xd r) ltR l (k + 1) = true := by rw [hs]; simp [hk0]
     generalize l[k] = x at *
     repeat' (first | (refine Zj ?_; first | (refine Zf ?_; refine qQ ?_) | refine Zm ?_) | refine Za ?_ | (refine Zi ?_; refine Zt ?_) | (refine Zh ?_; refine Zs ?_) | intro _)
     refine ZC (Zq _ _ _) ZF ?_
     all_goals (refine ZU 0 ?_; refine ZU 1 ?_; (first | refine Zc 2 ?_ | refine Zb 2 ?_ | refine ZI 2 ?_); (first | refine Zc 3 ?_ | refine Zb 3 ?_ | refine ZI 3 ?_); (first | refine Zc 4 ?_ | refine Zb 4 ?_ | refine wLd 4 ?_))
     all_goals (first | refine Zc 5 ?_ | refine Zb 5 ?_ | (refine Zp (i := 5) ?_; ((try refine Zk ?_); (first | (refine Ze (.tmp 25) ?_; refine qC rfl rfl (Yb _ _ _) ?_; rintro v ρ' L' hle ⟨rfl, rfl, rfl⟩ <;> (try simp only [kM, kN, kO, hx])) | (refine Ze (.tmp 34) ?_; refine qC rfl rfl (ZD _ _) ?_; rintro v ρ' L' hle ⟨rfl, rfl, rfl⟩ <;> (try simp only [kM, kN, kO])) | (refine Ze (.tmp 41) ?_; refine qC rfl rfl (ZD _ _) ?_; rintro v ρ' L' hle ⟨rfl, rfl, rfl⟩ <;> (try simp only [kM, kN, kO])) | (refine Zm ?_; try intro _)) <;> ((try simp only [kM, kN, kO]); refine Za ?_; refine Zl ?_))))
     all_goals (refine rPk 6 ?_; refine ZU 7 ?_; (first | refine Zc 8 ?_ | refine Zb 8 ?_ | refine ZI 8 ?_); (first | refine Zc 9 ?_ | refine Zb 9 ?_ | refine wCm 9 ?_); (first | refine Zc 10 ?_ | refine Zb 10 ?_ | refine ZI 10 ?_); (first | refine Zc 11 ?_ | refine Zb 11 ?_ | refine ZI 11 ?_); (first | refine Zc 12 ?_ | refine Zb 12 ?_ | refine ZI 12 ?_); (first | refine Zc 13 ?_ | refine Zb 13 ?_ | refine ZI 13 ?_); (first | refine Zc 14 ?_ | refine Zb 14 ?_ | refine wSb 14 ?_); (first | refine Zc 15 ?_ | refine Zb 15 ?_ | refine wIa 15 ?_); (first | refine Zc 16 ?_ | refine Zb 16 ?_ | refine wLd 16 ?_); (first | refine Zc 18 ?_ | refine Zb 18 ?_ | refine ZI 18 ?_); (first | refine Zc 19 ?_ | refine Zb 19 ?_ | refine wLd 19 ?_))
     all_goals (first | refine Zc 17 ?_ | refine Zb 17 ?_ | (refine Zp (i := 17) ?_; ((try refine Zk ?_); (first | (refine Ze (.tmp 25) ?_; refine qC rfl rfl (Yb _ _ _) ?_; rintro v ρ' L' hle ⟨rfl, rfl, rfl⟩ <;> (try simp only [kM, kN, kO, hx])) | (refine Ze (.tmp 34) ?_; refine qC rfl rfl (ZD _ _) ?_; rintro v ρ' L' hle ⟨rfl, rfl, rfl⟩ <;> (try simp only [kM, kN, kO])) | (refine Ze (.tmp 41) ?_; refine qC rfl rfl (ZD _ _) ?_; rintro v ρ' L' hle ⟨rfl, rfl, rfl⟩ <;> (try simp only [kM, kN, kO])) | (refine Zm ?_; try intro _)) <;> ((try simp only [kM, kN, kO]); refine Za ?_; refine Zl ?_))))
     all_goals (first | refine Zc 20 ?_ | refine Zb 20 ?_ | (refine Zp (i := 20) ?_; ((try refine Zk ?_); (first | (refine Ze (.tmp 25) ?_; refine qC rfl rfl (Yb _ _ _) ?_; rintro v ρ' L' hle ⟨rfl, rfl, rfl⟩ <;> (try simp only [kM, kN, kO, hx])) | (refine Ze (.tmp 34) ?_; refine qC rfl rfl (ZD _ _) ?_; rintro v ρ' L' hle ⟨rfl, rfl, rfl⟩ <;> (try simp only [kM, kN, kO])) | (refine Ze (.tmp 41) ?_; refine qC rfl rfl (ZD _ _) ?_; rintro v ρ' L' hle ⟨rfl, rfl, rfl⟩ <;> (try simp only [kM, kN, kO])) | (refine Zm ?_; try intro _)) <;> ((try simp only [kM, kN, kO]); refine Za ?_; refine Zl ?_))))
     all_goals (first | refine Zc 21 ?_ | refine Zb 21 ?_ | (refine Zp (i := 21) ?_; ((try refine Zk ?_); (first | (refine Ze (.func 219) ?_; refine qC rfl rfl (Yk _ _ _ _ _) ?_; rintro v ρ' L' hle ⟨rfl, rfl, rfl⟩ <;> (try simp only [kM, kN, kO])) | (refine Zm ?_; try intro _)) <;> ((try simp only [kM, kN, kO]); refine Za ?_; refine Zl ?_))))
     all_goals (refine ZS ?_; (first | refine Zc 22 ?_ | refine Zb 22 ?_ | refine wCm 22 ?_); (first | refine Zc 23 ?_ | refine Zb 23 ?_ | refine wPk 23 ?_); refine rPk 24 ?_; refine rAs 25 ?_; refine ZH ?_)
     repeat' (first | (refine Zj ?_; first | (refine Zf ?_; refine qQ ?_) | refine Zm ?_) | refine Za ?_ | (refine Zi ?_; refine Zt ?_) | (refine Zh ?_; refine Zs ?_) | intro _)
     rw [← hs']
     refine Zr (k + 1) (hlt) Zo Zo rfl tk inferInstance (by first | omega | (dsimp only; omega))
    ·have hd : decide (k = 0) = false := decide_eq_false hk0
     obtain ⟨b2, off2, C2, T2, fr2, f1, hb2, hfit2, hc2⟩ := h.get (show k - 1 < l.length by omega)
     cases f1
     rw [hb] at hb2
     cases hb2
     have ek : ((k : Int) - 1).toNat = k - 1 := by omega
     rw [← ek] at hfit2
     have hc3 : List.take 4 (List.drop (off + ((k : Int) - 1).toNat * 4) C) = rowV (l[k - 1]'(by omega)) := by rw [ek]; exact hc2
     clear hc2
     rw [hd, Bool.false_or] at hs
     generalize l[k] = x at *
     generalize l[k - 1]'(by omega) = y at *
     unfold ltR at hs
     by_cases hcm : cmpK y.t y.id x.t x.id < 0
     ·rw [decide_eq_true hcm] at hs
      repeat' (first | (refine Zj ?_; first | (refine Zf ?_; refine qQ ?_) | refine Zm ?_) | refine Za ?_ | (refine Zi ?_; refine Zt ?_) | (refine Zh ?_; refine Zs ?_) | intro _)
      refine ZC (Zq _ _ _) ZF ?_
      all_goals (refine ZU 0 ?_; refine ZU 1 ?_; (first | refine Zc 2 ?_ | refine Zb 2 ?_ | refine ZI 2 ?_); (first | refine Zc 3 ?_ | refine Zb 3 ?_ | refine ZI 3 ?_); (first | refine Zc 4 ?_ | refine Zb 4 ?_ | refine wLd 4 ?_))
      all_goals (first | refine Zc 5 ?_ | refine Zb 5 ?_ | (refine Zp (i := 5) ?_; ((try refine Zk ?_); (first | (refine Ze (.tmp 25) ?_; refine qC rfl rfl (Yb _ _ _) ?_; rintro v ρ' L' hle ⟨rfl, rfl, rfl⟩ <;> (try simp only [kM, kN, kO, hx])) | (refine Ze (.tmp 34) ?_; refine qC rfl rfl (ZD _ _) ?_; rintro v ρ' L' hle ⟨rfl, rfl, rfl⟩ <;> (try simp only [kM, kN, kO])) | (refine Ze (.tmp 41) ?_; refine qC rfl rfl (ZD _ _) ?_; rintro v ρ' L' hle ⟨rfl, rfl, rfl⟩ <;> (try simp only [kM, kN, kO])) | (refine Zm ?_; try intro _)) <;> ((try simp only [kM, kN, kO]); refine Za ?_; refine Zl ?_))))
      all_goals (refine rPk 6 ?_; refine ZU 7 ?_; (first | refine Zc 8 ?_ | refine Zb 8 ?_ | refine ZI 8 ?_); (first | refine Zc 9 ?_ | refine Zb 9 ?_ | refine wCm 9 ?_); (first | refine Zc 10 ?_ | refine Zb 10 ?_ | refine ZI 10 ?_); (first | refine Zc 11 ?_ | refine Zb 11 ?_ | refine ZI 11 ?_); (first | refine Zc 12 ?_ | refine Zb 12 ?_ | refine ZI 12 ?_); (first | refine Zc 13 ?_ | refine Zb 13 ?_ | refine ZI 13 ?_); (first | refine Zc 14 ?_ | refine Zb 14 ?_ | refine wSb 14 ?_); (first | refine Zc 15 ?_ | refine Zb 15 ?_ | refine wIa 15 ?_); (first | refine Zc 16 ?_ | refine Zb 16 ?_ | refine wLd 16 ?_); (first | refine Zc 18 ?_ | refine Zb 18 ?_ | refine ZI 18 ?_); (first | refine Zc 19 ?_ | refine Zb 19 ?_ | refine wLd 19 ?_))
      all_goals (first | refine Zc 17 ?_ | refine Zb 17 ?_ | (refine Zp (i := 17) ?_; ((try refine Zk ?_); (first | (refine Ze (.tmp 25) ?_; refine qC rfl rfl (Yb _ _ _) ?_; rintro v ρ' L' hle ⟨rfl, rfl, rfl⟩ <;> (try simp only [kM, kN, kO, hx])) | (refine Ze (.tmp 34) ?_; refine qC rfl rfl (ZD _ _) ?_; rintro v ρ' L' hle ⟨rfl, rfl, rfl⟩ <;> (try simp only [kM, kN, kO])) | (refine Ze (.tmp 41) ?_; refine qC rfl rfl (ZD _ _) ?_; rintro v ρ' L' hle ⟨rfl, rfl, rfl⟩ <;> (try simp only [kM, kN, kO])) | (refine Zm ?_; try intro _)) <;> ((try simp only [kM, kN, kO]); refine Za ?_; refine Zl ?_))))
      all_goals (first | refine Zc 20 ?_ | refine Zb 20 ?_ | (refine Zp (i := 20) ?_; ((try refine Zk ?_); (first | (refine Ze (.tmp 25) ?_; refine qC rfl rfl (Yb _ _ _) ?_; rintro v ρ' L' hle ⟨rfl, rfl, rfl⟩ <;> (try simp only [kM, kN, kO, hx])) | (refine Ze (.tmp 34) ?_; refine qC rfl rfl (ZD _ _) ?_; rintro v ρ' L' hle ⟨rfl, rfl, rfl⟩ <;> (try simp only [kM, kN, kO])) | (refine Ze (.tmp 41) ?_; refine qC rfl rfl (ZD _ _) ?_; rintro v ρ' L' hle ⟨rfl, rfl, rfl⟩ <;> (try simp only [kM, kN, kO])) | (refine Zm ?_; try intro _)) <;> ((try simp only [kM, kN, kO]); refine Za ?_; refine Zl ?_))))
      all_goals (first | refine Zc 21 ?_ | refine Zb 21 ?_ | (refine Zp (i := 21) ?_; ((try refine Zk ?_); (first | (refine Ze (.func 219) ?_; refine qC rfl rfl (Yk _ _ _ _ _) ?_; rintro v ρ' L' hle ⟨rfl, rfl, rfl⟩ <;> (try simp only [kM, kN, kO])) | (refine Zm ?_; try intro _)) <;> ((try simp only [kM, kN, kO]); refine Za ?_; refine Zl ?_))))
      all_goals (refine ZS ?_; (first | refine Zc 22 ?_ | refine Zb 22 ?_ | refine wCm 22 ?_); (first | refine Zc 23 ?_ | refine Zb 23 ?_ | refine wPk 23 ?_); refine rPk 24 ?_; refine rAs 25 ?_; refine ZH ?_)
      all_goals (repeat' (first | (refine Zj ?_; first | (refine Zf ?_; refine qQ ?_) | refine Zm ?_) | refine Za ?_ | (refine Zi ?_; refine Zt ?_) | (refine Zh ?_; refine Zs ?_) | intro _))
      all_goals rw [← hs]
      all_goals refine Zr (k + 1) (hlt) Zo Zo rfl tk inferInstance (by first | omega | (dsimp only; omega))
     ·rw [decide_eq_false hcm] at hs
      rw [hfin hs]
      repeat' (first | (refine Zj ?_; first | (refine Zf ?_; refine qQ ?_) | refine Zm ?_) | refine Za ?_ | (refine Zi ?_; refine Zt ?_) | (refine Zh ?_; refine Zs ?_) | intro _)
      refine ZC (Zq _ _ _) ZF ?_
      all_goals (refine ZU 0 ?_; refine ZU 1 ?_; (first | refine Zc 2 ?_ | refine Zb 2 ?_ | refine ZI 2 ?_); (first | refine Zc 3 ?_ | refine Zb 3 ?_ | refine ZI 3 ?_); (first | refine Zc 4 ?_ | refine Zb 4 ?_ | refine wLd 4 ?_))
      all_goals (first | refine Zc 5 ?_ | refine Zb 5 ?_ | (refine Zp (i := 5) ?_; ((try refine Zk ?_); (first | (refine Ze (.tmp 25) ?_; refine qC rfl rfl (Yb _ _ _) ?_; rintro v ρ' L' hle ⟨rfl, rfl, rfl⟩ <;> (try simp only [kM, kN, kO, hx])) | (refine Ze (.tmp 34) ?_; refine qC rfl rfl (ZD _ _) ?_; rintro v ρ' L' hle ⟨rfl, rfl, rfl⟩ <;> (try simp only [kM, kN, kO])) | (refine Ze (.tmp 41) ?_; refine qC rfl rfl (ZD _ _) ?_; rintro v ρ' L' hle ⟨rfl, rfl, rfl⟩ <;> (try simp only [kM, kN, kO])) | (refine Zm ?_; try intro _)) <;> ((try simp only [kM, kN, kO]); refine Za ?_; refine Zl ?_))))
      all_goals (refine rPk 6 ?_; refine ZU 7 ?_; (first | refine Zc 8 ?_ | refine Zb 8 ?_ | refine ZI 8 ?_); (first | refine Zc 9 ?_ | refine Zb 9 ?_ | refine wCm 9 ?_); (first | refine Zc 10 ?_ | refine Zb 10 ?_ | refine ZI 10 ?_); (first | refine Zc 11 ?_ | refine Zb 11 ?_ | refine ZI 11 ?_); (first | refine Zc 12 ?_ | refine Zb 12 ?_ | refine ZI 12 ?_); (first | refine Zc 13 ?_ | refine Zb 13 ?_ | refine ZI 13 ?_); (first | refine Zc 14 ?_ | refine Zb 14 ?_ | refine wSb 14 ?_); (first | refine Zc 15 ?_ | refine Zb 15 ?_ | refine wIa 15 ?_); (first | refine Zc 16 ?_ | refine Zb 16 ?_ | refine wLd 16 ?_); (first | refine Zc 18 ?_ | refine Zb 18 ?_ | refine ZI 18 ?_); (first | refine Zc 19 ?_ | refine Zb 19 ?_ | refine wLd 19 ?_))
      all_goals (first | refine Zc 17 ?_ | refine Zb 17 ?_ | (refine Zp (i := 17) ?_; ((try refine Zk ?_); (first | (refine Ze (.tmp 25) ?_; refine qC rfl rfl (Yb _ _ _) ?_; rintro v ρ' L' hle ⟨rfl, rfl, rfl⟩ <;> (try simp only [kM, kN, kO, hx])) | (refine Ze (.tmp 34) ?_; refine qC rfl rfl (ZD _ _) ?_; rintro v ρ' L' hle ⟨rfl, rfl, rfl⟩ <;> (try simp only [kM, kN, kO])) | (refine Ze (.tmp 41) ?_; refine qC rfl rfl (ZD _ _) ?_; rintro v ρ' L' hle ⟨rfl, rfl, rfl⟩ <;> (try simp only [kM, kN, kO])) | (refine Zm ?_; try intro _)) <;> ((try simp only [kM, kN, kO]); refine Za ?_; refine Zl ?_))))
      all_goals (first | refine Zc 20 ?_ | refine Zb 20 ?_ | (refine Zp (i := 20) ?_; ((try refine Zk ?_); (first | (refine Ze (.tmp 25) ?_; refine qC rfl rfl (Yb _ _ _) ?_; rintro v ρ' L' hle ⟨rfl, rfl, rfl⟩ <;> (try simp only [kM, kN, kO, hx])) | (refine Ze (.tmp 34) ?_; refine qC rfl rfl (ZD _ _) ?_; rintro v ρ' L' hle ⟨rfl, rfl, rfl⟩ <;> (try simp only [kM, kN, kO])) | (refine Ze (.tmp 41) ?_; refine qC rfl rfl (ZD _ _) ?_; rintro v ρ' L' hle ⟨rfl, rfl, rfl⟩ <;> (try simp only [kM, kN, kO])) | (refine Zm ?_; try intro _)) <;> ((try simp only [kM, kN, kO]); refine Za ?_; refine Zl ?_))))
      all_goals (first | refine Zc 21 ?_ | refine Zb 21 ?_ | (refine Zp (i := 21) ?_; ((try refine Zk ?_); (first | (refine Ze (.func 219) ?_; refine qC rfl rfl (Yk _ _ _ _ _) ?_; rintro v ρ' L' hle ⟨rfl, rfl, rfl⟩ <;> (try simp only [kM, kN, kO])) | (refine Zm ?_; try intro _)) <;> ((try simp only [kM, kN, kO]); refine Za ?_; refine Zl ?_))))
      all_goals (refine ZS ?_; (first | refine Zc 22 ?_ | refine Zb 22 ?_ | refine wCm 22 ?_); (first | refine Zc 23 ?_ | refine Zb 23 ?_ | refine wPk 23 ?_); refine rPk 24 ?_; refine rAs 25 ?_; refine ZH ?_)
      all_goals (repeat' (first | (refine Zj ?_; first | (refine Zf ?_; refine qQ ?_) | refine Zm ?_) | refine Za ?_ | (refine Zi ?_; refine Zt ?_) | (refine Zh ?_; refine Zs ?_) | intro _))
      all_goals exact qE ⟨rfl, rfl, rfl⟩
 ·have hk2 : k = n := by omega
  subst hk2
  repeat' (first | (refine Zj ?_; first | (refine Zf ?_; refine qQ ?_) | refine Zm ?_) | refine Za ?_ | (refine Zi ?_; refine Zt ?_) | (refine Zh ?_; refine Zs ?_) | intro _)
  exact qE ⟨rfl, rfl, rfl⟩
end Go.Proofs.E
