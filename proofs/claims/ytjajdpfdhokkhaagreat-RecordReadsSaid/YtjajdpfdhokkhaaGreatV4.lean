/- The law RecordReads. Part 4 of 21. -/
import Derived.Test.YtjajdpfdhokkhaaGreatV3
import Derived.Test.YtjajdpfdhokkhaaGreatChecked
import Derived.KernelRfl
namespace Go.Proofs.E
open Go Go.Proofs.E
set_option linter.unusedVariables false
theorem tqI {t : TypeId} {b : Bool} (h : (Tryz.prog.underlying t).map isIfaceD = some b := by kernel_rfl) : Zw Tryz.prog t b := mkTyIface h
theorem tqS {t : TypeId} (h : (Tryz.prog.underlying t).map isAggD = some false := by kernel_rfl) (k : (Tryz.prog.info? t).map (·.size) = some 1 := by kernel_rfl) : TyS Tryz.prog t := mkTyS h k
theorem tqA {t : TypeId} {n : Nat} (h : (Tryz.prog.underlying t).map isAggD = some true := by kernel_rfl) (k : (Tryz.prog.info? t).map (·.size) = some n := by kernel_rfl) : TyA Tryz.prog t n := mkTyA h k
theorem tqN {t : TypeId} {n : Nat} (k : (Tryz.prog.info? t).map (·.size) = some n := by kernel_rfl) : ZL Tryz.prog t n := mkTySz k
theorem tqB {t : TypeId} {n : Nat} (k : (Tryz.prog.info? t).map (·.bytes) = some n := by kernel_rfl) : Zu Tryz.prog t n := mkTyBytes k
theorem tqO {t : TypeId} {z : Value} (k : (Tryz.prog.info? t).bind (·.zero) = some z := by kernel_rfl) : Zz Tryz.prog t z := mkTyZero k
theorem tqF {t : TypeId} (h : (Tryz.prog.underlying t).map isFuncD = some true := by kernel_rfl) : YA Tryz.prog t := mkTyFunc h
theorem tqD {s : TypeId} {f off : Nat} {ft : TypeId} (h : fldB Tryz.prog s f = some (off, ft) := by kernel_rfl) : Fld Tryz.prog s f off ft := mkFld h
theorem tqU {f : FuncId} (h : funB Tryz.prog f = true := by kernel_rfl) : Yv Tryz.prog f := mkFun h
instance : TyS Tryz.prog 1 := tqS
instance : Zw Tryz.prog 1 false := tqI
instance : YA Tryz.prog 1 := tqF
instance : ZL Tryz.prog 1 1 := tqN
instance : Zu Tryz.prog 1 8 := tqB
instance : Zz Tryz.prog 1 (.nilFunc) := tqO
instance : TyS Tryz.prog 2 := tqS
instance : Zw Tryz.prog 2 false := tqI
instance : ZL Tryz.prog 2 1 := tqN
instance : Zu Tryz.prog 2 8 := tqB
instance : Zz Tryz.prog 2 (.int .i64 0) := tqO
instance : Xb Tryz.prog 2 .i64 := ⟨by kernel_rfl⟩
instance : TyS Tryz.prog 3 := tqS
instance : Zw Tryz.prog 3 false := tqI
instance : ZL Tryz.prog 3 1 := tqN
instance : Zu Tryz.prog 3 8 := tqB
instance : Zz Tryz.prog 3 (.int .i64 0) := tqO
instance : Xb Tryz.prog 3 .i64 := ⟨by kernel_rfl⟩
instance : TyS Tryz.prog 4 := tqS
instance : Zw Tryz.prog 4 false := tqI
instance : ZL Tryz.prog 4 1 := tqN
instance : Zu Tryz.prog 4 1 := tqB
instance : Zz Tryz.prog 4 (.bool false) := tqO
instance : TyBool Tryz.prog 4 := ⟨by kernel_rfl⟩
instance : TyS Tryz.prog 5 := tqS
instance : Zw Tryz.prog 5 false := tqI
instance : ZL Tryz.prog 5 1 := tqN
instance : Zu Tryz.prog 5 1 := tqB
instance : Zz Tryz.prog 5 (.int .u8 0) := tqO
instance : Xb Tryz.prog 5 .u8 := ⟨by kernel_rfl⟩
instance : TyA Tryz.prog 7 4 := tqA
instance : Zw Tryz.prog 7 false := tqI
instance : ZL Tryz.prog 7 4 := tqN
instance : Zu Tryz.prog 7 24 := tqB
instance : Zz Tryz.prog 7 (.agg ⟨[.int .i64 0, .int .i64 0, .bool false, .int .u8 0]⟩) := tqO
instance : ZX Tryz.prog 7 := ⟨by kernel_rfl⟩
instance : Fld Tryz.prog 7 0 0 2 := tqD
instance : Fld Tryz.prog 7 1 1 3 := tqD
instance : Fld Tryz.prog 7 2 2 4 := tqD
instance : Fld Tryz.prog 7 3 3 6 := tqD
instance : ZR Tryz.prog 7 (([(0, 1), (1, 1), (2, 1), (3, 1)] : List (Nat × Nat))[·]?) := ZK (by kernel_rfl)
instance : TyS Tryz.prog 9 := tqS
instance : Zw Tryz.prog 9 false := tqI
instance : ZL Tryz.prog 9 1 := tqN
instance : Zu Tryz.prog 9 16 := tqB
instance : Zz Tryz.prog 9 (.string ⟨⟨[]⟩⟩) := tqO
instance : TyStr Tryz.prog 9 := ⟨by kernel_rfl⟩
instance : TyS Tryz.prog 12 := tqS
instance : Zw Tryz.prog 12 false := tqI
instance : ZL Tryz.prog 12 1 := tqN
instance : Zu Tryz.prog 12 8 := tqB
instance : Zz Tryz.prog 12 (.int .u64 0) := tqO
instance : Xb Tryz.prog 12 .u64 := ⟨by kernel_rfl⟩
instance : TyS Tryz.prog 16 := tqS
instance : Zw Tryz.prog 16 false := tqI
instance : ZL Tryz.prog 16 1 := tqN
instance : Zu Tryz.prog 16 8 := tqB
instance : Zz Tryz.prog 16 (.pointer none) := tqO
instance : TyPtr Tryz.prog 16 389 := ⟨by kernel_rfl⟩
instance : TyS Tryz.prog 17 := tqS
instance : Zw Tryz.prog 17 false := tqI
instance : ZL Tryz.prog 17 1 := tqN
instance : Zu Tryz.prog 17 8 := tqB
instance : Zz Tryz.prog 17 (.pointer none) := tqO
instance : TyPtr Tryz.prog 17 397 := ⟨by kernel_rfl⟩
instance : TyS Tryz.prog 20 := tqS
instance : Zw Tryz.prog 20 true := tqI
instance : ZL Tryz.prog 20 1 := tqN
instance : Zu Tryz.prog 20 16 := tqB
instance : Zz Tryz.prog 20 (.nilIface) := tqO
instance : TyS Tryz.prog 21 := tqS
instance : Zw Tryz.prog 21 false := tqI
instance : ZL Tryz.prog 21 1 := tqN
instance : Zu Tryz.prog 21 4 := tqB
instance : Zz Tryz.prog 21 (.int .i32 0) := tqO
instance : Xb Tryz.prog 21 .i32 := ⟨by kernel_rfl⟩
instance : TyS Tryz.prog 22 := tqS
instance : Zw Tryz.prog 22 false := tqI
instance : ZL Tryz.prog 22 1 := tqN
instance : Zu Tryz.prog 22 24 := tqB
instance : Zz Tryz.prog 22 (.slice none 0 0) := tqO
instance : Yf Tryz.prog 22 30 := ⟨by kernel_rfl⟩
instance : TyS Tryz.prog 23 := tqS
instance : Zw Tryz.prog 23 false := tqI
instance : YA Tryz.prog 23 := tqF
instance : ZL Tryz.prog 23 1 := tqN
instance : Zu Tryz.prog 23 8 := tqB
instance : Zz Tryz.prog 23 (.nilFunc) := tqO
instance : TyS Tryz.prog 24 := tqS
instance : Zw Tryz.prog 24 false := tqI
instance : ZL Tryz.prog 24 1 := tqN
instance : Zu Tryz.prog 24 8 := tqB
instance : Zz Tryz.prog 24 (.int .u64 0) := tqO
instance : Xb Tryz.prog 24 .u64 := ⟨by kernel_rfl⟩
instance : TyS Tryz.prog 25 := tqS
instance : Zw Tryz.prog 25 false := tqI
instance : ZL Tryz.prog 25 1 := tqN
instance : Zu Tryz.prog 25 24 := tqB
instance : Zz Tryz.prog 25 (.slice none 0 0) := tqO
instance : Yf Tryz.prog 25 128 := ⟨by kernel_rfl⟩
instance : TyS Tryz.prog 26 := tqS
instance : Zw Tryz.prog 26 false := tqI
instance : ZL Tryz.prog 26 1 := tqN
instance : Zu Tryz.prog 26 24 := tqB
instance : Zz Tryz.prog 26 (.slice none 0 0) := tqO
instance : Yf Tryz.prog 26 103 := ⟨by kernel_rfl⟩
instance : TyS Tryz.prog 27 := tqS
instance : Zw Tryz.prog 27 false := tqI
instance : ZL Tryz.prog 27 1 := tqN
instance : Zu Tryz.prog 27 24 := tqB
instance : Zz Tryz.prog 27 (.slice none 0 0) := tqO
instance : Yf Tryz.prog 27 81 := ⟨by kernel_rfl⟩
instance : TyS Tryz.prog 28 := tqS
instance : Zw Tryz.prog 28 false := tqI
instance : ZL Tryz.prog 28 1 := tqN
instance : Zu Tryz.prog 28 24 := tqB
instance : Zz Tryz.prog 28 (.slice none 0 0) := tqO
instance : Yf Tryz.prog 28 125 := ⟨by kernel_rfl⟩
instance : TyA Tryz.prog 29 10 := tqA
instance : Zw Tryz.prog 29 false := tqI
instance : ZL Tryz.prog 29 10 := tqN
instance : Zu Tryz.prog 29 144 := tqB
instance : Zz Tryz.prog 29 (.agg ⟨[.int .i64 0, .int .u64 0, .int .i64 0, .int .u64 0, .int .u64 0, .slice none 0 0, .slice none 0 0, .int .i64 0, .slice none 0 0, .slice none 0 0]⟩) := tqO
instance : ZX Tryz.prog 29 := ⟨by kernel_rfl⟩
instance : Fld Tryz.prog 29 0 0 3 := tqD
instance : Fld Tryz.prog 29 1 1 24 := tqD
instance : Fld Tryz.prog 29 2 2 3 := tqD
instance : Fld Tryz.prog 29 3 3 24 := tqD
instance : Fld Tryz.prog 29 4 4 24 := tqD
instance : Fld Tryz.prog 29 5 5 25 := tqD
instance : Fld Tryz.prog 29 6 6 26 := tqD
instance : Fld Tryz.prog 29 7 7 3 := tqD
instance : Fld Tryz.prog 29 8 8 27 := tqD
instance : Fld Tryz.prog 29 9 9 28 := tqD
instance : ZR Tryz.prog 29 (([(0, 1), (1, 1), (2, 1), (3, 1), (4, 1), (5, 1), (6, 1), (7, 1), (8, 1), (9, 1)] : List (Nat × Nat))[·]?) := ZK (by kernel_rfl)
instance : TyA Tryz.prog 30 10 := tqA
instance : Zw Tryz.prog 30 false := tqI
instance : ZL Tryz.prog 30 10 := tqN
instance : Zu Tryz.prog 30 144 := tqB
instance : Zz Tryz.prog 30 (.agg ⟨[.int .i64 0, .int .u64 0, .int .i64 0, .int .u64 0, .int .u64 0, .slice none 0 0, .slice none 0 0, .int .i64 0, .slice none 0 0, .slice none 0 0]⟩) := tqO
instance : ZX Tryz.prog 30 := ⟨by kernel_rfl⟩
instance : XH Tryz.prog 30 [(0, 3), (1, 24), (2, 3), (3, 24), (4, 24), (5, 25), (6, 26), (7, 3), (8, 27), (9, 28)] := Xa (by kernel_rfl)
instance : Fld Tryz.prog 30 0 0 3 := tqD
instance : Fld Tryz.prog 30 1 1 24 := tqD
instance : Fld Tryz.prog 30 2 2 3 := tqD
instance : Fld Tryz.prog 30 3 3 24 := tqD
instance : Fld Tryz.prog 30 4 4 24 := tqD
instance : Fld Tryz.prog 30 5 5 25 := tqD
instance : Fld Tryz.prog 30 6 6 26 := tqD
instance : Fld Tryz.prog 30 7 7 3 := tqD
instance : Fld Tryz.prog 30 8 8 27 := tqD
instance : Fld Tryz.prog 30 9 9 28 := tqD
instance : ZR Tryz.prog 30 (([(0, 1), (1, 1), (2, 1), (3, 1), (4, 1), (5, 1), (6, 1), (7, 1), (8, 1), (9, 1)] : List (Nat × Nat))[·]?) := ZK (by kernel_rfl)
instance : TyS Tryz.prog 32 := tqS
instance : Zw Tryz.prog 32 false := tqI
instance : ZL Tryz.prog 32 1 := tqN
instance : Zu Tryz.prog 32 24 := tqB
instance : Zz Tryz.prog 32 (.slice none 0 0) := tqO
instance : Yf Tryz.prog 32 72 := ⟨by kernel_rfl⟩
instance : TyS Tryz.prog 35 := tqS
instance : Zw Tryz.prog 35 false := tqI
instance : ZL Tryz.prog 35 1 := tqN
instance : Zu Tryz.prog 35 8 := tqB
instance : Zz Tryz.prog 35 (.int .i64 0) := tqO
instance : Xb Tryz.prog 35 .i64 := ⟨by kernel_rfl⟩
instance : TyS Tryz.prog 40 := tqS
instance : Zw Tryz.prog 40 false := tqI
instance : YA Tryz.prog 40 := tqF
instance : ZL Tryz.prog 40 1 := tqN
instance : Zu Tryz.prog 40 8 := tqB
instance : Zz Tryz.prog 40 (.nilFunc) := tqO
instance : TyS Tryz.prog 43 := tqS
instance : Zw Tryz.prog 43 false := tqI
instance : ZL Tryz.prog 43 1 := tqN
instance : Zu Tryz.prog 43 24 := tqB
instance : Zz Tryz.prog 43 (.slice none 0 0) := tqO
instance : Yf Tryz.prog 43 44 := ⟨by kernel_rfl⟩
instance : TyS Tryz.prog 44 := tqS
instance : Zw Tryz.prog 44 false := tqI
instance : ZL Tryz.prog 44 1 := tqN
instance : Zu Tryz.prog 44 24 := tqB
instance : Zz Tryz.prog 44 (.slice none 0 0) := tqO
instance : Yf Tryz.prog 44 5 := ⟨by kernel_rfl⟩
instance : TyS Tryz.prog 48 := tqS
instance : Zw Tryz.prog 48 false := tqI
instance : YA Tryz.prog 48 := tqF
instance : ZL Tryz.prog 48 1 := tqN
instance : Zu Tryz.prog 48 8 := tqB
instance : Zz Tryz.prog 48 (.nilFunc) := tqO
instance : TyS Tryz.prog 57 := tqS
instance : Zw Tryz.prog 57 false := tqI
instance : ZL Tryz.prog 57 1 := tqN
instance : Zu Tryz.prog 57 24 := tqB
instance : Zz Tryz.prog 57 (.slice none 0 0) := tqO
instance : Yf Tryz.prog 57 3 := ⟨by kernel_rfl⟩
instance : TyA Tryz.prog 64 15 := tqA
instance : Zw Tryz.prog 64 false := tqI
instance : ZL Tryz.prog 64 15 := tqN
instance : Zu Tryz.prog 64 184 := tqB
instance : Zz Tryz.prog 64 (.agg ⟨[.int .i64 0, .int .i64 0, .int .i64 0, .int .i64 0, .bool false, .int .i64 0, .int .u64 0, .int .i64 0, .int .u64 0, .int .u64 0, .slice none 0 0, .slice none 0 0, .int .i64 0, .slice none 0 0, .slice none 0 0]⟩) := tqO
instance : ZX Tryz.prog 64 := ⟨by kernel_rfl⟩
instance : Fld Tryz.prog 64 0 0 3 := tqD
instance : Fld Tryz.prog 64 1 1 3 := tqD
instance : Fld Tryz.prog 64 2 2 3 := tqD
instance : Fld Tryz.prog 64 3 3 3 := tqD
instance : Fld Tryz.prog 64 4 4 4 := tqD
instance : Fld Tryz.prog 64 5 5 30 := tqD
instance : ZR Tryz.prog 64 (([(0, 1), (1, 1), (2, 1), (3, 1), (4, 1), (5, 10)] : List (Nat × Nat))[·]?) := ZK (by kernel_rfl)
instance : TyS Tryz.prog 69 := tqS
instance : Zw Tryz.prog 69 false := tqI
instance : ZL Tryz.prog 69 1 := tqN
instance : Zu Tryz.prog 69 24 := tqB
instance : Zz Tryz.prog 69 (.slice none 0 0) := tqO
instance : Yf Tryz.prog 69 74 := ⟨by kernel_rfl⟩
instance : TyS Tryz.prog 70 := tqS
instance : Zw Tryz.prog 70 false := tqI
instance : ZL Tryz.prog 70 1 := tqN
instance : Zu Tryz.prog 70 24 := tqB
instance : Zz Tryz.prog 70 (.slice none 0 0) := tqO
instance : Yf Tryz.prog 70 24 := ⟨by kernel_rfl⟩
instance : TyA Tryz.prog 71 7 := tqA
instance : Zw Tryz.prog 71 false := tqI
instance : ZL Tryz.prog 71 7 := tqN
instance : Zu Tryz.prog 71 88 := tqB
instance : Zz Tryz.prog 71 (.agg ⟨[.int .i64 0, .int .i64 0, .int .u64 0, .int .u64 0, .int .u64 0, .slice none 0 0, .slice none 0 0]⟩) := tqO
instance : ZX Tryz.prog 71 := ⟨by kernel_rfl⟩
instance : Fld Tryz.prog 71 0 0 3 := tqD
instance : Fld Tryz.prog 71 1 1 3 := tqD
instance : Fld Tryz.prog 71 2 2 24 := tqD
instance : Fld Tryz.prog 71 3 3 24 := tqD
instance : Fld Tryz.prog 71 4 4 24 := tqD
instance : Fld Tryz.prog 71 5 5 69 := tqD
instance : Fld Tryz.prog 71 6 6 70 := tqD
instance : ZR Tryz.prog 71 (([(0, 1), (1, 1), (2, 1), (3, 1), (4, 1), (5, 1), (6, 1)] : List (Nat × Nat))[·]?) := ZK (by kernel_rfl)
instance : TyA Tryz.prog 72 7 := tqA
instance : Zw Tryz.prog 72 false := tqI
instance : ZL Tryz.prog 72 7 := tqN
instance : Zu Tryz.prog 72 88 := tqB
instance : Zz Tryz.prog 72 (.agg ⟨[.int .i64 0, .int .i64 0, .int .u64 0, .int .u64 0, .int .u64 0, .slice none 0 0, .slice none 0 0]⟩) := tqO
instance : ZX Tryz.prog 72 := ⟨by kernel_rfl⟩
instance : XH Tryz.prog 72 [(0, 3), (1, 3), (2, 24), (3, 24), (4, 24), (5, 69), (6, 70)] := Xa (by kernel_rfl)
instance : Fld Tryz.prog 72 0 0 3 := tqD
instance : Fld Tryz.prog 72 1 1 3 := tqD
instance : Fld Tryz.prog 72 2 2 24 := tqD
instance : Fld Tryz.prog 72 3 3 24 := tqD
instance : Fld Tryz.prog 72 4 4 24 := tqD
instance : Fld Tryz.prog 72 5 5 69 := tqD
instance : Fld Tryz.prog 72 6 6 70 := tqD
instance : ZR Tryz.prog 72 (([(0, 1), (1, 1), (2, 1), (3, 1), (4, 1), (5, 1), (6, 1)] : List (Nat × Nat))[·]?) := ZK (by kernel_rfl)
instance : TyA Tryz.prog 73 2 := tqA
instance : Zw Tryz.prog 73 false := tqI
instance : ZL Tryz.prog 73 2 := tqN
instance : Zu Tryz.prog 73 16 := tqB
instance : Zz Tryz.prog 73 (.agg ⟨[.int .u64 0, .int .i64 0]⟩) := tqO
instance : ZX Tryz.prog 73 := ⟨by kernel_rfl⟩
instance : Fld Tryz.prog 73 0 0 24 := tqD
instance : Fld Tryz.prog 73 1 1 3 := tqD
instance : ZR Tryz.prog 73 (([(0, 1), (1, 1)] : List (Nat × Nat))[·]?) := ZK (by kernel_rfl)
instance : TyA Tryz.prog 74 2 := tqA
instance : Zw Tryz.prog 74 false := tqI
instance : ZL Tryz.prog 74 2 := tqN
instance : Zu Tryz.prog 74 16 := tqB
instance : Zz Tryz.prog 74 (.agg ⟨[.int .u64 0, .int .i64 0]⟩) := tqO
instance : ZX Tryz.prog 74 := ⟨by kernel_rfl⟩
instance : XH Tryz.prog 74 [(0, 24), (1, 3)] := Xa (by kernel_rfl)
instance : Fld Tryz.prog 74 0 0 24 := tqD
instance : Fld Tryz.prog 74 1 1 3 := tqD
instance : ZR Tryz.prog 74 (([(0, 1), (1, 1)] : List (Nat × Nat))[·]?) := ZK (by kernel_rfl)
instance : TyA Tryz.prog 80 5 := tqA
instance : Zw Tryz.prog 80 false := tqI
instance : ZL Tryz.prog 80 5 := tqN
instance : Zu Tryz.prog 80 40 := tqB
instance : Zz Tryz.prog 80 (.agg ⟨[.int .i64 0, .int .u64 0, .int .u64 0, .int .u64 0, .int .i64 0]⟩) := tqO
instance : ZX Tryz.prog 80 := ⟨by kernel_rfl⟩
instance : Fld Tryz.prog 80 0 0 3 := tqD
instance : Fld Tryz.prog 80 1 1 24 := tqD
instance : Fld Tryz.prog 80 2 2 24 := tqD
instance : Fld Tryz.prog 80 3 3 24 := tqD
instance : Fld Tryz.prog 80 4 4 3 := tqD
instance : ZR Tryz.prog 80 (([(0, 1), (1, 1), (2, 1), (3, 1), (4, 1)] : List (Nat × Nat))[·]?) := ZK (by kernel_rfl)
instance : TyA Tryz.prog 81 5 := tqA
instance : Zw Tryz.prog 81 false := tqI
instance : ZL Tryz.prog 81 5 := tqN
instance : Zu Tryz.prog 81 40 := tqB
instance : Zz Tryz.prog 81 (.agg ⟨[.int .i64 0, .int .u64 0, .int .u64 0, .int .u64 0, .int .i64 0]⟩) := tqO
instance : ZX Tryz.prog 81 := ⟨by kernel_rfl⟩
instance : XH Tryz.prog 81 [(0, 3), (1, 24), (2, 24), (3, 24), (4, 3)] := Xa (by kernel_rfl)
instance : Fld Tryz.prog 81 0 0 3 := tqD
instance : Fld Tryz.prog 81 1 1 24 := tqD
instance : Fld Tryz.prog 81 2 2 24 := tqD
instance : Fld Tryz.prog 81 3 3 24 := tqD
instance : Fld Tryz.prog 81 4 4 3 := tqD
instance : ZR Tryz.prog 81 (([(0, 1), (1, 1), (2, 1), (3, 1), (4, 1)] : List (Nat × Nat))[·]?) := ZK (by kernel_rfl)
instance : TyS Tryz.prog 83 := tqS
instance : Zw Tryz.prog 83 false := tqI
instance : ZL Tryz.prog 83 1 := tqN
instance : Zu Tryz.prog 83 8 := tqB
instance : Zz Tryz.prog 83 (.int .u64 0) := tqO
instance : Xb Tryz.prog 83 .u64 := ⟨by kernel_rfl⟩
instance : TyS Tryz.prog 88 := tqS
instance : Zw Tryz.prog 88 false := tqI
instance : YA Tryz.prog 88 := tqF
instance : ZL Tryz.prog 88 1 := tqN
instance : Zu Tryz.prog 88 8 := tqB
instance : Zz Tryz.prog 88 (.nilFunc) := tqO
instance : TyS Tryz.prog 96 := tqS
instance : Zw Tryz.prog 96 false := tqI
instance : YA Tryz.prog 96 := tqF
instance : ZL Tryz.prog 96 1 := tqN
instance : Zu Tryz.prog 96 8 := tqB
instance : Zz Tryz.prog 96 (.nilFunc) := tqO
instance : TyS Tryz.prog 97 := tqS
instance : Zw Tryz.prog 97 false := tqI
instance : ZL Tryz.prog 97 1 := tqN
instance : Zu Tryz.prog 97 2 := tqB
instance : Zz Tryz.prog 97 (.int .u16 0) := tqO
instance : Xb Tryz.prog 97 .u16 := ⟨by kernel_rfl⟩
instance : TyA Tryz.prog 98 2 := tqA
instance : Zw Tryz.prog 98 false := tqI
instance : ZL Tryz.prog 98 2 := tqN
instance : Zu Tryz.prog 98 16 := tqB
instance : Zz Tryz.prog 98 (.agg ⟨[.int .i64 0, .int .u16 0]⟩) := tqO
instance : ZX Tryz.prog 98 := ⟨by kernel_rfl⟩
instance : Fld Tryz.prog 98 0 0 3 := tqD
instance : Fld Tryz.prog 98 1 1 97 := tqD
instance : ZR Tryz.prog 98 (([(0, 1), (1, 1)] : List (Nat × Nat))[·]?) := ZK (by kernel_rfl)
instance : TyA Tryz.prog 99 2 := tqA
instance : Zw Tryz.prog 99 false := tqI
instance : ZL Tryz.prog 99 2 := tqN
instance : Zu Tryz.prog 99 16 := tqB
instance : Zz Tryz.prog 99 (.agg ⟨[.int .i64 0, .int .u16 0]⟩) := tqO
instance : ZX Tryz.prog 99 := ⟨by kernel_rfl⟩
instance : XH Tryz.prog 99 [(0, 3), (1, 97)] := Xa (by kernel_rfl)
instance : Fld Tryz.prog 99 0 0 3 := tqD
instance : Fld Tryz.prog 99 1 1 97 := tqD
instance : ZR Tryz.prog 99 (([(0, 1), (1, 1)] : List (Nat × Nat))[·]?) := ZK (by kernel_rfl)
instance : TyA Tryz.prog 100 4 := tqA
instance : Zw Tryz.prog 100 false := tqI
instance : ZL Tryz.prog 100 4 := tqN
instance : Zu Tryz.prog 100 40 := tqB
instance : Zz Tryz.prog 100 (.agg ⟨[.int .i64 0, .int .u16 0, .int .i64 0, .string ⟨⟨[]⟩⟩]⟩) := tqO
instance : ZX Tryz.prog 100 := ⟨by kernel_rfl⟩
instance : Fld Tryz.prog 100 0 0 99 := tqD
instance : Fld Tryz.prog 100 1 2 2 := tqD
instance : Fld Tryz.prog 100 2 3 9 := tqD
instance : ZR Tryz.prog 100 (([(0, 2), (2, 1), (3, 1)] : List (Nat × Nat))[·]?) := ZK (by kernel_rfl)
instance : TyA Tryz.prog 101 4 := tqA
instance : Zw Tryz.prog 101 false := tqI
instance : ZL Tryz.prog 101 4 := tqN
instance : Zu Tryz.prog 101 40 := tqB
instance : Zz Tryz.prog 101 (.agg ⟨[.int .i64 0, .int .u16 0, .int .i64 0, .string ⟨⟨[]⟩⟩]⟩) := tqO
instance : ZX Tryz.prog 101 := ⟨by kernel_rfl⟩
instance : XH Tryz.prog 101 [(0, 99), (2, 2), (3, 9)] := Xa (by kernel_rfl)
instance : Fld Tryz.prog 101 0 0 99 := tqD
instance : Fld Tryz.prog 101 1 2 2 := tqD
instance : Fld Tryz.prog 101 2 3 9 := tqD
instance : ZR Tryz.prog 101 (([(0, 2), (2, 1), (3, 1)] : List (Nat × Nat))[·]?) := ZK (by kernel_rfl)
instance : TyA Tryz.prog 102 6 := tqA
instance : Zw Tryz.prog 102 false := tqI
instance : ZL Tryz.prog 102 6 := tqN
instance : Zu Tryz.prog 102 56 := tqB
instance : Zz Tryz.prog 102 (.agg ⟨[.int .i64 0, .int .i64 0, .int .u16 0, .int .i64 0, .string ⟨⟨[]⟩⟩, .int .i64 0]⟩) := tqO
instance : ZX Tryz.prog 102 := ⟨by kernel_rfl⟩
instance : Fld Tryz.prog 102 0 0 3 := tqD
instance : Fld Tryz.prog 102 1 1 101 := tqD
instance : Fld Tryz.prog 102 2 5 2 := tqD
instance : ZR Tryz.prog 102 (([(0, 1), (1, 4), (5, 1)] : List (Nat × Nat))[·]?) := ZK (by kernel_rfl)
instance : TyA Tryz.prog 103 6 := tqA
instance : Zw Tryz.prog 103 false := tqI
instance : ZL Tryz.prog 103 6 := tqN
instance : Zu Tryz.prog 103 56 := tqB
instance : Zz Tryz.prog 103 (.agg ⟨[.int .i64 0, .int .i64 0, .int .u16 0, .int .i64 0, .string ⟨⟨[]⟩⟩, .int .i64 0]⟩) := tqO
instance : ZX Tryz.prog 103 := ⟨by kernel_rfl⟩
instance : XH Tryz.prog 103 [(0, 3), (1, 101), (5, 2)] := Xa (by kernel_rfl)
instance : Fld Tryz.prog 103 0 0 3 := tqD
instance : Fld Tryz.prog 103 1 1 101 := tqD
instance : Fld Tryz.prog 103 2 5 2 := tqD
instance : ZR Tryz.prog 103 (([(0, 1), (1, 4), (5, 1)] : List (Nat × Nat))[·]?) := ZK (by kernel_rfl)
instance : TyS Tryz.prog 107 := tqS
instance : Zw Tryz.prog 107 false := tqI
instance : ZL Tryz.prog 107 1 := tqN
instance : Zu Tryz.prog 107 24 := tqB
instance : Zz Tryz.prog 107 (.slice none 0 0) := tqO
instance : Yf Tryz.prog 107 101 := ⟨by kernel_rfl⟩
instance : TyS Tryz.prog 108 := tqS
instance : Zw Tryz.prog 108 false := tqI
instance : ZL Tryz.prog 108 1 := tqN
instance : Zu Tryz.prog 108 24 := tqB
instance : Zz Tryz.prog 108 (.slice none 0 0) := tqO
instance : Yf Tryz.prog 108 224 := ⟨by kernel_rfl⟩
instance : TyA Tryz.prog 109 3 := tqA
instance : Zw Tryz.prog 109 false := tqI
instance : ZL Tryz.prog 109 3 := tqN
instance : Zu Tryz.prog 109 56 := tqB
instance : Zz Tryz.prog 109 (.agg ⟨[.int .i64 0, .slice none 0 0, .slice none 0 0]⟩) := tqO
instance : ZX Tryz.prog 109 := ⟨by kernel_rfl⟩
instance : Fld Tryz.prog 109 0 0 3 := tqD
instance : Fld Tryz.prog 109 1 1 107 := tqD
instance : Fld Tryz.prog 109 2 2 108 := tqD
instance : ZR Tryz.prog 109 (([(0, 1), (1, 1), (2, 1)] : List (Nat × Nat))[·]?) := ZK (by kernel_rfl)
instance : TyA Tryz.prog 110 3 := tqA
instance : Zw Tryz.prog 110 false := tqI
instance : ZL Tryz.prog 110 3 := tqN
instance : Zu Tryz.prog 110 56 := tqB
instance : Zz Tryz.prog 110 (.agg ⟨[.int .i64 0, .slice none 0 0, .slice none 0 0]⟩) := tqO
instance : ZX Tryz.prog 110 := ⟨by kernel_rfl⟩
instance : XH Tryz.prog 110 [(0, 3), (1, 107), (2, 108)] := Xa (by kernel_rfl)
instance : Fld Tryz.prog 110 0 0 3 := tqD
instance : Fld Tryz.prog 110 1 1 107 := tqD
instance : Fld Tryz.prog 110 2 2 108 := tqD
instance : ZR Tryz.prog 110 (([(0, 1), (1, 1), (2, 1)] : List (Nat × Nat))[·]?) := ZK (by kernel_rfl)
instance : TyS Tryz.prog 120 := tqS
instance : Zw Tryz.prog 120 false := tqI
instance : YA Tryz.prog 120 := tqF
instance : ZL Tryz.prog 120 1 := tqN
instance : Zu Tryz.prog 120 8 := tqB
instance : Zz Tryz.prog 120 (.nilFunc) := tqO
instance : TyA Tryz.prog 124 2 := tqA
instance : Zw Tryz.prog 124 false := tqI
instance : ZL Tryz.prog 124 2 := tqN
instance : Zu Tryz.prog 124 16 := tqB
instance : Zz Tryz.prog 124 (.agg ⟨[.int .i64 0, .int .u64 0]⟩) := tqO
instance : ZX Tryz.prog 124 := ⟨by kernel_rfl⟩
instance : Fld Tryz.prog 124 0 0 3 := tqD
instance : Fld Tryz.prog 124 1 1 24 := tqD
instance : ZR Tryz.prog 124 (([(0, 1), (1, 1)] : List (Nat × Nat))[·]?) := ZK (by kernel_rfl)
instance : TyA Tryz.prog 125 2 := tqA
instance : Zw Tryz.prog 125 false := tqI
instance : ZL Tryz.prog 125 2 := tqN
instance : Zu Tryz.prog 125 16 := tqB
instance : Zz Tryz.prog 125 (.agg ⟨[.int .i64 0, .int .u64 0]⟩) := tqO
instance : ZX Tryz.prog 125 := ⟨by kernel_rfl⟩
instance : XH Tryz.prog 125 [(0, 3), (1, 24)] := Xa (by kernel_rfl)
instance : Fld Tryz.prog 125 0 0 3 := tqD
instance : Fld Tryz.prog 125 1 1 24 := tqD
instance : ZR Tryz.prog 125 (([(0, 1), (1, 1)] : List (Nat × Nat))[·]?) := ZK (by kernel_rfl)
instance : TyA Tryz.prog 127 7 := tqA
instance : Zw Tryz.prog 127 false := tqI
instance : ZL Tryz.prog 127 7 := tqN
instance : Zu Tryz.prog 127 120 := tqB
instance : Zz Tryz.prog 127 (.agg ⟨[.int .i64 0, .int .i64 0, .slice none 0 0, .slice none 0 0, .int .i64 0, .slice none 0 0, .slice none 0 0]⟩) := tqO
instance : ZX Tryz.prog 127 := ⟨by kernel_rfl⟩
instance : Fld Tryz.prog 127 0 0 3 := tqD
instance : Fld Tryz.prog 127 1 1 110 := tqD
instance : Fld Tryz.prog 127 2 4 110 := tqD
instance : ZR Tryz.prog 127 (([(0, 1), (1, 3), (4, 3)] : List (Nat × Nat))[·]?) := ZK (by kernel_rfl)
instance : TyA Tryz.prog 128 7 := tqA
instance : Zw Tryz.prog 128 false := tqI
instance : ZL Tryz.prog 128 7 := tqN
instance : Zu Tryz.prog 128 120 := tqB
instance : Zz Tryz.prog 128 (.agg ⟨[.int .i64 0, .int .i64 0, .slice none 0 0, .slice none 0 0, .int .i64 0, .slice none 0 0, .slice none 0 0]⟩) := tqO
instance : ZX Tryz.prog 128 := ⟨by kernel_rfl⟩
instance : XH Tryz.prog 128 [(0, 3), (1, 110), (4, 110)] := Xa (by kernel_rfl)
instance : Fld Tryz.prog 128 0 0 3 := tqD
instance : Fld Tryz.prog 128 1 1 110 := tqD
instance : Fld Tryz.prog 128 2 4 110 := tqD
instance : ZR Tryz.prog 128 (([(0, 1), (1, 3), (4, 3)] : List (Nat × Nat))[·]?) := ZK (by kernel_rfl)
instance : TyS Tryz.prog 134 := tqS
instance : Zw Tryz.prog 134 false := tqI
instance : ZL Tryz.prog 134 1 := tqN
instance : Zu Tryz.prog 134 8 := tqB
instance : Zz Tryz.prog 134 (.pointer none) := tqO
instance : TyPtr Tryz.prog 134 138 := ⟨by kernel_rfl⟩
instance : TyS Tryz.prog 135 := tqS
instance : Zw Tryz.prog 135 false := tqI
instance : ZL Tryz.prog 135 1 := tqN
instance : Zu Tryz.prog 135 8 := tqB
instance : Zz Tryz.prog 135 (.pointer none) := tqO
instance : TyPtr Tryz.prog 135 207 := ⟨by kernel_rfl⟩
instance : TyA Tryz.prog 137 13 := tqA
instance : Zw Tryz.prog 137 false := tqI
instance : ZL Tryz.prog 137 13 := tqN
instance : Zu Tryz.prog 137 184 := tqB
instance : Zz Tryz.prog 137 (.agg ⟨[.pointer none, .slice none 0 0, .int .i64 0, .int .u64 0, .int .i64 0, .int .u64 0, .int .u64 0, .slice none 0 0, .slice none 0 0, .int .i64 0, .slice none 0 0, .slice none 0 0, .bool false]⟩) := tqO
instance : ZX Tryz.prog 137 := ⟨by kernel_rfl⟩
instance : Fld Tryz.prog 137 0 0 135 := tqD
instance : Fld Tryz.prog 137 1 1 44 := tqD
instance : Fld Tryz.prog 137 2 2 30 := tqD
instance : Fld Tryz.prog 137 3 12 4 := tqD
instance : ZR Tryz.prog 137 (([(0, 1), (1, 1), (2, 10), (12, 1)] : List (Nat × Nat))[·]?) := ZK (by kernel_rfl)
instance : TyA Tryz.prog 138 13 := tqA
instance : Zw Tryz.prog 138 false := tqI
instance : ZL Tryz.prog 138 13 := tqN
instance : Zu Tryz.prog 138 184 := tqB
instance : Zz Tryz.prog 138 (.agg ⟨[.pointer none, .slice none 0 0, .int .i64 0, .int .u64 0, .int .i64 0, .int .u64 0, .int .u64 0, .slice none 0 0, .slice none 0 0, .int .i64 0, .slice none 0 0, .slice none 0 0, .bool false]⟩) := tqO
instance : ZX Tryz.prog 138 := ⟨by kernel_rfl⟩
instance : XH Tryz.prog 138 [(0, 135), (1, 44), (2, 30), (12, 4)] := Xa (by kernel_rfl)
instance : Fld Tryz.prog 138 0 0 135 := tqD
instance : Fld Tryz.prog 138 1 1 44 := tqD
instance : Fld Tryz.prog 138 2 2 30 := tqD
instance : Fld Tryz.prog 138 3 12 4 := tqD
instance : ZR Tryz.prog 138 (([(0, 1), (1, 1), (2, 10), (12, 1)] : List (Nat × Nat))[·]?) := ZK (by kernel_rfl)
instance : TyS Tryz.prog 141 := tqS
instance : Zw Tryz.prog 141 false := tqI
instance : ZL Tryz.prog 141 1 := tqN
instance : Zu Tryz.prog 141 4 := tqB
instance : Zz Tryz.prog 141 (.int .u32 0) := tqO
instance : Xb Tryz.prog 141 .u32 := ⟨by kernel_rfl⟩
instance : TyS Tryz.prog 143 := tqS
instance : Zw Tryz.prog 143 false := tqI
instance : ZL Tryz.prog 143 1 := tqN
instance : Zu Tryz.prog 143 8 := tqB
instance : Zz Tryz.prog 143 (.map none) := tqO
instance : TyMap Tryz.prog 143 3 1 := ⟨by kernel_rfl⟩
instance : TyS Tryz.prog 144 := tqS
instance : Zw Tryz.prog 144 false := tqI
instance : YA Tryz.prog 144 := tqF
instance : ZL Tryz.prog 144 1 := tqN
instance : Zu Tryz.prog 144 8 := tqB
instance : Zz Tryz.prog 144 (.nilFunc) := tqO
instance : TyS Tryz.prog 145 := tqS
instance : Zw Tryz.prog 145 false := tqI
instance : ZL Tryz.prog 145 1 := tqN
instance : Zu Tryz.prog 145 8 := tqB
instance : Zz Tryz.prog 145 (.pointer none) := tqO
instance : TyPtr Tryz.prog 145 147 := ⟨by kernel_rfl⟩
instance : TyA Tryz.prog 146 2 := tqA
instance : Zw Tryz.prog 146 false := tqI
instance : ZL Tryz.prog 146 2 := tqN
instance : Zu Tryz.prog 146 32 := tqB
instance : Zz Tryz.prog 146 (.agg ⟨[.slice none 0 0, .bool false]⟩) := tqO
instance : ZX Tryz.prog 146 := ⟨by kernel_rfl⟩
instance : Fld Tryz.prog 146 0 0 44 := tqD
instance : Fld Tryz.prog 146 1 1 4 := tqD
instance : ZR Tryz.prog 146 (([(0, 1), (1, 1)] : List (Nat × Nat))[·]?) := ZK (by kernel_rfl)
instance : TyA Tryz.prog 147 2 := tqA
instance : Zw Tryz.prog 147 false := tqI
instance : ZL Tryz.prog 147 2 := tqN
instance : Zu Tryz.prog 147 32 := tqB
instance : Zz Tryz.prog 147 (.agg ⟨[.slice none 0 0, .bool false]⟩) := tqO
instance : ZX Tryz.prog 147 := ⟨by kernel_rfl⟩
instance : XH Tryz.prog 147 [(0, 44), (1, 4)] := Xa (by kernel_rfl)
instance : Fld Tryz.prog 147 0 0 44 := tqD
instance : Fld Tryz.prog 147 1 1 4 := tqD
instance : ZR Tryz.prog 147 (([(0, 1), (1, 1)] : List (Nat × Nat))[·]?) := ZK (by kernel_rfl)
instance : TyS Tryz.prog 150 := tqS
instance : Zw Tryz.prog 150 false := tqI
instance : YA Tryz.prog 150 := tqF
instance : ZL Tryz.prog 150 1 := tqN
instance : Zu Tryz.prog 150 8 := tqB
instance : Zz Tryz.prog 150 (.nilFunc) := tqO
instance : TyS Tryz.prog 156 := tqS
instance : Zw Tryz.prog 156 false := tqI
instance : ZL Tryz.prog 156 1 := tqN
instance : Zu Tryz.prog 156 8 := tqB
instance : Zz Tryz.prog 156 (.pointer none) := tqO
instance : TyPtr Tryz.prog 156 158 := ⟨by kernel_rfl⟩
instance : TyA Tryz.prog 157 10 := tqA
instance : Zw Tryz.prog 157 false := tqI
instance : ZL Tryz.prog 157 10 := tqN
instance : Zu Tryz.prog 157 144 := tqB
instance : Zz Tryz.prog 157 (.agg ⟨[.int .i64 0, .int .u64 0, .int .i64 0, .int .u64 0, .int .u64 0, .slice none 0 0, .slice none 0 0, .int .i64 0, .slice none 0 0, .slice none 0 0]⟩) := tqO
instance : ZX Tryz.prog 157 := ⟨by kernel_rfl⟩
instance : Fld Tryz.prog 157 0 0 30 := tqD
instance : ZR Tryz.prog 157 (([(0, 10)] : List (Nat × Nat))[·]?) := ZK (by kernel_rfl)
instance : TyA Tryz.prog 158 10 := tqA
instance : Zw Tryz.prog 158 false := tqI
instance : ZL Tryz.prog 158 10 := tqN
instance : Zu Tryz.prog 158 144 := tqB
instance : Zz Tryz.prog 158 (.agg ⟨[.int .i64 0, .int .u64 0, .int .i64 0, .int .u64 0, .int .u64 0, .slice none 0 0, .slice none 0 0, .int .i64 0, .slice none 0 0, .slice none 0 0]⟩) := tqO
instance : ZX Tryz.prog 158 := ⟨by kernel_rfl⟩
instance : XH Tryz.prog 158 [(0, 30)] := Xa (by kernel_rfl)
instance : Fld Tryz.prog 158 0 0 30 := tqD
instance : ZR Tryz.prog 158 (([(0, 10)] : List (Nat × Nat))[·]?) := ZK (by kernel_rfl)
instance : TyS Tryz.prog 159 := tqS
instance : Zw Tryz.prog 159 false := tqI
instance : ZL Tryz.prog 159 1 := tqN
instance : Zu Tryz.prog 159 8 := tqB
instance : Zz Tryz.prog 159 (.map none) := tqO
instance : TyMap Tryz.prog 159 3 23 := ⟨by kernel_rfl⟩
instance : TyS Tryz.prog 163 := tqS
instance : Zw Tryz.prog 163 false := tqI
instance : YA Tryz.prog 163 := tqF
instance : ZL Tryz.prog 163 1 := tqN
instance : Zu Tryz.prog 163 8 := tqB
instance : Zz Tryz.prog 163 (.nilFunc) := tqO
instance : TyS Tryz.prog 176 := tqS
instance : Zw Tryz.prog 176 false := tqI
instance : YA Tryz.prog 176 := tqF
instance : ZL Tryz.prog 176 1 := tqN
instance : Zu Tryz.prog 176 8 := tqB
instance : Zz Tryz.prog 176 (.nilFunc) := tqO
instance : TyS Tryz.prog 205 := tqS
instance : Zw Tryz.prog 205 false := tqI
instance : ZL Tryz.prog 205 1 := tqN
instance : Zu Tryz.prog 205 24 := tqB
instance : Zz Tryz.prog 205 (.slice none 0 0) := tqO
instance : Yf Tryz.prog 205 5 := ⟨by kernel_rfl⟩
instance : TyA Tryz.prog 206 2 := tqA
instance : Zw Tryz.prog 206 false := tqI
instance : ZL Tryz.prog 206 2 := tqN
instance : Zu Tryz.prog 206 32 := tqB
instance : Zz Tryz.prog 206 (.agg ⟨[.slice none 0 0, .int .i64 0]⟩) := tqO
instance : ZX Tryz.prog 206 := ⟨by kernel_rfl⟩
instance : Fld Tryz.prog 206 0 0 205 := tqD
instance : Fld Tryz.prog 206 1 1 35 := tqD
instance : ZR Tryz.prog 206 (([(0, 1), (1, 1)] : List (Nat × Nat))[·]?) := ZK (by kernel_rfl)
instance : TyA Tryz.prog 207 2 := tqA
instance : Zw Tryz.prog 207 false := tqI
instance : ZL Tryz.prog 207 2 := tqN
instance : Zu Tryz.prog 207 32 := tqB
instance : Zz Tryz.prog 207 (.agg ⟨[.slice none 0 0, .int .i64 0]⟩) := tqO
instance : ZX Tryz.prog 207 := ⟨by kernel_rfl⟩
instance : XH Tryz.prog 207 [(0, 205), (1, 35)] := Xa (by kernel_rfl)
instance : Fld Tryz.prog 207 0 0 205 := tqD
instance : Fld Tryz.prog 207 1 1 35 := tqD
instance : ZR Tryz.prog 207 (([(0, 1), (1, 1)] : List (Nat × Nat))[·]?) := ZK (by kernel_rfl)
instance : TyS Tryz.prog 210 := tqS
instance : Zw Tryz.prog 210 false := tqI
instance : YA Tryz.prog 210 := tqF
instance : ZL Tryz.prog 210 1 := tqN
instance : Zu Tryz.prog 210 8 := tqB
instance : Zz Tryz.prog 210 (.nilFunc) := tqO
instance : TyS Tryz.prog 211 := tqS
instance : Zw Tryz.prog 211 false := tqI
instance : YA Tryz.prog 211 := tqF
instance : ZL Tryz.prog 211 1 := tqN
instance : Zu Tryz.prog 211 8 := tqB
instance : Zz Tryz.prog 211 (.nilFunc) := tqO
instance : TyS Tryz.prog 214 := tqS
instance : Zw Tryz.prog 214 false := tqI
instance : YA Tryz.prog 214 := tqF
instance : ZL Tryz.prog 214 1 := tqN
instance : Zu Tryz.prog 214 8 := tqB
instance : Zz Tryz.prog 214 (.nilFunc) := tqO
instance : TyS Tryz.prog 217 := tqS
instance : Zw Tryz.prog 217 false := tqI
instance : YA Tryz.prog 217 := tqF
instance : ZL Tryz.prog 217 1 := tqN
instance : Zu Tryz.prog 217 8 := tqB
instance : Zz Tryz.prog 217 (.nilFunc) := tqO
instance : TyS Tryz.prog 219 := tqS
instance : Zw Tryz.prog 219 false := tqI
instance : YA Tryz.prog 219 := tqF
instance : ZL Tryz.prog 219 1 := tqN
instance : Zu Tryz.prog 219 8 := tqB
instance : Zz Tryz.prog 219 (.nilFunc) := tqO
instance : TyA Tryz.prog 223 3 := tqA
instance : Zw Tryz.prog 223 false := tqI
instance : ZL Tryz.prog 223 3 := tqN
instance : Zu Tryz.prog 223 24 := tqB
instance : Zz Tryz.prog 223 (.agg ⟨[.int .i64 0, .int .u16 0, .int .i64 0]⟩) := tqO
instance : ZX Tryz.prog 223 := ⟨by kernel_rfl⟩
instance : Fld Tryz.prog 223 0 0 99 := tqD
instance : Fld Tryz.prog 223 1 2 3 := tqD
instance : ZR Tryz.prog 223 (([(0, 2), (2, 1)] : List (Nat × Nat))[·]?) := ZK (by kernel_rfl)
instance : TyA Tryz.prog 224 3 := tqA
instance : Zw Tryz.prog 224 false := tqI
instance : ZL Tryz.prog 224 3 := tqN
instance : Zu Tryz.prog 224 24 := tqB
instance : Zz Tryz.prog 224 (.agg ⟨[.int .i64 0, .int .u16 0, .int .i64 0]⟩) := tqO
instance : ZX Tryz.prog 224 := ⟨by kernel_rfl⟩
instance : XH Tryz.prog 224 [(0, 99), (2, 3)] := Xa (by kernel_rfl)
instance : Fld Tryz.prog 224 0 0 99 := tqD
instance : Fld Tryz.prog 224 1 2 3 := tqD
instance : ZR Tryz.prog 224 (([(0, 2), (2, 1)] : List (Nat × Nat))[·]?) := ZK (by kernel_rfl)
instance : TyS Tryz.prog 227 := tqS
instance : Zw Tryz.prog 227 false := tqI
instance : YA Tryz.prog 227 := tqF
instance : ZL Tryz.prog 227 1 := tqN
instance : Zu Tryz.prog 227 8 := tqB
instance : Zz Tryz.prog 227 (.nilFunc) := tqO
instance : TyS Tryz.prog 230 := tqS
instance : Zw Tryz.prog 230 false := tqI
instance : YA Tryz.prog 230 := tqF
instance : ZL Tryz.prog 230 1 := tqN
instance : Zu Tryz.prog 230 8 := tqB
instance : Zz Tryz.prog 230 (.nilFunc) := tqO
instance : TyS Tryz.prog 231 := tqS
instance : Zw Tryz.prog 231 false := tqI
instance : YA Tryz.prog 231 := tqF
instance : ZL Tryz.prog 231 1 := tqN
instance : Zu Tryz.prog 231 8 := tqB
instance : Zz Tryz.prog 231 (.nilFunc) := tqO
instance : TyS Tryz.prog 233 := tqS
instance : Zw Tryz.prog 233 false := tqI
instance : YA Tryz.prog 233 := tqF
instance : ZL Tryz.prog 233 1 := tqN
instance : Zu Tryz.prog 233 8 := tqB
instance : Zz Tryz.prog 233 (.nilFunc) := tqO
instance : TyS Tryz.prog 234 := tqS
instance : Zw Tryz.prog 234 false := tqI
instance : YA Tryz.prog 234 := tqF
instance : ZL Tryz.prog 234 1 := tqN
instance : Zu Tryz.prog 234 8 := tqB
instance : Zz Tryz.prog 234 (.nilFunc) := tqO
instance : TyS Tryz.prog 237 := tqS
instance : Zw Tryz.prog 237 false := tqI
instance : ZL Tryz.prog 237 1 := tqN
instance : Zu Tryz.prog 237 8 := tqB
instance : Zz Tryz.prog 237 (.pointer none) := tqO
instance : TyPtr Tryz.prog 237 239 := ⟨by kernel_rfl⟩
instance : TyA Tryz.prog 238 11 := tqA
instance : Zw Tryz.prog 238 false := tqI
instance : ZL Tryz.prog 238 11 := tqN
instance : Zu Tryz.prog 238 168 := tqB
instance : Zz Tryz.prog 238 (.agg ⟨[.int .i64 0, .int .u64 0, .int .i64 0, .int .u64 0, .int .u64 0, .slice none 0 0, .slice none 0 0, .int .i64 0, .slice none 0 0, .slice none 0 0, .slice none 0 0]⟩) := tqO
instance : ZX Tryz.prog 238 := ⟨by kernel_rfl⟩
instance : Fld Tryz.prog 238 0 0 30 := tqD
instance : Fld Tryz.prog 238 1 10 44 := tqD
instance : ZR Tryz.prog 238 (([(0, 10), (10, 1)] : List (Nat × Nat))[·]?) := ZK (by kernel_rfl)
instance : TyA Tryz.prog 239 11 := tqA
instance : Zw Tryz.prog 239 false := tqI
instance : ZL Tryz.prog 239 11 := tqN
instance : Zu Tryz.prog 239 168 := tqB
instance : Zz Tryz.prog 239 (.agg ⟨[.int .i64 0, .int .u64 0, .int .i64 0, .int .u64 0, .int .u64 0, .slice none 0 0, .slice none 0 0, .int .i64 0, .slice none 0 0, .slice none 0 0, .slice none 0 0]⟩) := tqO
instance : ZX Tryz.prog 239 := ⟨by kernel_rfl⟩
instance : XH Tryz.prog 239 [(0, 30), (10, 44)] := Xa (by kernel_rfl)
instance : Fld Tryz.prog 239 0 0 30 := tqD
instance : Fld Tryz.prog 239 1 10 44 := tqD
instance : ZR Tryz.prog 239 (([(0, 10), (10, 1)] : List (Nat × Nat))[·]?) := ZK (by kernel_rfl)
instance : TyS Tryz.prog 270 := tqS
instance : Zw Tryz.prog 270 false := tqI
instance : YA Tryz.prog 270 := tqF
instance : ZL Tryz.prog 270 1 := tqN
instance : Zu Tryz.prog 270 8 := tqB
instance : Zz Tryz.prog 270 (.nilFunc) := tqO
instance : TyS Tryz.prog 272 := tqS
instance : Zw Tryz.prog 272 false := tqI
instance : YA Tryz.prog 272 := tqF
instance : ZL Tryz.prog 272 1 := tqN
instance : Zu Tryz.prog 272 8 := tqB
instance : Zz Tryz.prog 272 (.nilFunc) := tqO
instance : TyS Tryz.prog 275 := tqS
instance : Zw Tryz.prog 275 false := tqI
instance : ZL Tryz.prog 275 1 := tqN
instance : Zu Tryz.prog 275 8 := tqB
instance : Zz Tryz.prog 275 (.pointer none) := tqO
instance : TyPtr Tryz.prog 275 311 := ⟨by kernel_rfl⟩
instance : TyS Tryz.prog 279 := tqS
instance : Zw Tryz.prog 279 false := tqI
instance : YA Tryz.prog 279 := tqF
instance : ZL Tryz.prog 279 1 := tqN
instance : Zu Tryz.prog 279 8 := tqB
instance : Zz Tryz.prog 279 (.nilFunc) := tqO
instance : TyS Tryz.prog 285 := tqS
instance : Zw Tryz.prog 285 false := tqI
instance : YA Tryz.prog 285 := tqF
instance : ZL Tryz.prog 285 1 := tqN
instance : Zu Tryz.prog 285 8 := tqB
instance : Zz Tryz.prog 285 (.nilFunc) := tqO
instance : TyA Tryz.prog 310 6 := tqA
instance : Zw Tryz.prog 310 false := tqI
instance : ZL Tryz.prog 310 6 := tqN
instance : Zu Tryz.prog 310 80 := tqB
instance : Zz Tryz.prog 310 (.agg ⟨[.pointer none, .int .i64 0, .bool false, .int .i64 0, .slice none 0 0, .slice none 0 0]⟩) := tqO
instance : ZX Tryz.prog 310 := ⟨by kernel_rfl⟩
instance : Fld Tryz.prog 310 0 0 135 := tqD
instance : Fld Tryz.prog 310 1 1 3 := tqD
instance : Fld Tryz.prog 310 2 2 4 := tqD
instance : Fld Tryz.prog 310 3 3 110 := tqD
instance : ZR Tryz.prog 310 (([(0, 1), (1, 1), (2, 1), (3, 3)] : List (Nat × Nat))[·]?) := ZK (by kernel_rfl)
instance : TyA Tryz.prog 311 6 := tqA
instance : Zw Tryz.prog 311 false := tqI
instance : ZL Tryz.prog 311 6 := tqN
instance : Zu Tryz.prog 311 80 := tqB
instance : Zz Tryz.prog 311 (.agg ⟨[.pointer none, .int .i64 0, .bool false, .int .i64 0, .slice none 0 0, .slice none 0 0]⟩) := tqO
instance : ZX Tryz.prog 311 := ⟨by kernel_rfl⟩
instance : XH Tryz.prog 311 [(0, 135), (1, 3), (2, 4), (3, 110)] := Xa (by kernel_rfl)
instance : Fld Tryz.prog 311 0 0 135 := tqD
instance : Fld Tryz.prog 311 1 1 3 := tqD
instance : Fld Tryz.prog 311 2 2 4 := tqD
instance : Fld Tryz.prog 311 3 3 110 := tqD
instance : ZR Tryz.prog 311 (([(0, 1), (1, 1), (2, 1), (3, 3)] : List (Nat × Nat))[·]?) := ZK (by kernel_rfl)
instance : TyS Tryz.prog 331 := tqS
instance : Zw Tryz.prog 331 false := tqI
instance : YA Tryz.prog 331 := tqF
instance : ZL Tryz.prog 331 1 := tqN
instance : Zu Tryz.prog 331 8 := tqB
instance : Zz Tryz.prog 331 (.nilFunc) := tqO
instance : TyS Tryz.prog 333 := tqS
instance : Zw Tryz.prog 333 false := tqI
instance : YA Tryz.prog 333 := tqF
instance : ZL Tryz.prog 333 1 := tqN
instance : Zu Tryz.prog 333 8 := tqB
instance : Zz Tryz.prog 333 (.nilFunc) := tqO
instance : TyS Tryz.prog 334 := tqS
instance : Zw Tryz.prog 334 false := tqI
instance : YA Tryz.prog 334 := tqF
instance : ZL Tryz.prog 334 1 := tqN
instance : Zu Tryz.prog 334 8 := tqB
instance : Zz Tryz.prog 334 (.nilFunc) := tqO
instance : TyS Tryz.prog 335 := tqS
instance : Zw Tryz.prog 335 false := tqI
instance : ZL Tryz.prog 335 1 := tqN
instance : Zu Tryz.prog 335 8 := tqB
instance : Zz Tryz.prog 335 (.map none) := tqO
instance : TyMap Tryz.prog 335 3 4 := ⟨by kernel_rfl⟩
instance : TyS Tryz.prog 337 := tqS
instance : Zw Tryz.prog 337 false := tqI
instance : YA Tryz.prog 337 := tqF
instance : ZL Tryz.prog 337 1 := tqN
instance : Zu Tryz.prog 337 8 := tqB
instance : Zz Tryz.prog 337 (.nilFunc) := tqO
instance : TyS Tryz.prog 338 := tqS
instance : Zw Tryz.prog 338 false := tqI
instance : YA Tryz.prog 338 := tqF
instance : ZL Tryz.prog 338 1 := tqN
instance : Zu Tryz.prog 338 8 := tqB
instance : Zz Tryz.prog 338 (.nilFunc) := tqO
instance : TyS Tryz.prog 392 := tqS
instance : Zw Tryz.prog 392 false := tqI
instance : YA Tryz.prog 392 := tqF
instance : ZL Tryz.prog 392 1 := tqN
instance : Zu Tryz.prog 392 8 := tqB
instance : Zz Tryz.prog 392 (.nilFunc) := tqO
instance : TyS Tryz.prog 393 := tqS
instance : Zw Tryz.prog 393 false := tqI
instance : ZL Tryz.prog 393 1 := tqN
instance : Zu Tryz.prog 393 8 := tqB
instance : Zz Tryz.prog 393 (.pointer none) := tqO
instance : TyPtr Tryz.prog 393 5 := ⟨by kernel_rfl⟩
instance : TyA Tryz.prog 396 11 := tqA
instance : Zw Tryz.prog 396 false := tqI
instance : ZL Tryz.prog 396 11 := tqN
instance : Zu Tryz.prog 396 48 := tqB
instance : Zz Tryz.prog 396 (.agg ⟨[.int .u64 0, .int .u64 0, .int .u32 0, .int .u8 0, .int .u8 0, .int .u8 0, .int .u8 0, .nilFunc, .pointer none, .int .i32 0, .int .i32 0]⟩) := tqO
instance : ZX Tryz.prog 396 := ⟨by kernel_rfl⟩
instance : Fld Tryz.prog 396 0 0 12 := tqD
instance : Fld Tryz.prog 396 1 1 12 := tqD
instance : Fld Tryz.prog 396 2 2 141 := tqD
instance : Fld Tryz.prog 396 3 3 390 := tqD
instance : Fld Tryz.prog 396 4 4 5 := tqD
instance : Fld Tryz.prog 396 5 5 5 := tqD
instance : Fld Tryz.prog 396 6 6 391 := tqD
instance : Fld Tryz.prog 396 7 7 392 := tqD
instance : Fld Tryz.prog 396 8 8 393 := tqD
instance : Fld Tryz.prog 396 9 9 394 := tqD
instance : Fld Tryz.prog 396 10 10 395 := tqD
instance : ZR Tryz.prog 396 (([(0, 1), (1, 1), (2, 1), (3, 1), (4, 1), (5, 1), (6, 1), (7, 1), (8, 1), (9, 1), (10, 1)] : List (Nat × Nat))[·]?) := ZK (by kernel_rfl)
instance : Yv Tryz.prog 4 := tqU
instance : Yv Tryz.prog 21 := tqU
instance : Yv Tryz.prog 22 := tqU
instance : Yv Tryz.prog 23 := tqU
instance : Yv Tryz.prog 24 := tqU
instance : Yv Tryz.prog 26 := tqU
instance : Yv Tryz.prog 27 := tqU
instance : Yv Tryz.prog 28 := tqU
instance : Yv Tryz.prog 29 := tqU
instance : Yv Tryz.prog 46 := tqU
instance : Yv Tryz.prog 77 := tqU
instance : Yv Tryz.prog 78 := tqU
instance : Yv Tryz.prog 79 := tqU
instance : Yv Tryz.prog 80 := tqU
instance : Yv Tryz.prog 81 := tqU
instance : Yv Tryz.prog 82 := tqU
instance : Yv Tryz.prog 83 := tqU
instance : Yv Tryz.prog 84 := tqU
instance : Yv Tryz.prog 85 := tqU
instance : Yv Tryz.prog 86 := tqU
instance : Yv Tryz.prog 87 := tqU
instance : Yv Tryz.prog 88 := tqU
instance : Yv Tryz.prog 89 := tqU
instance : Yv Tryz.prog 90 := tqU
instance : Yv Tryz.prog 91 := tqU
instance : Yv Tryz.prog 92 := tqU
instance : Yv Tryz.prog 93 := tqU
instance : Yv Tryz.prog 95 := tqU
instance : Yv Tryz.prog 96 := tqU
instance : Yv Tryz.prog 97 := tqU
instance : Yv Tryz.prog 98 := tqU
instance : Yv Tryz.prog 99 := tqU
instance : Yv Tryz.prog 100 := tqU
instance : Yv Tryz.prog 101 := tqU
instance : Yv Tryz.prog 102 := tqU
instance : Yv Tryz.prog 103 := tqU
instance : Yv Tryz.prog 104 := tqU
instance : Yv Tryz.prog 105 := tqU
instance : Yv Tryz.prog 106 := tqU
instance : Yv Tryz.prog 107 := tqU
instance : Yv Tryz.prog 108 := tqU
instance : Yv Tryz.prog 109 := tqU
instance : Yv Tryz.prog 110 := tqU
instance : Yv Tryz.prog 111 := tqU
instance : Yv Tryz.prog 112 := tqU
instance : Yv Tryz.prog 127 := tqU
instance : Yv Tryz.prog 159 := tqU
instance : Yv Tryz.prog 160 := tqU
instance : Yv Tryz.prog 161 := tqU
instance : Yv Tryz.prog 162 := tqU
instance : Yv Tryz.prog 163 := tqU
instance : Yv Tryz.prog 164 := tqU
instance : Yv Tryz.prog 165 := tqU
instance : Yv Tryz.prog 166 := tqU
instance : Yv Tryz.prog 167 := tqU
instance : Yv Tryz.prog 168 := tqU
instance : Yv Tryz.prog 169 := tqU
instance : Yv Tryz.prog 170 := tqU
instance : Yv Tryz.prog 171 := tqU
instance : Yv Tryz.prog 172 := tqU
instance : Yv Tryz.prog 173 := tqU
instance : Yv Tryz.prog 174 := tqU
instance : Yv Tryz.prog 175 := tqU
instance : Yv Tryz.prog 176 := tqU
instance : Yv Tryz.prog 177 := tqU
instance : Yv Tryz.prog 178 := tqU
instance : Yv Tryz.prog 179 := tqU
instance : Yv Tryz.prog 180 := tqU
instance : Yv Tryz.prog 181 := tqU
instance : Yv Tryz.prog 182 := tqU
instance : Yv Tryz.prog 183 := tqU
instance : Yv Tryz.prog 184 := tqU
instance : Yv Tryz.prog 185 := tqU
instance : Yv Tryz.prog 186 := tqU
instance : Yv Tryz.prog 187 := tqU
instance : Yv Tryz.prog 188 := tqU
instance : Yv Tryz.prog 189 := tqU
instance : Yv Tryz.prog 190 := tqU
instance : Yv Tryz.prog 191 := tqU
instance : Yv Tryz.prog 192 := tqU
instance : Yv Tryz.prog 193 := tqU
instance : Yv Tryz.prog 194 := tqU
instance : Yv Tryz.prog 195 := tqU
instance : Yv Tryz.prog 196 := tqU
instance : Yv Tryz.prog 197 := tqU
instance : Yv Tryz.prog 198 := tqU
instance : Yv Tryz.prog 199 := tqU
instance : Yv Tryz.prog 200 := tqU
instance : Yv Tryz.prog 209 := tqU
instance : Yv Tryz.prog 234 := tqU
instance : Yv Tryz.prog 235 := tqU
instance : Yv Tryz.prog 236 := tqU
instance : Yv Tryz.prog 237 := tqU
instance : Yv Tryz.prog 238 := tqU
instance : Yv Tryz.prog 239 := tqU
instance : Yv Tryz.prog 240 := tqU
instance : Yv Tryz.prog 241 := tqU
instance : Yv Tryz.prog 242 := tqU
instance : Yv Tryz.prog 243 := tqU
instance : Yv Tryz.prog 244 := tqU
instance : Yv Tryz.prog 245 := tqU
instance : Yv Tryz.prog 246 := tqU
instance : Yv Tryz.prog 247 := tqU
instance : Yv Tryz.prog 248 := tqU
instance : Yv Tryz.prog 249 := tqU
instance : Yv Tryz.prog 250 := tqU
instance : Yv Tryz.prog 251 := tqU
instance : Yv Tryz.prog 252 := tqU
instance : Yv Tryz.prog 253 := tqU
instance : Yv Tryz.prog 254 := tqU
instance : Yv Tryz.prog 255 := tqU
instance : Yv Tryz.prog 256 := tqU
instance : Yv Tryz.prog 257 := tqU
instance : Yv Tryz.prog 258 := tqU
instance : Yv Tryz.prog 262 := tqU
instance : Yv Tryz.prog 275 := tqU
instance : Yv Tryz.prog 276 := tqU
instance : Yv Tryz.prog 277 := tqU
instance : Yv Tryz.prog 278 := tqU
instance : Yv Tryz.prog 279 := tqU
instance : Yv Tryz.prog 280 := tqU
instance : Yv Tryz.prog 281 := tqU
instance : Yv Tryz.prog 282 := tqU
instance : Yv Tryz.prog 283 := tqU
instance : Yv Tryz.prog 284 := tqU
instance : Yv Tryz.prog 285 := tqU
instance : Yv Tryz.prog 286 := tqU
instance : Yv Tryz.prog 299 := tqU
instance : Yv Tryz.prog 300 := tqU
instance : Yv Tryz.prog 301 := tqU
instance : Yv Tryz.prog 302 := tqU
instance : Yv Tryz.prog 303 := tqU
instance : Yv Tryz.prog 304 := tqU
instance : Yv Tryz.prog 305 := tqU
instance : Yv Tryz.prog 306 := tqU
instance : Yv Tryz.prog 307 := tqU
instance : Yv Tryz.prog 308 := tqU
instance : Yv Tryz.prog 317 := tqU
instance : Yv Tryz.prog 320 := tqU
instance : Yv Tryz.prog 321 := tqU
instance : Yv Tryz.prog 327 := tqU
instance : Mixed Tryz.prog := ⟨by kernel_rfl⟩
end Go.Proofs.E
namespace Go.Proofs.E
open Go
set_option linter.unusedVariables false
set_option linter.unusedSimpArgs false
set_option linter.unusedSectionVars false
set_option maxRecDepth 4000
set_option maxHeartbeats 1000000
attribute [local irreducible] Yl TL TC TE Spec XW R1 Hp.le EnvLe TS TR YS Zv
def z8 (n : Nat) : List UInt8 := List.replicate n 0
theorem stc_mid (A B vs ws : List Value) (h : ws.length = vs.length) : stc (A ++ (vs ++ B)) A.length ws = A ++ (ws ++ B) := by
 unfold stc
 rw [List.take_left, h, ← List.drop_drop, List.drop_left, List.drop_left, List.append_assoc]
theorem u8_wrap (y : Nat) : Value.int .u8 (IntKind.u8.wrap (y : Int)) = ZM (UInt8.ofNat y) := by
 simp only [ZM, UInt8.toNat_ofNat', IntKind.wrap, IntKind.bits, IntKind.signed, Bool.false_and, Bool.false_eq_true, if_false]
 congr 1
theorem made_z8 (m : Nat) : madeCells (Value.int .u8 0).cells m = ⟨(z8 m).map ZM⟩ := by
 have hz : (Value.int IntKind.u8 0).cells = ⟨[ZM 0]⟩ := rfl
 rw [hz]
 apply Array.ext'
 apply List.ext_getElem?
 intro i
 by_cases hi : i < m
 ·simp [madeCells, z8, hi, Nat.mod_one]
 ·rw [List.getElem?_eq_none (by simp [madeCells]; omega), List.getElem?_eq_none (by simp [z8]; omega)]
theorem own_chunk (b n c : Nat) {xs : List Value} {T : TypeId} : [(b, Obj.cells ⟨xs⟩ T (0, 0))] = Yu (.slice (some ⟨b, 0, none⟩) n c) xs [] T := by simp [Yu]
theorem stand_spec (ρ : Hp) (a : Option Addr) (n c : Nat) (l : List UInt8) (h : SIn ρ ZM a n l) (x p : Nat) (hx : x < 18446744073709551616) (hp : p ≤ 8) (hp1 : 1 ≤ p) (hn : n ≤ 1000000) :
  Spec Tryz.prog 284 [.slice a n c, .int .u64 x, .int .i64 p] ρ [] (fun v ρ' L' => ρ' = ρ ∧ ∃ sp, OwnS v (n + p) ((l ++ be p x).map ZM) sp 1 ∧ L' = [Yu v ((l ++ be p x).map ZM) sp 5]) := by
 have hl := h.len
 refine Zf Tryz.func284 rfl rfl rfl fun u R => ?_
 simp only [Zx, List.cons_append, List.nil_append]
 repeat' (first | (refine tl_makeSlice rfl rfl (by omega) (by omega) (by omega) (by omega) rfl (fun hbn => ?_)) | (refine Zj ?_; first | (refine Zg ?_; refine qQ ?_) | refine Zl ?_) | refine Za ?_ | (refine Zi ?_; refine Zq ?_) | (refine Zh ?_; refine Zp ?_) | intro _)
 simp only [show ((n : Int) + (p : Int)).toNat = n + p by omega, Nat.mul_one, made_z8]
 have hinit : stc ((z8 (n + p)).map ZM) 0 ((l.map ZM).take (n + p)) = (l ++ (z8 (p - 0) ++ be 0 x)).map ZM := by
  rw [List.take_of_length_le (by simp; omega)]
  unfold stc
  have e : z8 (n + p) = z8 n ++ z8 p := by simp [z8, List.replicate_append_replicate]
  rw [e]
  simp [be, hl, z8]
 refine tl_copy (ys := l.map ZM) rfl rfl (SIn.srcV h) (by simpa using hl) (u8c_one l) (by simp [z8]) rfl ?_
 simp only [hinit]
 repeat' (first | (refine Zj ?_; first | (refine Zg ?_; refine qQ ?_) | refine Zl ?_) | refine Za ?_ | (refine Zi ?_; refine Zq ?_) | (refine Zh ?_; refine Zp ?_) | intro _)
 refine Zy [(6, _), (7, _), (17, _)] (fun (ζ : (Nat) × (Nat)) => [(18, .int .i64 ζ.1), (1, .int .u64 (ζ.2 : Nat))]) (fun (ζ : (Nat) × (Nat)) => ρ) (fun (ζ : (Nat) × (Nat)) => [[(hbn, .cells ⟨(l ++ (z8 (p - ζ.1) ++ be ζ.1 x)).map ZM⟩ 5 (0, 0))]]) (fun (ζ : (Nat) × (Nat)) => ζ.1 ≤ p ∧ ζ.2 = x / 256 ^ ζ.1) (fun (ζ : (Nat) × (Nat)) => p - ζ.1) ((0, x)) (⟨Nat.zero_le _, by simp⟩) Zk Zk rfl tk ?_
 rintro ⟨k, y⟩ hI
 try simp only [List.cons_append, List.nil_append, List.append_assoc, List.append_eq] at hI ⊢
 try dsimp only at hI ⊢
 obtain ⟨hk, hy⟩ := hI
 by_cases hlt : k < p
 ·have hlen : ((l ++ (z8 (p - k) ++ be k x)).map ZM).length = n + p := by simp [z8, ZF, hl]; omega
  have hst : stc ((l ++ (z8 (p - k) ++ be k x)).map ZM) (0 + ((n : Int) + (p : Int) - 1 - k).toNat * 1) [ZM (UInt8.ofNat y)] = (l ++ (z8 (p - (k + 1)) ++ be (k + 1) x)).map ZM := by
   have e1 : z8 (p - k) = z8 (p - (k + 1)) ++ [0] := by
    rw [show p - k = (p - (k + 1)) + 1 by omega]; simp [z8, List.replicate_succ']
   have e2 : 0 + ((n : Int) + (p : Int) - 1 - k).toNat * 1 = ((l ++ z8 (p - (k + 1))).map ZM).length := by simp [z8, hl]; omega
   have e3 : (l ++ (z8 (p - k) ++ be k x)).map ZM = (l ++ z8 (p - (k + 1))).map ZM ++ ([ZM 0] ++ (be k x).map ZM) := by rw [e1]; simp
   rw [e2, e3, stc_mid _ _ [ZM 0] [ZM (UInt8.ofNat y)] rfl, be, ← hy]
   simp
  have hyy : y / 256 = x / 256 ^ (k + 1) := by rw [hy, Nat.div_div_eq_div_mul, Nat.pow_succ]
  repeat' (first | (refine Zj ?_; first | (refine Zg ?_; refine qQ ?_) | refine Zl ?_) | refine Za ?_ | (refine Zi ?_; refine Zq ?_) | (refine Zh ?_; refine Zp ?_) | intro _)
  have e8 : (y : Int) / 2 ^ 8 = ((x / 256 ^ (k + 1) : Nat) : Int) := by
   rw [← hyy]
   have : (2 : Int) ^ 8 = 256 := by decide
   omega
  rw [e8, u8_wrap, Int.natCast_add, hst]
  refine Zo (k + 1, x / 256 ^ (k + 1)) (⟨hlt, rfl⟩) Zk Zk rfl tk inferInstance (by first | omega | (dsimp only; omega))
 ·have hk2 : k = p := by omega
  subst hk2
  simp only [Nat.sub_self, z8, List.replicate_zero, List.nil_append]
  repeat' (first | (refine Zj ?_; first | (refine Zg ?_; refine qQ ?_) | refine Zl ?_) | refine Za ?_ | (refine Zi ?_; refine Zq ?_) | (refine Zh ?_; refine Zp ?_) | intro _)
  rw [own_chunk hbn (n + k) (n + k)]
  exact qE ⟨rfl, [], ⟨.inr ⟨hbn, n + k, rfl, by simp [ZF, hl], by simp [ZF, hl], Nat.le_refl _⟩⟩, rfl⟩
theorem put16_spec (ρ : Hp) (a : Option Addr) (n c : Nat) (l : List UInt8) (h : SIn ρ ZM a n l) (x : Nat) (hx : x < 65536) (hn : n ≤ 1000000) :
  Spec Tryz.prog 258 [.slice a n c, .int .u16 x] ρ [] (fun v ρ' L' => ρ' = ρ ∧ ∃ sp, OwnS v (n + 2) ((l ++ be 2 x).map ZM) sp 1 ∧ L' = [Yu v ((l ++ be 2 x).map ZM) sp 5]) := by
 have hw : IntKind.u64.wrap (x : Int) = x := wrap_id (by simp only [lo, hi]; omega)
 have hs := stand_spec ρ a n c l h x 2 (by omega) (by omega) (by omega) hn
 refine Zf Tryz.func258 rfl rfl rfl fun u R => ?_
 simp only [Zx, List.cons_append, List.nil_append]
 repeat' (first | (refine iCv ?_; refine Zn (y_conv rfl) rfl rfl ?_; rw [hw]) | (refine Zc (.func 284) ?_; refine qC rfl rfl (hs) ?_; rintro v ρ' L' hle ⟨rfl, sp, hown, rfl⟩ <;> (try simp only [kM, kN, kO])) | (refine Zj ?_; first | (refine Zg ?_; refine qQ ?_) | refine Zl ?_) | refine Za ?_ | (refine Zi ?_; refine Zq ?_) | (refine Zh ?_; refine Zp ?_) | intro _)
 exact qE ⟨rfl, sp, hown, rfl⟩
theorem put64_spec (ρ : Hp) (a : Option Addr) (n c : Nat) (l : List UInt8) (h : SIn ρ ZM a n l) (x : Nat) (hx : x < 18446744073709551616) (hn : n ≤ 1000000) :
  Spec Tryz.prog 254 [.slice a n c, .int .u64 x] ρ [] (fun v ρ' L' => ρ' = ρ ∧ ∃ sp, OwnS v (n + 8) ((l ++ be 8 x).map ZM) sp 1 ∧ L' = [Yu v ((l ++ be 8 x).map ZM) sp 5]) := by
 have hs := stand_spec ρ a n c l h x 8 (by omega) (by omega) (by omega) hn
 refine Zf Tryz.func254 rfl rfl rfl fun u R => ?_
 simp only [Zx, List.cons_append, List.nil_append]
 repeat' (first | (refine Zc (.func 284) ?_; refine qC rfl rfl (hs) ?_; rintro v ρ' L' hle ⟨rfl, sp, hown, rfl⟩ <;> (try simp only [kM, kN, kO])) | (refine Zj ?_; first | (refine Zg ?_; refine qQ ?_) | refine Zl ?_) | refine Za ?_ | (refine Zi ?_; refine Zq ?_) | (refine Zh ?_; refine Zp ?_) | intro _)
 exact qE ⟨rfl, sp, hown, rfl⟩
theorem OwnS.zero (b sz : Nat) : OwnS (.slice (some ⟨b, 0, none⟩) 0 0) 0 [] [] sz := ⟨.inr ⟨b, 0, rfl, by simp, by simp, Nat.le_refl _⟩⟩
abbrev rdC (br : Nat) (a : Option Addr) (n c : Nat) (st : Int) : List (Nat × Obj) := [(br, .cells ⟨[.slice a n c, .int .i64 st]⟩ 207 (0, 0))]
theorem bclone_spec (ρ : Hp) (a : Option Addr) (n c : Nat) (l : List UInt8) (h : SIn ρ ZM a n l) (hn : n ≤ 1000000) :
  Spec Tryz.prog 159 [.slice a n c] ρ [] (fun v ρ' L' => ρ.le ρ' ∧ ∃ a' c', v = .slice a' n c' ∧ n ≤ c' ∧ SIn ρ' ZM a' n l ∧ L' = []) := by
 refine Zf Tryz.func159 rfl rfl rfl fun u R => ?_
 simp only [Zx, List.cons_append, List.nil_append]
 cases a with
 | none =>
  have hn0 : n = 0 := by
   rcases h.out with h0 | ⟨b, off, C, T, fr, h1, _⟩
   ·exact h0
   ·cases h1
  subst hn0
  repeat' (first | (refine Zj ?_; first | (refine Zg ?_; refine qQ ?_) | refine Zl ?_) | refine Za ?_ | (refine Zi ?_; refine Zq ?_) | (refine Zh ?_; refine Zp ?_) | intro _)
  exact qE ⟨Hp.le_refl _, none, 0, rfl, Nat.le_refl _, ⟨h.len, .inl rfl⟩, rfl⟩
 | some a =>
  repeat' (first | (refine Zj ?_; first | (refine Zg ?_; refine qQ ?_) | refine Zl ?_) | refine Za ?_ | (refine Zi ?_; refine Zq ?_) | (refine Zh ?_; refine Zp ?_) | intro _)
  refine Yt (n := 0) (xs := []) (sp := []) (ys := l.map ZM) (sz := 1) rfl rfl (OwnS.zero _ 1) (hR := Ya) (SIn.srcV h) (by simpa using h.len) (u8c_one l) (by decide) rfl (by omega) (by omega) rfl (fun v' sp' hown' => ?_)
  simp only [Nat.zero_add, List.nil_append] at hown' ⊢
  repeat' (first | (refine Zj ?_; first | (refine Zg ?_; refine qQ ?_) | refine Zl ?_) | refine Za ?_ | (refine Zi ?_; refine Zq ?_) | (refine Zh ?_; refine Zp ?_) | intro _)
  refine YB _ (h := Rem.here) (fun ρ' hle hfz => ?_)
  obtain ⟨a', c', rfl, hc, hs⟩ := hown'.sIn hfz
  exact qE ⟨hle, a', c', rfl, hc, hs, rfl⟩
theorem read_spec (ρ : Hp) (a : Option Addr) (n c : Nat) (l : List UInt8) (h : SIn ρ ZM a n l) (hn : n ≤ 1000000) :
  Spec Tryz.prog 79 [.slice a n c] ρ [] (fun v ρ' L' => ρ.le ρ' ∧ ∃ br a' c', v = .pointer (some ⟨br, 0, none⟩) ∧ n ≤ c' ∧ SIn ρ' ZM a' n l ∧ L' = [rdC br a' n c' 0]) := by
 have hc := bclone_spec ρ a n c l h hn
 refine Zf Tryz.func79 rfl rfl rfl fun u R => ?_
 simp only [Zx, List.cons_append, List.nil_append]
 repeat' (first | (refine Zc (.func 159) ?_; refine qC rfl rfl (hc) ?_; rintro v ρ' L' hle ⟨hle, a', c', rfl, hc', hs, rfl⟩ <;> (try simp only [kM, kN, kO])) | (refine Zj ?_; first | (refine Zg ?_; refine qQ ?_) | refine Zl ?_) | refine Za ?_ | (refine Zi ?_; refine Zq ?_) | (refine Zh ?_; refine Zp ?_) | intro _)
 exact qE ⟨hle, _, a', c', rfl, hc', hs, rfl⟩
theorem Xm (ρ : Hp) (br : Nat) (a : Option Addr) (n c : Nat) (st : Int) :
  Spec Tryz.prog 174 [.pointer (some ⟨br, 0, none⟩)] ρ [rdC br a n c st] (fun v ρ' L' => v = .int .i64 st ∧ ρ' = ρ ∧ L' = [rdC br a n c st]) := by
 refine Zf Tryz.func174 rfl rfl rfl fun u R => ?_
 simp only [Zx, List.cons_append, List.nil_append]
 repeat' (first | (refine Zj ?_; first | (refine Zg ?_; refine qQ ?_) | refine Zl ?_) | refine Za ?_ | (refine Zi ?_; refine Zq ?_) | (refine Zh ?_; refine Zp ?_) | intro _)
 exact qE ⟨rfl, rfl, rfl⟩
theorem Xq (ρ : Hp) (br : Nat) (a : Option Addr) (n c : Nat) (st : Int) :
  Spec Tryz.prog 89 [.pointer (some ⟨br, 0, none⟩)] ρ [rdC br a n c st] (fun v ρ' L' => v = .int .i64 n ∧ ρ' = ρ ∧ L' = [rdC br a n c st]) := by
 refine Zf Tryz.func89 rfl rfl rfl fun u R => ?_
 simp only [Zx, List.cons_append, List.nil_append]
 repeat' (first | (refine Zj ?_; first | (refine Zg ?_; refine qQ ?_) | refine Zl ?_) | refine Za ?_ | (refine Zi ?_; refine Zq ?_) | (refine Zh ?_; refine Zp ?_) | intro _)
 exact qE ⟨rfl, rfl, rfl⟩
theorem gives_stuck (ρ : Hp) (br : Nat) (a : Option Addr) (n c : Nat) (st : Int) (hst : st ≠ 0) (k : Int) (f : Value) :
  Spec Tryz.prog 234 [.pointer (some ⟨br, 0, none⟩), .int .i64 k, f] ρ [rdC br a n c st] (fun v ρ' L' => v = .tuple ⟨[]⟩ ∧ ρ' = ρ ∧ L' = [rdC br a n c st]) := by
 refine Zf Tryz.func234 rfl rfl rfl fun u R => ?_
 simp only [Zx, List.cons_append, List.nil_append]
 repeat' (first | (refine Zc (.func 174) ?_; refine qC rfl rfl (Xm _ br a n c st) ?_; rintro v ρ' L' hle ⟨rfl, rfl, rfl⟩ <;> (try simp only [kM, kN, kO])) | (refine Zj ?_; first | (refine Zg ?_; refine qQ ?_) | refine Zl ?_) | refine Za ?_ | (refine Zi ?_; refine Zq ?_) | (refine Zh ?_; refine Zp ?_) | intro _)
 exact qE ⟨rfl, rfl, rfl⟩
theorem gives_short (ρ : Hp) (br : Nat) (a : Option Addr) (n c : Nat) (k : Int) (hk : (n : Int) < k) (f : Value) :
  Spec Tryz.prog 234 [.pointer (some ⟨br, 0, none⟩), .int .i64 k, f] ρ [rdC br a n c 0] (fun v ρ' L' => v = .tuple ⟨[]⟩ ∧ ρ' = ρ ∧ L' = [rdC br a n c 7]) := by
 refine Zf Tryz.func234 rfl rfl rfl fun u R => ?_
 simp only [Zx, List.cons_append, List.nil_append]
 repeat' (first | (refine Zc (.func 174) ?_; refine qC rfl rfl (Xm _ br a n c 0) ?_; rintro v ρ' L' hle ⟨rfl, rfl, rfl⟩ <;> (try simp only [kM, kN, kO])) | (refine Zj ?_; first | (refine Zg ?_; refine qQ ?_) | refine Zl ?_) | refine Za ?_ | (refine Zi ?_; refine Zq ?_) | (refine Zh ?_; refine Zp ?_) | intro _)
 exact qE ⟨rfl, rfl, rfl⟩
theorem gives_ok (ρ : Hp) (br : Nat) (a : Option Addr) (n c : Nat) (l : List UInt8) (h : SIn ρ ZM a n l) (hc : n ≤ c) (k : Nat) (hk : k ≤ n) (g : Nat) (cs : List Value) (X X' : SH) [Yv Tryz.prog g]
  (hS : SIn ρ ZM a k (l.take k) → Spec Tryz.prog g ([.slice a k c] ++ cs) ρ X (fun v ρ' L' => v = .tuple ⟨[]⟩ ∧ ρ' = ρ ∧ L' = X')) :
  Spec Tryz.prog 234 [.pointer (some ⟨br, 0, none⟩), .int .i64 k, .func (.func g) ⟨[]⟩ ⟨cs⟩] ρ (rdC br a n c 0 :: X)
   (fun v ρ' L' => v = .tuple ⟨[]⟩ ∧ ρ' = ρ ∧ ∃ a' c', SIn ρ ZM a' (n - k) (l.drop k) ∧ n - k ≤ c' ∧ L' = rdC br a' (n - k) c' 0 :: X') := by
 replace hS := hS (h.take hk)
 have hl := h.len
 have hsub := h.sub (lo' := k) (hi' := n) (cap := c) hk (Nat.le_refl _) hc
 rw [List.take_of_length_le (by simp; omega)] at hsub
 refine Zf Tryz.func234 rfl rfl rfl fun u R => ?_
 simp only [Zx, List.cons_append, List.nil_append] at hS ⊢
 repeat' (first | (refine Zc (.func 174) ?_; refine qC rfl rfl (Xm _ br a n c 0) ?_; rintro v ρ' L' hle ⟨rfl, rfl, rfl⟩ <;> (try simp only [kM, kN, kO])) | (refine Zc (.tmp 9) ?_; refine qC rfl rfl (hS) ?_; rintro v ρ' L' hle ⟨rfl, rfl, rfl⟩ <;> (try simp only [kM, kN, kO])) | (refine Zj ?_; first | (refine Zg ?_; refine qQ ?_) | refine Zl ?_) | refine Za ?_ | (refine Zi ?_; refine Zq ?_) | (refine Zh ?_; refine Zp ?_) | intro _)
 exact qE ⟨rfl, rfl, _, c - k, hsub, by omega, rfl⟩
theorem take_succ_unbe (l : List UInt8) (k : Nat) (h : k < l.length) : Xc (l.take (k + 1)) = Xc (l.take k) * 256 + l[k].toNat := by
 rw [List.take_succ_eq_append_getElem h, unbe_snoc]
theorem unbe_take_lt (l : List UInt8) (k : Nat) (h : k < l.length) (h8 : l.length ≤ 8) : Xc (l.take k) < 72057594037927936 := by
 have h1 := unbe_lt (l.take k)
 have h2 : (l.take k).length ≤ 7 := by simp; omega
 have h3 : 256 ^ (l.take k).length ≤ 256 ^ 7 := Nat.pow_le_pow_right (by decide) h2
 have h4 : 256 ^ 7 = 72057594037927936 := by decide
 omega
theorem number1_spec (ρ : Hp) (bx : Nat) (a : Option Addr) (n c : Nat) (l : List UInt8) (h : SIn ρ ZM a n l) (hn : n ≤ 8) :
  Spec Tryz.prog 235 [.slice a n c, .pointer (some ⟨bx, 0, none⟩)] ρ [[(bx, .cells ⟨[.int .u64 0]⟩ 24 (0, 0))]]
   (fun v ρ' L' => v = .tuple ⟨[]⟩ ∧ ρ' = ρ ∧ L' = [[(bx, .cells ⟨[.int .u64 (Xc l : Nat)]⟩ 24 (0, 0))]]) := by
 have hl := h.len
 refine Zf Tryz.func235 rfl rfl rfl fun u R => ?_
 simp only [Zx, List.cons_append, List.nil_append]
 repeat' (first | (refine Zj ?_; first | (refine Zg ?_; refine qQ ?_) | refine Zl ?_) | refine Za ?_ | (refine Zi ?_; refine Zq ?_) | (refine Zh ?_; refine Zp ?_) | intro _)
 refine Zy [(0, _), (1, _), (5, _)] (fun (ζ : (Nat) × (Nat)) => [(6, .int .i64 ζ.1)]) (fun (ζ : (Nat) × (Nat)) => ρ) (fun (ζ : (Nat) × (Nat)) => [[(bx, .cells ⟨[.int .u64 (ζ.2 : Nat)]⟩ 24 (0, 0))]]) (fun (ζ : (Nat) × (Nat)) => ζ.1 ≤ n ∧ ζ.2 = Xc (l.take ζ.1)) (fun (ζ : (Nat) × (Nat)) => n - ζ.1) ((0, 0)) (⟨Nat.zero_le _, rfl⟩) Zk Zk rfl tk ?_
 rintro ⟨k, z⟩ hI
 try simp only [List.cons_append, List.nil_append, List.append_assoc, List.append_eq] at hI ⊢
 try dsimp only at hI ⊢
 obtain ⟨hk, hz⟩ := hI
 by_cases hlt : k < n
 ·obtain ⟨b, off, C, T, fr, rfl, hb, hc⟩ := h.get (show k < l.length by omega)
  have hzl := unbe_take_lt l k (by omega) (by omega)
  rw [← hz] at hzl
  have hs := take_succ_unbe l k (by omega)
  have hbt : l[k].toNat < 256 := l[k].toNat_lt
  generalize l[k] = b8 at *
  simp only [ZM] at hc
  repeat' (first | (refine Zj ?_; first | (refine Zg ?_; refine qQ ?_) | refine Zl ?_) | refine Za ?_ | (refine Zi ?_; refine Zq ?_) | (refine Zh ?_; refine Zp ?_) | intro _)
  refine ZI (Zv _ _ ([])) (ZU (hT := tk) (Hp.le_refl _)) ?_
  all_goals (refine Ye 2 ?_; refine Ye 3 ?_; refine rIa 4 ?_; refine Yr 5 ?_; refine rCv 6 ?_)
  all_goals (refine Zt (i := 0) ?_; ((try refine Zr ?_); (first | (refine Zg ?_; refine qQ ?_) | (refine Zl ?_; try intro _)) <;> ((try simp only [kM, kN, kO]); refine Za ?_; refine Zs ?_)))
  all_goals (refine rMl 1 ?_; refine rAd 7 ?_)
  all_goals (refine Zt (i := 8) ?_; ((try refine Zr ?_); (first | (refine Zg ?_; refine qQ ?_) | (refine Zl ?_; try intro _)) <;> ((try simp only [kM, kN, kO]); refine Za ?_; refine Zs ?_)))
  all_goals refine ZP ?_
  have e : 256 * (z : Int) + (b8.toNat : Int) = ((z * 256 + b8.toNat : Nat) : Int) := by omega
  rw [e]
  repeat' (first | (refine Zj ?_; first | (refine Zg ?_; refine qQ ?_) | refine Zl ?_) | refine Za ?_ | (refine Zi ?_; refine Zq ?_) | (refine Zh ?_; refine Zp ?_) | intro _)
  refine Zo (k + 1, z * 256 + b8.toNat) (⟨hlt, by dsimp only; rw [hs, hz]⟩) Zk Zk rfl tk inferInstance (by first | omega | (dsimp only; omega))
 ·have hk2 : k = n := by omega
  subst hk2
  rw [List.take_of_length_le (by omega)] at hz
  subst hz
  repeat' (first | (refine Zj ?_; first | (refine Zg ?_; refine qQ ?_) | refine Zl ?_) | refine Za ?_ | (refine Zi ?_; refine Zq ?_) | (refine Zh ?_; refine Zp ?_) | intro _)
  exact qE ⟨rfl, rfl, rfl⟩
def Yk (k : Nat) (l : List UInt8) (st : Int) : Nat × List UInt8 × Int := if st ≠ 0 then (0, l, st) else if l.length < k then (0, l, 7) else (Xc (l.take k), l.drop k, 0)
theorem Wc (k : Nat) (l : List UInt8) (st : Int) : (Yk k l st).1 < 256 ^ k := by
 unfold Yk
 have h0 : 0 < 256 ^ k := Nat.pow_pos (by decide)
 split
 ·exact h0
 ·split
  ·exact h0
  ·have := unbe_lt (l.take k)
   have e : (l.take k).length = k := by simp; omega
   rwa [e] at this
theorem number_spec (ρ : Hp) (br : Nat) (a : Option Addr) (n c : Nat) (l : List UInt8) (h : SIn ρ ZM a n l) (hc : n ≤ c) (st : Int) (k : Nat) (hk : k ≤ 8) :
  Spec Tryz.prog 160 [.pointer (some ⟨br, 0, none⟩), .int .i64 k] ρ [rdC br a n c st]
   (fun v ρ' L' => v = .int .u64 ((Yk k l st).1 : Nat) ∧ ρ' = ρ ∧ ∃ a' n' c', SIn ρ ZM a' n' (Yk k l st).2.1 ∧ n' ≤ c' ∧ L' = [rdC br a' n' c' (Yk k l st).2.2]) := by
 have hl := h.len
 by_cases hst : st = 0
 ·subst hst
  by_cases hs : n < k
  ·have e : Yk k l 0 = (0, l, 7) := by simp [Yk, hl, hs]
   rw [e]
   refine Zf Tryz.func160 rfl rfl rfl fun u R => ?_
   simp only [Zx, List.cons_append, List.nil_append]
   repeat' (first | (refine Zc (.func 234) ?_; refine qC rfl rfl (gives_short _ br a n c k (by omega) _) ?_; rintro v ρ' L' hle ⟨rfl, rfl, rfl⟩ <;> (try simp only [kM, kN, kO])) | (refine Zj ?_; first | (refine Zg ?_; refine qQ ?_) | refine Zl ?_) | refine Za ?_ | (refine Zi ?_; refine Zq ?_) | (refine Zh ?_; refine Zp ?_) | intro _)
   exact qE ⟨rfl, rfl, a, n, c, h, hc, rfl⟩
  ·have e : Yk k l 0 = (Xc (l.take k), l.drop k, 0) := by simp [Yk, hl, hs]
   rw [e]
   refine Zf Tryz.func160 rfl rfl rfl fun u R => ?_
   simp only [Zx, List.cons_append, List.nil_append]
   repeat' (first | (refine Zj ?_; first | (refine Zg ?_; refine qQ ?_) | refine Zl ?_) | refine Za ?_ | (refine Zi ?_; refine Zq ?_) | (refine Zh ?_; refine Zp ?_) | intro _)
   rename_i bx
   have hg := gives_ok ρ br a n c l h hc k (by omega) 235 [.pointer (some ⟨bx, 0, none⟩)] [[(bx, .cells ⟨[.int .u64 0]⟩ 24 (0, 0))]] [[(bx, .cells ⟨[.int .u64 (Xc (l.take k) : Nat)]⟩ 24 (0, 0))]] (fun hs => number1_spec ρ bx a k c (l.take k) hs hk)
   repeat' (first | (refine Zc (.func 234) ?_; refine qC rfl rfl (hg) ?_; rintro v ρ' L' hle ⟨rfl, rfl, a', c', hs', hc', rfl⟩ <;> (try simp only [kM, kN, kO])) | (refine Zj ?_; first | (refine Zg ?_; refine qQ ?_) | refine Zl ?_) | refine Za ?_ | (refine Zi ?_; refine Zq ?_) | (refine Zh ?_; refine Zp ?_) | intro _)
   exact qE ⟨rfl, rfl, a', n - k, c', hs', hc', rfl⟩
 ·have e : Yk k l st = (0, l, st) := by simp [Yk, hst]
  rw [e]
  refine Zf Tryz.func160 rfl rfl rfl fun u R => ?_
  simp only [Zx, List.cons_append, List.nil_append]
  repeat' (first | (refine Zc (.func 234) ?_; refine qC rfl rfl (gives_stuck _ br a n c st hst k _) ?_; rintro v ρ' L' hle ⟨rfl, rfl, rfl⟩ <;> (try simp only [kM, kN, kO])) | (refine Zj ?_; first | (refine Zg ?_; refine qQ ?_) | refine Zl ?_) | refine Za ?_ | (refine Zi ?_; refine Zq ?_) | (refine Zh ?_; refine Zp ?_) | intro _)
  exact qE ⟨rfl, rfl, a, n, c, h, hc, rfl⟩
theorem u8_spec (ρ : Hp) (br : Nat) (a : Option Addr) (n c : Nat) (l : List UInt8) (h : SIn ρ ZM a n l) (hc : n ≤ c) (st : Int) :
  Spec Tryz.prog 80 [.pointer (some ⟨br, 0, none⟩)] ρ [rdC br a n c st]
   (fun v ρ' L' => v = .int .u8 ((Yk 1 l st).1 : Nat) ∧ ρ' = ρ ∧ ∃ a' n' c', SIn ρ ZM a' n' (Yk 1 l st).2.1 ∧ n' ≤ c' ∧ L' = [rdC br a' n' c' (Yk 1 l st).2.2]) := by
 have hb := Wc 1 l st
 have hn := number_spec ρ br a n c l h hc st 1 (by omega)
 generalize Yk 1 l st = r at *
 refine Zf Tryz.func80 rfl rfl rfl fun u R => ?_
 simp only [Zx, List.cons_append, List.nil_append]
 repeat' (first | (refine Zc (.func 160) ?_; refine qC rfl rfl (hn) ?_; rintro v ρ' L' hle ⟨rfl, rfl, a', n', c', hs', hc', rfl⟩ <;> (try simp only [kM, kN, kO])) | (refine Zj ?_; first | (refine Zg ?_; refine qQ ?_) | refine Zl ?_) | refine Za ?_ | (refine Zi ?_; refine Zq ?_) | (refine Zh ?_; refine Zp ?_) | intro _)
 exact qE ⟨rfl, rfl, a', n', c', hs', hc', rfl⟩
theorem u16_spec (ρ : Hp) (br : Nat) (a : Option Addr) (n c : Nat) (l : List UInt8) (h : SIn ρ ZM a n l) (hc : n ≤ c) (st : Int) :
  Spec Tryz.prog 169 [.pointer (some ⟨br, 0, none⟩)] ρ [rdC br a n c st]
   (fun v ρ' L' => v = .int .u16 ((Yk 2 l st).1 : Nat) ∧ ρ' = ρ ∧ ∃ a' n' c', SIn ρ ZM a' n' (Yk 2 l st).2.1 ∧ n' ≤ c' ∧ L' = [rdC br a' n' c' (Yk 2 l st).2.2]) := by
 have hb := Wc 2 l st
 have hn := number_spec ρ br a n c l h hc st 2 (by omega)
 generalize Yk 2 l st = r at *
 refine Zf Tryz.func169 rfl rfl rfl fun u R => ?_
 simp only [Zx, List.cons_append, List.nil_append]
 repeat' (first | (refine Zc (.func 160) ?_; refine qC rfl rfl (hn) ?_; rintro v ρ' L' hle ⟨rfl, rfl, a', n', c', hs', hc', rfl⟩ <;> (try simp only [kM, kN, kO])) | (refine Zj ?_; first | (refine Zg ?_; refine qQ ?_) | refine Zl ?_) | refine Za ?_ | (refine Zi ?_; refine Zq ?_) | (refine Zh ?_; refine Zp ?_) | intro _)
 exact qE ⟨rfl, rfl, a', n', c', hs', hc', rfl⟩
theorem u64_spec (ρ : Hp) (br : Nat) (a : Option Addr) (n c : Nat) (l : List UInt8) (h : SIn ρ ZM a n l) (hc : n ≤ c) (st : Int) :
  Spec Tryz.prog 81 [.pointer (some ⟨br, 0, none⟩)] ρ [rdC br a n c st]
   (fun v ρ' L' => v = .int .u64 ((Yk 8 l st).1 : Nat) ∧ ρ' = ρ ∧ ∃ a' n' c', SIn ρ ZM a' n' (Yk 8 l st).2.1 ∧ n' ≤ c' ∧ L' = [rdC br a' n' c' (Yk 8 l st).2.2]) := by
 have hn := number_spec ρ br a n c l h hc st 8 (by omega)
 refine Zf Tryz.func81 rfl rfl rfl fun u R => ?_
 simp only [Zx, List.cons_append, List.nil_append]
 repeat' (first | (refine Zc (.func 160) ?_; refine qC rfl rfl (hn) ?_; rintro v ρ' L' hle ⟨rfl, rfl, a', n', c', hs', hc', rfl⟩ <;> (try simp only [kM, kN, kO])) | (refine Zj ?_; first | (refine Zg ?_; refine qQ ?_) | refine Zl ?_) | refine Za ?_ | (refine Zi ?_; refine Zq ?_) | (refine Zh ?_; refine Zp ?_) | intro _)
 exact qE ⟨rfl, rfl, a', n', c', hs', hc', rfl⟩
def Wo (k : Nat) (l : List UInt8) (st : Int) : List UInt8 × List UInt8 × Int := if st ≠ 0 then ([], l, st) else if l.length < k then ([], l, 7) else (l.take k, l.drop k, 0)
theorem raw1_spec (ρ : Hp) (bx : Nat) (a : Option Addr) (n c : Nat) (l : List UInt8) (h : SIn ρ ZM a n l) (hn : n ≤ 1000000) :
  Spec Tryz.prog 275 [.slice a n c, .pointer (some ⟨bx, 0, none⟩)] ρ [[(bx, .cells ⟨[.slice none 0 0]⟩ 44 (0, 0))]]
   (fun v ρ' L' => v = .tuple ⟨[]⟩ ∧ ρ.le ρ' ∧ ∃ a' c', SIn ρ' ZM a' n l ∧ n ≤ c' ∧ L' = [[(bx, .cells ⟨[.slice a' n c']⟩ 44 (0, 0))]]) := by
 refine Zf Tryz.func275 rfl rfl rfl fun u R => ?_
 simp only [Zx, List.cons_append, List.nil_append]
 repeat' (first | (refine Zj ?_; first | (refine Zg ?_; refine qQ ?_) | refine Zl ?_) | refine Za ?_ | (refine Zi ?_; refine Zq ?_) | (refine Zh ?_; refine Zp ?_) | intro _)
 refine Yt (n := 0) (xs := []) (sp := []) (ys := l.map ZM) (sz := 1) rfl rfl (OwnS.nil 1) (hR := rem_nil') (SIn.srcV h) (by simpa using h.len) (u8c_one l) (by decide) rfl (by omega) (by omega) rfl (fun v' sp' hown' => ?_)
 simp only [Nat.zero_add, List.nil_append] at hown' ⊢
 refine Yn _ (h := Rem.here) (fun ρ' hle hfz => ?_)
 obtain ⟨a', c', rfl, hc, hs⟩ := hown'.sIn hfz
 repeat' (first | (refine Zj ?_; first | (refine Zg ?_; refine qQ ?_) | refine Zl ?_) | refine Za ?_ | (refine Zi ?_; refine Zq ?_) | (refine Zh ?_; refine Zp ?_) | intro _)
 exact qE ⟨rfl, hle, a', c', hs, hc, rfl⟩
theorem gives_ok2 (ρ : Hp) (br : Nat) (a : Option Addr) (n c : Nat) (l : List UInt8) (h : SIn ρ ZM a n l) (hc : n ≤ c) (k : Nat) (hk : k ≤ n) (g : Nat) (cs : List Value) (X : SH) (PX : Hp → SH → Prop) [Yv Tryz.prog g]
  (hS : SIn ρ ZM a k (l.take k) → Spec Tryz.prog g ([.slice a k c] ++ cs) ρ X (fun v ρ' L' => v = .tuple ⟨[]⟩ ∧ ρ.le ρ' ∧ PX ρ' L')) :
  Spec Tryz.prog 234 [.pointer (some ⟨br, 0, none⟩), .int .i64 k, .func (.func g) ⟨[]⟩ ⟨cs⟩] ρ (rdC br a n c 0 :: X)
   (fun v ρ' L' => v = .tuple ⟨[]⟩ ∧ ρ.le ρ' ∧ ∃ a' c' X', SIn ρ' ZM a' (n - k) (l.drop k) ∧ n - k ≤ c' ∧ L' = rdC br a' (n - k) c' 0 :: X' ∧ PX ρ' X') := by
 replace hS := hS (h.take hk)
 have hl := h.len
 have hsub := h.sub (lo' := k) (hi' := n) (cap := c) hk (Nat.le_refl _) hc
 rw [List.take_of_length_le (by simp; omega)] at hsub
 refine Zf Tryz.func234 rfl rfl rfl fun u R => ?_
 simp only [Zx, List.cons_append, List.nil_append] at hS ⊢
 repeat' (first | (refine Zc (.func 174) ?_; refine qC rfl rfl (Xm _ br a n c 0) ?_; rintro v ρ' L' hle ⟨rfl, rfl, rfl⟩ <;> (try simp only [kM, kN, kO])) | (refine Zc (.tmp 9) ?_; refine qC rfl rfl (hS) ?_; rintro v ρ' L' hle ⟨rfl, hle1, hP⟩ <;> (try simp only [kM, kN, kO])) | (refine Zj ?_; first | (refine Zg ?_; refine qQ ?_) | refine Zl ?_) | refine Za ?_ | (refine Zi ?_; refine Zq ?_) | (refine Zh ?_; refine Zp ?_) | intro _)
 exact qE ⟨rfl, hle1, _, c - k, _, hsub.mono hle1, by omega, rfl, hP⟩
theorem raw_spec (ρ : Hp) (br : Nat) (a : Option Addr) (n c : Nat) (l : List UInt8) (h : SIn ρ ZM a n l) (hc : n ≤ c) (st : Int) (k : Nat) (hk : k ≤ 1000000) :
  Spec Tryz.prog 236 [.pointer (some ⟨br, 0, none⟩), .int .i64 k] ρ [rdC br a n c st]
   (fun v ρ' L' => ρ.le ρ' ∧ ∃ va vn vc a' n' c', v = .slice va vn vc ∧ vn ≤ vc ∧ SIn ρ' ZM va vn (Wo k l st).1 ∧ SIn ρ' ZM a' n' (Wo k l st).2.1 ∧ n' ≤ c' ∧ L' = [rdC br a' n' c' (Wo k l st).2.2]) := by
 have hl := h.len
 by_cases hst : st = 0
 ·subst hst
  by_cases hs : n < k
  ·have e : Wo k l 0 = ([], l, 7) := by simp [Wo, hl, hs]
   rw [e]
   refine Zf Tryz.func236 rfl rfl rfl fun u R => ?_
   simp only [Zx, List.cons_append, List.nil_append]
   repeat' (first | (refine Zc (.func 234) ?_; refine qC rfl rfl (gives_short _ br a n c k (by omega) _) ?_; rintro v ρ' L' hle ⟨rfl, rfl, rfl⟩ <;> (try simp only [kM, kN, kO])) | (refine Zj ?_; first | (refine Zg ?_; refine qQ ?_) | refine Zl ?_) | refine Za ?_ | (refine Zi ?_; refine Zq ?_) | (refine Zh ?_; refine Zp ?_) | intro _)
   exact qE ⟨Hp.le_refl _, none, 0, 0, a, n, c, rfl, Nat.le_refl _, SIn.nil, h, hc, rfl⟩
  ·have e : Wo k l 0 = (l.take k, l.drop k, 0) := by simp [Wo, hl, hs]
   rw [e]
   refine Zf Tryz.func236 rfl rfl rfl fun u R => ?_
   simp only [Zx, List.cons_append, List.nil_append]
   repeat' (first | (refine Zj ?_; first | (refine Zg ?_; refine qQ ?_) | refine Zl ?_) | refine Za ?_ | (refine Zi ?_; refine Zq ?_) | (refine Zh ?_; refine Zp ?_) | intro _)
   rename_i bx
   have hg := gives_ok2 ρ br a n c l h hc k (by omega) 275 [.pointer (some ⟨bx, 0, none⟩)] [[(bx, .cells ⟨[.slice none 0 0]⟩ 44 (0, 0))]] _ (fun hs => raw1_spec ρ bx a k c (l.take k) hs hk)
   repeat' (first | (refine Zc (.func 234) ?_; refine qC rfl rfl (hg) ?_; rintro v ρ' L' hle ⟨rfl, hle1, a', c', X', hs', hc', rfl, va, vc, hv, hvc, rfl⟩ <;> (try simp only [kM, kN, kO])) | (refine Zj ?_; first | (refine Zg ?_; refine qQ ?_) | refine Zl ?_) | refine Za ?_ | (refine Zi ?_; refine Zq ?_) | (refine Zh ?_; refine Zp ?_) | intro _)
   exact qE ⟨hle1, va, k, vc, a', n - k, c', rfl, hvc, hv, hs', hc', rfl⟩
 ·have e : Wo k l st = ([], l, st) := by simp [Wo, hst]
  rw [e]
  refine Zf Tryz.func236 rfl rfl rfl fun u R => ?_
  simp only [Zx, List.cons_append, List.nil_append]
  repeat' (first | (refine Zc (.func 234) ?_; refine qC rfl rfl (gives_stuck _ br a n c st hst k _) ?_; rintro v ρ' L' hle ⟨rfl, rfl, rfl⟩ <;> (try simp only [kM, kN, kO])) | (refine Zj ?_; first | (refine Zg ?_; refine qQ ?_) | refine Zl ?_) | refine Za ?_ | (refine Zi ?_; refine Zq ?_) | (refine Zh ?_; refine Zp ?_) | intro _)
  exact qE ⟨Hp.le_refl _, none, 0, 0, a, n, c, rfl, Nat.le_refl _, SIn.nil, h, hc, rfl⟩
structure Row where
 t : Int
 id : Nat
 val : Int
 note : List UInt8
deriving DecidableEq
structure Kid where
 t : Int
 id : Nat
 page : Int
deriving DecidableEq
abbrev keyV (t : Int) (id : Nat) : List Value := [.int .i64 t, .int .u16 id]
abbrev YY (r : Row) : List Value := [.int .i64 r.t, .int .u16 r.id, .int .i64 r.val, strV r.note]
abbrev Xs (k : Kid) : List Value := [.int .i64 k.t, .int .u16 k.id, .int .i64 k.page]
abbrev tkC (bt br : Nat) (all : Int) (bad : Bool) (vk vr vs : Value) : List (Nat × Obj) := [(bt, .cells ⟨[.pointer (some ⟨br, 0, none⟩), .int .i64 all, .bool bad, vk, vr, vs]⟩ 311 (0, 0))]
theorem XS (ρ : Hp) (n : Int) : Spec Tryz.prog 280 [.int .i64 n] ρ [] (fun v ρ' L' => v = .bool (decide (0 ≤ n ∧ n < 3)) ∧ ρ' = ρ ∧ L' = []) := by
 refine Zf Tryz.func280 rfl rfl rfl fun u R => ?_
 simp only [Zx, List.cons_append, List.nil_append]
 by_cases h0 : 0 ≤ n
 ·by_cases h1 : n < 3
  ·rw [decide_eq_true ⟨h0, h1⟩]
   repeat' (first | (refine Zj ?_; first | (refine Zg ?_; refine qQ ?_) | refine Zl ?_) | refine Za ?_ | (refine Zi ?_; refine Zq ?_) | (refine Zh ?_; refine Zp ?_) | intro _)
   exact qE ⟨rfl, rfl, rfl⟩
  ·rw [decide_eq_false (fun h => h1 h.2)]
   repeat' (first | (refine Zj ?_; first | (refine Zg ?_; refine qQ ?_) | refine Zl ?_) | refine Za ?_ | (refine Zi ?_; refine Zq ?_) | (refine Zh ?_; refine Zp ?_) | intro _)
   exact qE ⟨rfl, rfl, rfl⟩
 ·rw [decide_eq_false (fun h => h0 h.1)]
  repeat' (first | (refine Zj ?_; first | (refine Zg ?_; refine qQ ?_) | refine Zl ?_) | refine Za ?_ | (refine Zi ?_; refine Zq ?_) | (refine Zh ?_; refine Zp ?_) | intro _)
  exact qE ⟨rfl, rfl, rfl⟩
theorem ok_spec (ρ : Hp) (bt br : Nat) (all : Int) (bad : Bool) (vk vr vs : Value) (a : Option Addr) (n c : Nat) (st : Int) :
  Spec Tryz.prog 279 [.pointer (some ⟨bt, 0, none⟩)] ρ [tkC bt br all bad vk vr vs, rdC br a n c st]
   (fun v ρ' L' => v = .bool (!bad && decide (st = 0)) ∧ ρ' = ρ ∧ L' = [tkC bt br all bad vk vr vs, rdC br a n c st]) := by
 refine Zf Tryz.func279 rfl rfl rfl fun u R => ?_
 simp only [Zx, List.cons_append, List.nil_append]
 cases bad
 ·by_cases h : st = 0
  ·subst h
   repeat' (first | (refine Zc (.func 174) ?_; refine qC rfl rfl (Xm _ br a n c 0) ?_; rintro v ρ' L' hle ⟨rfl, rfl, rfl⟩ <;> (try simp only [kM, kN, kO])) | (refine Zj ?_; first | (refine Zg ?_; refine qQ ?_) | refine Zl ?_) | refine Za ?_ | (refine Zi ?_; refine Zq ?_) | (refine Zh ?_; refine Zp ?_) | intro _)
   exact qE ⟨rfl, rfl, rfl⟩
  ·have hd : decide (st = 0) = false := decide_eq_false h
   rw [hd]
   repeat' (first | (refine Zc (.func 174) ?_; refine qC rfl rfl (Xm _ br a n c st) ?_; rintro v ρ' L' hle ⟨rfl, rfl, rfl⟩ <;> (try simp only [kM, kN, kO])) | (refine Zj ?_; first | (refine Zg ?_; refine qQ ?_) | refine Zl ?_) | refine Za ?_ | (refine Zi ?_; refine Zq ?_) | (refine Zh ?_; refine Zp ?_) | intro _)
   exact qE ⟨rfl, rfl, rfl⟩
 ·repeat' (first | (refine Zj ?_; first | (refine Zg ?_; refine qQ ?_) | refine Zl ?_) | refine Za ?_ | (refine Zi ?_; refine Zq ?_) | (refine Zh ?_; refine Zp ?_) | intro _)
  exact qE ⟨rfl, rfl, rfl⟩
def Xi (bad : Bool) (st : Int) (is : Bool) : Bool := bad || (decide (st = 0) && !is)
theorem Xd (ρ : Hp) (bt br : Nat) (all : Int) (bad : Bool) (vk vr vs : Value) (a : Option Addr) (n c : Nat) (st : Int) (is : Bool) :
  Spec Tryz.prog 276 [.pointer (some ⟨bt, 0, none⟩), .bool is] ρ [tkC bt br all bad vk vr vs, rdC br a n c st]
   (fun v ρ' L' => v = .tuple ⟨[]⟩ ∧ ρ' = ρ ∧ L' = [tkC bt br all (Xi bad st is) vk vr vs, rdC br a n c st]) := by
 refine Zf Tryz.func276 rfl rfl rfl fun u R => ?_
 simp only [Zx, List.cons_append, List.nil_append, Xi]
 cases bad
 ·by_cases h : st = 0
  ·subst h
   cases is
   all_goals (repeat' (first | (refine Zc (.func 174) ?_; refine qC rfl rfl (Xm _ br a n c 0) ?_; rintro v ρ' L' hle ⟨rfl, rfl, rfl⟩ <;> (try simp only [kM, kN, kO])) | (refine Zj ?_; first | (refine Zg ?_; refine qQ ?_) | refine Zl ?_) | refine Za ?_ | (refine Zi ?_; refine Zq ?_) | (refine Zh ?_; refine Zp ?_) | intro _))
   all_goals exact qE ⟨rfl, rfl, rfl⟩
  ·have hd : decide (st = 0) = false := decide_eq_false h
   rw [hd]
   repeat' (first | (refine Zc (.func 174) ?_; refine qC rfl rfl (Xm _ br a n c st) ?_; rintro v ρ' L' hle ⟨rfl, rfl, rfl⟩ <;> (try simp only [kM, kN, kO])) | (refine Zj ?_; first | (refine Zg ?_; refine qQ ?_) | refine Zl ?_) | refine Za ?_ | (refine Zi ?_; refine Zq ?_) | (refine Zh ?_; refine Zp ?_) | intro _)
   exact qE ⟨rfl, rfl, rfl⟩
 ·repeat' (first | (refine Zj ?_; first | (refine Zg ?_; refine qQ ?_) | refine Zl ?_) | refine Za ?_ | (refine Zi ?_; refine Zq ?_) | (refine Zh ?_; refine Zp ?_) | intro _)
  exact qE ⟨rfl, rfl, rfl⟩
abbrev Yo := List UInt8 × Int × Bool
def i64N (x : Nat) : Int := IntKind.i64.wrap (x : Int)
def XL (l : List UInt8) (st : Int) (bad : Bool) : Row × Yo :=
 let r1 := Yk 1 l st
 let b1 := Xi bad r1.2.2 (decide ((r1.1 : Int) < 3))
 if !b1 && decide (r1.2.2 = 0) then
  let r2 := Yk 2 r1.2.1 r1.2.2
  let r3 := Yk 8 r2.2.1 r2.2.2
  let r4 := Yk 1 r3.2.1 r3.2.2
  let b2 := Xi b1 r4.2.2 (decide ((r4.1 : Int) ≤ 8))
  if !b2 && decide (r4.2.2 = 0) then
   let r5 := Wo r4.1 r4.2.1 r4.2.2
   (⟨r1.1, r2.1, i64N r3.1, r5.1⟩, r5.2.1, r5.2.2, b2)
  else (⟨r1.1, r2.1, i64N r3.1, []⟩, r4.2.1, r4.2.2, b2)
 else (⟨r1.1, 0, 0, []⟩, r1.2.1, r1.2.2, b1)
theorem trow_spec (ρ : Hp) (bt br : Nat) (all : Int) (bad : Bool) (vk vr vs : Value) (a : Option Addr) (n c : Nat) (l : List UInt8) (h : SIn ρ ZM a n l) (hc : n ≤ c) (st : Int) :
  Spec Tryz.prog 241 [.pointer (some ⟨bt, 0, none⟩)] ρ [tkC bt br all bad vk vr vs, rdC br a n c st]
   (fun v ρ' L' => v = .agg ⟨YY (XL l st bad).1⟩ ∧ ρ.le ρ' ∧ ∃ a' n' c', SIn ρ' ZM a' n' (XL l st bad).2.1 ∧ n' ≤ c' ∧ L' = [tkC bt br all (XL l st bad).2.2.2 vk vr vs, rdC br a' n' c' (XL l st bad).2.2.1]) := by
 have hn1 := u8_spec ρ br a n c l h hc st
 have hb1 := Wc 1 l st
 generalize hq : XL l st bad = q
 unfold XL at hq
 generalize Yk 1 l st = r1 at *
 obtain ⟨x1, l1, st1⟩ := r1
 dsimp only at hq hn1 hb1
 have htab : decide (0 ≤ (x1 : Int) ∧ (x1 : Int) < 3) = decide ((x1 : Int) < 3) := by simp
 generalize hB1 : Xi bad st1 (decide ((x1 : Int) < 3)) = b1 at *
 refine Zf Tryz.func241 rfl rfl rfl fun u R => ?_
 simp only [Zx, List.cons_append, List.nil_append]
 repeat' (first | (refine Zc (.func 80) ?_; refine qC rfl rfl (hn1) ?_; rintro v ρ' L' hle ⟨rfl, rfl, a1, n1, c1, h1, hc1, rfl⟩ <;> (try simp only [kM, kN, kO])) | (refine Zc (.func 280) ?_; refine qC rfl rfl (XS _ (x1 : Int)) ?_; rintro v ρ' L' hle ⟨rfl, rfl, rfl⟩ <;> (try simp only [kM, kN, kO, htab])) | (refine Zc (.func 276) ?_; refine qC rfl rfl (Xd _ bt br all bad vk vr vs a1 n1 c1 st1 (decide ((x1 : Int) < 3))) ?_; rintro v ρ' L' hle ⟨rfl, rfl, rfl⟩ <;> (try simp only [kM, kN, kO, hB1])) | (refine Zc (.func 279) ?_; refine qC rfl rfl (ok_spec _ bt br all b1 vk vr vs a1 n1 c1 st1) ?_; rintro v ρ' L' hle ⟨rfl, rfl, rfl⟩ <;> (try simp only [kM, kN, kO])) | (refine Zj ?_; first | (refine Zg ?_; refine qQ ?_) | refine Zl ?_) | refine Za ?_ | (refine Zi ?_; refine Zq ?_) | (refine Zh ?_; refine Zp ?_) | intro _)
 by_cases hok : (!b1 && decide (st1 = 0)) = true
 ·rw [if_pos hok] at hq
  simp only [hok]
  have hn2 := fun ρ (h : SIn ρ ZM a1 n1 l1) => u16_spec ρ br a1 n1 c1 l1 h hc1 st1
  have hb2 := Wc 2 l1 st1
  generalize Yk 2 l1 st1 = r2 at *
  obtain ⟨x2, l2, st2⟩ := r2
  dsimp only at hq hn2 hb2
  have hn3 := fun ρ a n c (h : SIn ρ ZM a n l2) hc => u64_spec ρ br a n c l2 h hc st2
  generalize Yk 8 l2 st2 = r3 at *
  obtain ⟨x3, l3, st3⟩ := r3
  dsimp only at hq hn3
  have hn4 := fun ρ a n c (h : SIn ρ ZM a n l3) hc => u8_spec ρ br a n c l3 h hc st3
  have hb4 := Wc 1 l3 st3
  generalize Yk 1 l3 st3 = r4 at *
  obtain ⟨x4, l4, st4⟩ := r4
  dsimp only at hq hn4 hb4
  generalize hB2 : Xi b1 st4 (decide ((x4 : Int) ≤ 8)) = b2 at *
  repeat' (first | (refine Zc (.func 169) ?_; refine qC rfl rfl (hn2 _ h1) ?_; rintro v ρ' L' hle ⟨rfl, rfl, a2, n2, c2, h2, hc2, rfl⟩ <;> (try simp only [kM, kN, kO])) | (refine Zc (.func 81) ?_; refine qC rfl rfl (hn3 _ _ _ _ h2 hc2) ?_; rintro v ρ' L' hle ⟨rfl, rfl, a3, n3, c3, h3, hc3, rfl⟩ <;> (try simp only [kM, kN, kO])) | (refine Zc (.func 80) ?_; refine qC rfl rfl (hn4 _ _ _ _ h3 hc3) ?_; rintro v ρ' L' hle ⟨rfl, rfl, a4, n4, c4, h4, hc4, rfl⟩ <;> (try simp only [kM, kN, kO])) | (refine Zc (.func 276) ?_; refine qC rfl rfl (Xd _ bt br all b1 vk vr vs a4 n4 c4 st4 (decide ((x4 : Int) ≤ 8))) ?_; rintro v ρ' L' hle ⟨rfl, rfl, rfl⟩ <;> (try simp only [kM, kN, kO, hB2])) | (refine Zc (.func 279) ?_; refine qC rfl rfl (ok_spec _ bt br all b2 vk vr vs a4 n4 c4 st4) ?_; rintro v ρ' L' hle ⟨rfl, rfl, rfl⟩ <;> (try simp only [kM, kN, kO])) | (refine Zj ?_; first | (refine Zg ?_; refine qQ ?_) | refine Zl ?_) | refine Za ?_ | (refine Zi ?_; refine Zq ?_) | (refine Zh ?_; refine Zp ?_) | intro _)
  by_cases hok2 : (!b2 && decide (st4 = 0)) = true
  ·rw [if_pos hok2] at hq
   simp only [hok2]
   have hn5 := fun ρ (h : SIn ρ ZM a4 n4 l4) => raw_spec ρ br a4 n4 c4 l4 h hc4 st4 x4 (by omega)
   generalize Wo x4 l4 st4 = r5 at *
   obtain ⟨x5, l5, st5⟩ := r5
   dsimp only at hq hn5
   subst hq
   repeat' (first | (refine Zc (.func 236) ?_; refine qC rfl rfl (hn5 _ h4) ?_; rintro v ρ' L' hle ⟨hle5, va, vn, vc, a5, n5, c5, rfl, hvc, hv, h5, hc5, rfl⟩ <;> (try simp only [kM, kN, kO])) | (refine Zj ?_; first | (refine Zg ?_; refine qQ ?_) | refine Zl ?_) | refine Za ?_ | (refine Zi ?_; refine Zq ?_) | (refine Zh ?_; refine Zp ?_) | intro _)
   exact qE ⟨rfl, hle5, a5, n5, c5, h5, hc5, rfl⟩
  ·rw [if_neg hok2] at hq
   subst hq
   simp only [Bool.not_eq_true] at hok2
   simp only [hok2]
   repeat' (first | (refine Zj ?_; first | (refine Zg ?_; refine qQ ?_) | refine Zl ?_) | refine Za ?_ | (refine Zi ?_; refine Zq ?_) | (refine Zh ?_; refine Zp ?_) | intro _)
   exact qE ⟨rfl, Hp.le_refl _, a4, n4, c4, h4, hc4, rfl⟩
 ·rw [if_neg hok] at hq
  subst hq
  simp only [Bool.not_eq_true] at hok
  simp only [hok]
  repeat' (first | (refine Zj ?_; first | (refine Zg ?_; refine qQ ?_) | refine Zl ?_) | refine Za ?_ | (refine Zi ?_; refine Zq ?_) | (refine Zh ?_; refine Zp ?_) | intro _)
  exact qE ⟨rfl, Hp.le_refl _, a1, n1, c1, h1, hc1, rfl⟩
def kidR (l : List UInt8) (st : Int) : Kid × List UInt8 × Int :=
 let r1 := Yk 1 l st
 let r2 := Yk 2 r1.2.1 r1.2.2
 let r3 := Yk 1 r2.2.1 r2.2.2
 (⟨r1.1, r2.1, r3.1⟩, r3.2.1, r3.2.2)
theorem tkid_spec (ρ : Hp) (bt br : Nat) (all : Int) (bad : Bool) (vk vr vs : Value) (a : Option Addr) (n c : Nat) (l : List UInt8) (h : SIn ρ ZM a n l) (hc : n ≤ c) (st : Int) :
  Spec Tryz.prog 301 [.pointer (some ⟨bt, 0, none⟩)] ρ [tkC bt br all bad vk vr vs, rdC br a n c st]
   (fun v ρ' L' => v = .agg ⟨Xs (kidR l st).1⟩ ∧ ρ' = ρ ∧ ∃ a' n' c', SIn ρ' ZM a' n' (kidR l st).2.1 ∧ n' ≤ c' ∧ L' = [tkC bt br all bad vk vr vs, rdC br a' n' c' (kidR l st).2.2]) := by
 have hn1 := u8_spec ρ br a n c l h hc st
 have hb1 := Wc 1 l st
 generalize hq : kidR l st = q
 unfold kidR at hq
 generalize Yk 1 l st = r1 at *
 obtain ⟨x1, l1, st1⟩ := r1
 dsimp only at hq hn1 hb1
 have hn2 := fun ρ a n c (h : SIn ρ ZM a n l1) hc => u16_spec ρ br a n c l1 h hc st1
 have hb2 := Wc 2 l1 st1
 generalize Yk 2 l1 st1 = r2 at *
 obtain ⟨x2, l2, st2⟩ := r2
 dsimp only at hq hn2 hb2
 have hn3 := fun ρ a n c (h : SIn ρ ZM a n l2) hc => u8_spec ρ br a n c l2 h hc st2
 have hb3 := Wc 1 l2 st2
 generalize Yk 1 l2 st2 = r3 at *
 obtain ⟨x3, l3, st3⟩ := r3
 dsimp only at hq hn3 hb3
 subst hq
 refine Zf Tryz.func301 rfl rfl rfl fun u R => ?_
 simp only [Zx, List.cons_append, List.nil_append]
 repeat' (first | (refine Zj ?_; first | (refine Zg ?_; refine qQ ?_) | refine Zl ?_) | refine Za ?_ | (refine Zi ?_; refine Zq ?_) | (refine Zh ?_; refine Zp ?_) | intro _)
 refine ZI (Zv _ _ ([tkC bt br all bad vk vr vs])) (ZU (hT := tk) (Hp.le_refl _)) ?_
 all_goals (refine Ye 0 ?_; refine rNc 1 ?_; refine rFa 2 ?_; refine Yr 3 ?_; refine Ye 6 ?_; refine rNc 7 ?_; refine rFa 8 ?_; refine Yr 9 ?_)
 all_goals (refine Zt (i := 4) ?_; ((try refine Zr ?_); (first | (refine Zc (.func 80) ?_; refine qC rfl rfl (hn1) ?_; rintro v ρ' L' hle ⟨rfl, rfl, a1, n1, c1, h1, hc1, rfl⟩ <;> (try simp only [kM, kN, kO])) | (refine Zl ?_; try intro _)) <;> ((try simp only [kM, kN, kO]); refine Za ?_; refine Zs ?_)))
 all_goals refine rCv 5 ?_
 all_goals (refine Zt (i := 10) ?_; ((try refine Zr ?_); (first | (refine Zc (.func 169) ?_; refine qC rfl rfl (hn2 _ _ _ _ h1 hc1) ?_; rintro v ρ' L' hle ⟨rfl, rfl, a2, n2, c2, h2, hc2, rfl⟩ <;> (try simp only [kM, kN, kO])) | (refine Zl ?_; try intro _)) <;> ((try simp only [kM, kN, kO]); refine Za ?_; refine Zs ?_)))
 all_goals (refine rBu 11 ?_; refine rFa 12 ?_)
 all_goals (refine Zt (i := 13) ?_; ((try refine Zr ?_); (first | (refine Zl ?_; try intro _)) <;> ((try simp only [kM, kN, kO]); refine Za ?_; refine Zs ?_)))
 all_goals refine ZP ?_
 all_goals (repeat' (first | (refine Zc (.func 80) ?_; refine qC rfl rfl (hn3 _ _ _ _ h2 hc2) ?_; rintro v ρ' L' hle ⟨rfl, rfl, a3, n3, c3, h3, hc3, rfl⟩ <;> (try simp only [kM, kN, kO])) | (refine Zj ?_; first | (refine Zg ?_; refine qQ ?_) | refine Zl ?_) | refine Za ?_ | (refine Zi ?_; refine Zq ?_) | (refine Zh ?_; refine Zp ?_) | intro _))
 all_goals exact qE ⟨rfl, rfl, a3, n3, c3, h3, hc3, rfl⟩
def cmpI (x y : Int) : Int := if x < y then -1 else if y < x then 1 else 0
theorem nanI_spec (ρ : Hp) (x : Int) : Spec Tryz.prog 262 [.int .i64 x] ρ [] (fun v ρ' L' => v = .bool false ∧ ρ' = ρ ∧ L' = []) := by
 refine Zf Tryz.func262 rfl rfl rfl fun u R => ?_
 simp only [Zx, List.cons_append, List.nil_append]
 repeat' (first | (refine Zj ?_; first | (refine Zg ?_; refine qQ ?_) | refine Zl ?_) | refine Za ?_ | (refine Zi ?_; refine Zq ?_) | (refine Zh ?_; refine Zp ?_) | intro _)
 exact qE ⟨rfl, rfl, rfl⟩
theorem nanU_spec (ρ : Hp) (x : Int) : Spec Tryz.prog 327 [.int .u16 x] ρ [] (fun v ρ' L' => v = .bool false ∧ ρ' = ρ ∧ L' = []) := by
 refine Zf Tryz.func327 rfl rfl rfl fun u R => ?_
 simp only [Zx, List.cons_append, List.nil_append]
 repeat' (first | (refine Zj ?_; first | (refine Zg ?_; refine qQ ?_) | refine Zl ?_) | refine Za ?_ | (refine Zi ?_; refine Zq ?_) | (refine Zh ?_; refine Zp ?_) | intro _)
 exact qE ⟨rfl, rfl, rfl⟩
theorem cmpI_spec (ρ : Hp) (x y : Int) : Spec Tryz.prog 209 [.int .i64 x, .int .i64 y] ρ [] (fun v ρ' L' => v = .int .i64 (cmpI x y) ∧ ρ' = ρ ∧ L' = []) := by
 refine Zf Tryz.func209 rfl rfl rfl fun u R => ?_
 simp only [Zx, List.cons_append, List.nil_append]
 unfold cmpI
 split
 ·repeat' (first | (refine Zc (.func 262) ?_; refine qC rfl rfl (nanI_spec _ _) ?_; rintro v ρ' L' hle ⟨rfl, rfl, rfl⟩ <;> (try simp only [kM, kN, kO])) | (refine Zj ?_; first | (refine Zg ?_; refine qQ ?_) | refine Zl ?_) | refine Za ?_ | (refine Zi ?_; refine Zq ?_) | (refine Zh ?_; refine Zp ?_) | intro _)
  exact qE ⟨rfl, rfl, rfl⟩
 ·split
  ·repeat' (first | (refine Zc (.func 262) ?_; refine qC rfl rfl (nanI_spec _ _) ?_; rintro v ρ' L' hle ⟨rfl, rfl, rfl⟩ <;> (try simp only [kM, kN, kO])) | (refine Zj ?_; first | (refine Zg ?_; refine qQ ?_) | refine Zl ?_) | refine Za ?_ | (refine Zi ?_; refine Zq ?_) | (refine Zh ?_; refine Zp ?_) | intro _)
   exact qE ⟨rfl, rfl, rfl⟩
  ·repeat' (first | (refine Zc (.func 262) ?_; refine qC rfl rfl (nanI_spec _ _) ?_; rintro v ρ' L' hle ⟨rfl, rfl, rfl⟩ <;> (try simp only [kM, kN, kO])) | (refine Zj ?_; first | (refine Zg ?_; refine qQ ?_) | refine Zl ?_) | refine Za ?_ | (refine Zi ?_; refine Zq ?_) | (refine Zh ?_; refine Zp ?_) | intro _)
   exact qE ⟨rfl, rfl, rfl⟩
theorem cmpU_spec (ρ : Hp) (x y : Int) : Spec Tryz.prog 321 [.int .u16 x, .int .u16 y] ρ [] (fun v ρ' L' => v = .int .i64 (cmpI x y) ∧ ρ' = ρ ∧ L' = []) := by
 refine Zf Tryz.func321 rfl rfl rfl fun u R => ?_
 simp only [Zx, List.cons_append, List.nil_append]
 unfold cmpI
 split
 ·repeat' (first | (refine Zc (.func 327) ?_; refine qC rfl rfl (nanU_spec _ _) ?_; rintro v ρ' L' hle ⟨rfl, rfl, rfl⟩ <;> (try simp only [kM, kN, kO])) | (refine Zj ?_; first | (refine Zg ?_; refine qQ ?_) | refine Zl ?_) | refine Za ?_ | (refine Zi ?_; refine Zq ?_) | (refine Zh ?_; refine Zp ?_) | intro _)
  exact qE ⟨rfl, rfl, rfl⟩
 ·split
  ·repeat' (first | (refine Zc (.func 327) ?_; refine qC rfl rfl (nanU_spec _ _) ?_; rintro v ρ' L' hle ⟨rfl, rfl, rfl⟩ <;> (try simp only [kM, kN, kO])) | (refine Zj ?_; first | (refine Zg ?_; refine qQ ?_) | refine Zl ?_) | refine Za ?_ | (refine Zi ?_; refine Zq ?_) | (refine Zh ?_; refine Zp ?_) | intro _)
   exact qE ⟨rfl, rfl, rfl⟩
  ·repeat' (first | (refine Zc (.func 327) ?_; refine qC rfl rfl (nanU_spec _ _) ?_; rintro v ρ' L' hle ⟨rfl, rfl, rfl⟩ <;> (try simp only [kM, kN, kO])) | (refine Zj ?_; first | (refine Zg ?_; refine qQ ?_) | refine Zl ?_) | refine Za ?_ | (refine Zi ?_; refine Zq ?_) | (refine Zh ?_; refine Zp ?_) | intro _)
   exact qE ⟨rfl, rfl, rfl⟩
theorem or2_spec (ρ : Hp) (b : Nat) (x y : Int) : Spec Tryz.prog 320 [.slice (some ⟨b, 0, none⟩) 2 2] ρ [[(b, .cells ⟨[.int .i64 x, .int .i64 y]⟩ 3 (0, 0))]]
  (fun v ρ' L' => v = .int .i64 (if x = 0 then y else x) ∧ ρ' = ρ ∧ L' = [[(b, .cells ⟨[.int .i64 x, .int .i64 y]⟩ 3 (0, 0))]]) := by
 refine Zf Tryz.func320 rfl rfl rfl fun u R => ?_
 simp only [Zx, List.cons_append, List.nil_append]
 repeat' (first | (refine Zj ?_; first | (refine Zg ?_; refine qQ ?_) | refine Zl ?_) | refine Za ?_ | (refine Zi ?_; refine Zq ?_) | (refine Zh ?_; refine Zp ?_) | intro _)
 refine Zy [(2, _), (3, _), (6, _), (7, _)] (fun (ζ : (Nat)) => [(8, .int .i64 ζ)]) (fun (ζ : (Nat)) => ρ) (fun (ζ : (Nat)) => []) (fun (ζ : (Nat)) => ζ = 0 ∨ (ζ = 1 ∧ x = 0) ∨ (ζ = 2 ∧ x = 0 ∧ y = 0)) (fun (ζ : (Nat)) => 3 - ζ) (0) (.inl rfl) Zk Zk rfl tk ?_
 rintro k hI
 try simp only [List.cons_append, List.nil_append, List.append_assoc, List.append_eq] at hI ⊢
 try dsimp only at hI ⊢
 rcases hI with rfl | ⟨rfl, rfl⟩ | ⟨rfl, rfl, rfl⟩
 ·by_cases h : x = 0
  ·subst h
   repeat' (first | (refine Zj ?_; first | (refine Zg ?_; refine qQ ?_) | refine Zl ?_) | refine Za ?_ | (refine Zi ?_; refine Zq ?_) | (refine Zh ?_; refine Zp ?_) | intro _)
   refine Zo (1) (.inr (.inl ⟨rfl, rfl⟩)) Zk Zk rfl tk inferInstance (by first | omega | (dsimp only; omega))
  ·rw [if_neg h]
   repeat' (first | (refine Zj ?_; first | (refine Zg ?_; refine qQ ?_) | refine Zl ?_) | refine Za ?_ | (refine Zi ?_; refine Zq ?_) | (refine Zh ?_; refine Zp ?_) | intro _)
   exact qE ⟨rfl, rfl, rfl⟩
 ·by_cases h : y = 0
  ·subst h
   repeat' (first | (refine Zj ?_; first | (refine Zg ?_; refine qQ ?_) | refine Zl ?_) | refine Za ?_ | (refine Zi ?_; refine Zq ?_) | (refine Zh ?_; refine Zp ?_) | intro _)
   refine Zo (2) (.inr (.inr ⟨rfl, rfl, rfl⟩)) Zk Zk rfl tk inferInstance (by first | omega | (dsimp only; omega))
  ·repeat' (first | (refine Zj ?_; first | (refine Zg ?_; refine qQ ?_) | refine Zl ?_) | refine Za ?_ | (refine Zi ?_; refine Zq ?_) | (refine Zh ?_; refine Zp ?_) | intro _)
   exact qE ⟨rfl, rfl, rfl⟩
 ·repeat' (first | (refine Zj ?_; first | (refine Zg ?_; refine qQ ?_) | refine Zl ?_) | refine Za ?_ | (refine Zi ?_; refine Zq ?_) | (refine Zh ?_; refine Zp ?_) | intro _)
  exact qE ⟨rfl, rfl, rfl⟩
def cmpK (t1 : Int) (i1 : Nat) (t2 : Int) (i2 : Nat) : Int := if cmpI t1 t2 = 0 then cmpI i1 i2 else cmpI t1 t2
theorem cmpK_lt (t1 : Int) (i1 : Nat) (t2 : Int) (i2 : Nat) : cmpK t1 i1 t2 i2 < 0 ↔ t1 < t2 ∨ (t1 = t2 ∧ i1 < i2) := by
 unfold cmpK cmpI
 repeat' split
 all_goals omega
theorem Xv (ρ : Hp) (t1 : Int) (i1 : Nat) (t2 : Int) (i2 : Nat) : Spec Tryz.prog 317 [.agg ⟨keyV t1 i1⟩, .agg ⟨keyV t2 i2⟩] ρ [] (fun v ρ' L' => v = .int .i64 (cmpK t1 i1 t2 i2) ∧ ρ' = ρ ∧ L' = []) := by
 refine Zf Tryz.func317 rfl rfl rfl fun u R => ?_
 simp only [Zx, List.cons_append, List.nil_append]
 repeat' (first | (refine Zj ?_; first | (refine Zg ?_; refine qQ ?_) | refine Zl ?_) | refine Za ?_ | (refine Zi ?_; refine Zq ?_) | (refine Zh ?_; refine Zp ?_) | intro _)
 refine ZI (Zv _ _ _) ZC ?_
 all_goals (refine rFa 0 ?_; refine Yr 1 ?_; refine rFa 2 ?_; refine Yr 3 ?_; refine rFa 5 ?_; refine Yr 6 ?_; refine rFa 7 ?_; refine Yr 8 ?_)
 all_goals (refine Zt (i := 4) ?_; ((try refine Zr ?_); (first | (refine Zc (.func 209) ?_; refine qC rfl rfl (cmpI_spec _ _ _) ?_; rintro v ρ' L' hle ⟨rfl, rfl, rfl⟩ <;> (try simp only [kM, kN, kO])) | (refine Zl ?_; try intro _)) <;> ((try simp only [kM, kN, kO]); refine Za ?_; refine Zs ?_)))
 all_goals (refine Zt (i := 9) ?_; ((try refine Zr ?_); (first | (refine Zc (.func 321) ?_; refine qC rfl rfl (cmpU_spec _ _ _) ?_; rintro v ρ' L' hle ⟨rfl, rfl, rfl⟩ <;> (try simp only [kM, kN, kO])) | (refine Zl ?_; try intro _)) <;> ((try simp only [kM, kN, kO]); refine Za ?_; refine Zs ?_)))
 all_goals (refine Zt (i := 10) ?_; ((try refine Zr ?_); (first | (refine ZJ rfl rfl rfl rfl (by simp) rfl rfl (fun _ => ?_)) | (refine Zl ?_; try intro _)) <;> ((try simp only [kM, kN, kO]); refine Za ?_; refine Zs ?_)))
 all_goals (refine Zt (i := 11) ?_; ((try refine Zr ?_); (first | (refine Zc (.func 320) ?_; refine qC rfl rfl (or2_spec _ _ _ _) ?_; rintro v ρ' L' hle ⟨rfl, rfl, rfl⟩ <;> (try simp only [kM, kN, kO])) | (refine Zl ?_; try intro _)) <;> ((try simp only [kM, kN, kO]); refine Za ?_; refine Zs ?_)))
 all_goals (refine Yi ?_; refine rAs 12 ?_; refine ZP ?_)
 all_goals (repeat' (first | (refine Zj ?_; first | (refine Zg ?_; refine qQ ?_) | refine Zl ?_) | refine Za ?_ | (refine Zi ?_; refine Zq ?_) | (refine Zh ?_; refine Zp ?_) | intro _))
 all_goals exact qE ⟨rfl, rfl, rfl⟩
def Yy (r : Row) : Bool := decide ((0 ≤ r.t ∧ r.t < 3) ∧ r.note.length ≤ 8)
theorem checkRow_spec (ρ : Hp) (r : Row) : Spec Tryz.prog 253 [.agg ⟨YY r⟩] ρ [] (fun v ρ' L' => v = .int .i64 (if Yy r then 0 else 151) ∧ ρ' = ρ ∧ L' = []) := by
 obtain ⟨t, id, val, note⟩ := r
 refine Zf Tryz.func253 rfl rfl rfl fun u R => ?_
 simp only [Zx, List.cons_append, List.nil_append, Yy, decide_eq_true_eq]
 by_cases h1 : 0 ≤ t ∧ t < 3
 ·have hd : decide (0 ≤ t ∧ t < 3) = true := decide_eq_true h1
  by_cases h2 : note.length ≤ 8
  ·rw [if_pos ⟨h1, h2⟩]
   repeat' (first | (refine Zc (.func 280) ?_; refine qC rfl rfl (XS _ _) ?_; rintro v ρ' L' hle ⟨rfl, rfl, rfl⟩ <;> (try simp only [kM, kN, kO, hd])) | (refine Zj ?_; first | (refine Zg ?_; refine qQ ?_) | refine Zl ?_) | refine Za ?_ | (refine Zi ?_; refine Zq ?_) | (refine Zh ?_; refine Zp ?_) | intro _)
   exact qE ⟨rfl, rfl, rfl⟩
  ·rw [if_neg (fun h => h2 h.2)]
   repeat' (first | (refine Zc (.func 280) ?_; refine qC rfl rfl (XS _ _) ?_; rintro v ρ' L' hle ⟨rfl, rfl, rfl⟩ <;> (try simp only [kM, kN, kO, hd])) | (refine Zj ?_; first | (refine Zg ?_; refine qQ ?_) | refine Zl ?_) | refine Za ?_ | (refine Zi ?_; refine Zq ?_) | (refine Zh ?_; refine Zp ?_) | intro _)
   exact qE ⟨rfl, rfl, rfl⟩
 ·have hd : decide (0 ≤ t ∧ t < 3) = false := decide_eq_false h1
  rw [if_neg (fun h => h1 h.1)]
  repeat' (first | (refine Zc (.func 280) ?_; refine qC rfl rfl (XS _ _) ?_; rintro v ρ' L' hle ⟨rfl, rfl, rfl⟩ <;> (try simp only [kM, kN, kO, hd])) | (refine Zj ?_; first | (refine Zg ?_; refine qQ ?_) | refine Zl ?_) | refine Za ?_ | (refine Zi ?_; refine Zq ?_) | (refine Zh ?_; refine Zp ?_) | intro _)
  exact qE ⟨rfl, rfl, rfl⟩
end Go.Proofs.E
