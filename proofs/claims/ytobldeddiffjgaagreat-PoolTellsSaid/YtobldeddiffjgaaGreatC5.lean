/- The law PoolTells. Part 5 of 20. -/
import Derived.Test.YtobldeddiffjgaaGreatC4
import Derived.Test.YtobldeddiffjgaaGreatChecked
import Derived.KernelRfl
namespace Go.Proofs.E
open Go Go.Proofs.E
set_option linter.unusedVariables false
theorem tqI {t : TypeId} {b : Bool} (h : (Tryz.prog.underlying t).map isIfaceD = some b := by kernel_rfl) : Zq Tryz.prog t b := mkTyIface h
theorem tqS {t : TypeId} (h : (Tryz.prog.underlying t).map isAggD = some false := by kernel_rfl) (k : (Tryz.prog.info? t).map (·.size) = some 1 := by kernel_rfl) : TyS Tryz.prog t := mkTyS h k
theorem tqA {t : TypeId} {n : Nat} (h : (Tryz.prog.underlying t).map isAggD = some true := by kernel_rfl) (k : (Tryz.prog.info? t).map (·.size) = some n := by kernel_rfl) : TyA Tryz.prog t n := mkTyA h k
theorem tqN {t : TypeId} {n : Nat} (k : (Tryz.prog.info? t).map (·.size) = some n := by kernel_rfl) : ZF Tryz.prog t n := mkTySz k
theorem tqB {t : TypeId} {n : Nat} (k : (Tryz.prog.info? t).map (·.bytes) = some n := by kernel_rfl) : Zp Tryz.prog t n := mkTyBytes k
theorem tqO {t : TypeId} {z : Value} (k : (Tryz.prog.info? t).bind (·.zero) = some z := by kernel_rfl) : Zs Tryz.prog t z := mkTyZero k
theorem tqF {t : TypeId} (h : (Tryz.prog.underlying t).map isFuncD = some true := by kernel_rfl) : Yy Tryz.prog t := mkTyFunc h
theorem Yh {s : TypeId} {f off : Nat} {ft : TypeId} (h : fldB Tryz.prog s f = some (off, ft) := by kernel_rfl) : Yc Tryz.prog s f off ft := mkFld h
theorem Yu {f : FuncId} (h : funB Tryz.prog f = true := by kernel_rfl) : Yf Tryz.prog f := mkFun h
instance : TyS Tryz.prog 1 := tqS
instance : Zq Tryz.prog 1 false := tqI
instance : Yy Tryz.prog 1 := tqF
instance : ZF Tryz.prog 1 1 := tqN
instance : Zp Tryz.prog 1 8 := tqB
instance : Zs Tryz.prog 1 (.nilFunc) := tqO
instance : TyS Tryz.prog 2 := tqS
instance : Zq Tryz.prog 2 false := tqI
instance : ZF Tryz.prog 2 1 := tqN
instance : Zp Tryz.prog 2 8 := tqB
instance : Zs Tryz.prog 2 (.int .i64 0) := tqO
instance : YZ Tryz.prog 2 .i64 := ⟨by kernel_rfl⟩
instance : TyS Tryz.prog 3 := tqS
instance : Zq Tryz.prog 3 false := tqI
instance : ZF Tryz.prog 3 1 := tqN
instance : Zp Tryz.prog 3 8 := tqB
instance : Zs Tryz.prog 3 (.int .i64 0) := tqO
instance : YZ Tryz.prog 3 .i64 := ⟨by kernel_rfl⟩
instance : TyS Tryz.prog 4 := tqS
instance : Zq Tryz.prog 4 false := tqI
instance : ZF Tryz.prog 4 1 := tqN
instance : Zp Tryz.prog 4 1 := tqB
instance : Zs Tryz.prog 4 (.bool false) := tqO
instance : TyBool Tryz.prog 4 := ⟨by kernel_rfl⟩
instance : TyS Tryz.prog 5 := tqS
instance : Zq Tryz.prog 5 false := tqI
instance : ZF Tryz.prog 5 1 := tqN
instance : Zp Tryz.prog 5 1 := tqB
instance : Zs Tryz.prog 5 (.int .u8 0) := tqO
instance : YZ Tryz.prog 5 .u8 := ⟨by kernel_rfl⟩
instance : TyA Tryz.prog 7 4 := tqA
instance : Zq Tryz.prog 7 false := tqI
instance : ZF Tryz.prog 7 4 := tqN
instance : Zp Tryz.prog 7 24 := tqB
instance : Zs Tryz.prog 7 (.agg ⟨[.int .i64 0, .int .i64 0, .bool false, .int .u8 0]⟩) := tqO
instance : ZK Tryz.prog 7 := ⟨by kernel_rfl⟩
instance : Yc Tryz.prog 7 0 0 2 := Yh
instance : Yc Tryz.prog 7 1 1 3 := Yh
instance : Yc Tryz.prog 7 2 2 4 := Yh
instance : Yc Tryz.prog 7 3 3 6 := Yh
instance : ZG Tryz.prog 7 (([(0, 1), (1, 1), (2, 1), (3, 1)] : List (Nat × Nat))[·]?) := ZB (by kernel_rfl)
instance : TyS Tryz.prog 9 := tqS
instance : Zq Tryz.prog 9 false := tqI
instance : ZF Tryz.prog 9 1 := tqN
instance : Zp Tryz.prog 9 16 := tqB
instance : Zs Tryz.prog 9 (.string ⟨⟨[]⟩⟩) := tqO
instance : TyStr Tryz.prog 9 := ⟨by kernel_rfl⟩
instance : TyS Tryz.prog 12 := tqS
instance : Zq Tryz.prog 12 false := tqI
instance : ZF Tryz.prog 12 1 := tqN
instance : Zp Tryz.prog 12 8 := tqB
instance : Zs Tryz.prog 12 (.int .u64 0) := tqO
instance : YZ Tryz.prog 12 .u64 := ⟨by kernel_rfl⟩
instance : TyS Tryz.prog 16 := tqS
instance : Zq Tryz.prog 16 false := tqI
instance : ZF Tryz.prog 16 1 := tqN
instance : Zp Tryz.prog 16 8 := tqB
instance : Zs Tryz.prog 16 (.pointer none) := tqO
instance : TyPtr Tryz.prog 16 351 := ⟨by kernel_rfl⟩
instance : TyS Tryz.prog 17 := tqS
instance : Zq Tryz.prog 17 false := tqI
instance : ZF Tryz.prog 17 1 := tqN
instance : Zp Tryz.prog 17 8 := tqB
instance : Zs Tryz.prog 17 (.pointer none) := tqO
instance : TyPtr Tryz.prog 17 359 := ⟨by kernel_rfl⟩
instance : TyS Tryz.prog 20 := tqS
instance : Zq Tryz.prog 20 true := tqI
instance : ZF Tryz.prog 20 1 := tqN
instance : Zp Tryz.prog 20 16 := tqB
instance : Zs Tryz.prog 20 (.nilIface) := tqO
instance : TyS Tryz.prog 21 := tqS
instance : Zq Tryz.prog 21 false := tqI
instance : ZF Tryz.prog 21 1 := tqN
instance : Zp Tryz.prog 21 4 := tqB
instance : Zs Tryz.prog 21 (.int .i32 0) := tqO
instance : YZ Tryz.prog 21 .i32 := ⟨by kernel_rfl⟩
instance : TyS Tryz.prog 22 := tqS
instance : Zq Tryz.prog 22 false := tqI
instance : ZF Tryz.prog 22 1 := tqN
instance : Zp Tryz.prog 22 8 := tqB
instance : Zs Tryz.prog 22 (.int .u64 0) := tqO
instance : YZ Tryz.prog 22 .u64 := ⟨by kernel_rfl⟩
instance : TyS Tryz.prog 23 := tqS
instance : Zq Tryz.prog 23 false := tqI
instance : Yy Tryz.prog 23 := tqF
instance : ZF Tryz.prog 23 1 := tqN
instance : Zp Tryz.prog 23 8 := tqB
instance : Zs Tryz.prog 23 (.nilFunc) := tqO
instance : TyS Tryz.prog 24 := tqS
instance : Zq Tryz.prog 24 false := tqI
instance : ZF Tryz.prog 24 1 := tqN
instance : Zp Tryz.prog 24 8 := tqB
instance : Zs Tryz.prog 24 (.pointer none) := tqO
instance : TyPtr Tryz.prog 24 106 := ⟨by kernel_rfl⟩
instance : TyS Tryz.prog 25 := tqS
instance : Zq Tryz.prog 25 false := tqI
instance : ZF Tryz.prog 25 1 := tqN
instance : Zp Tryz.prog 25 8 := tqB
instance : Zs Tryz.prog 25 (.int .i64 0) := tqO
instance : YZ Tryz.prog 25 .i64 := ⟨by kernel_rfl⟩
instance : TyS Tryz.prog 29 := tqS
instance : Zq Tryz.prog 29 false := tqI
instance : ZF Tryz.prog 29 1 := tqN
instance : Zp Tryz.prog 29 24 := tqB
instance : Zs Tryz.prog 29 (.slice none 0 0) := tqO
instance : ZU Tryz.prog 29 240 := ⟨by kernel_rfl⟩
instance : TyS Tryz.prog 30 := tqS
instance : Zq Tryz.prog 30 false := tqI
instance : ZF Tryz.prog 30 1 := tqN
instance : Zp Tryz.prog 30 24 := tqB
instance : Zs Tryz.prog 30 (.slice none 0 0) := tqO
instance : ZU Tryz.prog 30 246 := ⟨by kernel_rfl⟩
instance : TyS Tryz.prog 31 := tqS
instance : Zq Tryz.prog 31 false := tqI
instance : ZF Tryz.prog 31 1 := tqN
instance : Zp Tryz.prog 31 24 := tqB
instance : Zs Tryz.prog 31 (.slice none 0 0) := tqO
instance : ZU Tryz.prog 31 253 := ⟨by kernel_rfl⟩
instance : TyS Tryz.prog 32 := tqS
instance : Zq Tryz.prog 32 false := tqI
instance : ZF Tryz.prog 32 1 := tqN
instance : Zp Tryz.prog 32 24 := tqB
instance : Zs Tryz.prog 32 (.slice none 0 0) := tqO
instance : ZU Tryz.prog 32 72 := ⟨by kernel_rfl⟩
instance : TyA Tryz.prog 33 10 := tqA
instance : Zq Tryz.prog 33 false := tqI
instance : ZF Tryz.prog 33 10 := tqN
instance : Zp Tryz.prog 33 144 := tqB
instance : Zs Tryz.prog 33 (.agg ⟨[.int .i64 0, .int .u64 0, .int .i64 0, .int .u64 0, .int .u64 0, .slice none 0 0, .slice none 0 0, .int .i64 0, .slice none 0 0, .slice none 0 0]⟩) := tqO
instance : ZK Tryz.prog 33 := ⟨by kernel_rfl⟩
instance : Yc Tryz.prog 33 0 0 3 := Yh
instance : Yc Tryz.prog 33 1 1 22 := Yh
instance : Yc Tryz.prog 33 2 2 3 := Yh
instance : Yc Tryz.prog 33 3 3 22 := Yh
instance : Yc Tryz.prog 33 4 4 22 := Yh
instance : Yc Tryz.prog 33 5 5 29 := Yh
instance : Yc Tryz.prog 33 6 6 30 := Yh
instance : Yc Tryz.prog 33 7 7 3 := Yh
instance : Yc Tryz.prog 33 8 8 31 := Yh
instance : Yc Tryz.prog 33 9 9 32 := Yh
instance : ZG Tryz.prog 33 (([(0, 1), (1, 1), (2, 1), (3, 1), (4, 1), (5, 1), (6, 1), (7, 1), (8, 1), (9, 1)] : List (Nat × Nat))[·]?) := ZB (by kernel_rfl)
instance : TyA Tryz.prog 34 10 := tqA
instance : Zq Tryz.prog 34 false := tqI
instance : ZF Tryz.prog 34 10 := tqN
instance : Zp Tryz.prog 34 144 := tqB
instance : Zs Tryz.prog 34 (.agg ⟨[.int .i64 0, .int .u64 0, .int .i64 0, .int .u64 0, .int .u64 0, .slice none 0 0, .slice none 0 0, .int .i64 0, .slice none 0 0, .slice none 0 0]⟩) := tqO
instance : ZK Tryz.prog 34 := ⟨by kernel_rfl⟩
instance : Xw Tryz.prog 34 [(0, 3), (1, 22), (2, 3), (3, 22), (4, 22), (5, 29), (6, 30), (7, 3), (8, 31), (9, 32)] := YH (by kernel_rfl)
instance : Yc Tryz.prog 34 0 0 3 := Yh
instance : Yc Tryz.prog 34 1 1 22 := Yh
instance : Yc Tryz.prog 34 2 2 3 := Yh
instance : Yc Tryz.prog 34 3 3 22 := Yh
instance : Yc Tryz.prog 34 4 4 22 := Yh
instance : Yc Tryz.prog 34 5 5 29 := Yh
instance : Yc Tryz.prog 34 6 6 30 := Yh
instance : Yc Tryz.prog 34 7 7 3 := Yh
instance : Yc Tryz.prog 34 8 8 31 := Yh
instance : Yc Tryz.prog 34 9 9 32 := Yh
instance : ZG Tryz.prog 34 (([(0, 1), (1, 1), (2, 1), (3, 1), (4, 1), (5, 1), (6, 1), (7, 1), (8, 1), (9, 1)] : List (Nat × Nat))[·]?) := ZB (by kernel_rfl)
instance : TyS Tryz.prog 40 := tqS
instance : Zq Tryz.prog 40 false := tqI
instance : ZF Tryz.prog 40 1 := tqN
instance : Zp Tryz.prog 40 24 := tqB
instance : Zs Tryz.prog 40 (.slice none 0 0) := tqO
instance : ZU Tryz.prog 40 34 := ⟨by kernel_rfl⟩
instance : TyS Tryz.prog 44 := tqS
instance : Zq Tryz.prog 44 false := tqI
instance : Yy Tryz.prog 44 := tqF
instance : ZF Tryz.prog 44 1 := tqN
instance : Zp Tryz.prog 44 8 := tqB
instance : Zs Tryz.prog 44 (.nilFunc) := tqO
instance : TyS Tryz.prog 45 := tqS
instance : Zq Tryz.prog 45 false := tqI
instance : ZF Tryz.prog 45 1 := tqN
instance : Zp Tryz.prog 45 24 := tqB
instance : Zs Tryz.prog 45 (.slice none 0 0) := tqO
instance : ZU Tryz.prog 45 52 := ⟨by kernel_rfl⟩
instance : TyS Tryz.prog 46 := tqS
instance : Zq Tryz.prog 46 false := tqI
instance : ZF Tryz.prog 46 1 := tqN
instance : Zp Tryz.prog 46 8 := tqB
instance : Zs Tryz.prog 46 (.pointer none) := tqO
instance : TyPtr Tryz.prog 46 59 := ⟨by kernel_rfl⟩
instance : TyS Tryz.prog 48 := tqS
instance : Zq Tryz.prog 48 false := tqI
instance : Yy Tryz.prog 48 := tqF
instance : ZF Tryz.prog 48 1 := tqN
instance : Zp Tryz.prog 48 8 := tqB
instance : Zs Tryz.prog 48 (.nilFunc) := tqO
instance : TyS Tryz.prog 49 := tqS
instance : Zq Tryz.prog 49 false := tqI
instance : ZF Tryz.prog 49 1 := tqN
instance : Zp Tryz.prog 49 8 := tqB
instance : Zs Tryz.prog 49 (.map none) := tqO
instance : WO Tryz.prog 49 3 65 := ⟨by kernel_rfl⟩
instance : TyS Tryz.prog 50 := tqS
instance : Zq Tryz.prog 50 false := tqI
instance : ZF Tryz.prog 50 1 := tqN
instance : Zp Tryz.prog 50 24 := tqB
instance : Zs Tryz.prog 50 (.slice none 0 0) := tqO
instance : ZU Tryz.prog 50 67 := ⟨by kernel_rfl⟩
instance : TyA Tryz.prog 51 4 := tqA
instance : Zq Tryz.prog 51 false := tqI
instance : ZF Tryz.prog 51 4 := tqN
instance : Zp Tryz.prog 51 48 := tqB
instance : Zs Tryz.prog 51 (.agg ⟨[.int .i64 0, .int .i64 0, .int .i64 0, .slice none 0 0]⟩) := tqO
instance : ZK Tryz.prog 51 := ⟨by kernel_rfl⟩
instance : Yc Tryz.prog 51 0 0 3 := Yh
instance : Yc Tryz.prog 51 1 1 3 := Yh
instance : Yc Tryz.prog 51 2 2 3 := Yh
instance : Yc Tryz.prog 51 3 3 50 := Yh
instance : ZG Tryz.prog 51 (([(0, 1), (1, 1), (2, 1), (3, 1)] : List (Nat × Nat))[·]?) := ZB (by kernel_rfl)
instance : TyA Tryz.prog 52 4 := tqA
instance : Zq Tryz.prog 52 false := tqI
instance : ZF Tryz.prog 52 4 := tqN
instance : Zp Tryz.prog 52 48 := tqB
instance : Zs Tryz.prog 52 (.agg ⟨[.int .i64 0, .int .i64 0, .int .i64 0, .slice none 0 0]⟩) := tqO
instance : ZK Tryz.prog 52 := ⟨by kernel_rfl⟩
instance : Xw Tryz.prog 52 [(0, 3), (1, 3), (2, 3), (3, 50)] := YH (by kernel_rfl)
instance : Yc Tryz.prog 52 0 0 3 := Yh
instance : Yc Tryz.prog 52 1 1 3 := Yh
instance : Yc Tryz.prog 52 2 2 3 := Yh
instance : Yc Tryz.prog 52 3 3 50 := Yh
instance : ZG Tryz.prog 52 (([(0, 1), (1, 1), (2, 1), (3, 1)] : List (Nat × Nat))[·]?) := ZB (by kernel_rfl)
instance : TyS Tryz.prog 54 := tqS
instance : Zq Tryz.prog 54 false := tqI
instance : ZF Tryz.prog 54 1 := tqN
instance : Zp Tryz.prog 54 8 := tqB
instance : Zs Tryz.prog 54 (.int .u64 0) := tqO
instance : YZ Tryz.prog 54 .u64 := ⟨by kernel_rfl⟩
instance : TyS Tryz.prog 55 := tqS
instance : Zq Tryz.prog 55 false := tqI
instance : ZF Tryz.prog 55 1 := tqN
instance : Zp Tryz.prog 55 8 := tqB
instance : Zs Tryz.prog 55 (.pointer none) := tqO
instance : TyPtr Tryz.prog 55 159 := ⟨by kernel_rfl⟩
instance : TyS Tryz.prog 56 := tqS
instance : Zq Tryz.prog 56 false := tqI
instance : ZF Tryz.prog 56 1 := tqN
instance : Zp Tryz.prog 56 8 := tqB
instance : Zs Tryz.prog 56 (.pointer none) := tqO
instance : TyPtr Tryz.prog 56 226 := ⟨by kernel_rfl⟩
instance : TyS Tryz.prog 57 := tqS
instance : Zq Tryz.prog 57 false := tqI
instance : ZF Tryz.prog 57 1 := tqN
instance : Zp Tryz.prog 57 8 := tqB
instance : Zs Tryz.prog 57 (.pointer none) := tqO
instance : TyPtr Tryz.prog 57 135 := ⟨by kernel_rfl⟩
instance : TyA Tryz.prog 58 4 := tqA
instance : Zq Tryz.prog 58 false := tqI
instance : ZF Tryz.prog 58 4 := tqN
instance : Zp Tryz.prog 58 32 := tqB
instance : Zs Tryz.prog 58 (.agg ⟨[.pointer none, .pointer none, .pointer none, .pointer none]⟩) := tqO
instance : ZK Tryz.prog 58 := ⟨by kernel_rfl⟩
instance : Yc Tryz.prog 58 0 0 55 := Yh
instance : Yc Tryz.prog 58 1 1 56 := Yh
instance : Yc Tryz.prog 58 2 2 24 := Yh
instance : Yc Tryz.prog 58 3 3 57 := Yh
instance : ZG Tryz.prog 58 (([(0, 1), (1, 1), (2, 1), (3, 1)] : List (Nat × Nat))[·]?) := ZB (by kernel_rfl)
instance : TyA Tryz.prog 59 4 := tqA
instance : Zq Tryz.prog 59 false := tqI
instance : ZF Tryz.prog 59 4 := tqN
instance : Zp Tryz.prog 59 32 := tqB
instance : Zs Tryz.prog 59 (.agg ⟨[.pointer none, .pointer none, .pointer none, .pointer none]⟩) := tqO
instance : ZK Tryz.prog 59 := ⟨by kernel_rfl⟩
instance : Xw Tryz.prog 59 [(0, 55), (1, 56), (2, 24), (3, 57)] := YH (by kernel_rfl)
instance : Yc Tryz.prog 59 0 0 55 := Yh
instance : Yc Tryz.prog 59 1 1 56 := Yh
instance : Yc Tryz.prog 59 2 2 24 := Yh
instance : Yc Tryz.prog 59 3 3 57 := Yh
instance : ZG Tryz.prog 59 (([(0, 1), (1, 1), (2, 1), (3, 1)] : List (Nat × Nat))[·]?) := ZB (by kernel_rfl)
instance : TyS Tryz.prog 62 := tqS
instance : Zq Tryz.prog 62 false := tqI
instance : ZF Tryz.prog 62 1 := tqN
instance : Zp Tryz.prog 62 24 := tqB
instance : Zs Tryz.prog 62 (.slice none 0 0) := tqO
instance : ZU Tryz.prog 62 130 := ⟨by kernel_rfl⟩
instance : TyS Tryz.prog 63 := tqS
instance : Zq Tryz.prog 63 false := tqI
instance : ZF Tryz.prog 63 1 := tqN
instance : Zp Tryz.prog 63 24 := tqB
instance : Zs Tryz.prog 63 (.slice none 0 0) := tqO
instance : ZU Tryz.prog 63 149 := ⟨by kernel_rfl⟩
instance : TyA Tryz.prog 64 3 := tqA
instance : Zq Tryz.prog 64 false := tqI
instance : ZF Tryz.prog 64 3 := tqN
instance : Zp Tryz.prog 64 56 := tqB
instance : Zs Tryz.prog 64 (.agg ⟨[.int .i64 0, .slice none 0 0, .slice none 0 0]⟩) := tqO
instance : ZK Tryz.prog 64 := ⟨by kernel_rfl⟩
instance : Yc Tryz.prog 64 0 0 3 := Yh
instance : Yc Tryz.prog 64 1 1 62 := Yh
instance : Yc Tryz.prog 64 2 2 63 := Yh
instance : ZG Tryz.prog 64 (([(0, 1), (1, 1), (2, 1)] : List (Nat × Nat))[·]?) := ZB (by kernel_rfl)
instance : TyA Tryz.prog 65 3 := tqA
instance : Zq Tryz.prog 65 false := tqI
instance : ZF Tryz.prog 65 3 := tqN
instance : Zp Tryz.prog 65 56 := tqB
instance : Zs Tryz.prog 65 (.agg ⟨[.int .i64 0, .slice none 0 0, .slice none 0 0]⟩) := tqO
instance : ZK Tryz.prog 65 := ⟨by kernel_rfl⟩
instance : Xw Tryz.prog 65 [(0, 3), (1, 62), (2, 63)] := YH (by kernel_rfl)
instance : Yc Tryz.prog 65 0 0 3 := Yh
instance : Yc Tryz.prog 65 1 1 62 := Yh
instance : Yc Tryz.prog 65 2 2 63 := Yh
instance : ZG Tryz.prog 65 (([(0, 1), (1, 1), (2, 1)] : List (Nat × Nat))[·]?) := ZB (by kernel_rfl)
instance : TyA Tryz.prog 66 4 := tqA
instance : Zq Tryz.prog 66 false := tqI
instance : ZF Tryz.prog 66 4 := tqN
instance : Zp Tryz.prog 66 64 := tqB
instance : Zs Tryz.prog 66 (.agg ⟨[.int .i64 0, .int .i64 0, .slice none 0 0, .slice none 0 0]⟩) := tqO
instance : ZK Tryz.prog 66 := ⟨by kernel_rfl⟩
instance : Yc Tryz.prog 66 0 0 3 := Yh
instance : Yc Tryz.prog 66 1 1 65 := Yh
instance : ZG Tryz.prog 66 (([(0, 1), (1, 3)] : List (Nat × Nat))[·]?) := ZB (by kernel_rfl)
instance : TyA Tryz.prog 67 4 := tqA
instance : Zq Tryz.prog 67 false := tqI
instance : ZF Tryz.prog 67 4 := tqN
instance : Zp Tryz.prog 67 64 := tqB
instance : Zs Tryz.prog 67 (.agg ⟨[.int .i64 0, .int .i64 0, .slice none 0 0, .slice none 0 0]⟩) := tqO
instance : ZK Tryz.prog 67 := ⟨by kernel_rfl⟩
instance : Xw Tryz.prog 67 [(0, 3), (1, 65)] := YH (by kernel_rfl)
instance : Yc Tryz.prog 67 0 0 3 := Yh
instance : Yc Tryz.prog 67 1 1 65 := Yh
instance : ZG Tryz.prog 67 (([(0, 1), (1, 3)] : List (Nat × Nat))[·]?) := ZB (by kernel_rfl)
instance : TyS Tryz.prog 69 := tqS
instance : Zq Tryz.prog 69 false := tqI
instance : ZF Tryz.prog 69 1 := tqN
instance : Zp Tryz.prog 69 8 := tqB
instance : Zs Tryz.prog 69 (.map none) := tqO
instance : WO Tryz.prog 69 3 4 := ⟨by kernel_rfl⟩
instance : TyA Tryz.prog 71 2 := tqA
instance : Zq Tryz.prog 71 false := tqI
instance : ZF Tryz.prog 71 2 := tqN
instance : Zp Tryz.prog 71 16 := tqB
instance : Zs Tryz.prog 71 (.agg ⟨[.int .i64 0, .int .u64 0]⟩) := tqO
instance : ZK Tryz.prog 71 := ⟨by kernel_rfl⟩
instance : Yc Tryz.prog 71 0 0 3 := Yh
instance : Yc Tryz.prog 71 1 1 22 := Yh
instance : ZG Tryz.prog 71 (([(0, 1), (1, 1)] : List (Nat × Nat))[·]?) := ZB (by kernel_rfl)
instance : TyA Tryz.prog 72 2 := tqA
instance : Zq Tryz.prog 72 false := tqI
instance : ZF Tryz.prog 72 2 := tqN
instance : Zp Tryz.prog 72 16 := tqB
instance : Zs Tryz.prog 72 (.agg ⟨[.int .i64 0, .int .u64 0]⟩) := tqO
instance : ZK Tryz.prog 72 := ⟨by kernel_rfl⟩
instance : Xw Tryz.prog 72 [(0, 3), (1, 22)] := YH (by kernel_rfl)
instance : Yc Tryz.prog 72 0 0 3 := Yh
instance : Yc Tryz.prog 72 1 1 22 := Yh
instance : ZG Tryz.prog 72 (([(0, 1), (1, 1)] : List (Nat × Nat))[·]?) := ZB (by kernel_rfl)
instance : TyS Tryz.prog 79 := tqS
instance : Zq Tryz.prog 79 false := tqI
instance : ZF Tryz.prog 79 1 := tqN
instance : Zp Tryz.prog 79 24 := tqB
instance : Zs Tryz.prog 79 (.slice none 0 0) := tqO
instance : ZU Tryz.prog 79 65 := ⟨by kernel_rfl⟩
instance : TyA Tryz.prog 80 1 := tqA
instance : Zq Tryz.prog 80 false := tqI
instance : ZF Tryz.prog 80 1 := tqN
instance : Zp Tryz.prog 80 24 := tqB
instance : Zs Tryz.prog 80 (.agg ⟨[.slice none 0 0]⟩) := tqO
instance : ZK Tryz.prog 80 := ⟨by kernel_rfl⟩
instance : Yc Tryz.prog 80 0 0 79 := Yh
instance : ZG Tryz.prog 80 (([(0, 1)] : List (Nat × Nat))[·]?) := ZB (by kernel_rfl)
instance : TyS Tryz.prog 84 := tqS
instance : Zq Tryz.prog 84 false := tqI
instance : ZF Tryz.prog 84 1 := tqN
instance : Zp Tryz.prog 84 24 := tqB
instance : Zs Tryz.prog 84 (.slice none 0 0) := tqO
instance : ZU Tryz.prog 84 3 := ⟨by kernel_rfl⟩
instance : TyS Tryz.prog 87 := tqS
instance : Zq Tryz.prog 87 false := tqI
instance : ZF Tryz.prog 87 1 := tqN
instance : Zp Tryz.prog 87 24 := tqB
instance : Zs Tryz.prog 87 (.slice none 0 0) := tqO
instance : ZU Tryz.prog 87 4 := ⟨by kernel_rfl⟩
instance : TyA Tryz.prog 88 2 := tqA
instance : Zq Tryz.prog 88 false := tqI
instance : ZF Tryz.prog 88 2 := tqN
instance : Zp Tryz.prog 88 32 := tqB
instance : Zs Tryz.prog 88 (.agg ⟨[.int .i64 0, .slice none 0 0]⟩) := tqO
instance : ZK Tryz.prog 88 := ⟨by kernel_rfl⟩
instance : Yc Tryz.prog 88 0 0 3 := Yh
instance : Yc Tryz.prog 88 1 1 87 := Yh
instance : ZG Tryz.prog 88 (([(0, 1), (1, 1)] : List (Nat × Nat))[·]?) := ZB (by kernel_rfl)
instance : TyS Tryz.prog 96 := tqS
instance : Zq Tryz.prog 96 false := tqI
instance : Yy Tryz.prog 96 := tqF
instance : ZF Tryz.prog 96 1 := tqN
instance : Zp Tryz.prog 96 8 := tqB
instance : Zs Tryz.prog 96 (.nilFunc) := tqO
instance : TyS Tryz.prog 102 := tqS
instance : Zq Tryz.prog 102 false := tqI
instance : ZF Tryz.prog 102 1 := tqN
instance : Zp Tryz.prog 102 8 := tqB
instance : Zs Tryz.prog 102 (.pointer none) := tqO
instance : TyPtr Tryz.prog 102 178 := ⟨by kernel_rfl⟩
instance : TyA Tryz.prog 105 7 := tqA
instance : Zq Tryz.prog 105 false := tqI
instance : ZF Tryz.prog 105 7 := tqN
instance : Zp Tryz.prog 105 72 := tqB
instance : Zs Tryz.prog 105 (.agg ⟨[.pointer none, .int .u64 0, .int .u64 0, .int .u64 0, .int .i64 0, .slice none 0 0, .int .i64 0]⟩) := tqO
instance : ZK Tryz.prog 105 := ⟨by kernel_rfl⟩
instance : Yc Tryz.prog 105 0 0 102 := Yh
instance : Yc Tryz.prog 105 1 1 22 := Yh
instance : Yc Tryz.prog 105 2 2 22 := Yh
instance : Yc Tryz.prog 105 3 3 22 := Yh
instance : Yc Tryz.prog 105 4 4 3 := Yh
instance : Yc Tryz.prog 105 5 5 40 := Yh
instance : Yc Tryz.prog 105 6 6 3 := Yh
instance : ZG Tryz.prog 105 (([(0, 1), (1, 1), (2, 1), (3, 1), (4, 1), (5, 1), (6, 1)] : List (Nat × Nat))[·]?) := ZB (by kernel_rfl)
instance : TyA Tryz.prog 106 7 := tqA
instance : Zq Tryz.prog 106 false := tqI
instance : ZF Tryz.prog 106 7 := tqN
instance : Zp Tryz.prog 106 72 := tqB
instance : Zs Tryz.prog 106 (.agg ⟨[.pointer none, .int .u64 0, .int .u64 0, .int .u64 0, .int .i64 0, .slice none 0 0, .int .i64 0]⟩) := tqO
instance : ZK Tryz.prog 106 := ⟨by kernel_rfl⟩
instance : Xw Tryz.prog 106 [(0, 102), (1, 22), (2, 22), (3, 22), (4, 3), (5, 40), (6, 3)] := YH (by kernel_rfl)
instance : Yc Tryz.prog 106 0 0 102 := Yh
instance : Yc Tryz.prog 106 1 1 22 := Yh
instance : Yc Tryz.prog 106 2 2 22 := Yh
instance : Yc Tryz.prog 106 3 3 22 := Yh
instance : Yc Tryz.prog 106 4 4 3 := Yh
instance : Yc Tryz.prog 106 5 5 40 := Yh
instance : Yc Tryz.prog 106 6 6 3 := Yh
instance : ZG Tryz.prog 106 (([(0, 1), (1, 1), (2, 1), (3, 1), (4, 1), (5, 1), (6, 1)] : List (Nat × Nat))[·]?) := ZB (by kernel_rfl)
instance : TyS Tryz.prog 109 := tqS
instance : Zq Tryz.prog 109 false := tqI
instance : ZF Tryz.prog 109 1 := tqN
instance : Zp Tryz.prog 109 24 := tqB
instance : Zs Tryz.prog 109 (.slice none 0 0) := tqO
instance : ZU Tryz.prog 109 5 := ⟨by kernel_rfl⟩
instance : TyS Tryz.prog 113 := tqS
instance : Zq Tryz.prog 113 false := tqI
instance : ZF Tryz.prog 113 1 := tqN
instance : Zp Tryz.prog 113 24 := tqB
instance : Zs Tryz.prog 113 (.slice none 0 0) := tqO
instance : ZU Tryz.prog 113 109 := ⟨by kernel_rfl⟩
instance : TyS Tryz.prog 115 := tqS
instance : Zq Tryz.prog 115 false := tqI
instance : Yy Tryz.prog 115 := tqF
instance : ZF Tryz.prog 115 1 := tqN
instance : Zp Tryz.prog 115 8 := tqB
instance : Zs Tryz.prog 115 (.nilFunc) := tqO
instance : TyS Tryz.prog 116 := tqS
instance : Zq Tryz.prog 116 false := tqI
instance : Yy Tryz.prog 116 := tqF
instance : ZF Tryz.prog 116 1 := tqN
instance : Zp Tryz.prog 116 8 := tqB
instance : Zs Tryz.prog 116 (.nilFunc) := tqO
instance : TyS Tryz.prog 126 := tqS
instance : Zq Tryz.prog 126 false := tqI
instance : ZF Tryz.prog 126 1 := tqN
instance : Zp Tryz.prog 126 2 := tqB
instance : Zs Tryz.prog 126 (.int .u16 0) := tqO
instance : YZ Tryz.prog 126 .u16 := ⟨by kernel_rfl⟩
instance : TyA Tryz.prog 127 2 := tqA
instance : Zq Tryz.prog 127 false := tqI
instance : ZF Tryz.prog 127 2 := tqN
instance : Zp Tryz.prog 127 16 := tqB
instance : Zs Tryz.prog 127 (.agg ⟨[.int .i64 0, .int .u16 0]⟩) := tqO
instance : ZK Tryz.prog 127 := ⟨by kernel_rfl⟩
instance : Yc Tryz.prog 127 0 0 3 := Yh
instance : Yc Tryz.prog 127 1 1 126 := Yh
instance : ZG Tryz.prog 127 (([(0, 1), (1, 1)] : List (Nat × Nat))[·]?) := ZB (by kernel_rfl)
instance : TyA Tryz.prog 128 2 := tqA
instance : Zq Tryz.prog 128 false := tqI
instance : ZF Tryz.prog 128 2 := tqN
instance : Zp Tryz.prog 128 16 := tqB
instance : Zs Tryz.prog 128 (.agg ⟨[.int .i64 0, .int .u16 0]⟩) := tqO
instance : ZK Tryz.prog 128 := ⟨by kernel_rfl⟩
instance : Xw Tryz.prog 128 [(0, 3), (1, 126)] := YH (by kernel_rfl)
instance : Yc Tryz.prog 128 0 0 3 := Yh
instance : Yc Tryz.prog 128 1 1 126 := Yh
instance : ZG Tryz.prog 128 (([(0, 1), (1, 1)] : List (Nat × Nat))[·]?) := ZB (by kernel_rfl)
instance : TyA Tryz.prog 129 4 := tqA
instance : Zq Tryz.prog 129 false := tqI
instance : ZF Tryz.prog 129 4 := tqN
instance : Zp Tryz.prog 129 40 := tqB
instance : Zs Tryz.prog 129 (.agg ⟨[.int .i64 0, .int .u16 0, .int .i64 0, .string ⟨⟨[]⟩⟩]⟩) := tqO
instance : ZK Tryz.prog 129 := ⟨by kernel_rfl⟩
instance : Yc Tryz.prog 129 0 0 128 := Yh
instance : Yc Tryz.prog 129 1 2 2 := Yh
instance : Yc Tryz.prog 129 2 3 9 := Yh
instance : ZG Tryz.prog 129 (([(0, 2), (2, 1), (3, 1)] : List (Nat × Nat))[·]?) := ZB (by kernel_rfl)
instance : TyA Tryz.prog 130 4 := tqA
instance : Zq Tryz.prog 130 false := tqI
instance : ZF Tryz.prog 130 4 := tqN
instance : Zp Tryz.prog 130 40 := tqB
instance : Zs Tryz.prog 130 (.agg ⟨[.int .i64 0, .int .u16 0, .int .i64 0, .string ⟨⟨[]⟩⟩]⟩) := tqO
instance : ZK Tryz.prog 130 := ⟨by kernel_rfl⟩
instance : Xw Tryz.prog 130 [(0, 128), (2, 2), (3, 9)] := YH (by kernel_rfl)
instance : Yc Tryz.prog 130 0 0 128 := Yh
instance : Yc Tryz.prog 130 1 2 2 := Yh
instance : Yc Tryz.prog 130 2 3 9 := Yh
instance : ZG Tryz.prog 130 (([(0, 2), (2, 1), (3, 1)] : List (Nat × Nat))[·]?) := ZB (by kernel_rfl)
instance : TyA Tryz.prog 131 5 := tqA
instance : Zq Tryz.prog 131 false := tqI
instance : ZF Tryz.prog 131 5 := tqN
instance : Zp Tryz.prog 131 72 := tqB
instance : Zs Tryz.prog 131 (.agg ⟨[.int .i64 0, .slice none 0 0, .slice none 0 0, .int .u64 0, .int .u64 0]⟩) := tqO
instance : ZK Tryz.prog 131 := ⟨by kernel_rfl⟩
instance : Yc Tryz.prog 131 0 0 65 := Yh
instance : Yc Tryz.prog 131 1 3 22 := Yh
instance : Yc Tryz.prog 131 2 4 22 := Yh
instance : ZG Tryz.prog 131 (([(0, 3), (3, 1), (4, 1)] : List (Nat × Nat))[·]?) := ZB (by kernel_rfl)
instance : TyA Tryz.prog 132 5 := tqA
instance : Zq Tryz.prog 132 false := tqI
instance : ZF Tryz.prog 132 5 := tqN
instance : Zp Tryz.prog 132 72 := tqB
instance : Zs Tryz.prog 132 (.agg ⟨[.int .i64 0, .slice none 0 0, .slice none 0 0, .int .u64 0, .int .u64 0]⟩) := tqO
instance : ZK Tryz.prog 132 := ⟨by kernel_rfl⟩
instance : Xw Tryz.prog 132 [(0, 65), (3, 22), (4, 22)] := YH (by kernel_rfl)
instance : Yc Tryz.prog 132 0 0 65 := Yh
instance : Yc Tryz.prog 132 1 3 22 := Yh
instance : Yc Tryz.prog 132 2 4 22 := Yh
instance : ZG Tryz.prog 132 (([(0, 3), (3, 1), (4, 1)] : List (Nat × Nat))[·]?) := ZB (by kernel_rfl)
instance : TyS Tryz.prog 133 := tqS
instance : Zq Tryz.prog 133 false := tqI
instance : ZF Tryz.prog 133 1 := tqN
instance : Zp Tryz.prog 133 8 := tqB
instance : Zs Tryz.prog 133 (.map none) := tqO
instance : WO Tryz.prog 133 3 132 := ⟨by kernel_rfl⟩
instance : TyA Tryz.prog 134 3 := tqA
instance : Zq Tryz.prog 134 false := tqI
instance : ZF Tryz.prog 134 3 := tqN
instance : Zp Tryz.prog 134 24 := tqB
instance : Zs Tryz.prog 134 (.agg ⟨[.pointer none, .pointer none, .map none]⟩) := tqO
instance : ZK Tryz.prog 134 := ⟨by kernel_rfl⟩
instance : Yc Tryz.prog 134 0 0 56 := Yh
instance : Yc Tryz.prog 134 1 1 24 := Yh
instance : Yc Tryz.prog 134 2 2 133 := Yh
instance : ZG Tryz.prog 134 (([(0, 1), (1, 1), (2, 1)] : List (Nat × Nat))[·]?) := ZB (by kernel_rfl)
instance : TyA Tryz.prog 135 3 := tqA
instance : Zq Tryz.prog 135 false := tqI
instance : ZF Tryz.prog 135 3 := tqN
instance : Zp Tryz.prog 135 24 := tqB
instance : Zs Tryz.prog 135 (.agg ⟨[.pointer none, .pointer none, .map none]⟩) := tqO
instance : ZK Tryz.prog 135 := ⟨by kernel_rfl⟩
instance : Xw Tryz.prog 135 [(0, 56), (1, 24), (2, 133)] := YH (by kernel_rfl)
instance : Yc Tryz.prog 135 0 0 56 := Yh
instance : Yc Tryz.prog 135 1 1 24 := Yh
instance : Yc Tryz.prog 135 2 2 133 := Yh
instance : ZG Tryz.prog 135 (([(0, 1), (1, 1), (2, 1)] : List (Nat × Nat))[·]?) := ZB (by kernel_rfl)
instance : TyS Tryz.prog 139 := tqS
instance : Zq Tryz.prog 139 false := tqI
instance : Yy Tryz.prog 139 := tqF
instance : ZF Tryz.prog 139 1 := tqN
instance : Zp Tryz.prog 139 8 := tqB
instance : Zs Tryz.prog 139 (.nilFunc) := tqO
instance : TyS Tryz.prog 140 := tqS
instance : Zq Tryz.prog 140 false := tqI
instance : Yy Tryz.prog 140 := tqF
instance : ZF Tryz.prog 140 1 := tqN
instance : Zp Tryz.prog 140 8 := tqB
instance : Zs Tryz.prog 140 (.nilFunc) := tqO
instance : TyS Tryz.prog 141 := tqS
instance : Zq Tryz.prog 141 false := tqI
instance : Yy Tryz.prog 141 := tqF
instance : ZF Tryz.prog 141 1 := tqN
instance : Zp Tryz.prog 141 8 := tqB
instance : Zs Tryz.prog 141 (.nilFunc) := tqO
instance : TyS Tryz.prog 143 := tqS
instance : Zq Tryz.prog 143 false := tqI
instance : Yy Tryz.prog 143 := tqF
instance : ZF Tryz.prog 143 1 := tqN
instance : Zp Tryz.prog 143 8 := tqB
instance : Zs Tryz.prog 143 (.nilFunc) := tqO
instance : TyA Tryz.prog 148 3 := tqA
instance : Zq Tryz.prog 148 false := tqI
instance : ZF Tryz.prog 148 3 := tqN
instance : Zp Tryz.prog 148 24 := tqB
instance : Zs Tryz.prog 148 (.agg ⟨[.int .i64 0, .int .u16 0, .int .i64 0]⟩) := tqO
instance : ZK Tryz.prog 148 := ⟨by kernel_rfl⟩
instance : Yc Tryz.prog 148 0 0 128 := Yh
instance : Yc Tryz.prog 148 1 2 3 := Yh
instance : ZG Tryz.prog 148 (([(0, 2), (2, 1)] : List (Nat × Nat))[·]?) := ZB (by kernel_rfl)
instance : TyA Tryz.prog 149 3 := tqA
instance : Zq Tryz.prog 149 false := tqI
instance : ZF Tryz.prog 149 3 := tqN
instance : Zp Tryz.prog 149 24 := tqB
instance : Zs Tryz.prog 149 (.agg ⟨[.int .i64 0, .int .u16 0, .int .i64 0]⟩) := tqO
instance : ZK Tryz.prog 149 := ⟨by kernel_rfl⟩
instance : Xw Tryz.prog 149 [(0, 128), (2, 3)] := YH (by kernel_rfl)
instance : Yc Tryz.prog 149 0 0 128 := Yh
instance : Yc Tryz.prog 149 1 2 3 := Yh
instance : ZG Tryz.prog 149 (([(0, 2), (2, 1)] : List (Nat × Nat))[·]?) := ZB (by kernel_rfl)
instance : TyA Tryz.prog 150 7 := tqA
instance : Zq Tryz.prog 150 false := tqI
instance : ZF Tryz.prog 150 7 := tqN
instance : Zp Tryz.prog 150 88 := tqB
instance : Zs Tryz.prog 150 (.agg ⟨[.int .u64 0, .int .u64 0, .int .i64 0, .slice none 0 0, .slice none 0 0, .bool false, .int .u64 0]⟩) := tqO
instance : ZK Tryz.prog 150 := ⟨by kernel_rfl⟩
instance : Yc Tryz.prog 150 0 0 22 := Yh
instance : Yc Tryz.prog 150 1 1 22 := Yh
instance : Yc Tryz.prog 150 2 2 65 := Yh
instance : Yc Tryz.prog 150 3 5 4 := Yh
instance : Yc Tryz.prog 150 4 6 22 := Yh
instance : ZG Tryz.prog 150 (([(0, 1), (1, 1), (2, 3), (5, 1), (6, 1)] : List (Nat × Nat))[·]?) := ZB (by kernel_rfl)
instance : TyA Tryz.prog 151 7 := tqA
instance : Zq Tryz.prog 151 false := tqI
instance : ZF Tryz.prog 151 7 := tqN
instance : Zp Tryz.prog 151 88 := tqB
instance : Zs Tryz.prog 151 (.agg ⟨[.int .u64 0, .int .u64 0, .int .i64 0, .slice none 0 0, .slice none 0 0, .bool false, .int .u64 0]⟩) := tqO
instance : ZK Tryz.prog 151 := ⟨by kernel_rfl⟩
instance : Xw Tryz.prog 151 [(0, 22), (1, 22), (2, 65), (5, 4), (6, 22)] := YH (by kernel_rfl)
instance : Yc Tryz.prog 151 0 0 22 := Yh
instance : Yc Tryz.prog 151 1 1 22 := Yh
instance : Yc Tryz.prog 151 2 2 65 := Yh
instance : Yc Tryz.prog 151 3 5 4 := Yh
instance : Yc Tryz.prog 151 4 6 22 := Yh
instance : ZG Tryz.prog 151 (([(0, 1), (1, 1), (2, 3), (5, 1), (6, 1)] : List (Nat × Nat))[·]?) := ZB (by kernel_rfl)
instance : TyS Tryz.prog 156 := tqS
instance : Zq Tryz.prog 156 false := tqI
instance : ZF Tryz.prog 156 1 := tqN
instance : Zp Tryz.prog 156 24 := tqB
instance : Zs Tryz.prog 156 (.slice none 0 0) := tqO
instance : ZU Tryz.prog 156 172 := ⟨by kernel_rfl⟩
instance : TyS Tryz.prog 157 := tqS
instance : Zq Tryz.prog 157 false := tqI
instance : ZF Tryz.prog 157 1 := tqN
instance : Zp Tryz.prog 157 8 := tqB
instance : Zs Tryz.prog 157 (.map none) := tqO
instance : WO Tryz.prog 157 3 172 := ⟨by kernel_rfl⟩
instance : TyA Tryz.prog 158 6 := tqA
instance : Zq Tryz.prog 158 false := tqI
instance : ZF Tryz.prog 158 6 := tqN
instance : Zp Tryz.prog 158 64 := tqB
instance : Zs Tryz.prog 158 (.agg ⟨[.slice none 0 0, .map none, .int .i64 0, .int .i64 0, .int .i64 0, .bool false]⟩) := tqO
instance : ZK Tryz.prog 158 := ⟨by kernel_rfl⟩
instance : Yc Tryz.prog 158 0 0 156 := Yh
instance : Yc Tryz.prog 158 1 1 157 := Yh
instance : Yc Tryz.prog 158 2 2 3 := Yh
instance : Yc Tryz.prog 158 3 3 3 := Yh
instance : Yc Tryz.prog 158 4 4 3 := Yh
instance : Yc Tryz.prog 158 5 5 4 := Yh
instance : ZG Tryz.prog 158 (([(0, 1), (1, 1), (2, 1), (3, 1), (4, 1), (5, 1)] : List (Nat × Nat))[·]?) := ZB (by kernel_rfl)
instance : TyA Tryz.prog 159 6 := tqA
instance : Zq Tryz.prog 159 false := tqI
instance : ZF Tryz.prog 159 6 := tqN
instance : Zp Tryz.prog 159 64 := tqB
instance : Zs Tryz.prog 159 (.agg ⟨[.slice none 0 0, .map none, .int .i64 0, .int .i64 0, .int .i64 0, .bool false]⟩) := tqO
instance : ZK Tryz.prog 159 := ⟨by kernel_rfl⟩
instance : Xw Tryz.prog 159 [(0, 156), (1, 157), (2, 3), (3, 3), (4, 3), (5, 4)] := YH (by kernel_rfl)
instance : Yc Tryz.prog 159 0 0 156 := Yh
instance : Yc Tryz.prog 159 1 1 157 := Yh
instance : Yc Tryz.prog 159 2 2 3 := Yh
instance : Yc Tryz.prog 159 3 3 3 := Yh
instance : Yc Tryz.prog 159 4 4 3 := Yh
instance : Yc Tryz.prog 159 5 5 4 := Yh
instance : ZG Tryz.prog 159 (([(0, 1), (1, 1), (2, 1), (3, 1), (4, 1), (5, 1)] : List (Nat × Nat))[·]?) := ZB (by kernel_rfl)
instance : TyS Tryz.prog 168 := tqS
instance : Zq Tryz.prog 168 false := tqI
instance : Yy Tryz.prog 168 := tqF
instance : ZF Tryz.prog 168 1 := tqN
instance : Zp Tryz.prog 168 8 := tqB
instance : Zs Tryz.prog 168 (.nilFunc) := tqO
instance : TyS Tryz.prog 170 := tqS
instance : Zq Tryz.prog 170 false := tqI
instance : Yy Tryz.prog 170 := tqF
instance : ZF Tryz.prog 170 1 := tqN
instance : Zp Tryz.prog 170 8 := tqB
instance : Zs Tryz.prog 170 (.nilFunc) := tqO
instance : TyA Tryz.prog 171 64 := tqA
instance : Zq Tryz.prog 171 false := tqI
instance : ZF Tryz.prog 171 64 := tqN
instance : Zp Tryz.prog 171 64 := tqB
instance : Zs Tryz.prog 171 (.agg ⟨List.replicate 64 (.int .u8 0)⟩) := tqO
instance : ZK Tryz.prog 171 := ⟨by kernel_rfl⟩
instance : Ve Tryz.prog 171 64 5 := ⟨by kernel_rfl⟩
instance : ZG Tryz.prog 171 (fun i => some (i * 1, 1)) := mkTyPlacesA (n := 64) (e := 5) (by kernel_rfl) (by kernel_rfl)
instance : TyA Tryz.prog 172 64 := tqA
instance : Zq Tryz.prog 172 false := tqI
instance : ZF Tryz.prog 172 64 := tqN
instance : Zp Tryz.prog 172 64 := tqB
instance : Zs Tryz.prog 172 (.agg ⟨List.replicate 64 (.int .u8 0)⟩) := tqO
instance : ZK Tryz.prog 172 := ⟨by kernel_rfl⟩
instance : Ve Tryz.prog 172 64 5 := ⟨by kernel_rfl⟩
instance : ZG Tryz.prog 172 (fun i => some (i * 1, 1)) := mkTyPlacesA (n := 64) (e := 5) (by kernel_rfl) (by kernel_rfl)
instance : TyS Tryz.prog 173 := tqS
instance : Zq Tryz.prog 173 false := tqI
instance : Yy Tryz.prog 173 := tqF
instance : ZF Tryz.prog 173 1 := tqN
instance : Zp Tryz.prog 173 8 := tqB
instance : Zs Tryz.prog 173 (.nilFunc) := tqO
instance : TyA Tryz.prog 174 5 := tqA
instance : Zq Tryz.prog 174 false := tqI
instance : ZF Tryz.prog 174 5 := tqN
instance : Zp Tryz.prog 174 56 := tqB
instance : Zs Tryz.prog 174 (.agg ⟨[.int .u64 0, .int .u64 0, .int .i64 0, .int .i64 0, .slice none 0 0]⟩) := tqO
instance : ZK Tryz.prog 174 := ⟨by kernel_rfl⟩
instance : Yc Tryz.prog 174 0 0 22 := Yh
instance : Yc Tryz.prog 174 1 1 22 := Yh
instance : Yc Tryz.prog 174 2 2 3 := Yh
instance : Yc Tryz.prog 174 3 3 3 := Yh
instance : Yc Tryz.prog 174 4 4 109 := Yh
instance : ZG Tryz.prog 174 (([(0, 1), (1, 1), (2, 1), (3, 1), (4, 1)] : List (Nat × Nat))[·]?) := ZB (by kernel_rfl)
instance : TyA Tryz.prog 175 5 := tqA
instance : Zq Tryz.prog 175 false := tqI
instance : ZF Tryz.prog 175 5 := tqN
instance : Zp Tryz.prog 175 56 := tqB
instance : Zs Tryz.prog 175 (.agg ⟨[.int .u64 0, .int .u64 0, .int .i64 0, .int .i64 0, .slice none 0 0]⟩) := tqO
instance : ZK Tryz.prog 175 := ⟨by kernel_rfl⟩
instance : Xw Tryz.prog 175 [(0, 22), (1, 22), (2, 3), (3, 3), (4, 109)] := YH (by kernel_rfl)
instance : Yc Tryz.prog 175 0 0 22 := Yh
instance : Yc Tryz.prog 175 1 1 22 := Yh
instance : Yc Tryz.prog 175 2 2 3 := Yh
instance : Yc Tryz.prog 175 3 3 3 := Yh
instance : Yc Tryz.prog 175 4 4 109 := Yh
instance : ZG Tryz.prog 175 (([(0, 1), (1, 1), (2, 1), (3, 1), (4, 1)] : List (Nat × Nat))[·]?) := ZB (by kernel_rfl)
instance : TyA Tryz.prog 177 9 := tqA
instance : Zq Tryz.prog 177 false := tqI
instance : ZF Tryz.prog 177 9 := tqN
instance : Zp Tryz.prog 177 104 := tqB
instance : Zs Tryz.prog 177 (.agg ⟨[.int .u64 0, .int .u64 0, .int .i64 0, .int .i64 0, .slice none 0 0, .pointer none, .slice none 0 0, .int .i64 0, .bool false]⟩) := tqO
instance : ZK Tryz.prog 177 := ⟨by kernel_rfl⟩
instance : Yc Tryz.prog 177 0 0 175 := Yh
instance : Yc Tryz.prog 177 1 5 55 := Yh
instance : Yc Tryz.prog 177 2 6 113 := Yh
instance : Yc Tryz.prog 177 3 7 3 := Yh
instance : Yc Tryz.prog 177 4 8 4 := Yh
instance : ZG Tryz.prog 177 (([(0, 5), (5, 1), (6, 1), (7, 1), (8, 1)] : List (Nat × Nat))[·]?) := ZB (by kernel_rfl)
instance : TyA Tryz.prog 178 9 := tqA
instance : Zq Tryz.prog 178 false := tqI
instance : ZF Tryz.prog 178 9 := tqN
instance : Zp Tryz.prog 178 104 := tqB
instance : Zs Tryz.prog 178 (.agg ⟨[.int .u64 0, .int .u64 0, .int .i64 0, .int .i64 0, .slice none 0 0, .pointer none, .slice none 0 0, .int .i64 0, .bool false]⟩) := tqO
instance : ZK Tryz.prog 178 := ⟨by kernel_rfl⟩
instance : Xw Tryz.prog 178 [(0, 175), (5, 55), (6, 113), (7, 3), (8, 4)] := YH (by kernel_rfl)
instance : Yc Tryz.prog 178 0 0 175 := Yh
instance : Yc Tryz.prog 178 1 5 55 := Yh
instance : Yc Tryz.prog 178 2 6 113 := Yh
instance : Yc Tryz.prog 178 3 7 3 := Yh
instance : Yc Tryz.prog 178 4 8 4 := Yh
instance : ZG Tryz.prog 178 (([(0, 5), (5, 1), (6, 1), (7, 1), (8, 1)] : List (Nat × Nat))[·]?) := ZB (by kernel_rfl)
instance : TyA Tryz.prog 179 128 := tqA
instance : Zq Tryz.prog 179 false := tqI
instance : ZF Tryz.prog 179 128 := tqN
instance : Zp Tryz.prog 179 128 := tqB
instance : Zs Tryz.prog 179 (.agg ⟨List.replicate 128 (.int .u8 0)⟩) := tqO
instance : ZK Tryz.prog 179 := ⟨by kernel_rfl⟩
instance : Ve Tryz.prog 179 2 172 := ⟨by kernel_rfl⟩
instance : ZG Tryz.prog 179 (fun i => some (i * 64, 64)) := mkTyPlacesA (n := 2) (e := 172) (by kernel_rfl) (by kernel_rfl)
instance : TyS Tryz.prog 187 := tqS
instance : Zq Tryz.prog 187 false := tqI
instance : ZF Tryz.prog 187 1 := tqN
instance : Zp Tryz.prog 187 8 := tqB
instance : Zs Tryz.prog 187 (.pointer none) := tqO
instance : TyPtr Tryz.prog 187 236 := ⟨by kernel_rfl⟩
instance : TyS Tryz.prog 192 := tqS
instance : Zq Tryz.prog 192 false := tqI
instance : ZF Tryz.prog 192 1 := tqN
instance : Zp Tryz.prog 192 4 := tqB
instance : Zs Tryz.prog 192 (.int .u32 0) := tqO
instance : YZ Tryz.prog 192 .u32 := ⟨by kernel_rfl⟩
instance : TyS Tryz.prog 194 := tqS
instance : Zq Tryz.prog 194 false := tqI
instance : ZF Tryz.prog 194 1 := tqN
instance : Zp Tryz.prog 194 8 := tqB
instance : Zs Tryz.prog 194 (.map none) := tqO
instance : WO Tryz.prog 194 3 1 := ⟨by kernel_rfl⟩
instance : TyS Tryz.prog 196 := tqS
instance : Zq Tryz.prog 196 false := tqI
instance : Yy Tryz.prog 196 := tqF
instance : ZF Tryz.prog 196 1 := tqN
instance : Zp Tryz.prog 196 8 := tqB
instance : Zs Tryz.prog 196 (.nilFunc) := tqO
instance : TyS Tryz.prog 199 := tqS
instance : Zq Tryz.prog 199 false := tqI
instance : Yy Tryz.prog 199 := tqF
instance : ZF Tryz.prog 199 1 := tqN
instance : Zp Tryz.prog 199 8 := tqB
instance : Zs Tryz.prog 199 (.nilFunc) := tqO
instance : TyS Tryz.prog 201 := tqS
instance : Zq Tryz.prog 201 false := tqI
instance : Yy Tryz.prog 201 := tqF
instance : ZF Tryz.prog 201 1 := tqN
instance : Zp Tryz.prog 201 8 := tqB
instance : Zs Tryz.prog 201 (.nilFunc) := tqO
instance : TyS Tryz.prog 203 := tqS
instance : Zq Tryz.prog 203 false := tqI
instance : ZF Tryz.prog 203 1 := tqN
instance : Zp Tryz.prog 203 24 := tqB
instance : Zs Tryz.prog 203 (.slice none 0 0) := tqO
instance : ZU Tryz.prog 203 22 := ⟨by kernel_rfl⟩
instance : TyS Tryz.prog 211 := tqS
instance : Zq Tryz.prog 211 false := tqI
instance : Yy Tryz.prog 211 := tqF
instance : ZF Tryz.prog 211 1 := tqN
instance : Zp Tryz.prog 211 8 := tqB
instance : Zs Tryz.prog 211 (.nilFunc) := tqO
instance : TyS Tryz.prog 212 := tqS
instance : Zq Tryz.prog 212 false := tqI
instance : Yy Tryz.prog 212 := tqF
instance : ZF Tryz.prog 212 1 := tqN
instance : Zp Tryz.prog 212 8 := tqB
instance : Zs Tryz.prog 212 (.nilFunc) := tqO
instance : TyS Tryz.prog 213 := tqS
instance : Zq Tryz.prog 213 false := tqI
instance : Yy Tryz.prog 213 := tqF
instance : ZF Tryz.prog 213 1 := tqN
instance : Zp Tryz.prog 213 8 := tqB
instance : Zs Tryz.prog 213 (.nilFunc) := tqO
instance : TyS Tryz.prog 223 := tqS
instance : Zq Tryz.prog 223 false := tqI
instance : Yy Tryz.prog 223 := tqF
instance : ZF Tryz.prog 223 1 := tqN
instance : Zp Tryz.prog 223 8 := tqB
instance : Zs Tryz.prog 223 (.nilFunc) := tqO
instance : TyA Tryz.prog 225 2 := tqA
instance : Zq Tryz.prog 225 false := tqI
instance : ZF Tryz.prog 225 2 := tqN
instance : Zp Tryz.prog 225 16 := tqB
instance : Zs Tryz.prog 225 (.agg ⟨[.pointer none, .int .i64 0]⟩) := tqO
instance : ZK Tryz.prog 225 := ⟨by kernel_rfl⟩
instance : Yc Tryz.prog 225 0 0 55 := Yh
instance : Yc Tryz.prog 225 1 1 3 := Yh
instance : ZG Tryz.prog 225 (([(0, 1), (1, 1)] : List (Nat × Nat))[·]?) := ZB (by kernel_rfl)
instance : TyA Tryz.prog 226 2 := tqA
instance : Zq Tryz.prog 226 false := tqI
instance : ZF Tryz.prog 226 2 := tqN
instance : Zp Tryz.prog 226 16 := tqB
instance : Zs Tryz.prog 226 (.agg ⟨[.pointer none, .int .i64 0]⟩) := tqO
instance : ZK Tryz.prog 226 := ⟨by kernel_rfl⟩
instance : Xw Tryz.prog 226 [(0, 55), (1, 3)] := YH (by kernel_rfl)
instance : Yc Tryz.prog 226 0 0 55 := Yh
instance : Yc Tryz.prog 226 1 1 3 := Yh
instance : ZG Tryz.prog 226 (([(0, 1), (1, 1)] : List (Nat × Nat))[·]?) := ZB (by kernel_rfl)
instance : TyS Tryz.prog 234 := tqS
instance : Zq Tryz.prog 234 false := tqI
instance : ZF Tryz.prog 234 1 := tqN
instance : Zp Tryz.prog 234 24 := tqB
instance : Zs Tryz.prog 234 (.slice none 0 0) := tqO
instance : ZU Tryz.prog 234 5 := ⟨by kernel_rfl⟩
instance : TyA Tryz.prog 235 2 := tqA
instance : Zq Tryz.prog 235 false := tqI
instance : ZF Tryz.prog 235 2 := tqN
instance : Zp Tryz.prog 235 32 := tqB
instance : Zs Tryz.prog 235 (.agg ⟨[.slice none 0 0, .int .i64 0]⟩) := tqO
instance : ZK Tryz.prog 235 := ⟨by kernel_rfl⟩
instance : Yc Tryz.prog 235 0 0 234 := Yh
instance : Yc Tryz.prog 235 1 1 25 := Yh
instance : ZG Tryz.prog 235 (([(0, 1), (1, 1)] : List (Nat × Nat))[·]?) := ZB (by kernel_rfl)
instance : TyA Tryz.prog 236 2 := tqA
instance : Zq Tryz.prog 236 false := tqI
instance : ZF Tryz.prog 236 2 := tqN
instance : Zp Tryz.prog 236 32 := tqB
instance : Zs Tryz.prog 236 (.agg ⟨[.slice none 0 0, .int .i64 0]⟩) := tqO
instance : ZK Tryz.prog 236 := ⟨by kernel_rfl⟩
instance : Xw Tryz.prog 236 [(0, 234), (1, 25)] := YH (by kernel_rfl)
instance : Yc Tryz.prog 236 0 0 234 := Yh
instance : Yc Tryz.prog 236 1 1 25 := Yh
instance : ZG Tryz.prog 236 (([(0, 1), (1, 1)] : List (Nat × Nat))[·]?) := ZB (by kernel_rfl)
instance : TyA Tryz.prog 239 7 := tqA
instance : Zq Tryz.prog 239 false := tqI
instance : ZF Tryz.prog 239 7 := tqN
instance : Zp Tryz.prog 239 120 := tqB
instance : Zs Tryz.prog 239 (.agg ⟨[.int .i64 0, .int .i64 0, .slice none 0 0, .slice none 0 0, .int .i64 0, .slice none 0 0, .slice none 0 0]⟩) := tqO
instance : ZK Tryz.prog 239 := ⟨by kernel_rfl⟩
instance : Yc Tryz.prog 239 0 0 3 := Yh
instance : Yc Tryz.prog 239 1 1 65 := Yh
instance : Yc Tryz.prog 239 2 4 65 := Yh
instance : ZG Tryz.prog 239 (([(0, 1), (1, 3), (4, 3)] : List (Nat × Nat))[·]?) := ZB (by kernel_rfl)
instance : TyA Tryz.prog 240 7 := tqA
instance : Zq Tryz.prog 240 false := tqI
instance : ZF Tryz.prog 240 7 := tqN
instance : Zp Tryz.prog 240 120 := tqB
instance : Zs Tryz.prog 240 (.agg ⟨[.int .i64 0, .int .i64 0, .slice none 0 0, .slice none 0 0, .int .i64 0, .slice none 0 0, .slice none 0 0]⟩) := tqO
instance : ZK Tryz.prog 240 := ⟨by kernel_rfl⟩
instance : Xw Tryz.prog 240 [(0, 3), (1, 65), (4, 65)] := YH (by kernel_rfl)
instance : Yc Tryz.prog 240 0 0 3 := Yh
instance : Yc Tryz.prog 240 1 1 65 := Yh
instance : Yc Tryz.prog 240 2 4 65 := Yh
instance : ZG Tryz.prog 240 (([(0, 1), (1, 3), (4, 3)] : List (Nat × Nat))[·]?) := ZB (by kernel_rfl)
instance : TyA Tryz.prog 245 6 := tqA
instance : Zq Tryz.prog 245 false := tqI
instance : ZF Tryz.prog 245 6 := tqN
instance : Zp Tryz.prog 245 56 := tqB
instance : Zs Tryz.prog 245 (.agg ⟨[.int .i64 0, .int .i64 0, .int .u16 0, .int .i64 0, .string ⟨⟨[]⟩⟩, .int .i64 0]⟩) := tqO
instance : ZK Tryz.prog 245 := ⟨by kernel_rfl⟩
instance : Yc Tryz.prog 245 0 0 3 := Yh
instance : Yc Tryz.prog 245 1 1 130 := Yh
instance : Yc Tryz.prog 245 2 5 2 := Yh
instance : ZG Tryz.prog 245 (([(0, 1), (1, 4), (5, 1)] : List (Nat × Nat))[·]?) := ZB (by kernel_rfl)
instance : TyA Tryz.prog 246 6 := tqA
instance : Zq Tryz.prog 246 false := tqI
instance : ZF Tryz.prog 246 6 := tqN
instance : Zp Tryz.prog 246 56 := tqB
instance : Zs Tryz.prog 246 (.agg ⟨[.int .i64 0, .int .i64 0, .int .u16 0, .int .i64 0, .string ⟨⟨[]⟩⟩, .int .i64 0]⟩) := tqO
instance : ZK Tryz.prog 246 := ⟨by kernel_rfl⟩
instance : Xw Tryz.prog 246 [(0, 3), (1, 130), (5, 2)] := YH (by kernel_rfl)
instance : Yc Tryz.prog 246 0 0 3 := Yh
instance : Yc Tryz.prog 246 1 1 130 := Yh
instance : Yc Tryz.prog 246 2 5 2 := Yh
instance : ZG Tryz.prog 246 (([(0, 1), (1, 4), (5, 1)] : List (Nat × Nat))[·]?) := ZB (by kernel_rfl)
instance : TyA Tryz.prog 252 5 := tqA
instance : Zq Tryz.prog 252 false := tqI
instance : ZF Tryz.prog 252 5 := tqN
instance : Zp Tryz.prog 252 40 := tqB
instance : Zs Tryz.prog 252 (.agg ⟨[.int .i64 0, .int .u64 0, .int .u64 0, .int .u64 0, .int .i64 0]⟩) := tqO
instance : ZK Tryz.prog 252 := ⟨by kernel_rfl⟩
instance : Yc Tryz.prog 252 0 0 3 := Yh
instance : Yc Tryz.prog 252 1 1 22 := Yh
instance : Yc Tryz.prog 252 2 2 22 := Yh
instance : Yc Tryz.prog 252 3 3 22 := Yh
instance : Yc Tryz.prog 252 4 4 3 := Yh
instance : ZG Tryz.prog 252 (([(0, 1), (1, 1), (2, 1), (3, 1), (4, 1)] : List (Nat × Nat))[·]?) := ZB (by kernel_rfl)
instance : TyA Tryz.prog 253 5 := tqA
instance : Zq Tryz.prog 253 false := tqI
instance : ZF Tryz.prog 253 5 := tqN
instance : Zp Tryz.prog 253 40 := tqB
instance : Zs Tryz.prog 253 (.agg ⟨[.int .i64 0, .int .u64 0, .int .u64 0, .int .u64 0, .int .i64 0]⟩) := tqO
instance : ZK Tryz.prog 253 := ⟨by kernel_rfl⟩
instance : Xw Tryz.prog 253 [(0, 3), (1, 22), (2, 22), (3, 22), (4, 3)] := YH (by kernel_rfl)
instance : Yc Tryz.prog 253 0 0 3 := Yh
instance : Yc Tryz.prog 253 1 1 22 := Yh
instance : Yc Tryz.prog 253 2 2 22 := Yh
instance : Yc Tryz.prog 253 3 3 22 := Yh
instance : Yc Tryz.prog 253 4 4 3 := Yh
instance : ZG Tryz.prog 253 (([(0, 1), (1, 1), (2, 1), (3, 1), (4, 1)] : List (Nat × Nat))[·]?) := ZB (by kernel_rfl)
instance : TyS Tryz.prog 257 := tqS
instance : Zq Tryz.prog 257 false := tqI
instance : ZF Tryz.prog 257 1 := tqN
instance : Zp Tryz.prog 257 8 := tqB
instance : Zs Tryz.prog 257 (.pointer none) := tqO
instance : TyPtr Tryz.prog 257 259 := ⟨by kernel_rfl⟩
instance : TyA Tryz.prog 258 10 := tqA
instance : Zq Tryz.prog 258 false := tqI
instance : ZF Tryz.prog 258 10 := tqN
instance : Zp Tryz.prog 258 144 := tqB
instance : Zs Tryz.prog 258 (.agg ⟨[.int .i64 0, .int .u64 0, .int .i64 0, .int .u64 0, .int .u64 0, .slice none 0 0, .slice none 0 0, .int .i64 0, .slice none 0 0, .slice none 0 0]⟩) := tqO
instance : ZK Tryz.prog 258 := ⟨by kernel_rfl⟩
instance : Yc Tryz.prog 258 0 0 34 := Yh
instance : ZG Tryz.prog 258 (([(0, 10)] : List (Nat × Nat))[·]?) := ZB (by kernel_rfl)
instance : TyA Tryz.prog 259 10 := tqA
instance : Zq Tryz.prog 259 false := tqI
instance : ZF Tryz.prog 259 10 := tqN
instance : Zp Tryz.prog 259 144 := tqB
instance : Zs Tryz.prog 259 (.agg ⟨[.int .i64 0, .int .u64 0, .int .i64 0, .int .u64 0, .int .u64 0, .slice none 0 0, .slice none 0 0, .int .i64 0, .slice none 0 0, .slice none 0 0]⟩) := tqO
instance : ZK Tryz.prog 259 := ⟨by kernel_rfl⟩
instance : Xw Tryz.prog 259 [(0, 34)] := YH (by kernel_rfl)
instance : Yc Tryz.prog 259 0 0 34 := Yh
instance : ZG Tryz.prog 259 (([(0, 10)] : List (Nat × Nat))[·]?) := ZB (by kernel_rfl)
instance : TyS Tryz.prog 260 := tqS
instance : Zq Tryz.prog 260 false := tqI
instance : ZF Tryz.prog 260 1 := tqN
instance : Zp Tryz.prog 260 8 := tqB
instance : Zs Tryz.prog 260 (.map none) := tqO
instance : WO Tryz.prog 260 3 23 := ⟨by kernel_rfl⟩
instance : TyS Tryz.prog 261 := tqS
instance : Zq Tryz.prog 261 false := tqI
instance : ZF Tryz.prog 261 1 := tqN
instance : Zp Tryz.prog 261 8 := tqB
instance : Zs Tryz.prog 261 (.pointer none) := tqO
instance : TyPtr Tryz.prog 261 263 := ⟨by kernel_rfl⟩
instance : TyA Tryz.prog 262 11 := tqA
instance : Zq Tryz.prog 262 false := tqI
instance : ZF Tryz.prog 262 11 := tqN
instance : Zp Tryz.prog 262 168 := tqB
instance : Zs Tryz.prog 262 (.agg ⟨[.int .i64 0, .int .u64 0, .int .i64 0, .int .u64 0, .int .u64 0, .slice none 0 0, .slice none 0 0, .int .i64 0, .slice none 0 0, .slice none 0 0, .slice none 0 0]⟩) := tqO
instance : ZK Tryz.prog 262 := ⟨by kernel_rfl⟩
instance : Yc Tryz.prog 262 0 0 34 := Yh
instance : Yc Tryz.prog 262 1 10 109 := Yh
instance : ZG Tryz.prog 262 (([(0, 10), (10, 1)] : List (Nat × Nat))[·]?) := ZB (by kernel_rfl)
instance : TyA Tryz.prog 263 11 := tqA
instance : Zq Tryz.prog 263 false := tqI
instance : ZF Tryz.prog 263 11 := tqN
instance : Zp Tryz.prog 263 168 := tqB
instance : Zs Tryz.prog 263 (.agg ⟨[.int .i64 0, .int .u64 0, .int .i64 0, .int .u64 0, .int .u64 0, .slice none 0 0, .slice none 0 0, .int .i64 0, .slice none 0 0, .slice none 0 0, .slice none 0 0]⟩) := tqO
instance : ZK Tryz.prog 263 := ⟨by kernel_rfl⟩
instance : Xw Tryz.prog 263 [(0, 34), (10, 109)] := YH (by kernel_rfl)
instance : Yc Tryz.prog 263 0 0 34 := Yh
instance : Yc Tryz.prog 263 1 10 109 := Yh
instance : ZG Tryz.prog 263 (([(0, 10), (10, 1)] : List (Nat × Nat))[·]?) := ZB (by kernel_rfl)
instance : TyS Tryz.prog 274 := tqS
instance : Zq Tryz.prog 274 false := tqI
instance : Yy Tryz.prog 274 := tqF
instance : ZF Tryz.prog 274 1 := tqN
instance : Zp Tryz.prog 274 8 := tqB
instance : Zs Tryz.prog 274 (.nilFunc) := tqO
instance : TyS Tryz.prog 288 := tqS
instance : Zq Tryz.prog 288 false := tqI
instance : ZF Tryz.prog 288 1 := tqN
instance : Zp Tryz.prog 288 8 := tqB
instance : Zs Tryz.prog 288 (.pointer none) := tqO
instance : TyPtr Tryz.prog 288 3 := ⟨by kernel_rfl⟩
instance : TyS Tryz.prog 292 := tqS
instance : Zq Tryz.prog 292 false := tqI
instance : ZF Tryz.prog 292 1 := tqN
instance : Zp Tryz.prog 292 8 := tqB
instance : Zs Tryz.prog 292 (.pointer none) := tqO
instance : TyPtr Tryz.prog 292 330 := ⟨by kernel_rfl⟩
instance : TyS Tryz.prog 298 := tqS
instance : Zq Tryz.prog 298 false := tqI
instance : Yy Tryz.prog 298 := tqF
instance : ZF Tryz.prog 298 1 := tqN
instance : Zp Tryz.prog 298 8 := tqB
instance : Zs Tryz.prog 298 (.nilFunc) := tqO
instance : TyS Tryz.prog 301 := tqS
instance : Zq Tryz.prog 301 false := tqI
instance : Yy Tryz.prog 301 := tqF
instance : ZF Tryz.prog 301 1 := tqN
instance : Zp Tryz.prog 301 8 := tqB
instance : Zs Tryz.prog 301 (.nilFunc) := tqO
instance : TyS Tryz.prog 303 := tqS
instance : Zq Tryz.prog 303 false := tqI
instance : Yy Tryz.prog 303 := tqF
instance : ZF Tryz.prog 303 1 := tqN
instance : Zp Tryz.prog 303 8 := tqB
instance : Zs Tryz.prog 303 (.nilFunc) := tqO
instance : TyS Tryz.prog 304 := tqS
instance : Zq Tryz.prog 304 false := tqI
instance : Yy Tryz.prog 304 := tqF
instance : ZF Tryz.prog 304 1 := tqN
instance : Zp Tryz.prog 304 8 := tqB
instance : Zs Tryz.prog 304 (.nilFunc) := tqO
instance : TyS Tryz.prog 306 := tqS
instance : Zq Tryz.prog 306 false := tqI
instance : Yy Tryz.prog 306 := tqF
instance : ZF Tryz.prog 306 1 := tqN
instance : Zp Tryz.prog 306 8 := tqB
instance : Zs Tryz.prog 306 (.nilFunc) := tqO
instance : TyS Tryz.prog 307 := tqS
instance : Zq Tryz.prog 307 false := tqI
instance : Yy Tryz.prog 307 := tqF
instance : ZF Tryz.prog 307 1 := tqN
instance : Zp Tryz.prog 307 8 := tqB
instance : Zs Tryz.prog 307 (.nilFunc) := tqO
instance : TyS Tryz.prog 312 := tqS
instance : Zq Tryz.prog 312 false := tqI
instance : Yy Tryz.prog 312 := tqF
instance : ZF Tryz.prog 312 1 := tqN
instance : Zp Tryz.prog 312 8 := tqB
instance : Zs Tryz.prog 312 (.nilFunc) := tqO
instance : TyS Tryz.prog 314 := tqS
instance : Zq Tryz.prog 314 false := tqI
instance : Yy Tryz.prog 314 := tqF
instance : ZF Tryz.prog 314 1 := tqN
instance : Zp Tryz.prog 314 8 := tqB
instance : Zs Tryz.prog 314 (.nilFunc) := tqO
instance : TyS Tryz.prog 316 := tqS
instance : Zq Tryz.prog 316 false := tqI
instance : Yy Tryz.prog 316 := tqF
instance : ZF Tryz.prog 316 1 := tqN
instance : Zp Tryz.prog 316 8 := tqB
instance : Zs Tryz.prog 316 (.nilFunc) := tqO
instance : TyS Tryz.prog 317 := tqS
instance : Zq Tryz.prog 317 false := tqI
instance : Yy Tryz.prog 317 := tqF
instance : ZF Tryz.prog 317 1 := tqN
instance : Zp Tryz.prog 317 8 := tqB
instance : Zs Tryz.prog 317 (.nilFunc) := tqO
instance : TyA Tryz.prog 329 6 := tqA
instance : Zq Tryz.prog 329 false := tqI
instance : ZF Tryz.prog 329 6 := tqN
instance : Zp Tryz.prog 329 80 := tqB
instance : Zs Tryz.prog 329 (.agg ⟨[.pointer none, .int .i64 0, .bool false, .int .i64 0, .slice none 0 0, .slice none 0 0]⟩) := tqO
instance : ZK Tryz.prog 329 := ⟨by kernel_rfl⟩
instance : Yc Tryz.prog 329 0 0 187 := Yh
instance : Yc Tryz.prog 329 1 1 3 := Yh
instance : Yc Tryz.prog 329 2 2 4 := Yh
instance : Yc Tryz.prog 329 3 3 65 := Yh
instance : ZG Tryz.prog 329 (([(0, 1), (1, 1), (2, 1), (3, 3)] : List (Nat × Nat))[·]?) := ZB (by kernel_rfl)
instance : TyA Tryz.prog 330 6 := tqA
instance : Zq Tryz.prog 330 false := tqI
instance : ZF Tryz.prog 330 6 := tqN
instance : Zp Tryz.prog 330 80 := tqB
instance : Zs Tryz.prog 330 (.agg ⟨[.pointer none, .int .i64 0, .bool false, .int .i64 0, .slice none 0 0, .slice none 0 0]⟩) := tqO
instance : ZK Tryz.prog 330 := ⟨by kernel_rfl⟩
instance : Xw Tryz.prog 330 [(0, 187), (1, 3), (2, 4), (3, 65)] := YH (by kernel_rfl)
instance : Yc Tryz.prog 330 0 0 187 := Yh
instance : Yc Tryz.prog 330 1 1 3 := Yh
instance : Yc Tryz.prog 330 2 2 4 := Yh
instance : Yc Tryz.prog 330 3 3 65 := Yh
instance : ZG Tryz.prog 330 (([(0, 1), (1, 1), (2, 1), (3, 3)] : List (Nat × Nat))[·]?) := ZB (by kernel_rfl)
instance : TyS Tryz.prog 333 := tqS
instance : Zq Tryz.prog 333 false := tqI
instance : Yy Tryz.prog 333 := tqF
instance : ZF Tryz.prog 333 1 := tqN
instance : Zp Tryz.prog 333 8 := tqB
instance : Zs Tryz.prog 333 (.nilFunc) := tqO
instance : TyS Tryz.prog 334 := tqS
instance : Zq Tryz.prog 334 false := tqI
instance : Yy Tryz.prog 334 := tqF
instance : ZF Tryz.prog 334 1 := tqN
instance : Zp Tryz.prog 334 8 := tqB
instance : Zs Tryz.prog 334 (.nilFunc) := tqO
instance : TyS Tryz.prog 339 := tqS
instance : Zq Tryz.prog 339 false := tqI
instance : Yy Tryz.prog 339 := tqF
instance : ZF Tryz.prog 339 1 := tqN
instance : Zp Tryz.prog 339 8 := tqB
instance : Zs Tryz.prog 339 (.nilFunc) := tqO
instance : TyA Tryz.prog 342 16 := tqA
instance : Zq Tryz.prog 342 false := tqI
instance : ZF Tryz.prog 342 16 := tqN
instance : Zp Tryz.prog 342 64 := tqB
instance : Zs Tryz.prog 342 (.agg ⟨List.replicate 16 (.int .u32 0)⟩) := tqO
instance : ZK Tryz.prog 342 := ⟨by kernel_rfl⟩
instance : Ve Tryz.prog 342 16 192 := ⟨by kernel_rfl⟩
instance : ZG Tryz.prog 342 (fun i => some (i * 1, 1)) := mkTyPlacesA (n := 16) (e := 192) (by kernel_rfl) (by kernel_rfl)
instance : TyS Tryz.prog 344 := tqS
instance : Zq Tryz.prog 344 false := tqI
instance : Yy Tryz.prog 344 := tqF
instance : ZF Tryz.prog 344 1 := tqN
instance : Zp Tryz.prog 344 8 := tqB
instance : Zs Tryz.prog 344 (.nilFunc) := tqO
instance : TyS Tryz.prog 354 := tqS
instance : Zq Tryz.prog 354 false := tqI
instance : Yy Tryz.prog 354 := tqF
instance : ZF Tryz.prog 354 1 := tqN
instance : Zp Tryz.prog 354 8 := tqB
instance : Zs Tryz.prog 354 (.nilFunc) := tqO
instance : TyS Tryz.prog 355 := tqS
instance : Zq Tryz.prog 355 false := tqI
instance : ZF Tryz.prog 355 1 := tqN
instance : Zp Tryz.prog 355 8 := tqB
instance : Zs Tryz.prog 355 (.pointer none) := tqO
instance : TyPtr Tryz.prog 355 5 := ⟨by kernel_rfl⟩
instance : TyA Tryz.prog 358 11 := tqA
instance : Zq Tryz.prog 358 false := tqI
instance : ZF Tryz.prog 358 11 := tqN
instance : Zp Tryz.prog 358 48 := tqB
instance : Zs Tryz.prog 358 (.agg ⟨[.int .u64 0, .int .u64 0, .int .u32 0, .int .u8 0, .int .u8 0, .int .u8 0, .int .u8 0, .nilFunc, .pointer none, .int .i32 0, .int .i32 0]⟩) := tqO
instance : ZK Tryz.prog 358 := ⟨by kernel_rfl⟩
instance : Yc Tryz.prog 358 0 0 12 := Yh
instance : Yc Tryz.prog 358 1 1 12 := Yh
instance : Yc Tryz.prog 358 2 2 192 := Yh
instance : Yc Tryz.prog 358 3 3 352 := Yh
instance : Yc Tryz.prog 358 4 4 5 := Yh
instance : Yc Tryz.prog 358 5 5 5 := Yh
instance : Yc Tryz.prog 358 6 6 353 := Yh
instance : Yc Tryz.prog 358 7 7 354 := Yh
instance : Yc Tryz.prog 358 8 8 355 := Yh
instance : Yc Tryz.prog 358 9 9 356 := Yh
instance : Yc Tryz.prog 358 10 10 357 := Yh
instance : ZG Tryz.prog 358 (([(0, 1), (1, 1), (2, 1), (3, 1), (4, 1), (5, 1), (6, 1), (7, 1), (8, 1), (9, 1), (10, 1)] : List (Nat × Nat))[·]?) := ZB (by kernel_rfl)
instance : Yf Tryz.prog 4 := Yu
instance : Yf Tryz.prog 8 := Yu
instance : Yf Tryz.prog 10 := Yu
instance : Yf Tryz.prog 11 := Yu
instance : Yf Tryz.prog 12 := Yu
instance : Yf Tryz.prog 16 := Yu
instance : Yf Tryz.prog 17 := Yu
instance : Yf Tryz.prog 22 := Yu
instance : Yf Tryz.prog 23 := Yu
instance : Yf Tryz.prog 24 := Yu
instance : Yf Tryz.prog 25 := Yu
instance : Yf Tryz.prog 26 := Yu
instance : Yf Tryz.prog 27 := Yu
instance : Yf Tryz.prog 28 := Yu
instance : Yf Tryz.prog 29 := Yu
instance : Yf Tryz.prog 30 := Yu
instance : Yf Tryz.prog 31 := Yu
instance : Yf Tryz.prog 32 := Yu
instance : Yf Tryz.prog 33 := Yu
instance : Yf Tryz.prog 34 := Yu
instance : Yf Tryz.prog 36 := Yu
instance : Yf Tryz.prog 44 := Yu
instance : Yf Tryz.prog 45 := Yu
instance : Yf Tryz.prog 52 := Yu
instance : Yf Tryz.prog 54 := Yu
instance : Yf Tryz.prog 55 := Yu
instance : Yf Tryz.prog 56 := Yu
instance : Yf Tryz.prog 57 := Yu
instance : Yf Tryz.prog 61 := Yu
instance : Yf Tryz.prog 62 := Yu
instance : Yf Tryz.prog 63 := Yu
instance : Yf Tryz.prog 64 := Yu
instance : Yf Tryz.prog 65 := Yu
instance : Yf Tryz.prog 66 := Yu
instance : Yf Tryz.prog 67 := Yu
instance : Yf Tryz.prog 68 := Yu
instance : Yf Tryz.prog 69 := Yu
instance : Yf Tryz.prog 70 := Yu
instance : Yf Tryz.prog 71 := Yu
instance : Yf Tryz.prog 72 := Yu
instance : Yf Tryz.prog 73 := Yu
instance : Yf Tryz.prog 74 := Yu
instance : Yf Tryz.prog 75 := Yu
instance : Yf Tryz.prog 77 := Yu
instance : Yf Tryz.prog 84 := Yu
instance : Yf Tryz.prog 86 := Yu
instance : Yf Tryz.prog 87 := Yu
instance : Yf Tryz.prog 88 := Yu
instance : Yf Tryz.prog 89 := Yu
instance : Yf Tryz.prog 90 := Yu
instance : Yf Tryz.prog 91 := Yu
instance : Yf Tryz.prog 95 := Yu
instance : Yf Tryz.prog 96 := Yu
instance : Yf Tryz.prog 97 := Yu
instance : Yf Tryz.prog 98 := Yu
instance : Yf Tryz.prog 99 := Yu
instance : Yf Tryz.prog 106 := Yu
instance : Yf Tryz.prog 107 := Yu
instance : Yf Tryz.prog 108 := Yu
instance : Yf Tryz.prog 109 := Yu
instance : Yf Tryz.prog 110 := Yu
instance : Yf Tryz.prog 111 := Yu
instance : Yf Tryz.prog 112 := Yu
instance : Yf Tryz.prog 113 := Yu
instance : Yf Tryz.prog 114 := Yu
instance : Yf Tryz.prog 116 := Yu
instance : Yf Tryz.prog 117 := Yu
instance : Yf Tryz.prog 118 := Yu
instance : Yf Tryz.prog 119 := Yu
instance : Yf Tryz.prog 120 := Yu
instance : Yf Tryz.prog 121 := Yu
instance : Yf Tryz.prog 122 := Yu
instance : Yf Tryz.prog 123 := Yu
instance : Yf Tryz.prog 124 := Yu
instance : Yf Tryz.prog 125 := Yu
instance : Yf Tryz.prog 132 := Yu
instance : Yf Tryz.prog 133 := Yu
instance : Yf Tryz.prog 134 := Yu
instance : Yf Tryz.prog 135 := Yu
instance : Yf Tryz.prog 136 := Yu
instance : Yf Tryz.prog 137 := Yu
instance : Yf Tryz.prog 138 := Yu
instance : Yf Tryz.prog 142 := Yu
instance : Yf Tryz.prog 143 := Yu
instance : Yf Tryz.prog 147 := Yu
instance : Yf Tryz.prog 152 := Yu
instance : Yf Tryz.prog 157 := Yu
instance : Yf Tryz.prog 158 := Yu
instance : Yf Tryz.prog 159 := Yu
instance : Yf Tryz.prog 160 := Yu
instance : Yf Tryz.prog 161 := Yu
instance : Yf Tryz.prog 162 := Yu
instance : Yf Tryz.prog 163 := Yu
instance : Yf Tryz.prog 164 := Yu
instance : Yf Tryz.prog 165 := Yu
instance : Yf Tryz.prog 166 := Yu
instance : Yf Tryz.prog 167 := Yu
instance : Yf Tryz.prog 168 := Yu
instance : Yf Tryz.prog 169 := Yu
instance : Yf Tryz.prog 170 := Yu
instance : Yf Tryz.prog 171 := Yu
instance : Yf Tryz.prog 172 := Yu
instance : Yf Tryz.prog 173 := Yu
instance : Yf Tryz.prog 174 := Yu
instance : Yf Tryz.prog 175 := Yu
instance : Yf Tryz.prog 176 := Yu
instance : Yf Tryz.prog 177 := Yu
instance : Yf Tryz.prog 178 := Yu
instance : Yf Tryz.prog 179 := Yu
instance : Yf Tryz.prog 180 := Yu
instance : Yf Tryz.prog 181 := Yu
instance : Yf Tryz.prog 182 := Yu
instance : Yf Tryz.prog 183 := Yu
instance : Yf Tryz.prog 191 := Yu
instance : Yf Tryz.prog 192 := Yu
instance : Yf Tryz.prog 193 := Yu
instance : Yf Tryz.prog 194 := Yu
instance : Yf Tryz.prog 195 := Yu
instance : Yf Tryz.prog 196 := Yu
instance : Yf Tryz.prog 197 := Yu
instance : Yf Tryz.prog 198 := Yu
instance : Yf Tryz.prog 200 := Yu
instance : Yf Tryz.prog 201 := Yu
instance : Yf Tryz.prog 202 := Yu
instance : Yf Tryz.prog 203 := Yu
instance : Yf Tryz.prog 204 := Yu
instance : Yf Tryz.prog 205 := Yu
instance : Yf Tryz.prog 207 := Yu
instance : Yf Tryz.prog 208 := Yu
instance : Yf Tryz.prog 209 := Yu
instance : Yf Tryz.prog 210 := Yu
instance : Yf Tryz.prog 211 := Yu
instance : Yf Tryz.prog 212 := Yu
instance : Yf Tryz.prog 213 := Yu
instance : Yf Tryz.prog 214 := Yu
instance : Yf Tryz.prog 215 := Yu
instance : Yf Tryz.prog 216 := Yu
instance : Yf Tryz.prog 217 := Yu
instance : Yf Tryz.prog 218 := Yu
instance : Yf Tryz.prog 219 := Yu
instance : Yf Tryz.prog 220 := Yu
instance : Yf Tryz.prog 221 := Yu
instance : Yf Tryz.prog 222 := Yu
instance : Yf Tryz.prog 223 := Yu
instance : Yf Tryz.prog 224 := Yu
instance : Yf Tryz.prog 225 := Yu
instance : Yf Tryz.prog 226 := Yu
instance : Yf Tryz.prog 227 := Yu
instance : Yf Tryz.prog 228 := Yu
instance : Yf Tryz.prog 229 := Yu
instance : Yf Tryz.prog 230 := Yu
instance : Yf Tryz.prog 231 := Yu
instance : Yf Tryz.prog 232 := Yu
instance : Yf Tryz.prog 233 := Yu
instance : Yf Tryz.prog 243 := Yu
instance : Yf Tryz.prog 244 := Yu
instance : Yf Tryz.prog 245 := Yu
instance : Yf Tryz.prog 246 := Yu
instance : Yf Tryz.prog 247 := Yu
instance : Yf Tryz.prog 248 := Yu
instance : Yf Tryz.prog 249 := Yu
instance : Yf Tryz.prog 250 := Yu
instance : Yf Tryz.prog 251 := Yu
instance : Yf Tryz.prog 252 := Yu
instance : Yf Tryz.prog 253 := Yu
instance : Yf Tryz.prog 256 := Yu
instance : Yf Tryz.prog 257 := Yu
instance : Yf Tryz.prog 258 := Yu
instance : Yf Tryz.prog 259 := Yu
instance : Yf Tryz.prog 260 := Yu
instance : Yf Tryz.prog 261 := Yu
instance : Yf Tryz.prog 262 := Yu
instance : Yf Tryz.prog 263 := Yu
instance : Yf Tryz.prog 264 := Yu
instance : Yf Tryz.prog 265 := Yu
instance : Mixed Tryz.prog := ⟨by kernel_rfl⟩
end Go.Proofs.E
namespace Go.Proofs.E
open Go
set_option linter.unusedVariables false
set_option linter.unusedSimpArgs false
set_option linter.unusedSectionVars false
set_option maxRecDepth 4000
set_option maxHeartbeats 1000000
attribute [local irreducible] Yl TL TC TE Spec XU R1 Hp.le EnvLe TS TR YS Zr
def be : Nat → Nat → List UInt8
 | 0, _ => []
 | n + 1, x => UInt8.ofNat (x / 256 ^ n) :: be n x
def Yx (l : List UInt8) : Nat := l.foldl (fun a b => a * 256 + b.toNat) 0
theorem Zw (n x : Nat) : (be n x).length = n := by induction n <;> simp [be, *]
theorem foldl_be (l : List UInt8) (a : Nat) : l.foldl (fun a b => a * 256 + b.toNat) a = a * 256 ^ l.length + Yx l := by
 unfold Yx
 induction l generalizing a with
 | nil => simp
 | cons b l ih =>
  simp only [List.foldl_cons, List.length_cons]
  rw [ih (a * 256 + b.toNat), ih (0 * 256 + b.toNat)]
  rw [Nat.pow_succ]
  simp only [Nat.zero_mul, Nat.zero_add, Nat.add_mul, Nat.mul_assoc, Nat.mul_comm 256, Nat.add_assoc]
theorem unbe_cons (b : UInt8) (l : List UInt8) : Yx (b :: l) = b.toNat * 256 ^ l.length + Yx l := by
 have := foldl_be l (0 * 256 + b.toNat)
 simp only [Nat.zero_mul, Nat.zero_add] at this
 rw [← this]; simp [Yx]
theorem unbe_snoc (b : UInt8) (l : List UInt8) : Yx (l ++ [b]) = Yx l * 256 + b.toNat := by simp [Yx]
theorem unbe_lt (l : List UInt8) : Yx l < 256 ^ l.length := by
 induction l with
 | nil => simp [Yx]
 | cons b l ih =>
  rw [unbe_cons, List.length_cons, Nat.pow_succ]
  have hb : b.toNat < 256 := b.toNat_lt
  have : (b.toNat + 1) * 256 ^ l.length ≤ 256 * 256 ^ l.length := Nat.mul_le_mul_right _ (by omega)
  rw [Nat.add_mul] at this
  omega
theorem WI (n x : Nat) : Yx (be n x) = x % 256 ^ n := by
 induction n with
 | zero => simp [be, Yx, Nat.mod_one]
 | succ n ih =>
  rw [be, unbe_cons, Zw, ih, UInt8.toNat_ofNat']
  have h1 := Nat.mod_mul (x := x) (a := 256 ^ n) (b := 256)
  have e : 256 ^ (n + 1) = 256 ^ n * 256 := by rw [Nat.pow_succ]
  have e2 : (2 : Nat) ^ 8 = 256 := by decide
  rw [e, h1, e2, Nat.mul_comm]
  omega
theorem be_mod (n x : Nat) : be n (x % 256 ^ n) = be n x := by
 have key : ∀ m, m ≤ n → be m (x % 256 ^ n) = be m x := by
  intro m
  induction m with
  | zero => intro _; rfl
  | succ m ih =>
   intro hm
   rw [be, be, ih (by omega)]
   congr 1
   apply UInt8.toNat_inj.1
   simp only [UInt8.toNat_ofNat']
   obtain ⟨k, rfl⟩ : ∃ k, n = m + 1 + k := ⟨n - (m + 1), by omega⟩
   have e : 256 ^ (m + 1 + k) = 256 ^ m * (256 * 256 ^ k) := by rw [Nat.pow_add, Nat.pow_succ, Nat.mul_assoc]
   rw [e, Nat.mod_mul_right_div_self, Nat.mod_mul_right_mod]
 exact key n (Nat.le_refl _)
theorem be_unbe (l : List UInt8) : be l.length (Yx l) = l := by
 induction l with
 | nil => rfl
 | cons b l ih =>
  rw [List.length_cons, be, unbe_cons]
  have hlt := unbe_lt l
  have hp : 0 < 256 ^ l.length := Nat.pow_pos (by decide)
  have h1 : (b.toNat * 256 ^ l.length + Yx l) / 256 ^ l.length = b.toNat := by
   rw [Nat.mul_comm, Nat.mul_add_div hp, Nat.div_eq_of_lt hlt]; simp
  have h2 : be l.length (b.toNat * 256 ^ l.length + Yx l) = l := by
   rw [← be_mod, Nat.mul_comm, Nat.mul_add_mod, Nat.mod_eq_of_lt hlt, ih]
  rw [h1, h2]; simp
def z8 (n : Nat) : List UInt8 := List.replicate n 0
theorem stc_mid (A B vs ws : List Value) (h : ws.length = vs.length) : stc (A ++ (vs ++ B)) A.length ws = A ++ (ws ++ B) := by
 unfold stc
 rw [List.take_left, h, ← List.drop_drop, List.drop_left, List.drop_left, List.append_assoc]
theorem u8_wrap (y : Nat) : Value.int .u8 (IntKind.u8.wrap (y : Int)) = ZD (UInt8.ofNat y) := by
 simp only [ZD, UInt8.toNat_ofNat', IntKind.wrap, IntKind.bits, IntKind.signed, Bool.false_and, Bool.false_eq_true, if_false]
 congr 1
theorem made_z8 (m : Nat) : madeCells (Value.int .u8 0).cells m = ⟨(z8 m).map ZD⟩ := by
 have hz : (Value.int IntKind.u8 0).cells = ⟨[ZD 0]⟩ := rfl
 rw [hz]
 apply Array.ext'
 apply List.ext_getElem?
 intro i
 by_cases hi : i < m
 ·simp [madeCells, z8, hi, Nat.mod_one]
 ·rw [List.getElem?_eq_none (by simp [madeCells]; omega), List.getElem?_eq_none (by simp [z8]; omega)]
theorem own_chunk (b n c : Nat) {xs : List Value} {T : TypeId} : [(b, Obj.cells ⟨xs⟩ T (0, 0))] = Ym (.slice (some ⟨b, 0, none⟩) n c) xs [] T := by simp [Ym]
theorem stand_spec (ρ : Hp) (a : Option Addr) (n c : Nat) (l : List UInt8) (h : SIn ρ ZD a n l) (x p : Nat) (hx : x < 18446744073709551616) (hp : p ≤ 8) (hp1 : 1 ≤ p) (hn : n ≤ 1000000) :
  Spec Tryz.prog 232 [.slice a n c, .int .u64 x, .int .i64 p] ρ [] (fun v ρ' L' => ρ' = ρ ∧ ∃ sp, OwnS v (n + p) ((l ++ be p x).map ZD) sp 1 ∧ L' = [Ym v ((l ++ be p x).map ZD) sp 5]) := by
 have hl := h.len
 refine Ze Tryz.func232 rfl rfl rfl fun u R => ?_
 simp only [Zt, List.cons_append, List.nil_append]
 repeat' (first | (refine tl_makeSlice rfl rfl (by omega) (by omega) (by omega) (by omega) rfl (fun hbn => ?_)) | (refine Zg ?_; first | (refine Zf ?_; refine qQ ?_) | refine Zj ?_) | refine Za ?_ | (refine Zh ?_; refine Zu ?_) | (refine Zi ?_; refine Zv ?_) | intro _)
 simp only [show ((n : Int) + (p : Int)).toNat = n + p by omega, Nat.mul_one, made_z8]
 have hinit : stc ((z8 (n + p)).map ZD) 0 ((l.map ZD).take (n + p)) = (l ++ (z8 (p - 0) ++ be 0 x)).map ZD := by
  rw [List.take_of_length_le (by simp; omega)]
  unfold stc
  have e : z8 (n + p) = z8 n ++ z8 p := by simp [z8, List.replicate_append_replicate]
  rw [e]
  simp [be, hl, z8]
 refine tl_copy (ys := l.map ZD) rfl rfl (SIn.srcV h) (by simpa using hl) (Yr l) (by simp [z8]) rfl ?_
 simp only [hinit]
 repeat' (first | (refine Zg ?_; first | (refine Zf ?_; refine qQ ?_) | refine Zj ?_) | refine Za ?_ | (refine Zh ?_; refine Zu ?_) | (refine Zi ?_; refine Zv ?_) | intro _)
 refine ZH [(6, _), (7, _), (17, _)] (fun (ζ : (Nat) × (Nat)) => [(18, .int .i64 ζ.1), (1, .int .u64 (ζ.2 : Nat))]) (fun (ζ : (Nat) × (Nat)) => ρ) (fun (ζ : (Nat) × (Nat)) => [[(hbn, .cells ⟨(l ++ (z8 (p - ζ.1) ++ be ζ.1 x)).map ZD⟩ 5 (0, 0))]]) (fun (ζ : (Nat) × (Nat)) => ζ.1 ≤ p ∧ ζ.2 = x / 256 ^ ζ.1) (fun (ζ : (Nat) × (Nat)) => p - ζ.1) ((0, x)) (⟨Nat.zero_le _, by simp⟩) Zo Zo rfl tk ?_
 rintro ⟨k, y⟩ hI
 try simp only [List.cons_append, List.nil_append, List.append_assoc, List.append_eq] at hI ⊢
 try dsimp only at hI ⊢
 obtain ⟨hk, hy⟩ := hI
 by_cases hlt : k < p
 ·have hlen : ((l ++ (z8 (p - k) ++ be k x)).map ZD).length = n + p := by simp [z8, Zw, hl]; omega
  have hst : stc ((l ++ (z8 (p - k) ++ be k x)).map ZD) (0 + ((n : Int) + (p : Int) - 1 - k).toNat * 1) [ZD (UInt8.ofNat y)] = (l ++ (z8 (p - (k + 1)) ++ be (k + 1) x)).map ZD := by
   have e1 : z8 (p - k) = z8 (p - (k + 1)) ++ [0] := by
    rw [show p - k = (p - (k + 1)) + 1 by omega]; simp [z8, List.replicate_succ']
   have e2 : 0 + ((n : Int) + (p : Int) - 1 - k).toNat * 1 = ((l ++ z8 (p - (k + 1))).map ZD).length := by simp [z8, hl]; omega
   have e3 : (l ++ (z8 (p - k) ++ be k x)).map ZD = (l ++ z8 (p - (k + 1))).map ZD ++ ([ZD 0] ++ (be k x).map ZD) := by rw [e1]; simp
   rw [e2, e3, stc_mid _ _ [ZD 0] [ZD (UInt8.ofNat y)] rfl, be, ← hy]
   simp
  have hyy : y / 256 = x / 256 ^ (k + 1) := by rw [hy, Nat.div_div_eq_div_mul, Nat.pow_succ]
  repeat' (first | (refine Zg ?_; first | (refine Zf ?_; refine qQ ?_) | refine Zj ?_) | refine Za ?_ | (refine Zh ?_; refine Zu ?_) | (refine Zi ?_; refine Zv ?_) | intro _)
  have e8 : (y : Int) / 2 ^ 8 = ((x / 256 ^ (k + 1) : Nat) : Int) := by
   rw [← hyy]
   have : (2 : Int) ^ 8 = 256 := by decide
   omega
  rw [e8, u8_wrap, Int.natCast_add, hst]
  refine Zx (k + 1, x / 256 ^ (k + 1)) (⟨hlt, rfl⟩) Zo Zo rfl tk inferInstance (by first | omega | (dsimp only; omega))
 ·have hk2 : k = p := by omega
  subst hk2
  simp only [Nat.sub_self, z8, List.replicate_zero, List.nil_append]
  repeat' (first | (refine Zg ?_; first | (refine Zf ?_; refine qQ ?_) | refine Zj ?_) | refine Za ?_ | (refine Zh ?_; refine Zu ?_) | (refine Zi ?_; refine Zv ?_) | intro _)
  rw [own_chunk hbn (n + k) (n + k)]
  exact qE ⟨rfl, [], ⟨.inr ⟨hbn, n + k, rfl, by simp [Zw, hl], by simp [Zw, hl], Nat.le_refl _⟩⟩, rfl⟩
theorem put16_spec (ρ : Hp) (a : Option Addr) (n c : Nat) (l : List UInt8) (h : SIn ρ ZD a n l) (x : Nat) (hx : x < 65536) (hn : n ≤ 1000000) :
  Spec Tryz.prog 221 [.slice a n c, .int .u16 x] ρ [] (fun v ρ' L' => ρ' = ρ ∧ ∃ sp, OwnS v (n + 2) ((l ++ be 2 x).map ZD) sp 1 ∧ L' = [Ym v ((l ++ be 2 x).map ZD) sp 5]) := by
 have hw : IntKind.u64.wrap (x : Int) = x := WJ (by simp only [lo, hi]; omega)
 have hs := stand_spec ρ a n c l h x 2 (by omega) (by omega) (by omega) hn
 refine Ze Tryz.func221 rfl rfl rfl fun u R => ?_
 simp only [Zt, List.cons_append, List.nil_append]
 repeat' (first | (refine iCv ?_; refine ZL (y_conv rfl) rfl rfl ?_; rw [hw]) | (refine Zc (.func 232) ?_; refine qC rfl rfl (hs) ?_; rintro v ρ' L' hle ⟨rfl, sp, hown, rfl⟩ <;> (try simp only [kM, kN, kO])) | (refine Zg ?_; first | (refine Zf ?_; refine qQ ?_) | refine Zj ?_) | refine Za ?_ | (refine Zh ?_; refine Zu ?_) | (refine Zi ?_; refine Zv ?_) | intro _)
 exact qE ⟨rfl, sp, hown, rfl⟩
theorem put64_spec (ρ : Hp) (a : Option Addr) (n c : Nat) (l : List UInt8) (h : SIn ρ ZD a n l) (x : Nat) (hx : x < 18446744073709551616) (hn : n ≤ 1000000) :
  Spec Tryz.prog 178 [.slice a n c, .int .u64 x] ρ [] (fun v ρ' L' => ρ' = ρ ∧ ∃ sp, OwnS v (n + 8) ((l ++ be 8 x).map ZD) sp 1 ∧ L' = [Ym v ((l ++ be 8 x).map ZD) sp 5]) := by
 have hs := stand_spec ρ a n c l h x 8 (by omega) (by omega) (by omega) hn
 refine Ze Tryz.func178 rfl rfl rfl fun u R => ?_
 simp only [Zt, List.cons_append, List.nil_append]
 repeat' (first | (refine Zc (.func 232) ?_; refine qC rfl rfl (hs) ?_; rintro v ρ' L' hle ⟨rfl, sp, hown, rfl⟩ <;> (try simp only [kM, kN, kO])) | (refine Zg ?_; first | (refine Zf ?_; refine qQ ?_) | refine Zj ?_) | refine Za ?_ | (refine Zh ?_; refine Zu ?_) | (refine Zi ?_; refine Zv ?_) | intro _)
 exact qE ⟨rfl, sp, hown, rfl⟩
theorem OwnS.zero (b sz : Nat) : OwnS (.slice (some ⟨b, 0, none⟩) 0 0) 0 [] [] sz := ⟨.inr ⟨b, 0, rfl, by simp, by simp, Nat.le_refl _⟩⟩
abbrev rdC (br : Nat) (a : Option Addr) (n c : Nat) (st : Int) : List (Nat × Obj) := [(br, .cells ⟨[.slice a n c, .int .i64 st]⟩ 236 (0, 0))]
theorem bclone_spec (ρ : Hp) (a : Option Addr) (n c : Nat) (l : List UInt8) (h : SIn ρ ZD a n l) (hn : n ≤ 1000000) :
  Spec Tryz.prog 142 [.slice a n c] ρ [] (fun v ρ' L' => ρ.le ρ' ∧ ∃ a' c', v = .slice a' n c' ∧ n ≤ c' ∧ SIn ρ' ZD a' n l ∧ L' = []) := by
 refine Ze Tryz.func142 rfl rfl rfl fun u R => ?_
 simp only [Zt, List.cons_append, List.nil_append]
 cases a with
 | none =>
  have hn0 : n = 0 := by
   rcases h.out with h0 | ⟨b, off, C, T, fr, h1, _⟩
   ·exact h0
   ·cases h1
  subst hn0
  repeat' (first | (refine Zg ?_; first | (refine Zf ?_; refine qQ ?_) | refine Zj ?_) | refine Za ?_ | (refine Zh ?_; refine Zu ?_) | (refine Zi ?_; refine Zv ?_) | intro _)
  exact qE ⟨Hp.le_refl _, none, 0, rfl, Nat.le_refl _, ⟨h.len, .inl rfl⟩, rfl⟩
 | some a =>
  repeat' (first | (refine Zg ?_; first | (refine Zf ?_; refine qQ ?_) | refine Zj ?_) | refine Za ?_ | (refine Zh ?_; refine Zu ?_) | (refine Zi ?_; refine Zv ?_) | intro _)
  refine YQ (n := 0) (xs := []) (sp := []) (ys := l.map ZD) (sz := 1) rfl rfl (OwnS.zero _ 1) (hR := Ya) (SIn.srcV h) (by simpa using h.len) (Yr l) (by decide) rfl (by omega) (by omega) rfl (fun v' sp' hown' => ?_)
  simp only [Nat.zero_add, List.nil_append] at hown' ⊢
  repeat' (first | (refine Zg ?_; first | (refine Zf ?_; refine qQ ?_) | refine Zj ?_) | refine Za ?_ | (refine Zh ?_; refine Zu ?_) | (refine Zi ?_; refine Zv ?_) | intro _)
  refine Xs _ (h := Rem.here) (fun ρ' hle hfz => ?_)
  obtain ⟨a', c', rfl, hc, hs⟩ := hown'.sIn hfz
  exact qE ⟨hle, a', c', rfl, hc, hs, rfl⟩
theorem read_spec (ρ : Hp) (a : Option Addr) (n c : Nat) (l : List UInt8) (h : SIn ρ ZD a n l) (hn : n ≤ 1000000) :
  Spec Tryz.prog 96 [.slice a n c] ρ [] (fun v ρ' L' => ρ.le ρ' ∧ ∃ br a' c', v = .pointer (some ⟨br, 0, none⟩) ∧ n ≤ c' ∧ SIn ρ' ZD a' n l ∧ L' = [rdC br a' n c' 0]) := by
 have hc := bclone_spec ρ a n c l h hn
 refine Ze Tryz.func96 rfl rfl rfl fun u R => ?_
 simp only [Zt, List.cons_append, List.nil_append]
 repeat' (first | (refine Zc (.func 142) ?_; refine qC rfl rfl (hc) ?_; rintro v ρ' L' hle ⟨hle, a', c', rfl, hc', hs, rfl⟩ <;> (try simp only [kM, kN, kO])) | (refine Zg ?_; first | (refine Zf ?_; refine qQ ?_) | refine Zj ?_) | refine Za ?_ | (refine Zh ?_; refine Zu ?_) | (refine Zi ?_; refine Zv ?_) | intro _)
 exact qE ⟨hle, _, a', c', rfl, hc', hs, rfl⟩
theorem Wx (ρ : Hp) (br : Nat) (a : Option Addr) (n c : Nat) (st : Int) :
  Spec Tryz.prog 157 [.pointer (some ⟨br, 0, none⟩)] ρ [rdC br a n c st] (fun v ρ' L' => v = .int .i64 st ∧ ρ' = ρ ∧ L' = [rdC br a n c st]) := by
 refine Ze Tryz.func157 rfl rfl rfl fun u R => ?_
 simp only [Zt, List.cons_append, List.nil_append]
 repeat' (first | (refine Zg ?_; first | (refine Zf ?_; refine qQ ?_) | refine Zj ?_) | refine Za ?_ | (refine Zh ?_; refine Zu ?_) | (refine Zi ?_; refine Zv ?_) | intro _)
 exact qE ⟨rfl, rfl, rfl⟩
theorem left_spec (ρ : Hp) (br : Nat) (a : Option Addr) (n c : Nat) (st : Int) :
  Spec Tryz.prog 106 [.pointer (some ⟨br, 0, none⟩)] ρ [rdC br a n c st] (fun v ρ' L' => v = .int .i64 n ∧ ρ' = ρ ∧ L' = [rdC br a n c st]) := by
 refine Ze Tryz.func106 rfl rfl rfl fun u R => ?_
 simp only [Zt, List.cons_append, List.nil_append]
 repeat' (first | (refine Zg ?_; first | (refine Zf ?_; refine qQ ?_) | refine Zj ?_) | refine Za ?_ | (refine Zh ?_; refine Zu ?_) | (refine Zi ?_; refine Zv ?_) | intro _)
 exact qE ⟨rfl, rfl, rfl⟩
theorem gives_stuck (ρ : Hp) (br : Nat) (a : Option Addr) (n c : Nat) (st : Int) (hst : st ≠ 0) (k : Int) (f : Value) :
  Spec Tryz.prog 200 [.pointer (some ⟨br, 0, none⟩), .int .i64 k, f] ρ [rdC br a n c st] (fun v ρ' L' => v = .tuple ⟨[]⟩ ∧ ρ' = ρ ∧ L' = [rdC br a n c st]) := by
 refine Ze Tryz.func200 rfl rfl rfl fun u R => ?_
 simp only [Zt, List.cons_append, List.nil_append]
 repeat' (first | (refine Zc (.func 157) ?_; refine qC rfl rfl (Wx _ br a n c st) ?_; rintro v ρ' L' hle ⟨rfl, rfl, rfl⟩ <;> (try simp only [kM, kN, kO])) | (refine Zg ?_; first | (refine Zf ?_; refine qQ ?_) | refine Zj ?_) | refine Za ?_ | (refine Zh ?_; refine Zu ?_) | (refine Zi ?_; refine Zv ?_) | intro _)
 exact qE ⟨rfl, rfl, rfl⟩
theorem gives_short (ρ : Hp) (br : Nat) (a : Option Addr) (n c : Nat) (k : Int) (hk : (n : Int) < k) (f : Value) :
  Spec Tryz.prog 200 [.pointer (some ⟨br, 0, none⟩), .int .i64 k, f] ρ [rdC br a n c 0] (fun v ρ' L' => v = .tuple ⟨[]⟩ ∧ ρ' = ρ ∧ L' = [rdC br a n c 7]) := by
 refine Ze Tryz.func200 rfl rfl rfl fun u R => ?_
 simp only [Zt, List.cons_append, List.nil_append]
 repeat' (first | (refine Zc (.func 157) ?_; refine qC rfl rfl (Wx _ br a n c 0) ?_; rintro v ρ' L' hle ⟨rfl, rfl, rfl⟩ <;> (try simp only [kM, kN, kO])) | (refine Zg ?_; first | (refine Zf ?_; refine qQ ?_) | refine Zj ?_) | refine Za ?_ | (refine Zh ?_; refine Zu ?_) | (refine Zi ?_; refine Zv ?_) | intro _)
 exact qE ⟨rfl, rfl, rfl⟩
theorem gives_ok (ρ : Hp) (br : Nat) (a : Option Addr) (n c : Nat) (l : List UInt8) (h : SIn ρ ZD a n l) (hc : n ≤ c) (k : Nat) (hk : k ≤ n) (g : Nat) (cs : List Value) (X X' : SH) [Yf Tryz.prog g]
  (hS : SIn ρ ZD a k (l.take k) → Spec Tryz.prog g ([.slice a k c] ++ cs) ρ X (fun v ρ' L' => v = .tuple ⟨[]⟩ ∧ ρ' = ρ ∧ L' = X')) :
  Spec Tryz.prog 200 [.pointer (some ⟨br, 0, none⟩), .int .i64 k, .func (.func g) ⟨[]⟩ ⟨cs⟩] ρ (rdC br a n c 0 :: X)
   (fun v ρ' L' => v = .tuple ⟨[]⟩ ∧ ρ' = ρ ∧ ∃ a' c', SIn ρ ZD a' (n - k) (l.drop k) ∧ n - k ≤ c' ∧ L' = rdC br a' (n - k) c' 0 :: X') := by
 replace hS := hS (h.take hk)
 have hl := h.len
 have hsub := h.sub (lo' := k) (hi' := n) (cap := c) hk (Nat.le_refl _) hc
 rw [List.take_of_length_le (by simp; omega)] at hsub
 refine Ze Tryz.func200 rfl rfl rfl fun u R => ?_
 simp only [Zt, List.cons_append, List.nil_append] at hS ⊢
 repeat' (first | (refine Zc (.func 157) ?_; refine qC rfl rfl (Wx _ br a n c 0) ?_; rintro v ρ' L' hle ⟨rfl, rfl, rfl⟩ <;> (try simp only [kM, kN, kO])) | (refine Zc (.tmp 9) ?_; refine qC rfl rfl (hS) ?_; rintro v ρ' L' hle ⟨rfl, rfl, rfl⟩ <;> (try simp only [kM, kN, kO])) | (refine Zg ?_; first | (refine Zf ?_; refine qQ ?_) | refine Zj ?_) | refine Za ?_ | (refine Zh ?_; refine Zu ?_) | (refine Zi ?_; refine Zv ?_) | intro _)
 exact qE ⟨rfl, rfl, _, c - k, hsub, by omega, rfl⟩
theorem take_succ_unbe (l : List UInt8) (k : Nat) (h : k < l.length) : Yx (l.take (k + 1)) = Yx (l.take k) * 256 + l[k].toNat := by
 rw [List.take_succ_eq_append_getElem h, unbe_snoc]
theorem unbe_take_lt (l : List UInt8) (k : Nat) (h : k < l.length) (h8 : l.length ≤ 8) : Yx (l.take k) < 72057594037927936 := by
 have h1 := unbe_lt (l.take k)
 have h2 : (l.take k).length ≤ 7 := by simp; omega
 have h3 : 256 ^ (l.take k).length ≤ 256 ^ 7 := Nat.pow_le_pow_right (by decide) h2
 have h4 : 256 ^ 7 = 72057594037927936 := by decide
 omega
theorem number1_spec (ρ : Hp) (bx : Nat) (a : Option Addr) (n c : Nat) (l : List UInt8) (h : SIn ρ ZD a n l) (hn : n ≤ 8) :
  Spec Tryz.prog 201 [.slice a n c, .pointer (some ⟨bx, 0, none⟩)] ρ [[(bx, .cells ⟨[.int .u64 0]⟩ 22 (0, 0))]]
   (fun v ρ' L' => v = .tuple ⟨[]⟩ ∧ ρ' = ρ ∧ L' = [[(bx, .cells ⟨[.int .u64 (Yx l : Nat)]⟩ 22 (0, 0))]]) := by
 have hl := h.len
 refine Ze Tryz.func201 rfl rfl rfl fun u R => ?_
 simp only [Zt, List.cons_append, List.nil_append]
 repeat' (first | (refine Zg ?_; first | (refine Zf ?_; refine qQ ?_) | refine Zj ?_) | refine Za ?_ | (refine Zh ?_; refine Zu ?_) | (refine Zi ?_; refine Zv ?_) | intro _)
 refine ZH [(0, _), (1, _), (5, _)] (fun (ζ : (Nat) × (Nat)) => [(6, .int .i64 ζ.1)]) (fun (ζ : (Nat) × (Nat)) => ρ) (fun (ζ : (Nat) × (Nat)) => [[(bx, .cells ⟨[.int .u64 (ζ.2 : Nat)]⟩ 22 (0, 0))]]) (fun (ζ : (Nat) × (Nat)) => ζ.1 ≤ n ∧ ζ.2 = Yx (l.take ζ.1)) (fun (ζ : (Nat) × (Nat)) => n - ζ.1) ((0, 0)) (⟨Nat.zero_le _, rfl⟩) Zo Zo rfl tk ?_
 rintro ⟨k, z⟩ hI
 try simp only [List.cons_append, List.nil_append, List.append_assoc, List.append_eq] at hI ⊢
 try dsimp only at hI ⊢
 obtain ⟨hk, hz⟩ := hI
 by_cases hlt : k < n
 ·obtain ⟨b, off, C, T, fr, rfl, hb, hc⟩ := h.get (show k < l.length by omega)
  have hzl := unbe_take_lt l k (by omega) (by omega)
  rw [← hz] at hzl
  have hs := take_succ_unbe l k (by omega)
  have hbt : l[k].toNat < 256 := l[k].toNat_lt
  generalize l[k] = b8 at *
  simp only [ZD] at hc
  repeat' (first | (refine Zg ?_; first | (refine Zf ?_; refine qQ ?_) | refine Zj ?_) | refine Za ?_ | (refine Zh ?_; refine Zu ?_) | (refine Zi ?_; refine Zv ?_) | intro _)
  refine Zz (Zr _ _ ([])) (Zy (hT := tk) (Hp.le_refl _)) ?_
  all_goals (refine ZO 2 ?_; refine ZO 3 ?_; refine rIa 4 ?_; refine ZX 5 ?_; refine rCv 6 ?_)
  all_goals (refine Zm (i := 0) ?_; ((try refine Zk ?_); (first | (refine Zf ?_; refine qQ ?_) | (refine Zj ?_; try intro _)) <;> ((try simp only [kM, kN, kO]); refine Za ?_; refine Zl ?_)))
  all_goals (refine rMl 1 ?_; refine rAd 7 ?_)
  all_goals (refine Zm (i := 8) ?_; ((try refine Zk ?_); (first | (refine Zf ?_; refine qQ ?_) | (refine Zj ?_; try intro _)) <;> ((try simp only [kM, kN, kO]); refine Za ?_; refine Zl ?_)))
  all_goals refine ZI ?_
  have e : 256 * (z : Int) + (b8.toNat : Int) = ((z * 256 + b8.toNat : Nat) : Int) := by omega
  rw [e]
  repeat' (first | (refine Zg ?_; first | (refine Zf ?_; refine qQ ?_) | refine Zj ?_) | refine Za ?_ | (refine Zh ?_; refine Zu ?_) | (refine Zi ?_; refine Zv ?_) | intro _)
  refine Zx (k + 1, z * 256 + b8.toNat) (⟨hlt, by dsimp only; rw [hs, hz]⟩) Zo Zo rfl tk inferInstance (by first | omega | (dsimp only; omega))
 ·have hk2 : k = n := by omega
  subst hk2
  rw [List.take_of_length_le (by omega)] at hz
  subst hz
  repeat' (first | (refine Zg ?_; first | (refine Zf ?_; refine qQ ?_) | refine Zj ?_) | refine Za ?_ | (refine Zh ?_; refine Zu ?_) | (refine Zi ?_; refine Zv ?_) | intro _)
  exact qE ⟨rfl, rfl, rfl⟩
def YF (k : Nat) (l : List UInt8) (st : Int) : Nat × List UInt8 × Int := if st ≠ 0 then (0, l, st) else if l.length < k then (0, l, 7) else (Yx (l.take k), l.drop k, 0)
theorem Vu (k : Nat) (l : List UInt8) (st : Int) : (YF k l st).1 < 256 ^ k := by
 unfold YF
 have h0 : 0 < 256 ^ k := Nat.pow_pos (by decide)
 split
 ·exact h0
 ·split
  ·exact h0
  ·have := unbe_lt (l.take k)
   have e : (l.take k).length = k := by simp; omega
   rwa [e] at this
theorem number_spec (ρ : Hp) (br : Nat) (a : Option Addr) (n c : Nat) (l : List UInt8) (h : SIn ρ ZD a n l) (hc : n ≤ c) (st : Int) (k : Nat) (hk : k ≤ 8) :
  Spec Tryz.prog 143 [.pointer (some ⟨br, 0, none⟩), .int .i64 k] ρ [rdC br a n c st]
   (fun v ρ' L' => v = .int .u64 ((YF k l st).1 : Nat) ∧ ρ' = ρ ∧ ∃ a' n' c', SIn ρ ZD a' n' (YF k l st).2.1 ∧ n' ≤ c' ∧ L' = [rdC br a' n' c' (YF k l st).2.2]) := by
 have hl := h.len
 by_cases hst : st = 0
 ·subst hst
  by_cases hs : n < k
  ·have e : YF k l 0 = (0, l, 7) := by simp [YF, hl, hs]
   rw [e]
   refine Ze Tryz.func143 rfl rfl rfl fun u R => ?_
   simp only [Zt, List.cons_append, List.nil_append]
   repeat' (first | (refine Zc (.func 200) ?_; refine qC rfl rfl (gives_short _ br a n c k (by omega) _) ?_; rintro v ρ' L' hle ⟨rfl, rfl, rfl⟩ <;> (try simp only [kM, kN, kO])) | (refine Zg ?_; first | (refine Zf ?_; refine qQ ?_) | refine Zj ?_) | refine Za ?_ | (refine Zh ?_; refine Zu ?_) | (refine Zi ?_; refine Zv ?_) | intro _)
   exact qE ⟨rfl, rfl, a, n, c, h, hc, rfl⟩
  ·have e : YF k l 0 = (Yx (l.take k), l.drop k, 0) := by simp [YF, hl, hs]
   rw [e]
   refine Ze Tryz.func143 rfl rfl rfl fun u R => ?_
   simp only [Zt, List.cons_append, List.nil_append]
   repeat' (first | (refine Zg ?_; first | (refine Zf ?_; refine qQ ?_) | refine Zj ?_) | refine Za ?_ | (refine Zh ?_; refine Zu ?_) | (refine Zi ?_; refine Zv ?_) | intro _)
   rename_i bx
   have hg := gives_ok ρ br a n c l h hc k (by omega) 201 [.pointer (some ⟨bx, 0, none⟩)] [[(bx, .cells ⟨[.int .u64 0]⟩ 22 (0, 0))]] [[(bx, .cells ⟨[.int .u64 (Yx (l.take k) : Nat)]⟩ 22 (0, 0))]] (fun hs => number1_spec ρ bx a k c (l.take k) hs hk)
   repeat' (first | (refine Zc (.func 200) ?_; refine qC rfl rfl (hg) ?_; rintro v ρ' L' hle ⟨rfl, rfl, a', c', hs', hc', rfl⟩ <;> (try simp only [kM, kN, kO])) | (refine Zg ?_; first | (refine Zf ?_; refine qQ ?_) | refine Zj ?_) | refine Za ?_ | (refine Zh ?_; refine Zu ?_) | (refine Zi ?_; refine Zv ?_) | intro _)
   exact qE ⟨rfl, rfl, a', n - k, c', hs', hc', rfl⟩
 ·have e : YF k l st = (0, l, st) := by simp [YF, hst]
  rw [e]
  refine Ze Tryz.func143 rfl rfl rfl fun u R => ?_
  simp only [Zt, List.cons_append, List.nil_append]
  repeat' (first | (refine Zc (.func 200) ?_; refine qC rfl rfl (gives_stuck _ br a n c st hst k _) ?_; rintro v ρ' L' hle ⟨rfl, rfl, rfl⟩ <;> (try simp only [kM, kN, kO])) | (refine Zg ?_; first | (refine Zf ?_; refine qQ ?_) | refine Zj ?_) | refine Za ?_ | (refine Zh ?_; refine Zu ?_) | (refine Zi ?_; refine Zv ?_) | intro _)
  exact qE ⟨rfl, rfl, a, n, c, h, hc, rfl⟩
theorem u8_spec (ρ : Hp) (br : Nat) (a : Option Addr) (n c : Nat) (l : List UInt8) (h : SIn ρ ZD a n l) (hc : n ≤ c) (st : Int) :
  Spec Tryz.prog 97 [.pointer (some ⟨br, 0, none⟩)] ρ [rdC br a n c st]
   (fun v ρ' L' => v = .int .u8 ((YF 1 l st).1 : Nat) ∧ ρ' = ρ ∧ ∃ a' n' c', SIn ρ ZD a' n' (YF 1 l st).2.1 ∧ n' ≤ c' ∧ L' = [rdC br a' n' c' (YF 1 l st).2.2]) := by
 have hb := Vu 1 l st
 have hn := number_spec ρ br a n c l h hc st 1 (by omega)
 generalize YF 1 l st = r at *
 refine Ze Tryz.func97 rfl rfl rfl fun u R => ?_
 simp only [Zt, List.cons_append, List.nil_append]
 repeat' (first | (refine Zc (.func 143) ?_; refine qC rfl rfl (hn) ?_; rintro v ρ' L' hle ⟨rfl, rfl, a', n', c', hs', hc', rfl⟩ <;> (try simp only [kM, kN, kO])) | (refine Zg ?_; first | (refine Zf ?_; refine qQ ?_) | refine Zj ?_) | refine Za ?_ | (refine Zh ?_; refine Zu ?_) | (refine Zi ?_; refine Zv ?_) | intro _)
 exact qE ⟨rfl, rfl, a', n', c', hs', hc', rfl⟩
theorem u16_spec (ρ : Hp) (br : Nat) (a : Option Addr) (n c : Nat) (l : List UInt8) (h : SIn ρ ZD a n l) (hc : n ≤ c) (st : Int) :
  Spec Tryz.prog 152 [.pointer (some ⟨br, 0, none⟩)] ρ [rdC br a n c st]
   (fun v ρ' L' => v = .int .u16 ((YF 2 l st).1 : Nat) ∧ ρ' = ρ ∧ ∃ a' n' c', SIn ρ ZD a' n' (YF 2 l st).2.1 ∧ n' ≤ c' ∧ L' = [rdC br a' n' c' (YF 2 l st).2.2]) := by
 have hb := Vu 2 l st
 have hn := number_spec ρ br a n c l h hc st 2 (by omega)
 generalize YF 2 l st = r at *
 refine Ze Tryz.func152 rfl rfl rfl fun u R => ?_
 simp only [Zt, List.cons_append, List.nil_append]
 repeat' (first | (refine Zc (.func 143) ?_; refine qC rfl rfl (hn) ?_; rintro v ρ' L' hle ⟨rfl, rfl, a', n', c', hs', hc', rfl⟩ <;> (try simp only [kM, kN, kO])) | (refine Zg ?_; first | (refine Zf ?_; refine qQ ?_) | refine Zj ?_) | refine Za ?_ | (refine Zh ?_; refine Zu ?_) | (refine Zi ?_; refine Zv ?_) | intro _)
 exact qE ⟨rfl, rfl, a', n', c', hs', hc', rfl⟩
theorem u64_spec (ρ : Hp) (br : Nat) (a : Option Addr) (n c : Nat) (l : List UInt8) (h : SIn ρ ZD a n l) (hc : n ≤ c) (st : Int) :
  Spec Tryz.prog 98 [.pointer (some ⟨br, 0, none⟩)] ρ [rdC br a n c st]
   (fun v ρ' L' => v = .int .u64 ((YF 8 l st).1 : Nat) ∧ ρ' = ρ ∧ ∃ a' n' c', SIn ρ ZD a' n' (YF 8 l st).2.1 ∧ n' ≤ c' ∧ L' = [rdC br a' n' c' (YF 8 l st).2.2]) := by
 have hn := number_spec ρ br a n c l h hc st 8 (by omega)
 refine Ze Tryz.func98 rfl rfl rfl fun u R => ?_
 simp only [Zt, List.cons_append, List.nil_append]
 repeat' (first | (refine Zc (.func 143) ?_; refine qC rfl rfl (hn) ?_; rintro v ρ' L' hle ⟨rfl, rfl, a', n', c', hs', hc', rfl⟩ <;> (try simp only [kM, kN, kO])) | (refine Zg ?_; first | (refine Zf ?_; refine qQ ?_) | refine Zj ?_) | refine Za ?_ | (refine Zh ?_; refine Zu ?_) | (refine Zi ?_; refine Zv ?_) | intro _)
 exact qE ⟨rfl, rfl, a', n', c', hs', hc', rfl⟩
def rawR (k : Nat) (l : List UInt8) (st : Int) : List UInt8 × List UInt8 × Int := if st ≠ 0 then ([], l, st) else if l.length < k then ([], l, 7) else (l.take k, l.drop k, 0)
theorem raw1_spec (ρ : Hp) (bx : Nat) (a : Option Addr) (n c : Nat) (l : List UInt8) (h : SIn ρ ZD a n l) (hn : n ≤ 1000000) :
  Spec Tryz.prog 243 [.slice a n c, .pointer (some ⟨bx, 0, none⟩)] ρ [[(bx, .cells ⟨[.slice none 0 0]⟩ 109 (0, 0))]]
   (fun v ρ' L' => v = .tuple ⟨[]⟩ ∧ ρ.le ρ' ∧ ∃ a' c', SIn ρ' ZD a' n l ∧ n ≤ c' ∧ L' = [[(bx, .cells ⟨[.slice a' n c']⟩ 109 (0, 0))]]) := by
 refine Ze Tryz.func243 rfl rfl rfl fun u R => ?_
 simp only [Zt, List.cons_append, List.nil_append]
 repeat' (first | (refine Zg ?_; first | (refine Zf ?_; refine qQ ?_) | refine Zj ?_) | refine Za ?_ | (refine Zh ?_; refine Zu ?_) | (refine Zi ?_; refine Zv ?_) | intro _)
 refine YQ (n := 0) (xs := []) (sp := []) (ys := l.map ZD) (sz := 1) rfl rfl (OwnS.nil 1) (hR := rem_nil') (SIn.srcV h) (by simpa using h.len) (Yr l) (by decide) rfl (by omega) (by omega) rfl (fun v' sp' hown' => ?_)
 simp only [Nat.zero_add, List.nil_append] at hown' ⊢
 refine ZM _ (h := Rem.here) (fun ρ' hle hfz => ?_)
 obtain ⟨a', c', rfl, hc, hs⟩ := hown'.sIn hfz
 repeat' (first | (refine Zg ?_; first | (refine Zf ?_; refine qQ ?_) | refine Zj ?_) | refine Za ?_ | (refine Zh ?_; refine Zu ?_) | (refine Zi ?_; refine Zv ?_) | intro _)
 exact qE ⟨rfl, hle, a', c', hs, hc, rfl⟩
theorem gives_ok2 (ρ : Hp) (br : Nat) (a : Option Addr) (n c : Nat) (l : List UInt8) (h : SIn ρ ZD a n l) (hc : n ≤ c) (k : Nat) (hk : k ≤ n) (g : Nat) (cs : List Value) (X : SH) (PX : Hp → SH → Prop) [Yf Tryz.prog g]
  (hS : SIn ρ ZD a k (l.take k) → Spec Tryz.prog g ([.slice a k c] ++ cs) ρ X (fun v ρ' L' => v = .tuple ⟨[]⟩ ∧ ρ.le ρ' ∧ PX ρ' L')) :
  Spec Tryz.prog 200 [.pointer (some ⟨br, 0, none⟩), .int .i64 k, .func (.func g) ⟨[]⟩ ⟨cs⟩] ρ (rdC br a n c 0 :: X)
   (fun v ρ' L' => v = .tuple ⟨[]⟩ ∧ ρ.le ρ' ∧ ∃ a' c' X', SIn ρ' ZD a' (n - k) (l.drop k) ∧ n - k ≤ c' ∧ L' = rdC br a' (n - k) c' 0 :: X' ∧ PX ρ' X') := by
 replace hS := hS (h.take hk)
 have hl := h.len
 have hsub := h.sub (lo' := k) (hi' := n) (cap := c) hk (Nat.le_refl _) hc
 rw [List.take_of_length_le (by simp; omega)] at hsub
 refine Ze Tryz.func200 rfl rfl rfl fun u R => ?_
 simp only [Zt, List.cons_append, List.nil_append] at hS ⊢
 repeat' (first | (refine Zc (.func 157) ?_; refine qC rfl rfl (Wx _ br a n c 0) ?_; rintro v ρ' L' hle ⟨rfl, rfl, rfl⟩ <;> (try simp only [kM, kN, kO])) | (refine Zc (.tmp 9) ?_; refine qC rfl rfl (hS) ?_; rintro v ρ' L' hle ⟨rfl, hle1, hP⟩ <;> (try simp only [kM, kN, kO])) | (refine Zg ?_; first | (refine Zf ?_; refine qQ ?_) | refine Zj ?_) | refine Za ?_ | (refine Zh ?_; refine Zu ?_) | (refine Zi ?_; refine Zv ?_) | intro _)
 exact qE ⟨rfl, hle1, _, c - k, _, hsub.mono hle1, by omega, rfl, hP⟩
theorem raw_spec (ρ : Hp) (br : Nat) (a : Option Addr) (n c : Nat) (l : List UInt8) (h : SIn ρ ZD a n l) (hc : n ≤ c) (st : Int) (k : Nat) (hk : k ≤ 1000000) :
  Spec Tryz.prog 202 [.pointer (some ⟨br, 0, none⟩), .int .i64 k] ρ [rdC br a n c st]
   (fun v ρ' L' => ρ.le ρ' ∧ ∃ va vn vc a' n' c', v = .slice va vn vc ∧ vn ≤ vc ∧ SIn ρ' ZD va vn (rawR k l st).1 ∧ SIn ρ' ZD a' n' (rawR k l st).2.1 ∧ n' ≤ c' ∧ L' = [rdC br a' n' c' (rawR k l st).2.2]) := by
 have hl := h.len
 by_cases hst : st = 0
 ·subst hst
  by_cases hs : n < k
  ·have e : rawR k l 0 = ([], l, 7) := by simp [rawR, hl, hs]
   rw [e]
   refine Ze Tryz.func202 rfl rfl rfl fun u R => ?_
   simp only [Zt, List.cons_append, List.nil_append]
   repeat' (first | (refine Zc (.func 200) ?_; refine qC rfl rfl (gives_short _ br a n c k (by omega) _) ?_; rintro v ρ' L' hle ⟨rfl, rfl, rfl⟩ <;> (try simp only [kM, kN, kO])) | (refine Zg ?_; first | (refine Zf ?_; refine qQ ?_) | refine Zj ?_) | refine Za ?_ | (refine Zh ?_; refine Zu ?_) | (refine Zi ?_; refine Zv ?_) | intro _)
   exact qE ⟨Hp.le_refl _, none, 0, 0, a, n, c, rfl, Nat.le_refl _, SIn.nil, h, hc, rfl⟩
  ·have e : rawR k l 0 = (l.take k, l.drop k, 0) := by simp [rawR, hl, hs]
   rw [e]
   refine Ze Tryz.func202 rfl rfl rfl fun u R => ?_
   simp only [Zt, List.cons_append, List.nil_append]
   repeat' (first | (refine Zg ?_; first | (refine Zf ?_; refine qQ ?_) | refine Zj ?_) | refine Za ?_ | (refine Zh ?_; refine Zu ?_) | (refine Zi ?_; refine Zv ?_) | intro _)
   rename_i bx
   have hg := gives_ok2 ρ br a n c l h hc k (by omega) 243 [.pointer (some ⟨bx, 0, none⟩)] [[(bx, .cells ⟨[.slice none 0 0]⟩ 109 (0, 0))]] _ (fun hs => raw1_spec ρ bx a k c (l.take k) hs hk)
   repeat' (first | (refine Zc (.func 200) ?_; refine qC rfl rfl (hg) ?_; rintro v ρ' L' hle ⟨rfl, hle1, a', c', X', hs', hc', rfl, va, vc, hv, hvc, rfl⟩ <;> (try simp only [kM, kN, kO])) | (refine Zg ?_; first | (refine Zf ?_; refine qQ ?_) | refine Zj ?_) | refine Za ?_ | (refine Zh ?_; refine Zu ?_) | (refine Zi ?_; refine Zv ?_) | intro _)
   exact qE ⟨hle1, va, k, vc, a', n - k, c', rfl, hvc, hv, hs', hc', rfl⟩
 ·have e : rawR k l st = ([], l, st) := by simp [rawR, hst]
  rw [e]
  refine Ze Tryz.func202 rfl rfl rfl fun u R => ?_
  simp only [Zt, List.cons_append, List.nil_append]
  repeat' (first | (refine Zc (.func 200) ?_; refine qC rfl rfl (gives_stuck _ br a n c st hst k _) ?_; rintro v ρ' L' hle ⟨rfl, rfl, rfl⟩ <;> (try simp only [kM, kN, kO])) | (refine Zg ?_; first | (refine Zf ?_; refine qQ ?_) | refine Zj ?_) | refine Za ?_ | (refine Zh ?_; refine Zu ?_) | (refine Zi ?_; refine Zv ?_) | intro _)
  exact qE ⟨Hp.le_refl _, none, 0, 0, a, n, c, rfl, Nat.le_refl _, SIn.nil, h, hc, rfl⟩
structure Row where
 t : Int
 id : Nat
 val : Int
 note : List UInt8
deriving DecidableEq
structure Kid where
 t : Int
 id : Nat
 page : Int
deriving DecidableEq
abbrev keyV (t : Int) (id : Nat) : List Value := [.int .i64 t, .int .u16 id]
abbrev YT (r : Row) : List Value := [.int .i64 r.t, .int .u16 r.id, .int .i64 r.val, strV r.note]
abbrev XQ (k : Kid) : List Value := [.int .i64 k.t, .int .u16 k.id, .int .i64 k.page]
abbrev tkC (bt br : Nat) (all : Int) (bad : Bool) (vk vr vs : Value) : List (Nat × Obj) := [(bt, .cells ⟨[.pointer (some ⟨br, 0, none⟩), .int .i64 all, .bool bad, vk, vr, vs]⟩ 330 (0, 0))]
theorem WA (ρ : Hp) (n : Int) : Spec Tryz.prog 229 [.int .i64 n] ρ [] (fun v ρ' L' => v = .bool (decide (0 ≤ n ∧ n < 3)) ∧ ρ' = ρ ∧ L' = []) := by
 refine Ze Tryz.func229 rfl rfl rfl fun u R => ?_
 simp only [Zt, List.cons_append, List.nil_append]
 by_cases h0 : 0 ≤ n
 ·by_cases h1 : n < 3
  ·rw [decide_eq_true ⟨h0, h1⟩]
   repeat' (first | (refine Zg ?_; first | (refine Zf ?_; refine qQ ?_) | refine Zj ?_) | refine Za ?_ | (refine Zh ?_; refine Zu ?_) | (refine Zi ?_; refine Zv ?_) | intro _)
   exact qE ⟨rfl, rfl, rfl⟩
  ·rw [decide_eq_false (fun h => h1 h.2)]
   repeat' (first | (refine Zg ?_; first | (refine Zf ?_; refine qQ ?_) | refine Zj ?_) | refine Za ?_ | (refine Zh ?_; refine Zu ?_) | (refine Zi ?_; refine Zv ?_) | intro _)
   exact qE ⟨rfl, rfl, rfl⟩
 ·rw [decide_eq_false (fun h => h0 h.1)]
  repeat' (first | (refine Zg ?_; first | (refine Zf ?_; refine qQ ?_) | refine Zj ?_) | refine Za ?_ | (refine Zh ?_; refine Zu ?_) | (refine Zi ?_; refine Zv ?_) | intro _)
  exact qE ⟨rfl, rfl, rfl⟩
theorem ok_spec (ρ : Hp) (bt br : Nat) (all : Int) (bad : Bool) (vk vr vs : Value) (a : Option Addr) (n c : Nat) (st : Int) :
  Spec Tryz.prog 247 [.pointer (some ⟨bt, 0, none⟩)] ρ [tkC bt br all bad vk vr vs, rdC br a n c st]
   (fun v ρ' L' => v = .bool (!bad && decide (st = 0)) ∧ ρ' = ρ ∧ L' = [tkC bt br all bad vk vr vs, rdC br a n c st]) := by
 refine Ze Tryz.func247 rfl rfl rfl fun u R => ?_
 simp only [Zt, List.cons_append, List.nil_append]
 cases bad
 ·by_cases h : st = 0
  ·subst h
   repeat' (first | (refine Zc (.func 157) ?_; refine qC rfl rfl (Wx _ br a n c 0) ?_; rintro v ρ' L' hle ⟨rfl, rfl, rfl⟩ <;> (try simp only [kM, kN, kO])) | (refine Zg ?_; first | (refine Zf ?_; refine qQ ?_) | refine Zj ?_) | refine Za ?_ | (refine Zh ?_; refine Zu ?_) | (refine Zi ?_; refine Zv ?_) | intro _)
   exact qE ⟨rfl, rfl, rfl⟩
  ·have hd : decide (st = 0) = false := decide_eq_false h
   rw [hd]
   repeat' (first | (refine Zc (.func 157) ?_; refine qC rfl rfl (Wx _ br a n c st) ?_; rintro v ρ' L' hle ⟨rfl, rfl, rfl⟩ <;> (try simp only [kM, kN, kO])) | (refine Zg ?_; first | (refine Zf ?_; refine qQ ?_) | refine Zj ?_) | refine Za ?_ | (refine Zh ?_; refine Zu ?_) | (refine Zi ?_; refine Zv ?_) | intro _)
   exact qE ⟨rfl, rfl, rfl⟩
 ·repeat' (first | (refine Zg ?_; first | (refine Zf ?_; refine qQ ?_) | refine Zj ?_) | refine Za ?_ | (refine Zh ?_; refine Zu ?_) | (refine Zi ?_; refine Zv ?_) | intro _)
  exact qE ⟨rfl, rfl, rfl⟩
def XP (bad : Bool) (st : Int) (is : Bool) : Bool := bad || (decide (st = 0) && !is)
theorem Xz (ρ : Hp) (bt br : Nat) (all : Int) (bad : Bool) (vk vr vs : Value) (a : Option Addr) (n c : Nat) (st : Int) (is : Bool) :
  Spec Tryz.prog 244 [.pointer (some ⟨bt, 0, none⟩), .bool is] ρ [tkC bt br all bad vk vr vs, rdC br a n c st]
   (fun v ρ' L' => v = .tuple ⟨[]⟩ ∧ ρ' = ρ ∧ L' = [tkC bt br all (XP bad st is) vk vr vs, rdC br a n c st]) := by
 refine Ze Tryz.func244 rfl rfl rfl fun u R => ?_
 simp only [Zt, List.cons_append, List.nil_append, XP]
 cases bad
 ·by_cases h : st = 0
  ·subst h
   cases is
   all_goals (repeat' (first | (refine Zc (.func 157) ?_; refine qC rfl rfl (Wx _ br a n c 0) ?_; rintro v ρ' L' hle ⟨rfl, rfl, rfl⟩ <;> (try simp only [kM, kN, kO])) | (refine Zg ?_; first | (refine Zf ?_; refine qQ ?_) | refine Zj ?_) | refine Za ?_ | (refine Zh ?_; refine Zu ?_) | (refine Zi ?_; refine Zv ?_) | intro _))
   all_goals exact qE ⟨rfl, rfl, rfl⟩
  ·have hd : decide (st = 0) = false := decide_eq_false h
   rw [hd]
   repeat' (first | (refine Zc (.func 157) ?_; refine qC rfl rfl (Wx _ br a n c st) ?_; rintro v ρ' L' hle ⟨rfl, rfl, rfl⟩ <;> (try simp only [kM, kN, kO])) | (refine Zg ?_; first | (refine Zf ?_; refine qQ ?_) | refine Zj ?_) | refine Za ?_ | (refine Zh ?_; refine Zu ?_) | (refine Zi ?_; refine Zv ?_) | intro _)
   exact qE ⟨rfl, rfl, rfl⟩
 ·repeat' (first | (refine Zg ?_; first | (refine Zf ?_; refine qQ ?_) | refine Zj ?_) | refine Za ?_ | (refine Zh ?_; refine Zu ?_) | (refine Zi ?_; refine Zv ?_) | intro _)
  exact qE ⟨rfl, rfl, rfl⟩
end Go.Proofs.E
