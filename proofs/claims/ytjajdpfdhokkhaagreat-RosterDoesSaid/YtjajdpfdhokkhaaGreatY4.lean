/- The law RosterDoes. Part 4 of 20. -/
import Derived.Test.YtjajdpfdhokkhaaGreatY3
import Derived.Test.YtjajdpfdhokkhaaGreatChecked
import Derived.KernelRfl
namespace Go.Proofs.E
open Go Go.Proofs.E
set_option linter.unusedVariables false
theorem tqI {t : TypeId} {b : Bool} (h : (Tryz.prog.underlying t).map isIfaceD = some b := by kernel_rfl) : ZA Tryz.prog t b := mkTyIface h
theorem tqS {t : TypeId} (h : (Tryz.prog.underlying t).map isAggD = some false := by kernel_rfl) (k : (Tryz.prog.info? t).map (·.size) = some 1 := by kernel_rfl) : TyS Tryz.prog t := mkTyS h k
theorem tqA {t : TypeId} {n : Nat} (h : (Tryz.prog.underlying t).map isAggD = some true := by kernel_rfl) (k : (Tryz.prog.info? t).map (·.size) = some n := by kernel_rfl) : TyA Tryz.prog t n := mkTyA h k
theorem tqN {t : TypeId} {n : Nat} (k : (Tryz.prog.info? t).map (·.size) = some n := by kernel_rfl) : ZR Tryz.prog t n := mkTySz k
theorem tqB {t : TypeId} {n : Nat} (k : (Tryz.prog.info? t).map (·.bytes) = some n := by kernel_rfl) : Zy Tryz.prog t n := mkTyBytes k
theorem tqO {t : TypeId} {z : Value} (k : (Tryz.prog.info? t).bind (·.zero) = some z := by kernel_rfl) : ZC Tryz.prog t z := mkTyZero k
theorem tqF {t : TypeId} (h : (Tryz.prog.underlying t).map isFuncD = some true := by kernel_rfl) : YH Tryz.prog t := mkTyFunc h
theorem tqD {s : TypeId} {f off : Nat} {ft : TypeId} (h : fldB Tryz.prog s f = some (off, ft) := by kernel_rfl) : Fld Tryz.prog s f off ft := mkFld h
theorem Yy {f : FuncId} (h : funB Tryz.prog f = true := by kernel_rfl) : Yu Tryz.prog f := mkFun h
instance : TyS Tryz.prog 1 := tqS
instance : ZA Tryz.prog 1 false := tqI
instance : YH Tryz.prog 1 := tqF
instance : ZR Tryz.prog 1 1 := tqN
instance : Zy Tryz.prog 1 8 := tqB
instance : ZC Tryz.prog 1 (.nilFunc) := tqO
instance : TyS Tryz.prog 2 := tqS
instance : ZA Tryz.prog 2 false := tqI
instance : ZR Tryz.prog 2 1 := tqN
instance : Zy Tryz.prog 2 8 := tqB
instance : ZC Tryz.prog 2 (.int .i64 0) := tqO
instance : Xa Tryz.prog 2 .i64 := ⟨by kernel_rfl⟩
instance : TyS Tryz.prog 3 := tqS
instance : ZA Tryz.prog 3 false := tqI
instance : ZR Tryz.prog 3 1 := tqN
instance : Zy Tryz.prog 3 8 := tqB
instance : ZC Tryz.prog 3 (.int .i64 0) := tqO
instance : Xa Tryz.prog 3 .i64 := ⟨by kernel_rfl⟩
instance : TyS Tryz.prog 4 := tqS
instance : ZA Tryz.prog 4 false := tqI
instance : ZR Tryz.prog 4 1 := tqN
instance : Zy Tryz.prog 4 1 := tqB
instance : ZC Tryz.prog 4 (.bool false) := tqO
instance : TyBool Tryz.prog 4 := ⟨by kernel_rfl⟩
instance : TyS Tryz.prog 5 := tqS
instance : ZA Tryz.prog 5 false := tqI
instance : ZR Tryz.prog 5 1 := tqN
instance : Zy Tryz.prog 5 1 := tqB
instance : ZC Tryz.prog 5 (.int .u8 0) := tqO
instance : Xa Tryz.prog 5 .u8 := ⟨by kernel_rfl⟩
instance : TyA Tryz.prog 7 4 := tqA
instance : ZA Tryz.prog 7 false := tqI
instance : ZR Tryz.prog 7 4 := tqN
instance : Zy Tryz.prog 7 24 := tqB
instance : ZC Tryz.prog 7 (.agg ⟨[.int .i64 0, .int .i64 0, .bool false, .int .u8 0]⟩) := tqO
instance : Yj Tryz.prog 7 := ⟨by kernel_rfl⟩
instance : Fld Tryz.prog 7 0 0 2 := tqD
instance : Fld Tryz.prog 7 1 1 3 := tqD
instance : Fld Tryz.prog 7 2 2 4 := tqD
instance : Fld Tryz.prog 7 3 3 6 := tqD
instance : Yd Tryz.prog 7 (([(0, 1), (1, 1), (2, 1), (3, 1)] : List (Nat × Nat))[·]?) := ZQ (by kernel_rfl)
instance : TyS Tryz.prog 9 := tqS
instance : ZA Tryz.prog 9 false := tqI
instance : ZR Tryz.prog 9 1 := tqN
instance : Zy Tryz.prog 9 16 := tqB
instance : ZC Tryz.prog 9 (.string ⟨⟨[]⟩⟩) := tqO
instance : TyStr Tryz.prog 9 := ⟨by kernel_rfl⟩
instance : TyS Tryz.prog 12 := tqS
instance : ZA Tryz.prog 12 false := tqI
instance : ZR Tryz.prog 12 1 := tqN
instance : Zy Tryz.prog 12 8 := tqB
instance : ZC Tryz.prog 12 (.int .u64 0) := tqO
instance : Xa Tryz.prog 12 .u64 := ⟨by kernel_rfl⟩
instance : TyS Tryz.prog 16 := tqS
instance : ZA Tryz.prog 16 false := tqI
instance : ZR Tryz.prog 16 1 := tqN
instance : Zy Tryz.prog 16 8 := tqB
instance : ZC Tryz.prog 16 (.pointer none) := tqO
instance : TyPtr Tryz.prog 16 389 := ⟨by kernel_rfl⟩
instance : TyS Tryz.prog 17 := tqS
instance : ZA Tryz.prog 17 false := tqI
instance : ZR Tryz.prog 17 1 := tqN
instance : Zy Tryz.prog 17 8 := tqB
instance : ZC Tryz.prog 17 (.pointer none) := tqO
instance : TyPtr Tryz.prog 17 397 := ⟨by kernel_rfl⟩
instance : TyS Tryz.prog 20 := tqS
instance : ZA Tryz.prog 20 true := tqI
instance : ZR Tryz.prog 20 1 := tqN
instance : Zy Tryz.prog 20 16 := tqB
instance : ZC Tryz.prog 20 (.nilIface) := tqO
instance : TyS Tryz.prog 21 := tqS
instance : ZA Tryz.prog 21 false := tqI
instance : ZR Tryz.prog 21 1 := tqN
instance : Zy Tryz.prog 21 4 := tqB
instance : ZC Tryz.prog 21 (.int .i32 0) := tqO
instance : Xa Tryz.prog 21 .i32 := ⟨by kernel_rfl⟩
instance : TyS Tryz.prog 22 := tqS
instance : ZA Tryz.prog 22 false := tqI
instance : ZR Tryz.prog 22 1 := tqN
instance : Zy Tryz.prog 22 24 := tqB
instance : ZC Tryz.prog 22 (.slice none 0 0) := tqO
instance : Yi Tryz.prog 22 30 := ⟨by kernel_rfl⟩
instance : TyS Tryz.prog 23 := tqS
instance : ZA Tryz.prog 23 false := tqI
instance : YH Tryz.prog 23 := tqF
instance : ZR Tryz.prog 23 1 := tqN
instance : Zy Tryz.prog 23 8 := tqB
instance : ZC Tryz.prog 23 (.nilFunc) := tqO
instance : TyS Tryz.prog 24 := tqS
instance : ZA Tryz.prog 24 false := tqI
instance : ZR Tryz.prog 24 1 := tqN
instance : Zy Tryz.prog 24 8 := tqB
instance : ZC Tryz.prog 24 (.int .u64 0) := tqO
instance : Xa Tryz.prog 24 .u64 := ⟨by kernel_rfl⟩
instance : TyS Tryz.prog 25 := tqS
instance : ZA Tryz.prog 25 false := tqI
instance : ZR Tryz.prog 25 1 := tqN
instance : Zy Tryz.prog 25 24 := tqB
instance : ZC Tryz.prog 25 (.slice none 0 0) := tqO
instance : Yi Tryz.prog 25 128 := ⟨by kernel_rfl⟩
instance : TyS Tryz.prog 26 := tqS
instance : ZA Tryz.prog 26 false := tqI
instance : ZR Tryz.prog 26 1 := tqN
instance : Zy Tryz.prog 26 24 := tqB
instance : ZC Tryz.prog 26 (.slice none 0 0) := tqO
instance : Yi Tryz.prog 26 103 := ⟨by kernel_rfl⟩
instance : TyS Tryz.prog 27 := tqS
instance : ZA Tryz.prog 27 false := tqI
instance : ZR Tryz.prog 27 1 := tqN
instance : Zy Tryz.prog 27 24 := tqB
instance : ZC Tryz.prog 27 (.slice none 0 0) := tqO
instance : Yi Tryz.prog 27 81 := ⟨by kernel_rfl⟩
instance : TyS Tryz.prog 28 := tqS
instance : ZA Tryz.prog 28 false := tqI
instance : ZR Tryz.prog 28 1 := tqN
instance : Zy Tryz.prog 28 24 := tqB
instance : ZC Tryz.prog 28 (.slice none 0 0) := tqO
instance : Yi Tryz.prog 28 125 := ⟨by kernel_rfl⟩
instance : TyA Tryz.prog 29 10 := tqA
instance : ZA Tryz.prog 29 false := tqI
instance : ZR Tryz.prog 29 10 := tqN
instance : Zy Tryz.prog 29 144 := tqB
instance : ZC Tryz.prog 29 (.agg ⟨[.int .i64 0, .int .u64 0, .int .i64 0, .int .u64 0, .int .u64 0, .slice none 0 0, .slice none 0 0, .int .i64 0, .slice none 0 0, .slice none 0 0]⟩) := tqO
instance : Yj Tryz.prog 29 := ⟨by kernel_rfl⟩
instance : Fld Tryz.prog 29 0 0 3 := tqD
instance : Fld Tryz.prog 29 1 1 24 := tqD
instance : Fld Tryz.prog 29 2 2 3 := tqD
instance : Fld Tryz.prog 29 3 3 24 := tqD
instance : Fld Tryz.prog 29 4 4 24 := tqD
instance : Fld Tryz.prog 29 5 5 25 := tqD
instance : Fld Tryz.prog 29 6 6 26 := tqD
instance : Fld Tryz.prog 29 7 7 3 := tqD
instance : Fld Tryz.prog 29 8 8 27 := tqD
instance : Fld Tryz.prog 29 9 9 28 := tqD
instance : Yd Tryz.prog 29 (([(0, 1), (1, 1), (2, 1), (3, 1), (4, 1), (5, 1), (6, 1), (7, 1), (8, 1), (9, 1)] : List (Nat × Nat))[·]?) := ZQ (by kernel_rfl)
instance : TyA Tryz.prog 30 10 := tqA
instance : ZA Tryz.prog 30 false := tqI
instance : ZR Tryz.prog 30 10 := tqN
instance : Zy Tryz.prog 30 144 := tqB
instance : ZC Tryz.prog 30 (.agg ⟨[.int .i64 0, .int .u64 0, .int .i64 0, .int .u64 0, .int .u64 0, .slice none 0 0, .slice none 0 0, .int .i64 0, .slice none 0 0, .slice none 0 0]⟩) := tqO
instance : Yj Tryz.prog 30 := ⟨by kernel_rfl⟩
instance : XO Tryz.prog 30 [(0, 3), (1, 24), (2, 3), (3, 24), (4, 24), (5, 25), (6, 26), (7, 3), (8, 27), (9, 28)] := YZ (by kernel_rfl)
instance : Fld Tryz.prog 30 0 0 3 := tqD
instance : Fld Tryz.prog 30 1 1 24 := tqD
instance : Fld Tryz.prog 30 2 2 3 := tqD
instance : Fld Tryz.prog 30 3 3 24 := tqD
instance : Fld Tryz.prog 30 4 4 24 := tqD
instance : Fld Tryz.prog 30 5 5 25 := tqD
instance : Fld Tryz.prog 30 6 6 26 := tqD
instance : Fld Tryz.prog 30 7 7 3 := tqD
instance : Fld Tryz.prog 30 8 8 27 := tqD
instance : Fld Tryz.prog 30 9 9 28 := tqD
instance : Yd Tryz.prog 30 (([(0, 1), (1, 1), (2, 1), (3, 1), (4, 1), (5, 1), (6, 1), (7, 1), (8, 1), (9, 1)] : List (Nat × Nat))[·]?) := ZQ (by kernel_rfl)
instance : TyS Tryz.prog 32 := tqS
instance : ZA Tryz.prog 32 false := tqI
instance : ZR Tryz.prog 32 1 := tqN
instance : Zy Tryz.prog 32 24 := tqB
instance : ZC Tryz.prog 32 (.slice none 0 0) := tqO
instance : Yi Tryz.prog 32 72 := ⟨by kernel_rfl⟩
instance : TyA Tryz.prog 33 2 := tqA
instance : ZA Tryz.prog 33 false := tqI
instance : ZR Tryz.prog 33 2 := tqN
instance : Zy Tryz.prog 33 32 := tqB
instance : ZC Tryz.prog 33 (.agg ⟨[.int .i64 0, .slice none 0 0]⟩) := tqO
instance : Yj Tryz.prog 33 := ⟨by kernel_rfl⟩
instance : Fld Tryz.prog 33 0 0 3 := tqD
instance : Fld Tryz.prog 33 1 1 32 := tqD
instance : Yd Tryz.prog 33 (([(0, 1), (1, 1)] : List (Nat × Nat))[·]?) := ZQ (by kernel_rfl)
instance : TyA Tryz.prog 34 2 := tqA
instance : ZA Tryz.prog 34 false := tqI
instance : ZR Tryz.prog 34 2 := tqN
instance : Zy Tryz.prog 34 32 := tqB
instance : ZC Tryz.prog 34 (.agg ⟨[.int .i64 0, .slice none 0 0]⟩) := tqO
instance : Yj Tryz.prog 34 := ⟨by kernel_rfl⟩
instance : XO Tryz.prog 34 [(0, 3), (1, 32)] := YZ (by kernel_rfl)
instance : Fld Tryz.prog 34 0 0 3 := tqD
instance : Fld Tryz.prog 34 1 1 32 := tqD
instance : Yd Tryz.prog 34 (([(0, 1), (1, 1)] : List (Nat × Nat))[·]?) := ZQ (by kernel_rfl)
instance : TyS Tryz.prog 35 := tqS
instance : ZA Tryz.prog 35 false := tqI
instance : ZR Tryz.prog 35 1 := tqN
instance : Zy Tryz.prog 35 8 := tqB
instance : ZC Tryz.prog 35 (.int .i64 0) := tqO
instance : Xa Tryz.prog 35 .i64 := ⟨by kernel_rfl⟩
instance : TyS Tryz.prog 40 := tqS
instance : ZA Tryz.prog 40 false := tqI
instance : YH Tryz.prog 40 := tqF
instance : ZR Tryz.prog 40 1 := tqN
instance : Zy Tryz.prog 40 8 := tqB
instance : ZC Tryz.prog 40 (.nilFunc) := tqO
instance : TyS Tryz.prog 44 := tqS
instance : ZA Tryz.prog 44 false := tqI
instance : ZR Tryz.prog 44 1 := tqN
instance : Zy Tryz.prog 44 24 := tqB
instance : ZC Tryz.prog 44 (.slice none 0 0) := tqO
instance : Yi Tryz.prog 44 5 := ⟨by kernel_rfl⟩
instance : TyS Tryz.prog 48 := tqS
instance : ZA Tryz.prog 48 false := tqI
instance : YH Tryz.prog 48 := tqF
instance : ZR Tryz.prog 48 1 := tqN
instance : Zy Tryz.prog 48 8 := tqB
instance : ZC Tryz.prog 48 (.nilFunc) := tqO
instance : TyS Tryz.prog 57 := tqS
instance : ZA Tryz.prog 57 false := tqI
instance : ZR Tryz.prog 57 1 := tqN
instance : Zy Tryz.prog 57 24 := tqB
instance : ZC Tryz.prog 57 (.slice none 0 0) := tqO
instance : Yi Tryz.prog 57 3 := ⟨by kernel_rfl⟩
instance : TyS Tryz.prog 62 := tqS
instance : ZA Tryz.prog 62 false := tqI
instance : ZR Tryz.prog 62 1 := tqN
instance : Zy Tryz.prog 62 24 := tqB
instance : ZC Tryz.prog 62 (.slice none 0 0) := tqO
instance : Yi Tryz.prog 62 65 := ⟨by kernel_rfl⟩
instance : TyA Tryz.prog 64 15 := tqA
instance : ZA Tryz.prog 64 false := tqI
instance : ZR Tryz.prog 64 15 := tqN
instance : Zy Tryz.prog 64 184 := tqB
instance : ZC Tryz.prog 64 (.agg ⟨[.int .i64 0, .int .i64 0, .int .i64 0, .int .i64 0, .bool false, .int .i64 0, .int .u64 0, .int .i64 0, .int .u64 0, .int .u64 0, .slice none 0 0, .slice none 0 0, .int .i64 0, .slice none 0 0, .slice none 0 0]⟩) := tqO
instance : Yj Tryz.prog 64 := ⟨by kernel_rfl⟩
instance : Fld Tryz.prog 64 0 0 3 := tqD
instance : Fld Tryz.prog 64 1 1 3 := tqD
instance : Fld Tryz.prog 64 2 2 3 := tqD
instance : Fld Tryz.prog 64 3 3 3 := tqD
instance : Fld Tryz.prog 64 4 4 4 := tqD
instance : Fld Tryz.prog 64 5 5 30 := tqD
instance : Yd Tryz.prog 64 (([(0, 1), (1, 1), (2, 1), (3, 1), (4, 1), (5, 10)] : List (Nat × Nat))[·]?) := ZQ (by kernel_rfl)
instance : TyA Tryz.prog 65 15 := tqA
instance : ZA Tryz.prog 65 false := tqI
instance : ZR Tryz.prog 65 15 := tqN
instance : Zy Tryz.prog 65 184 := tqB
instance : ZC Tryz.prog 65 (.agg ⟨[.int .i64 0, .int .i64 0, .int .i64 0, .int .i64 0, .bool false, .int .i64 0, .int .u64 0, .int .i64 0, .int .u64 0, .int .u64 0, .slice none 0 0, .slice none 0 0, .int .i64 0, .slice none 0 0, .slice none 0 0]⟩) := tqO
instance : Yj Tryz.prog 65 := ⟨by kernel_rfl⟩
instance : XO Tryz.prog 65 [(0, 3), (1, 3), (2, 3), (3, 3), (4, 4), (5, 30)] := YZ (by kernel_rfl)
instance : Fld Tryz.prog 65 0 0 3 := tqD
instance : Fld Tryz.prog 65 1 1 3 := tqD
instance : Fld Tryz.prog 65 2 2 3 := tqD
instance : Fld Tryz.prog 65 3 3 3 := tqD
instance : Fld Tryz.prog 65 4 4 4 := tqD
instance : Fld Tryz.prog 65 5 5 30 := tqD
instance : Yd Tryz.prog 65 (([(0, 1), (1, 1), (2, 1), (3, 1), (4, 1), (5, 10)] : List (Nat × Nat))[·]?) := ZQ (by kernel_rfl)
instance : TyA Tryz.prog 66 4 := tqA
instance : ZA Tryz.prog 66 false := tqI
instance : ZR Tryz.prog 66 4 := tqN
instance : Zy Tryz.prog 66 48 := tqB
instance : ZC Tryz.prog 66 (.agg ⟨[.int .i64 0, .slice none 0 0, .int .i64 0, .int .i64 0]⟩) := tqO
instance : Yj Tryz.prog 66 := ⟨by kernel_rfl⟩
instance : Fld Tryz.prog 66 0 0 34 := tqD
instance : Fld Tryz.prog 66 1 2 3 := tqD
instance : Fld Tryz.prog 66 2 3 35 := tqD
instance : Yd Tryz.prog 66 (([(0, 2), (2, 1), (3, 1)] : List (Nat × Nat))[·]?) := ZQ (by kernel_rfl)
instance : TyA Tryz.prog 67 4 := tqA
instance : ZA Tryz.prog 67 false := tqI
instance : ZR Tryz.prog 67 4 := tqN
instance : Zy Tryz.prog 67 48 := tqB
instance : ZC Tryz.prog 67 (.agg ⟨[.int .i64 0, .slice none 0 0, .int .i64 0, .int .i64 0]⟩) := tqO
instance : Yj Tryz.prog 67 := ⟨by kernel_rfl⟩
instance : XO Tryz.prog 67 [(0, 34), (2, 3), (3, 35)] := YZ (by kernel_rfl)
instance : Fld Tryz.prog 67 0 0 34 := tqD
instance : Fld Tryz.prog 67 1 2 3 := tqD
instance : Fld Tryz.prog 67 2 3 35 := tqD
instance : Yd Tryz.prog 67 (([(0, 2), (2, 1), (3, 1)] : List (Nat × Nat))[·]?) := ZQ (by kernel_rfl)
instance : TyS Tryz.prog 69 := tqS
instance : ZA Tryz.prog 69 false := tqI
instance : ZR Tryz.prog 69 1 := tqN
instance : Zy Tryz.prog 69 24 := tqB
instance : ZC Tryz.prog 69 (.slice none 0 0) := tqO
instance : Yi Tryz.prog 69 74 := ⟨by kernel_rfl⟩
instance : TyS Tryz.prog 70 := tqS
instance : ZA Tryz.prog 70 false := tqI
instance : ZR Tryz.prog 70 1 := tqN
instance : Zy Tryz.prog 70 24 := tqB
instance : ZC Tryz.prog 70 (.slice none 0 0) := tqO
instance : Yi Tryz.prog 70 24 := ⟨by kernel_rfl⟩
instance : TyA Tryz.prog 71 7 := tqA
instance : ZA Tryz.prog 71 false := tqI
instance : ZR Tryz.prog 71 7 := tqN
instance : Zy Tryz.prog 71 88 := tqB
instance : ZC Tryz.prog 71 (.agg ⟨[.int .i64 0, .int .i64 0, .int .u64 0, .int .u64 0, .int .u64 0, .slice none 0 0, .slice none 0 0]⟩) := tqO
instance : Yj Tryz.prog 71 := ⟨by kernel_rfl⟩
instance : Fld Tryz.prog 71 0 0 3 := tqD
instance : Fld Tryz.prog 71 1 1 3 := tqD
instance : Fld Tryz.prog 71 2 2 24 := tqD
instance : Fld Tryz.prog 71 3 3 24 := tqD
instance : Fld Tryz.prog 71 4 4 24 := tqD
instance : Fld Tryz.prog 71 5 5 69 := tqD
instance : Fld Tryz.prog 71 6 6 70 := tqD
instance : Yd Tryz.prog 71 (([(0, 1), (1, 1), (2, 1), (3, 1), (4, 1), (5, 1), (6, 1)] : List (Nat × Nat))[·]?) := ZQ (by kernel_rfl)
instance : TyA Tryz.prog 72 7 := tqA
instance : ZA Tryz.prog 72 false := tqI
instance : ZR Tryz.prog 72 7 := tqN
instance : Zy Tryz.prog 72 88 := tqB
instance : ZC Tryz.prog 72 (.agg ⟨[.int .i64 0, .int .i64 0, .int .u64 0, .int .u64 0, .int .u64 0, .slice none 0 0, .slice none 0 0]⟩) := tqO
instance : Yj Tryz.prog 72 := ⟨by kernel_rfl⟩
instance : XO Tryz.prog 72 [(0, 3), (1, 3), (2, 24), (3, 24), (4, 24), (5, 69), (6, 70)] := YZ (by kernel_rfl)
instance : Fld Tryz.prog 72 0 0 3 := tqD
instance : Fld Tryz.prog 72 1 1 3 := tqD
instance : Fld Tryz.prog 72 2 2 24 := tqD
instance : Fld Tryz.prog 72 3 3 24 := tqD
instance : Fld Tryz.prog 72 4 4 24 := tqD
instance : Fld Tryz.prog 72 5 5 69 := tqD
instance : Fld Tryz.prog 72 6 6 70 := tqD
instance : Yd Tryz.prog 72 (([(0, 1), (1, 1), (2, 1), (3, 1), (4, 1), (5, 1), (6, 1)] : List (Nat × Nat))[·]?) := ZQ (by kernel_rfl)
instance : TyA Tryz.prog 73 2 := tqA
instance : ZA Tryz.prog 73 false := tqI
instance : ZR Tryz.prog 73 2 := tqN
instance : Zy Tryz.prog 73 16 := tqB
instance : ZC Tryz.prog 73 (.agg ⟨[.int .u64 0, .int .i64 0]⟩) := tqO
instance : Yj Tryz.prog 73 := ⟨by kernel_rfl⟩
instance : Fld Tryz.prog 73 0 0 24 := tqD
instance : Fld Tryz.prog 73 1 1 3 := tqD
instance : Yd Tryz.prog 73 (([(0, 1), (1, 1)] : List (Nat × Nat))[·]?) := ZQ (by kernel_rfl)
instance : TyA Tryz.prog 74 2 := tqA
instance : ZA Tryz.prog 74 false := tqI
instance : ZR Tryz.prog 74 2 := tqN
instance : Zy Tryz.prog 74 16 := tqB
instance : ZC Tryz.prog 74 (.agg ⟨[.int .u64 0, .int .i64 0]⟩) := tqO
instance : Yj Tryz.prog 74 := ⟨by kernel_rfl⟩
instance : XO Tryz.prog 74 [(0, 24), (1, 3)] := YZ (by kernel_rfl)
instance : Fld Tryz.prog 74 0 0 24 := tqD
instance : Fld Tryz.prog 74 1 1 3 := tqD
instance : Yd Tryz.prog 74 (([(0, 1), (1, 1)] : List (Nat × Nat))[·]?) := ZQ (by kernel_rfl)
instance : TyA Tryz.prog 80 5 := tqA
instance : ZA Tryz.prog 80 false := tqI
instance : ZR Tryz.prog 80 5 := tqN
instance : Zy Tryz.prog 80 40 := tqB
instance : ZC Tryz.prog 80 (.agg ⟨[.int .i64 0, .int .u64 0, .int .u64 0, .int .u64 0, .int .i64 0]⟩) := tqO
instance : Yj Tryz.prog 80 := ⟨by kernel_rfl⟩
instance : Fld Tryz.prog 80 0 0 3 := tqD
instance : Fld Tryz.prog 80 1 1 24 := tqD
instance : Fld Tryz.prog 80 2 2 24 := tqD
instance : Fld Tryz.prog 80 3 3 24 := tqD
instance : Fld Tryz.prog 80 4 4 3 := tqD
instance : Yd Tryz.prog 80 (([(0, 1), (1, 1), (2, 1), (3, 1), (4, 1)] : List (Nat × Nat))[·]?) := ZQ (by kernel_rfl)
instance : TyA Tryz.prog 81 5 := tqA
instance : ZA Tryz.prog 81 false := tqI
instance : ZR Tryz.prog 81 5 := tqN
instance : Zy Tryz.prog 81 40 := tqB
instance : ZC Tryz.prog 81 (.agg ⟨[.int .i64 0, .int .u64 0, .int .u64 0, .int .u64 0, .int .i64 0]⟩) := tqO
instance : Yj Tryz.prog 81 := ⟨by kernel_rfl⟩
instance : XO Tryz.prog 81 [(0, 3), (1, 24), (2, 24), (3, 24), (4, 3)] := YZ (by kernel_rfl)
instance : Fld Tryz.prog 81 0 0 3 := tqD
instance : Fld Tryz.prog 81 1 1 24 := tqD
instance : Fld Tryz.prog 81 2 2 24 := tqD
instance : Fld Tryz.prog 81 3 3 24 := tqD
instance : Fld Tryz.prog 81 4 4 3 := tqD
instance : Yd Tryz.prog 81 (([(0, 1), (1, 1), (2, 1), (3, 1), (4, 1)] : List (Nat × Nat))[·]?) := ZQ (by kernel_rfl)
instance : TyS Tryz.prog 83 := tqS
instance : ZA Tryz.prog 83 false := tqI
instance : ZR Tryz.prog 83 1 := tqN
instance : Zy Tryz.prog 83 8 := tqB
instance : ZC Tryz.prog 83 (.int .u64 0) := tqO
instance : Xa Tryz.prog 83 .u64 := ⟨by kernel_rfl⟩
instance : TyS Tryz.prog 88 := tqS
instance : ZA Tryz.prog 88 false := tqI
instance : YH Tryz.prog 88 := tqF
instance : ZR Tryz.prog 88 1 := tqN
instance : Zy Tryz.prog 88 8 := tqB
instance : ZC Tryz.prog 88 (.nilFunc) := tqO
instance : TyS Tryz.prog 96 := tqS
instance : ZA Tryz.prog 96 false := tqI
instance : YH Tryz.prog 96 := tqF
instance : ZR Tryz.prog 96 1 := tqN
instance : Zy Tryz.prog 96 8 := tqB
instance : ZC Tryz.prog 96 (.nilFunc) := tqO
instance : TyS Tryz.prog 97 := tqS
instance : ZA Tryz.prog 97 false := tqI
instance : ZR Tryz.prog 97 1 := tqN
instance : Zy Tryz.prog 97 2 := tqB
instance : ZC Tryz.prog 97 (.int .u16 0) := tqO
instance : Xa Tryz.prog 97 .u16 := ⟨by kernel_rfl⟩
instance : TyA Tryz.prog 98 2 := tqA
instance : ZA Tryz.prog 98 false := tqI
instance : ZR Tryz.prog 98 2 := tqN
instance : Zy Tryz.prog 98 16 := tqB
instance : ZC Tryz.prog 98 (.agg ⟨[.int .i64 0, .int .u16 0]⟩) := tqO
instance : Yj Tryz.prog 98 := ⟨by kernel_rfl⟩
instance : Fld Tryz.prog 98 0 0 3 := tqD
instance : Fld Tryz.prog 98 1 1 97 := tqD
instance : Yd Tryz.prog 98 (([(0, 1), (1, 1)] : List (Nat × Nat))[·]?) := ZQ (by kernel_rfl)
instance : TyA Tryz.prog 99 2 := tqA
instance : ZA Tryz.prog 99 false := tqI
instance : ZR Tryz.prog 99 2 := tqN
instance : Zy Tryz.prog 99 16 := tqB
instance : ZC Tryz.prog 99 (.agg ⟨[.int .i64 0, .int .u16 0]⟩) := tqO
instance : Yj Tryz.prog 99 := ⟨by kernel_rfl⟩
instance : XO Tryz.prog 99 [(0, 3), (1, 97)] := YZ (by kernel_rfl)
instance : Fld Tryz.prog 99 0 0 3 := tqD
instance : Fld Tryz.prog 99 1 1 97 := tqD
instance : Yd Tryz.prog 99 (([(0, 1), (1, 1)] : List (Nat × Nat))[·]?) := ZQ (by kernel_rfl)
instance : TyA Tryz.prog 100 4 := tqA
instance : ZA Tryz.prog 100 false := tqI
instance : ZR Tryz.prog 100 4 := tqN
instance : Zy Tryz.prog 100 40 := tqB
instance : ZC Tryz.prog 100 (.agg ⟨[.int .i64 0, .int .u16 0, .int .i64 0, .string ⟨⟨[]⟩⟩]⟩) := tqO
instance : Yj Tryz.prog 100 := ⟨by kernel_rfl⟩
instance : Fld Tryz.prog 100 0 0 99 := tqD
instance : Fld Tryz.prog 100 1 2 2 := tqD
instance : Fld Tryz.prog 100 2 3 9 := tqD
instance : Yd Tryz.prog 100 (([(0, 2), (2, 1), (3, 1)] : List (Nat × Nat))[·]?) := ZQ (by kernel_rfl)
instance : TyA Tryz.prog 101 4 := tqA
instance : ZA Tryz.prog 101 false := tqI
instance : ZR Tryz.prog 101 4 := tqN
instance : Zy Tryz.prog 101 40 := tqB
instance : ZC Tryz.prog 101 (.agg ⟨[.int .i64 0, .int .u16 0, .int .i64 0, .string ⟨⟨[]⟩⟩]⟩) := tqO
instance : Yj Tryz.prog 101 := ⟨by kernel_rfl⟩
instance : XO Tryz.prog 101 [(0, 99), (2, 2), (3, 9)] := YZ (by kernel_rfl)
instance : Fld Tryz.prog 101 0 0 99 := tqD
instance : Fld Tryz.prog 101 1 2 2 := tqD
instance : Fld Tryz.prog 101 2 3 9 := tqD
instance : Yd Tryz.prog 101 (([(0, 2), (2, 1), (3, 1)] : List (Nat × Nat))[·]?) := ZQ (by kernel_rfl)
instance : TyA Tryz.prog 102 6 := tqA
instance : ZA Tryz.prog 102 false := tqI
instance : ZR Tryz.prog 102 6 := tqN
instance : Zy Tryz.prog 102 56 := tqB
instance : ZC Tryz.prog 102 (.agg ⟨[.int .i64 0, .int .i64 0, .int .u16 0, .int .i64 0, .string ⟨⟨[]⟩⟩, .int .i64 0]⟩) := tqO
instance : Yj Tryz.prog 102 := ⟨by kernel_rfl⟩
instance : Fld Tryz.prog 102 0 0 3 := tqD
instance : Fld Tryz.prog 102 1 1 101 := tqD
instance : Fld Tryz.prog 102 2 5 2 := tqD
instance : Yd Tryz.prog 102 (([(0, 1), (1, 4), (5, 1)] : List (Nat × Nat))[·]?) := ZQ (by kernel_rfl)
instance : TyA Tryz.prog 103 6 := tqA
instance : ZA Tryz.prog 103 false := tqI
instance : ZR Tryz.prog 103 6 := tqN
instance : Zy Tryz.prog 103 56 := tqB
instance : ZC Tryz.prog 103 (.agg ⟨[.int .i64 0, .int .i64 0, .int .u16 0, .int .i64 0, .string ⟨⟨[]⟩⟩, .int .i64 0]⟩) := tqO
instance : Yj Tryz.prog 103 := ⟨by kernel_rfl⟩
instance : XO Tryz.prog 103 [(0, 3), (1, 101), (5, 2)] := YZ (by kernel_rfl)
instance : Fld Tryz.prog 103 0 0 3 := tqD
instance : Fld Tryz.prog 103 1 1 101 := tqD
instance : Fld Tryz.prog 103 2 5 2 := tqD
instance : Yd Tryz.prog 103 (([(0, 1), (1, 4), (5, 1)] : List (Nat × Nat))[·]?) := ZQ (by kernel_rfl)
instance : TyS Tryz.prog 107 := tqS
instance : ZA Tryz.prog 107 false := tqI
instance : ZR Tryz.prog 107 1 := tqN
instance : Zy Tryz.prog 107 24 := tqB
instance : ZC Tryz.prog 107 (.slice none 0 0) := tqO
instance : Yi Tryz.prog 107 101 := ⟨by kernel_rfl⟩
instance : TyS Tryz.prog 108 := tqS
instance : ZA Tryz.prog 108 false := tqI
instance : ZR Tryz.prog 108 1 := tqN
instance : Zy Tryz.prog 108 24 := tqB
instance : ZC Tryz.prog 108 (.slice none 0 0) := tqO
instance : Yi Tryz.prog 108 224 := ⟨by kernel_rfl⟩
instance : TyA Tryz.prog 109 3 := tqA
instance : ZA Tryz.prog 109 false := tqI
instance : ZR Tryz.prog 109 3 := tqN
instance : Zy Tryz.prog 109 56 := tqB
instance : ZC Tryz.prog 109 (.agg ⟨[.int .i64 0, .slice none 0 0, .slice none 0 0]⟩) := tqO
instance : Yj Tryz.prog 109 := ⟨by kernel_rfl⟩
instance : Fld Tryz.prog 109 0 0 3 := tqD
instance : Fld Tryz.prog 109 1 1 107 := tqD
instance : Fld Tryz.prog 109 2 2 108 := tqD
instance : Yd Tryz.prog 109 (([(0, 1), (1, 1), (2, 1)] : List (Nat × Nat))[·]?) := ZQ (by kernel_rfl)
instance : TyA Tryz.prog 110 3 := tqA
instance : ZA Tryz.prog 110 false := tqI
instance : ZR Tryz.prog 110 3 := tqN
instance : Zy Tryz.prog 110 56 := tqB
instance : ZC Tryz.prog 110 (.agg ⟨[.int .i64 0, .slice none 0 0, .slice none 0 0]⟩) := tqO
instance : Yj Tryz.prog 110 := ⟨by kernel_rfl⟩
instance : XO Tryz.prog 110 [(0, 3), (1, 107), (2, 108)] := YZ (by kernel_rfl)
instance : Fld Tryz.prog 110 0 0 3 := tqD
instance : Fld Tryz.prog 110 1 1 107 := tqD
instance : Fld Tryz.prog 110 2 2 108 := tqD
instance : Yd Tryz.prog 110 (([(0, 1), (1, 1), (2, 1)] : List (Nat × Nat))[·]?) := ZQ (by kernel_rfl)
instance : TyS Tryz.prog 120 := tqS
instance : ZA Tryz.prog 120 false := tqI
instance : YH Tryz.prog 120 := tqF
instance : ZR Tryz.prog 120 1 := tqN
instance : Zy Tryz.prog 120 8 := tqB
instance : ZC Tryz.prog 120 (.nilFunc) := tqO
instance : TyA Tryz.prog 124 2 := tqA
instance : ZA Tryz.prog 124 false := tqI
instance : ZR Tryz.prog 124 2 := tqN
instance : Zy Tryz.prog 124 16 := tqB
instance : ZC Tryz.prog 124 (.agg ⟨[.int .i64 0, .int .u64 0]⟩) := tqO
instance : Yj Tryz.prog 124 := ⟨by kernel_rfl⟩
instance : Fld Tryz.prog 124 0 0 3 := tqD
instance : Fld Tryz.prog 124 1 1 24 := tqD
instance : Yd Tryz.prog 124 (([(0, 1), (1, 1)] : List (Nat × Nat))[·]?) := ZQ (by kernel_rfl)
instance : TyA Tryz.prog 125 2 := tqA
instance : ZA Tryz.prog 125 false := tqI
instance : ZR Tryz.prog 125 2 := tqN
instance : Zy Tryz.prog 125 16 := tqB
instance : ZC Tryz.prog 125 (.agg ⟨[.int .i64 0, .int .u64 0]⟩) := tqO
instance : Yj Tryz.prog 125 := ⟨by kernel_rfl⟩
instance : XO Tryz.prog 125 [(0, 3), (1, 24)] := YZ (by kernel_rfl)
instance : Fld Tryz.prog 125 0 0 3 := tqD
instance : Fld Tryz.prog 125 1 1 24 := tqD
instance : Yd Tryz.prog 125 (([(0, 1), (1, 1)] : List (Nat × Nat))[·]?) := ZQ (by kernel_rfl)
instance : TyA Tryz.prog 127 7 := tqA
instance : ZA Tryz.prog 127 false := tqI
instance : ZR Tryz.prog 127 7 := tqN
instance : Zy Tryz.prog 127 120 := tqB
instance : ZC Tryz.prog 127 (.agg ⟨[.int .i64 0, .int .i64 0, .slice none 0 0, .slice none 0 0, .int .i64 0, .slice none 0 0, .slice none 0 0]⟩) := tqO
instance : Yj Tryz.prog 127 := ⟨by kernel_rfl⟩
instance : Fld Tryz.prog 127 0 0 3 := tqD
instance : Fld Tryz.prog 127 1 1 110 := tqD
instance : Fld Tryz.prog 127 2 4 110 := tqD
instance : Yd Tryz.prog 127 (([(0, 1), (1, 3), (4, 3)] : List (Nat × Nat))[·]?) := ZQ (by kernel_rfl)
instance : TyA Tryz.prog 128 7 := tqA
instance : ZA Tryz.prog 128 false := tqI
instance : ZR Tryz.prog 128 7 := tqN
instance : Zy Tryz.prog 128 120 := tqB
instance : ZC Tryz.prog 128 (.agg ⟨[.int .i64 0, .int .i64 0, .slice none 0 0, .slice none 0 0, .int .i64 0, .slice none 0 0, .slice none 0 0]⟩) := tqO
instance : Yj Tryz.prog 128 := ⟨by kernel_rfl⟩
instance : XO Tryz.prog 128 [(0, 3), (1, 110), (4, 110)] := YZ (by kernel_rfl)
instance : Fld Tryz.prog 128 0 0 3 := tqD
instance : Fld Tryz.prog 128 1 1 110 := tqD
instance : Fld Tryz.prog 128 2 4 110 := tqD
instance : Yd Tryz.prog 128 (([(0, 1), (1, 3), (4, 3)] : List (Nat × Nat))[·]?) := ZQ (by kernel_rfl)
instance : TyS Tryz.prog 141 := tqS
instance : ZA Tryz.prog 141 false := tqI
instance : ZR Tryz.prog 141 1 := tqN
instance : Zy Tryz.prog 141 4 := tqB
instance : ZC Tryz.prog 141 (.int .u32 0) := tqO
instance : Xa Tryz.prog 141 .u32 := ⟨by kernel_rfl⟩
instance : TyS Tryz.prog 143 := tqS
instance : ZA Tryz.prog 143 false := tqI
instance : ZR Tryz.prog 143 1 := tqN
instance : Zy Tryz.prog 143 8 := tqB
instance : ZC Tryz.prog 143 (.map none) := tqO
instance : TyMap Tryz.prog 143 3 1 := ⟨by kernel_rfl⟩
instance : TyS Tryz.prog 144 := tqS
instance : ZA Tryz.prog 144 false := tqI
instance : YH Tryz.prog 144 := tqF
instance : ZR Tryz.prog 144 1 := tqN
instance : Zy Tryz.prog 144 8 := tqB
instance : ZC Tryz.prog 144 (.nilFunc) := tqO
instance : TyS Tryz.prog 156 := tqS
instance : ZA Tryz.prog 156 false := tqI
instance : ZR Tryz.prog 156 1 := tqN
instance : Zy Tryz.prog 156 8 := tqB
instance : ZC Tryz.prog 156 (.pointer none) := tqO
instance : TyPtr Tryz.prog 156 158 := ⟨by kernel_rfl⟩
instance : TyA Tryz.prog 157 10 := tqA
instance : ZA Tryz.prog 157 false := tqI
instance : ZR Tryz.prog 157 10 := tqN
instance : Zy Tryz.prog 157 144 := tqB
instance : ZC Tryz.prog 157 (.agg ⟨[.int .i64 0, .int .u64 0, .int .i64 0, .int .u64 0, .int .u64 0, .slice none 0 0, .slice none 0 0, .int .i64 0, .slice none 0 0, .slice none 0 0]⟩) := tqO
instance : Yj Tryz.prog 157 := ⟨by kernel_rfl⟩
instance : Fld Tryz.prog 157 0 0 30 := tqD
instance : Yd Tryz.prog 157 (([(0, 10)] : List (Nat × Nat))[·]?) := ZQ (by kernel_rfl)
instance : TyA Tryz.prog 158 10 := tqA
instance : ZA Tryz.prog 158 false := tqI
instance : ZR Tryz.prog 158 10 := tqN
instance : Zy Tryz.prog 158 144 := tqB
instance : ZC Tryz.prog 158 (.agg ⟨[.int .i64 0, .int .u64 0, .int .i64 0, .int .u64 0, .int .u64 0, .slice none 0 0, .slice none 0 0, .int .i64 0, .slice none 0 0, .slice none 0 0]⟩) := tqO
instance : Yj Tryz.prog 158 := ⟨by kernel_rfl⟩
instance : XO Tryz.prog 158 [(0, 30)] := YZ (by kernel_rfl)
instance : Fld Tryz.prog 158 0 0 30 := tqD
instance : Yd Tryz.prog 158 (([(0, 10)] : List (Nat × Nat))[·]?) := ZQ (by kernel_rfl)
instance : TyS Tryz.prog 159 := tqS
instance : ZA Tryz.prog 159 false := tqI
instance : ZR Tryz.prog 159 1 := tqN
instance : Zy Tryz.prog 159 8 := tqB
instance : ZC Tryz.prog 159 (.map none) := tqO
instance : TyMap Tryz.prog 159 3 23 := ⟨by kernel_rfl⟩
instance : TyS Tryz.prog 168 := tqS
instance : ZA Tryz.prog 168 false := tqI
instance : YH Tryz.prog 168 := tqF
instance : ZR Tryz.prog 168 1 := tqN
instance : Zy Tryz.prog 168 8 := tqB
instance : ZC Tryz.prog 168 (.nilFunc) := tqO
instance : TyS Tryz.prog 171 := tqS
instance : ZA Tryz.prog 171 false := tqI
instance : YH Tryz.prog 171 := tqF
instance : ZR Tryz.prog 171 1 := tqN
instance : Zy Tryz.prog 171 8 := tqB
instance : ZC Tryz.prog 171 (.nilFunc) := tqO
instance : TyS Tryz.prog 176 := tqS
instance : ZA Tryz.prog 176 false := tqI
instance : YH Tryz.prog 176 := tqF
instance : ZR Tryz.prog 176 1 := tqN
instance : Zy Tryz.prog 176 8 := tqB
instance : ZC Tryz.prog 176 (.nilFunc) := tqO
instance : TyS Tryz.prog 180 := tqS
instance : ZA Tryz.prog 180 false := tqI
instance : ZR Tryz.prog 180 1 := tqN
instance : Zy Tryz.prog 180 8 := tqB
instance : ZC Tryz.prog 180 (.pointer none) := tqO
instance : TyPtr Tryz.prog 180 72 := ⟨by kernel_rfl⟩
instance : TyS Tryz.prog 181 := tqS
instance : ZA Tryz.prog 181 false := tqI
instance : YH Tryz.prog 181 := tqF
instance : ZR Tryz.prog 181 1 := tqN
instance : Zy Tryz.prog 181 8 := tqB
instance : ZC Tryz.prog 181 (.nilFunc) := tqO
instance : TyS Tryz.prog 185 := tqS
instance : ZA Tryz.prog 185 false := tqI
instance : ZR Tryz.prog 185 1 := tqN
instance : Zy Tryz.prog 185 8 := tqB
instance : ZC Tryz.prog 185 (.pointer none) := tqO
instance : TyPtr Tryz.prog 185 253 := ⟨by kernel_rfl⟩
instance : TyS Tryz.prog 186 := tqS
instance : ZA Tryz.prog 186 false := tqI
instance : YH Tryz.prog 186 := tqF
instance : ZR Tryz.prog 186 1 := tqN
instance : Zy Tryz.prog 186 8 := tqB
instance : ZC Tryz.prog 186 (.nilFunc) := tqO
instance : TyS Tryz.prog 203 := tqS
instance : ZA Tryz.prog 203 false := tqI
instance : YH Tryz.prog 203 := tqF
instance : ZR Tryz.prog 203 1 := tqN
instance : Zy Tryz.prog 203 8 := tqB
instance : ZC Tryz.prog 203 (.nilFunc) := tqO
instance : TyS Tryz.prog 220 := tqS
instance : ZA Tryz.prog 220 false := tqI
instance : YH Tryz.prog 220 := tqF
instance : ZR Tryz.prog 220 1 := tqN
instance : Zy Tryz.prog 220 8 := tqB
instance : ZC Tryz.prog 220 (.nilFunc) := tqO
instance : TyA Tryz.prog 223 3 := tqA
instance : ZA Tryz.prog 223 false := tqI
instance : ZR Tryz.prog 223 3 := tqN
instance : Zy Tryz.prog 223 24 := tqB
instance : ZC Tryz.prog 223 (.agg ⟨[.int .i64 0, .int .u16 0, .int .i64 0]⟩) := tqO
instance : Yj Tryz.prog 223 := ⟨by kernel_rfl⟩
instance : Fld Tryz.prog 223 0 0 99 := tqD
instance : Fld Tryz.prog 223 1 2 3 := tqD
instance : Yd Tryz.prog 223 (([(0, 2), (2, 1)] : List (Nat × Nat))[·]?) := ZQ (by kernel_rfl)
instance : TyA Tryz.prog 224 3 := tqA
instance : ZA Tryz.prog 224 false := tqI
instance : ZR Tryz.prog 224 3 := tqN
instance : Zy Tryz.prog 224 24 := tqB
instance : ZC Tryz.prog 224 (.agg ⟨[.int .i64 0, .int .u16 0, .int .i64 0]⟩) := tqO
instance : Yj Tryz.prog 224 := ⟨by kernel_rfl⟩
instance : XO Tryz.prog 224 [(0, 99), (2, 3)] := YZ (by kernel_rfl)
instance : Fld Tryz.prog 224 0 0 99 := tqD
instance : Fld Tryz.prog 224 1 2 3 := tqD
instance : Yd Tryz.prog 224 (([(0, 2), (2, 1)] : List (Nat × Nat))[·]?) := ZQ (by kernel_rfl)
instance : TyS Tryz.prog 227 := tqS
instance : ZA Tryz.prog 227 false := tqI
instance : YH Tryz.prog 227 := tqF
instance : ZR Tryz.prog 227 1 := tqN
instance : Zy Tryz.prog 227 8 := tqB
instance : ZC Tryz.prog 227 (.nilFunc) := tqO
instance : TyS Tryz.prog 230 := tqS
instance : ZA Tryz.prog 230 false := tqI
instance : YH Tryz.prog 230 := tqF
instance : ZR Tryz.prog 230 1 := tqN
instance : Zy Tryz.prog 230 8 := tqB
instance : ZC Tryz.prog 230 (.nilFunc) := tqO
instance : TyS Tryz.prog 231 := tqS
instance : ZA Tryz.prog 231 false := tqI
instance : YH Tryz.prog 231 := tqF
instance : ZR Tryz.prog 231 1 := tqN
instance : Zy Tryz.prog 231 8 := tqB
instance : ZC Tryz.prog 231 (.nilFunc) := tqO
instance : TyS Tryz.prog 233 := tqS
instance : ZA Tryz.prog 233 false := tqI
instance : YH Tryz.prog 233 := tqF
instance : ZR Tryz.prog 233 1 := tqN
instance : Zy Tryz.prog 233 8 := tqB
instance : ZC Tryz.prog 233 (.nilFunc) := tqO
instance : TyS Tryz.prog 234 := tqS
instance : ZA Tryz.prog 234 false := tqI
instance : YH Tryz.prog 234 := tqF
instance : ZR Tryz.prog 234 1 := tqN
instance : Zy Tryz.prog 234 8 := tqB
instance : ZC Tryz.prog 234 (.nilFunc) := tqO
instance : TyS Tryz.prog 237 := tqS
instance : ZA Tryz.prog 237 false := tqI
instance : ZR Tryz.prog 237 1 := tqN
instance : Zy Tryz.prog 237 8 := tqB
instance : ZC Tryz.prog 237 (.pointer none) := tqO
instance : TyPtr Tryz.prog 237 239 := ⟨by kernel_rfl⟩
instance : TyA Tryz.prog 238 11 := tqA
instance : ZA Tryz.prog 238 false := tqI
instance : ZR Tryz.prog 238 11 := tqN
instance : Zy Tryz.prog 238 168 := tqB
instance : ZC Tryz.prog 238 (.agg ⟨[.int .i64 0, .int .u64 0, .int .i64 0, .int .u64 0, .int .u64 0, .slice none 0 0, .slice none 0 0, .int .i64 0, .slice none 0 0, .slice none 0 0, .slice none 0 0]⟩) := tqO
instance : Yj Tryz.prog 238 := ⟨by kernel_rfl⟩
instance : Fld Tryz.prog 238 0 0 30 := tqD
instance : Fld Tryz.prog 238 1 10 44 := tqD
instance : Yd Tryz.prog 238 (([(0, 10), (10, 1)] : List (Nat × Nat))[·]?) := ZQ (by kernel_rfl)
instance : TyA Tryz.prog 239 11 := tqA
instance : ZA Tryz.prog 239 false := tqI
instance : ZR Tryz.prog 239 11 := tqN
instance : Zy Tryz.prog 239 168 := tqB
instance : ZC Tryz.prog 239 (.agg ⟨[.int .i64 0, .int .u64 0, .int .i64 0, .int .u64 0, .int .u64 0, .slice none 0 0, .slice none 0 0, .int .i64 0, .slice none 0 0, .slice none 0 0, .slice none 0 0]⟩) := tqO
instance : Yj Tryz.prog 239 := ⟨by kernel_rfl⟩
instance : XO Tryz.prog 239 [(0, 30), (10, 44)] := YZ (by kernel_rfl)
instance : Fld Tryz.prog 239 0 0 30 := tqD
instance : Fld Tryz.prog 239 1 10 44 := tqD
instance : Yd Tryz.prog 239 (([(0, 10), (10, 1)] : List (Nat × Nat))[·]?) := ZQ (by kernel_rfl)
instance : TyS Tryz.prog 251 := tqS
instance : ZA Tryz.prog 251 false := tqI
instance : YH Tryz.prog 251 := tqF
instance : ZR Tryz.prog 251 1 := tqN
instance : Zy Tryz.prog 251 8 := tqB
instance : ZC Tryz.prog 251 (.nilFunc) := tqO
instance : TyA Tryz.prog 252 13 := tqA
instance : ZA Tryz.prog 252 false := tqI
instance : ZR Tryz.prog 252 13 := tqN
instance : Zy Tryz.prog 252 184 := tqB
instance : ZC Tryz.prog 252 (.agg ⟨[.int .i64 0, .slice none 0 0, .int .i64 0, .int .u64 0, .int .i64 0, .int .u64 0, .int .u64 0, .slice none 0 0, .slice none 0 0, .int .i64 0, .slice none 0 0, .slice none 0 0, .pointer none]⟩) := tqO
instance : Yj Tryz.prog 252 := ⟨by kernel_rfl⟩
instance : Fld Tryz.prog 252 0 0 34 := tqD
instance : Fld Tryz.prog 252 1 2 30 := tqD
instance : Fld Tryz.prog 252 2 12 180 := tqD
instance : Yd Tryz.prog 252 (([(0, 2), (2, 10), (12, 1)] : List (Nat × Nat))[·]?) := ZQ (by kernel_rfl)
instance : TyA Tryz.prog 253 13 := tqA
instance : ZA Tryz.prog 253 false := tqI
instance : ZR Tryz.prog 253 13 := tqN
instance : Zy Tryz.prog 253 184 := tqB
instance : ZC Tryz.prog 253 (.agg ⟨[.int .i64 0, .slice none 0 0, .int .i64 0, .int .u64 0, .int .i64 0, .int .u64 0, .int .u64 0, .slice none 0 0, .slice none 0 0, .int .i64 0, .slice none 0 0, .slice none 0 0, .pointer none]⟩) := tqO
instance : Yj Tryz.prog 253 := ⟨by kernel_rfl⟩
instance : XO Tryz.prog 253 [(0, 34), (2, 30), (12, 180)] := YZ (by kernel_rfl)
instance : Fld Tryz.prog 253 0 0 34 := tqD
instance : Fld Tryz.prog 253 1 2 30 := tqD
instance : Fld Tryz.prog 253 2 12 180 := tqD
instance : Yd Tryz.prog 253 (([(0, 2), (2, 10), (12, 1)] : List (Nat × Nat))[·]?) := ZQ (by kernel_rfl)
instance : TyS Tryz.prog 257 := tqS
instance : ZA Tryz.prog 257 false := tqI
instance : ZR Tryz.prog 257 1 := tqN
instance : Zy Tryz.prog 257 8 := tqB
instance : ZC Tryz.prog 257 (.map none) := tqO
instance : TyMap Tryz.prog 257 3 220 := ⟨by kernel_rfl⟩
instance : TyS Tryz.prog 270 := tqS
instance : ZA Tryz.prog 270 false := tqI
instance : YH Tryz.prog 270 := tqF
instance : ZR Tryz.prog 270 1 := tqN
instance : Zy Tryz.prog 270 8 := tqB
instance : ZC Tryz.prog 270 (.nilFunc) := tqO
instance : TyS Tryz.prog 285 := tqS
instance : ZA Tryz.prog 285 false := tqI
instance : YH Tryz.prog 285 := tqF
instance : ZR Tryz.prog 285 1 := tqN
instance : Zy Tryz.prog 285 8 := tqB
instance : ZC Tryz.prog 285 (.nilFunc) := tqO
instance : TyS Tryz.prog 318 := tqS
instance : ZA Tryz.prog 318 false := tqI
instance : ZR Tryz.prog 318 1 := tqN
instance : Zy Tryz.prog 318 24 := tqB
instance : ZC Tryz.prog 318 (.slice none 0 0) := tqO
instance : Yi Tryz.prog 318 4 := ⟨by kernel_rfl⟩
instance : TyS Tryz.prog 321 := tqS
instance : ZA Tryz.prog 321 false := tqI
instance : YH Tryz.prog 321 := tqF
instance : ZR Tryz.prog 321 1 := tqN
instance : Zy Tryz.prog 321 8 := tqB
instance : ZC Tryz.prog 321 (.nilFunc) := tqO
instance : TyS Tryz.prog 333 := tqS
instance : ZA Tryz.prog 333 false := tqI
instance : YH Tryz.prog 333 := tqF
instance : ZR Tryz.prog 333 1 := tqN
instance : Zy Tryz.prog 333 8 := tqB
instance : ZC Tryz.prog 333 (.nilFunc) := tqO
instance : TyS Tryz.prog 334 := tqS
instance : ZA Tryz.prog 334 false := tqI
instance : YH Tryz.prog 334 := tqF
instance : ZR Tryz.prog 334 1 := tqN
instance : Zy Tryz.prog 334 8 := tqB
instance : ZC Tryz.prog 334 (.nilFunc) := tqO
instance : TyS Tryz.prog 335 := tqS
instance : ZA Tryz.prog 335 false := tqI
instance : ZR Tryz.prog 335 1 := tqN
instance : Zy Tryz.prog 335 8 := tqB
instance : ZC Tryz.prog 335 (.map none) := tqO
instance : TyMap Tryz.prog 335 3 4 := ⟨by kernel_rfl⟩
instance : TyS Tryz.prog 337 := tqS
instance : ZA Tryz.prog 337 false := tqI
instance : YH Tryz.prog 337 := tqF
instance : ZR Tryz.prog 337 1 := tqN
instance : Zy Tryz.prog 337 8 := tqB
instance : ZC Tryz.prog 337 (.nilFunc) := tqO
instance : TyS Tryz.prog 338 := tqS
instance : ZA Tryz.prog 338 false := tqI
instance : YH Tryz.prog 338 := tqF
instance : ZR Tryz.prog 338 1 := tqN
instance : Zy Tryz.prog 338 8 := tqB
instance : ZC Tryz.prog 338 (.nilFunc) := tqO
instance : TyS Tryz.prog 392 := tqS
instance : ZA Tryz.prog 392 false := tqI
instance : YH Tryz.prog 392 := tqF
instance : ZR Tryz.prog 392 1 := tqN
instance : Zy Tryz.prog 392 8 := tqB
instance : ZC Tryz.prog 392 (.nilFunc) := tqO
instance : TyS Tryz.prog 393 := tqS
instance : ZA Tryz.prog 393 false := tqI
instance : ZR Tryz.prog 393 1 := tqN
instance : Zy Tryz.prog 393 8 := tqB
instance : ZC Tryz.prog 393 (.pointer none) := tqO
instance : TyPtr Tryz.prog 393 5 := ⟨by kernel_rfl⟩
instance : TyA Tryz.prog 396 11 := tqA
instance : ZA Tryz.prog 396 false := tqI
instance : ZR Tryz.prog 396 11 := tqN
instance : Zy Tryz.prog 396 48 := tqB
instance : ZC Tryz.prog 396 (.agg ⟨[.int .u64 0, .int .u64 0, .int .u32 0, .int .u8 0, .int .u8 0, .int .u8 0, .int .u8 0, .nilFunc, .pointer none, .int .i32 0, .int .i32 0]⟩) := tqO
instance : Yj Tryz.prog 396 := ⟨by kernel_rfl⟩
instance : Fld Tryz.prog 396 0 0 12 := tqD
instance : Fld Tryz.prog 396 1 1 12 := tqD
instance : Fld Tryz.prog 396 2 2 141 := tqD
instance : Fld Tryz.prog 396 3 3 390 := tqD
instance : Fld Tryz.prog 396 4 4 5 := tqD
instance : Fld Tryz.prog 396 5 5 5 := tqD
instance : Fld Tryz.prog 396 6 6 391 := tqD
instance : Fld Tryz.prog 396 7 7 392 := tqD
instance : Fld Tryz.prog 396 8 8 393 := tqD
instance : Fld Tryz.prog 396 9 9 394 := tqD
instance : Fld Tryz.prog 396 10 10 395 := tqD
instance : Yd Tryz.prog 396 (([(0, 1), (1, 1), (2, 1), (3, 1), (4, 1), (5, 1), (6, 1), (7, 1), (8, 1), (9, 1), (10, 1)] : List (Nat × Nat))[·]?) := ZQ (by kernel_rfl)
instance : Yu Tryz.prog 7 := Yy
instance : Yu Tryz.prog 19 := Yy
instance : Yu Tryz.prog 26 := Yy
instance : Yu Tryz.prog 27 := Yy
instance : Yu Tryz.prog 31 := Yy
instance : Yu Tryz.prog 32 := Yy
instance : Yu Tryz.prog 35 := Yy
instance : Yu Tryz.prog 36 := Yy
instance : Yu Tryz.prog 37 := Yy
instance : Yu Tryz.prog 38 := Yy
instance : Yu Tryz.prog 39 := Yy
instance : Yu Tryz.prog 40 := Yy
instance : Yu Tryz.prog 42 := Yy
instance : Yu Tryz.prog 43 := Yy
instance : Yu Tryz.prog 44 := Yy
instance : Yu Tryz.prog 45 := Yy
instance : Yu Tryz.prog 48 := Yy
instance : Yu Tryz.prog 53 := Yy
instance : Yu Tryz.prog 54 := Yy
instance : Yu Tryz.prog 55 := Yy
instance : Yu Tryz.prog 56 := Yy
instance : Yu Tryz.prog 57 := Yy
instance : Yu Tryz.prog 58 := Yy
instance : Yu Tryz.prog 59 := Yy
instance : Yu Tryz.prog 60 := Yy
instance : Yu Tryz.prog 77 := Yy
instance : Yu Tryz.prog 95 := Yy
instance : Yu Tryz.prog 96 := Yy
instance : Yu Tryz.prog 97 := Yy
instance : Yu Tryz.prog 98 := Yy
instance : Yu Tryz.prog 99 := Yy
instance : Yu Tryz.prog 100 := Yy
instance : Yu Tryz.prog 101 := Yy
instance : Yu Tryz.prog 102 := Yy
instance : Yu Tryz.prog 103 := Yy
instance : Yu Tryz.prog 104 := Yy
instance : Yu Tryz.prog 105 := Yy
instance : Yu Tryz.prog 112 := Yy
instance : Yu Tryz.prog 113 := Yy
instance : Yu Tryz.prog 114 := Yy
instance : Yu Tryz.prog 115 := Yy
instance : Yu Tryz.prog 116 := Yy
instance : Yu Tryz.prog 117 := Yy
instance : Yu Tryz.prog 118 := Yy
instance : Yu Tryz.prog 119 := Yy
instance : Yu Tryz.prog 120 := Yy
instance : Yu Tryz.prog 121 := Yy
instance : Yu Tryz.prog 122 := Yy
instance : Yu Tryz.prog 123 := Yy
instance : Yu Tryz.prog 124 := Yy
instance : Yu Tryz.prog 125 := Yy
instance : Yu Tryz.prog 126 := Yy
instance : Yu Tryz.prog 127 := Yy
instance : Yu Tryz.prog 128 := Yy
instance : Yu Tryz.prog 129 := Yy
instance : Yu Tryz.prog 134 := Yy
instance : Yu Tryz.prog 135 := Yy
instance : Yu Tryz.prog 136 := Yy
instance : Yu Tryz.prog 137 := Yy
instance : Yu Tryz.prog 138 := Yy
instance : Yu Tryz.prog 139 := Yy
instance : Yu Tryz.prog 140 := Yy
instance : Yu Tryz.prog 141 := Yy
instance : Yu Tryz.prog 177 := Yy
instance : Yu Tryz.prog 178 := Yy
instance : Yu Tryz.prog 179 := Yy
instance : Yu Tryz.prog 180 := Yy
instance : Yu Tryz.prog 181 := Yy
instance : Yu Tryz.prog 182 := Yy
instance : Yu Tryz.prog 183 := Yy
instance : Yu Tryz.prog 184 := Yy
instance : Yu Tryz.prog 185 := Yy
instance : Yu Tryz.prog 186 := Yy
instance : Yu Tryz.prog 187 := Yy
instance : Yu Tryz.prog 188 := Yy
instance : Yu Tryz.prog 189 := Yy
instance : Yu Tryz.prog 190 := Yy
instance : Yu Tryz.prog 193 := Yy
instance : Yu Tryz.prog 194 := Yy
instance : Yu Tryz.prog 195 := Yy
instance : Yu Tryz.prog 196 := Yy
instance : Yu Tryz.prog 197 := Yy
instance : Yu Tryz.prog 198 := Yy
instance : Yu Tryz.prog 199 := Yy
instance : Yu Tryz.prog 200 := Yy
instance : Yu Tryz.prog 201 := Yy
instance : Yu Tryz.prog 202 := Yy
instance : Yu Tryz.prog 203 := Yy
instance : Yu Tryz.prog 204 := Yy
instance : Yu Tryz.prog 205 := Yy
instance : Yu Tryz.prog 206 := Yy
instance : Yu Tryz.prog 207 := Yy
instance : Yu Tryz.prog 208 := Yy
instance : Yu Tryz.prog 209 := Yy
instance : Yu Tryz.prog 210 := Yy
instance : Yu Tryz.prog 211 := Yy
instance : Yu Tryz.prog 212 := Yy
instance : Yu Tryz.prog 213 := Yy
instance : Yu Tryz.prog 214 := Yy
instance : Yu Tryz.prog 215 := Yy
instance : Yu Tryz.prog 216 := Yy
instance : Yu Tryz.prog 217 := Yy
instance : Yu Tryz.prog 218 := Yy
instance : Yu Tryz.prog 219 := Yy
instance : Yu Tryz.prog 220 := Yy
instance : Yu Tryz.prog 221 := Yy
instance : Yu Tryz.prog 222 := Yy
instance : Yu Tryz.prog 243 := Yy
instance : Yu Tryz.prog 245 := Yy
instance : Yu Tryz.prog 246 := Yy
instance : Yu Tryz.prog 247 := Yy
instance : Yu Tryz.prog 248 := Yy
instance : Yu Tryz.prog 249 := Yy
instance : Yu Tryz.prog 250 := Yy
instance : Yu Tryz.prog 251 := Yy
instance : Yu Tryz.prog 252 := Yy
instance : Yu Tryz.prog 253 := Yy
instance : Yu Tryz.prog 254 := Yy
instance : Yu Tryz.prog 255 := Yy
instance : Yu Tryz.prog 256 := Yy
instance : Yu Tryz.prog 257 := Yy
instance : Yu Tryz.prog 258 := Yy
instance : Yu Tryz.prog 259 := Yy
instance : Yu Tryz.prog 260 := Yy
instance : Yu Tryz.prog 261 := Yy
instance : Yu Tryz.prog 262 := Yy
instance : Yu Tryz.prog 263 := Yy
instance : Yu Tryz.prog 264 := Yy
instance : Yu Tryz.prog 265 := Yy
instance : Yu Tryz.prog 266 := Yy
instance : Yu Tryz.prog 267 := Yy
instance : Yu Tryz.prog 268 := Yy
instance : Yu Tryz.prog 280 := Yy
instance : Yu Tryz.prog 281 := Yy
instance : Yu Tryz.prog 282 := Yy
instance : Yu Tryz.prog 283 := Yy
instance : Yu Tryz.prog 284 := Yy
instance : Yu Tryz.prog 285 := Yy
instance : Yu Tryz.prog 286 := Yy
instance : Yu Tryz.prog 287 := Yy
instance : Yu Tryz.prog 288 := Yy
instance : Yu Tryz.prog 289 := Yy
instance : Yu Tryz.prog 290 := Yy
instance : Yu Tryz.prog 291 := Yy
instance : Yu Tryz.prog 292 := Yy
instance : Yu Tryz.prog 293 := Yy
instance : Yu Tryz.prog 302 := Yy
instance : Yu Tryz.prog 303 := Yy
instance : Yu Tryz.prog 304 := Yy
instance : Yu Tryz.prog 305 := Yy
instance : Yu Tryz.prog 306 := Yy
instance : Yu Tryz.prog 307 := Yy
instance : Yu Tryz.prog 308 := Yy
instance : Yu Tryz.prog 309 := Yy
instance : Yu Tryz.prog 310 := Yy
instance : Yu Tryz.prog 311 := Yy
instance : Yu Tryz.prog 312 := Yy
instance : Yu Tryz.prog 313 := Yy
instance : Yu Tryz.prog 317 := Yy
instance : Yu Tryz.prog 320 := Yy
instance : Yu Tryz.prog 321 := Yy
instance : Yu Tryz.prog 327 := Yy
instance : Mixed Tryz.prog := ⟨by kernel_rfl⟩
end Go.Proofs.E
namespace Go.Proofs.E
open Go
set_option linter.unusedVariables false
set_option linter.unusedSimpArgs false
set_option linter.unusedSectionVars false
set_option maxRecDepth 4000
set_option maxHeartbeats 1000000
attribute [local irreducible] Yl TL TC TE Spec Wq R1 Hp.le EnvLe TS TR YS Zs
def z8 (n : Nat) : List UInt8 := List.replicate n 0
theorem stc_mid (A B vs ws : List Value) (h : ws.length = vs.length) : stc (A ++ (vs ++ B)) A.length ws = A ++ (ws ++ B) := by
 unfold stc
 rw [List.take_left, h, ← List.drop_drop, List.drop_left, List.drop_left, List.append_assoc]
theorem u8_wrap (y : Nat) : Value.int .u8 (IntKind.u8.wrap (y : Int)) = Yc (UInt8.ofNat y) := by
 simp only [Yc, UInt8.toNat_ofNat', IntKind.wrap, IntKind.bits, IntKind.signed, Bool.false_and, Bool.false_eq_true, if_false]
 congr 1
theorem made_z8 (m : Nat) : madeCells (Value.int .u8 0).cells m = ⟨(z8 m).map Yc⟩ := by
 have hz : (Value.int IntKind.u8 0).cells = ⟨[Yc 0]⟩ := rfl
 rw [hz]
 apply Array.ext'
 apply List.ext_getElem?
 intro i
 by_cases hi : i < m
 ·simp [madeCells, z8, hi, Nat.mod_one]
 ·rw [List.getElem?_eq_none (by simp [madeCells]; omega), List.getElem?_eq_none (by simp [z8]; omega)]
theorem own_chunk (b n c : Nat) {xs : List Value} {T : TypeId} : [(b, Obj.cells ⟨xs⟩ T (0, 0))] = ZK (.slice (some ⟨b, 0, none⟩) n c) xs [] T := by simp [ZK]
theorem stand_spec (ρ : Hp) (a : Option Addr) (n c : Nat) (l : List UInt8) (h : SIn ρ Yc a n l) (x p : Nat) (hx : x < 18446744073709551616) (hp : p ≤ 8) (hp1 : 1 ≤ p) (hn : n ≤ 1000000) :
  Spec Tryz.prog 284 [.slice a n c, .int .u64 x, .int .i64 p] ρ [] (fun v ρ' L' => ρ' = ρ ∧ ∃ sp, OwnS v (n + p) ((l ++ be p x).map Yc) sp 1 ∧ L' = [ZK v ((l ++ be p x).map Yc) sp 5]) := by
 have hl := h.len
 refine Zg Tryz.func284 rfl rfl rfl fun u R => ?_
 simp only [Zx, List.cons_append, List.nil_append]
 repeat' (first | (refine tl_makeSlice rfl rfl (by omega) (by omega) (by omega) (by omega) rfl (fun hbn => ?_)) | (refine Zj ?_; first | (refine Zf ?_; refine qQ ?_) | refine Zn ?_) | refine Zb ?_ | (refine Zi ?_; refine Zv ?_) | (refine Zh ?_; refine Zu ?_) | intro _)
 simp only [show ((n : Int) + (p : Int)).toNat = n + p by omega, Nat.mul_one, made_z8]
 have hinit : stc ((z8 (n + p)).map Yc) 0 ((l.map Yc).take (n + p)) = (l ++ (z8 (p - 0) ++ be 0 x)).map Yc := by
  rw [List.take_of_length_le (by simp; omega)]
  unfold stc
  have e : z8 (n + p) = z8 n ++ z8 p := by simp [z8, List.replicate_append_replicate]
  rw [e]
  simp [be, hl, z8]
 refine tl_copy (ys := l.map Yc) rfl rfl (SIn.srcV h) (by simpa using hl) (u8c_one l) (by simp [z8]) rfl ?_
 simp only [hinit]
 repeat' (first | (refine Zj ?_; first | (refine Zf ?_; refine qQ ?_) | refine Zn ?_) | refine Zb ?_ | (refine Zi ?_; refine Zv ?_) | (refine Zh ?_; refine Zu ?_) | intro _)
 refine ZB [(6, _), (7, _), (17, _)] (fun (ζ : (Nat) × (Nat)) => [(18, .int .i64 ζ.1), (1, .int .u64 (ζ.2 : Nat))]) (fun (ζ : (Nat) × (Nat)) => ρ) (fun (ζ : (Nat) × (Nat)) => [[(hbn, .cells ⟨(l ++ (z8 (p - ζ.1) ++ be ζ.1 x)).map Yc⟩ 5 (0, 0))]]) (fun (ζ : (Nat) × (Nat)) => ζ.1 ≤ p ∧ ζ.2 = x / 256 ^ ζ.1) (fun (ζ : (Nat) × (Nat)) => p - ζ.1) ((0, x)) (⟨Nat.zero_le _, by simp⟩) Zm Zm rfl tk ?_
 rintro ⟨k, y⟩ hI
 try simp only [List.cons_append, List.nil_append, List.append_assoc, List.append_eq] at hI ⊢
 try dsimp only at hI ⊢
 obtain ⟨hk, hy⟩ := hI
 by_cases hlt : k < p
 ·have hlen : ((l ++ (z8 (p - k) ++ be k x)).map Yc).length = n + p := by simp [z8, Zt, hl]; omega
  have hst : stc ((l ++ (z8 (p - k) ++ be k x)).map Yc) (0 + ((n : Int) + (p : Int) - 1 - k).toNat * 1) [Yc (UInt8.ofNat y)] = (l ++ (z8 (p - (k + 1)) ++ be (k + 1) x)).map Yc := by
   have e1 : z8 (p - k) = z8 (p - (k + 1)) ++ [0] := by
    rw [show p - k = (p - (k + 1)) + 1 by omega]; simp [z8, List.replicate_succ']
   have e2 : 0 + ((n : Int) + (p : Int) - 1 - k).toNat * 1 = ((l ++ z8 (p - (k + 1))).map Yc).length := by simp [z8, hl]; omega
   have e3 : (l ++ (z8 (p - k) ++ be k x)).map Yc = (l ++ z8 (p - (k + 1))).map Yc ++ ([Yc 0] ++ (be k x).map Yc) := by rw [e1]; simp
   rw [e2, e3, stc_mid _ _ [Yc 0] [Yc (UInt8.ofNat y)] rfl, be, ← hy]
   simp
  have hyy : y / 256 = x / 256 ^ (k + 1) := by rw [hy, Nat.div_div_eq_div_mul, Nat.pow_succ]
  repeat' (first | (refine Zj ?_; first | (refine Zf ?_; refine qQ ?_) | refine Zn ?_) | refine Zb ?_ | (refine Zi ?_; refine Zv ?_) | (refine Zh ?_; refine Zu ?_) | intro _)
  have e8 : (y : Int) / 2 ^ 8 = ((x / 256 ^ (k + 1) : Nat) : Int) := by
   rw [← hyy]
   have : (2 : Int) ^ 8 = 256 := by decide
   omega
  rw [e8, u8_wrap, Int.natCast_add, hst]
  refine Zq (k + 1, x / 256 ^ (k + 1)) (⟨hlt, rfl⟩) Zm Zm rfl tk inferInstance (by first | omega | (dsimp only; omega))
 ·have hk2 : k = p := by omega
  subst hk2
  simp only [Nat.sub_self, z8, List.replicate_zero, List.nil_append]
  repeat' (first | (refine Zj ?_; first | (refine Zf ?_; refine qQ ?_) | refine Zn ?_) | refine Zb ?_ | (refine Zi ?_; refine Zv ?_) | (refine Zh ?_; refine Zu ?_) | intro _)
  rw [own_chunk hbn (n + k) (n + k)]
  exact qE ⟨rfl, [], ⟨.inr ⟨hbn, n + k, rfl, by simp [Zt, hl], by simp [Zt, hl], Nat.le_refl _⟩⟩, rfl⟩
theorem put16_spec (ρ : Hp) (a : Option Addr) (n c : Nat) (l : List UInt8) (h : SIn ρ Yc a n l) (x : Nat) (hx : x < 65536) (hn : n ≤ 1000000) :
  Spec Tryz.prog 258 [.slice a n c, .int .u16 x] ρ [] (fun v ρ' L' => ρ' = ρ ∧ ∃ sp, OwnS v (n + 2) ((l ++ be 2 x).map Yc) sp 1 ∧ L' = [ZK v ((l ++ be 2 x).map Yc) sp 5]) := by
 have hw : IntKind.u64.wrap (x : Int) = x := WK (by simp only [lo, hi]; omega)
 have hs := stand_spec ρ a n c l h x 2 (by omega) (by omega) (by omega) hn
 refine Zg Tryz.func258 rfl rfl rfl fun u R => ?_
 simp only [Zx, List.cons_append, List.nil_append]
 repeat' (first | (refine iCv ?_; refine Zo (y_conv rfl) rfl rfl ?_; rw [hw]) | (refine Ze (.func 284) ?_; refine qC rfl rfl (hs) ?_; rintro v ρ' L' hle ⟨rfl, sp, hown, rfl⟩ <;> (try simp only [kM, kN, kO])) | (refine Zj ?_; first | (refine Zf ?_; refine qQ ?_) | refine Zn ?_) | refine Zb ?_ | (refine Zi ?_; refine Zv ?_) | (refine Zh ?_; refine Zu ?_) | intro _)
 exact qE ⟨rfl, sp, hown, rfl⟩
theorem put64_spec (ρ : Hp) (a : Option Addr) (n c : Nat) (l : List UInt8) (h : SIn ρ Yc a n l) (x : Nat) (hx : x < 18446744073709551616) (hn : n ≤ 1000000) :
  Spec Tryz.prog 254 [.slice a n c, .int .u64 x] ρ [] (fun v ρ' L' => ρ' = ρ ∧ ∃ sp, OwnS v (n + 8) ((l ++ be 8 x).map Yc) sp 1 ∧ L' = [ZK v ((l ++ be 8 x).map Yc) sp 5]) := by
 have hs := stand_spec ρ a n c l h x 8 (by omega) (by omega) (by omega) hn
 refine Zg Tryz.func254 rfl rfl rfl fun u R => ?_
 simp only [Zx, List.cons_append, List.nil_append]
 repeat' (first | (refine Ze (.func 284) ?_; refine qC rfl rfl (hs) ?_; rintro v ρ' L' hle ⟨rfl, sp, hown, rfl⟩ <;> (try simp only [kM, kN, kO])) | (refine Zj ?_; first | (refine Zf ?_; refine qQ ?_) | refine Zn ?_) | refine Zb ?_ | (refine Zi ?_; refine Zv ?_) | (refine Zh ?_; refine Zu ?_) | intro _)
 exact qE ⟨rfl, sp, hown, rfl⟩
theorem OwnS.zero (b sz : Nat) : OwnS (.slice (some ⟨b, 0, none⟩) 0 0) 0 [] [] sz := ⟨.inr ⟨b, 0, rfl, by simp, by simp, Nat.le_refl _⟩⟩
structure Row where
 t : Int
 id : Nat
 val : Int
 note : List UInt8
deriving DecidableEq
structure Kid where
 t : Int
 id : Nat
 page : Int
deriving DecidableEq
abbrev keyV (t : Int) (id : Nat) : List Value := [.int .i64 t, .int .u16 id]
abbrev rowV (r : Row) : List Value := [.int .i64 r.t, .int .u16 r.id, .int .i64 r.val, strV r.note]
abbrev kidV (k : Kid) : List Value := [.int .i64 k.t, .int .u16 k.id, .int .i64 k.page]
theorem WD (ρ : Hp) (n : Int) : Spec Tryz.prog 280 [.int .i64 n] ρ [] (fun v ρ' L' => v = .bool (decide (0 ≤ n ∧ n < 3)) ∧ ρ' = ρ ∧ L' = []) := by
 refine Zg Tryz.func280 rfl rfl rfl fun u R => ?_
 simp only [Zx, List.cons_append, List.nil_append]
 by_cases h0 : 0 ≤ n
 ·by_cases h1 : n < 3
  ·rw [decide_eq_true ⟨h0, h1⟩]
   repeat' (first | (refine Zj ?_; first | (refine Zf ?_; refine qQ ?_) | refine Zn ?_) | refine Zb ?_ | (refine Zi ?_; refine Zv ?_) | (refine Zh ?_; refine Zu ?_) | intro _)
   exact qE ⟨rfl, rfl, rfl⟩
  ·rw [decide_eq_false (fun h => h1 h.2)]
   repeat' (first | (refine Zj ?_; first | (refine Zf ?_; refine qQ ?_) | refine Zn ?_) | refine Zb ?_ | (refine Zi ?_; refine Zv ?_) | (refine Zh ?_; refine Zu ?_) | intro _)
   exact qE ⟨rfl, rfl, rfl⟩
 ·rw [decide_eq_false (fun h => h0 h.1)]
  repeat' (first | (refine Zj ?_; first | (refine Zf ?_; refine qQ ?_) | refine Zn ?_) | refine Zb ?_ | (refine Zi ?_; refine Zv ?_) | (refine Zh ?_; refine Zu ?_) | intro _)
  exact qE ⟨rfl, rfl, rfl⟩
def cmpI (x y : Int) : Int := if x < y then -1 else if y < x then 1 else 0
theorem nanI_spec (ρ : Hp) (x : Int) : Spec Tryz.prog 262 [.int .i64 x] ρ [] (fun v ρ' L' => v = .bool false ∧ ρ' = ρ ∧ L' = []) := by
 refine Zg Tryz.func262 rfl rfl rfl fun u R => ?_
 simp only [Zx, List.cons_append, List.nil_append]
 repeat' (first | (refine Zj ?_; first | (refine Zf ?_; refine qQ ?_) | refine Zn ?_) | refine Zb ?_ | (refine Zi ?_; refine Zv ?_) | (refine Zh ?_; refine Zu ?_) | intro _)
 exact qE ⟨rfl, rfl, rfl⟩
theorem nanU_spec (ρ : Hp) (x : Int) : Spec Tryz.prog 327 [.int .u16 x] ρ [] (fun v ρ' L' => v = .bool false ∧ ρ' = ρ ∧ L' = []) := by
 refine Zg Tryz.func327 rfl rfl rfl fun u R => ?_
 simp only [Zx, List.cons_append, List.nil_append]
 repeat' (first | (refine Zj ?_; first | (refine Zf ?_; refine qQ ?_) | refine Zn ?_) | refine Zb ?_ | (refine Zi ?_; refine Zv ?_) | (refine Zh ?_; refine Zu ?_) | intro _)
 exact qE ⟨rfl, rfl, rfl⟩
theorem cmpI_spec (ρ : Hp) (x y : Int) : Spec Tryz.prog 209 [.int .i64 x, .int .i64 y] ρ [] (fun v ρ' L' => v = .int .i64 (cmpI x y) ∧ ρ' = ρ ∧ L' = []) := by
 refine Zg Tryz.func209 rfl rfl rfl fun u R => ?_
 simp only [Zx, List.cons_append, List.nil_append]
 unfold cmpI
 split
 ·repeat' (first | (refine Ze (.func 262) ?_; refine qC rfl rfl (nanI_spec _ _) ?_; rintro v ρ' L' hle ⟨rfl, rfl, rfl⟩ <;> (try simp only [kM, kN, kO])) | (refine Zj ?_; first | (refine Zf ?_; refine qQ ?_) | refine Zn ?_) | refine Zb ?_ | (refine Zi ?_; refine Zv ?_) | (refine Zh ?_; refine Zu ?_) | intro _)
  exact qE ⟨rfl, rfl, rfl⟩
 ·split
  ·repeat' (first | (refine Ze (.func 262) ?_; refine qC rfl rfl (nanI_spec _ _) ?_; rintro v ρ' L' hle ⟨rfl, rfl, rfl⟩ <;> (try simp only [kM, kN, kO])) | (refine Zj ?_; first | (refine Zf ?_; refine qQ ?_) | refine Zn ?_) | refine Zb ?_ | (refine Zi ?_; refine Zv ?_) | (refine Zh ?_; refine Zu ?_) | intro _)
   exact qE ⟨rfl, rfl, rfl⟩
  ·repeat' (first | (refine Ze (.func 262) ?_; refine qC rfl rfl (nanI_spec _ _) ?_; rintro v ρ' L' hle ⟨rfl, rfl, rfl⟩ <;> (try simp only [kM, kN, kO])) | (refine Zj ?_; first | (refine Zf ?_; refine qQ ?_) | refine Zn ?_) | refine Zb ?_ | (refine Zi ?_; refine Zv ?_) | (refine Zh ?_; refine Zu ?_) | intro _)
   exact qE ⟨rfl, rfl, rfl⟩
theorem cmpU_spec (ρ : Hp) (x y : Int) : Spec Tryz.prog 321 [.int .u16 x, .int .u16 y] ρ [] (fun v ρ' L' => v = .int .i64 (cmpI x y) ∧ ρ' = ρ ∧ L' = []) := by
 refine Zg Tryz.func321 rfl rfl rfl fun u R => ?_
 simp only [Zx, List.cons_append, List.nil_append]
 unfold cmpI
 split
 ·repeat' (first | (refine Ze (.func 327) ?_; refine qC rfl rfl (nanU_spec _ _) ?_; rintro v ρ' L' hle ⟨rfl, rfl, rfl⟩ <;> (try simp only [kM, kN, kO])) | (refine Zj ?_; first | (refine Zf ?_; refine qQ ?_) | refine Zn ?_) | refine Zb ?_ | (refine Zi ?_; refine Zv ?_) | (refine Zh ?_; refine Zu ?_) | intro _)
  exact qE ⟨rfl, rfl, rfl⟩
 ·split
  ·repeat' (first | (refine Ze (.func 327) ?_; refine qC rfl rfl (nanU_spec _ _) ?_; rintro v ρ' L' hle ⟨rfl, rfl, rfl⟩ <;> (try simp only [kM, kN, kO])) | (refine Zj ?_; first | (refine Zf ?_; refine qQ ?_) | refine Zn ?_) | refine Zb ?_ | (refine Zi ?_; refine Zv ?_) | (refine Zh ?_; refine Zu ?_) | intro _)
   exact qE ⟨rfl, rfl, rfl⟩
  ·repeat' (first | (refine Ze (.func 327) ?_; refine qC rfl rfl (nanU_spec _ _) ?_; rintro v ρ' L' hle ⟨rfl, rfl, rfl⟩ <;> (try simp only [kM, kN, kO])) | (refine Zj ?_; first | (refine Zf ?_; refine qQ ?_) | refine Zn ?_) | refine Zb ?_ | (refine Zi ?_; refine Zv ?_) | (refine Zh ?_; refine Zu ?_) | intro _)
   exact qE ⟨rfl, rfl, rfl⟩
theorem or2_spec (ρ : Hp) (b : Nat) (x y : Int) : Spec Tryz.prog 320 [.slice (some ⟨b, 0, none⟩) 2 2] ρ [[(b, .cells ⟨[.int .i64 x, .int .i64 y]⟩ 3 (0, 0))]]
  (fun v ρ' L' => v = .int .i64 (if x = 0 then y else x) ∧ ρ' = ρ ∧ L' = [[(b, .cells ⟨[.int .i64 x, .int .i64 y]⟩ 3 (0, 0))]]) := by
 refine Zg Tryz.func320 rfl rfl rfl fun u R => ?_
 simp only [Zx, List.cons_append, List.nil_append]
 repeat' (first | (refine Zj ?_; first | (refine Zf ?_; refine qQ ?_) | refine Zn ?_) | refine Zb ?_ | (refine Zi ?_; refine Zv ?_) | (refine Zh ?_; refine Zu ?_) | intro _)
 refine ZB [(2, _), (3, _), (6, _), (7, _)] (fun (ζ : (Nat)) => [(8, .int .i64 ζ)]) (fun (ζ : (Nat)) => ρ) (fun (ζ : (Nat)) => []) (fun (ζ : (Nat)) => ζ = 0 ∨ (ζ = 1 ∧ x = 0) ∨ (ζ = 2 ∧ x = 0 ∧ y = 0)) (fun (ζ : (Nat)) => 3 - ζ) (0) (.inl rfl) Zm Zm rfl tk ?_
 rintro k hI
 try simp only [List.cons_append, List.nil_append, List.append_assoc, List.append_eq] at hI ⊢
 try dsimp only at hI ⊢
 rcases hI with rfl | ⟨rfl, rfl⟩ | ⟨rfl, rfl, rfl⟩
 ·by_cases h : x = 0
  ·subst h
   repeat' (first | (refine Zj ?_; first | (refine Zf ?_; refine qQ ?_) | refine Zn ?_) | refine Zb ?_ | (refine Zi ?_; refine Zv ?_) | (refine Zh ?_; refine Zu ?_) | intro _)
   refine Zq (1) (.inr (.inl ⟨rfl, rfl⟩)) Zm Zm rfl tk inferInstance (by first | omega | (dsimp only; omega))
  ·rw [if_neg h]
   repeat' (first | (refine Zj ?_; first | (refine Zf ?_; refine qQ ?_) | refine Zn ?_) | refine Zb ?_ | (refine Zi ?_; refine Zv ?_) | (refine Zh ?_; refine Zu ?_) | intro _)
   exact qE ⟨rfl, rfl, rfl⟩
 ·by_cases h : y = 0
  ·subst h
   repeat' (first | (refine Zj ?_; first | (refine Zf ?_; refine qQ ?_) | refine Zn ?_) | refine Zb ?_ | (refine Zi ?_; refine Zv ?_) | (refine Zh ?_; refine Zu ?_) | intro _)
   refine Zq (2) (.inr (.inr ⟨rfl, rfl, rfl⟩)) Zm Zm rfl tk inferInstance (by first | omega | (dsimp only; omega))
  ·repeat' (first | (refine Zj ?_; first | (refine Zf ?_; refine qQ ?_) | refine Zn ?_) | refine Zb ?_ | (refine Zi ?_; refine Zv ?_) | (refine Zh ?_; refine Zu ?_) | intro _)
   exact qE ⟨rfl, rfl, rfl⟩
 ·repeat' (first | (refine Zj ?_; first | (refine Zf ?_; refine qQ ?_) | refine Zn ?_) | refine Zb ?_ | (refine Zi ?_; refine Zv ?_) | (refine Zh ?_; refine Zu ?_) | intro _)
  exact qE ⟨rfl, rfl, rfl⟩
def cmpK (t1 : Int) (i1 : Nat) (t2 : Int) (i2 : Nat) : Int := if cmpI t1 t2 = 0 then cmpI i1 i2 else cmpI t1 t2
theorem cmpK_lt (t1 : Int) (i1 : Nat) (t2 : Int) (i2 : Nat) : cmpK t1 i1 t2 i2 < 0 ↔ t1 < t2 ∨ (t1 = t2 ∧ i1 < i2) := by
 unfold cmpK cmpI
 repeat' split
 all_goals omega
theorem XA (ρ : Hp) (t1 : Int) (i1 : Nat) (t2 : Int) (i2 : Nat) : Spec Tryz.prog 317 [.agg ⟨keyV t1 i1⟩, .agg ⟨keyV t2 i2⟩] ρ [] (fun v ρ' L' => v = .int .i64 (cmpK t1 i1 t2 i2) ∧ ρ' = ρ ∧ L' = []) := by
 refine Zg Tryz.func317 rfl rfl rfl fun u R => ?_
 simp only [Zx, List.cons_append, List.nil_append]
 repeat' (first | (refine Zj ?_; first | (refine Zf ?_; refine qQ ?_) | refine Zn ?_) | refine Zb ?_ | (refine Zi ?_; refine Zv ?_) | (refine Zh ?_; refine Zu ?_) | intro _)
 refine ZD (Zs _ _ _) ZF ?_
 all_goals (refine ZS 0 ?_; refine ZX 1 ?_; refine ZS 2 ?_; refine ZX 3 ?_; refine ZS 5 ?_; refine ZX 6 ?_; refine ZS 7 ?_; refine ZX 8 ?_)
 all_goals (refine Zp (i := 4) ?_; ((try refine Zk ?_); (first | (refine Ze (.func 209) ?_; refine qC rfl rfl (cmpI_spec _ _ _) ?_; rintro v ρ' L' hle ⟨rfl, rfl, rfl⟩ <;> (try simp only [kM, kN, kO])) | (refine Zn ?_; try intro _)) <;> ((try simp only [kM, kN, kO]); refine Zb ?_; refine Zl ?_)))
 all_goals (refine Zp (i := 9) ?_; ((try refine Zk ?_); (first | (refine Ze (.func 321) ?_; refine qC rfl rfl (cmpU_spec _ _ _) ?_; rintro v ρ' L' hle ⟨rfl, rfl, rfl⟩ <;> (try simp only [kM, kN, kO])) | (refine Zn ?_; try intro _)) <;> ((try simp only [kM, kN, kO]); refine Zb ?_; refine Zl ?_)))
 all_goals (refine Zp (i := 10) ?_; ((try refine Zk ?_); (first | (refine Zr rfl rfl rfl rfl (by simp) rfl rfl (fun _ => ?_)) | (refine Zn ?_; try intro _)) <;> ((try simp only [kM, kN, kO]); refine Zb ?_; refine Zl ?_)))
 all_goals (refine Zp (i := 11) ?_; ((try refine Zk ?_); (first | (refine Ze (.func 320) ?_; refine qC rfl rfl (or2_spec _ _ _ _) ?_; rintro v ρ' L' hle ⟨rfl, rfl, rfl⟩ <;> (try simp only [kM, kN, kO])) | (refine Zn ?_; try intro _)) <;> ((try simp only [kM, kN, kO]); refine Zb ?_; refine Zl ?_)))
 all_goals (refine ZO ?_; refine rAs 12 ?_; refine ZI ?_)
 all_goals (repeat' (first | (refine Zj ?_; first | (refine Zf ?_; refine qQ ?_) | refine Zn ?_) | refine Zb ?_ | (refine Zi ?_; refine Zv ?_) | (refine Zh ?_; refine Zu ?_) | intro _))
 all_goals exact qE ⟨rfl, rfl, rfl⟩
def Xl (r : Row) : Bool := decide ((0 ≤ r.t ∧ r.t < 3) ∧ r.note.length ≤ 8)
theorem checkRow_spec (ρ : Hp) (r : Row) : Spec Tryz.prog 253 [.agg ⟨rowV r⟩] ρ [] (fun v ρ' L' => v = .int .i64 (if Xl r then 0 else 151) ∧ ρ' = ρ ∧ L' = []) := by
 obtain ⟨t, id, val, note⟩ := r
 refine Zg Tryz.func253 rfl rfl rfl fun u R => ?_
 simp only [Zx, List.cons_append, List.nil_append, Xl, decide_eq_true_eq]
 by_cases h1 : 0 ≤ t ∧ t < 3
 ·have hd : decide (0 ≤ t ∧ t < 3) = true := decide_eq_true h1
  by_cases h2 : note.length ≤ 8
  ·rw [if_pos ⟨h1, h2⟩]
   repeat' (first | (refine Ze (.func 280) ?_; refine qC rfl rfl (WD _ _) ?_; rintro v ρ' L' hle ⟨rfl, rfl, rfl⟩ <;> (try simp only [kM, kN, kO, hd])) | (refine Zj ?_; first | (refine Zf ?_; refine qQ ?_) | refine Zn ?_) | refine Zb ?_ | (refine Zi ?_; refine Zv ?_) | (refine Zh ?_; refine Zu ?_) | intro _)
   exact qE ⟨rfl, rfl, rfl⟩
  ·rw [if_neg (fun h => h2 h.2)]
   repeat' (first | (refine Ze (.func 280) ?_; refine qC rfl rfl (WD _ _) ?_; rintro v ρ' L' hle ⟨rfl, rfl, rfl⟩ <;> (try simp only [kM, kN, kO, hd])) | (refine Zj ?_; first | (refine Zf ?_; refine qQ ?_) | refine Zn ?_) | refine Zb ?_ | (refine Zi ?_; refine Zv ?_) | (refine Zh ?_; refine Zu ?_) | intro _)
   exact qE ⟨rfl, rfl, rfl⟩
 ·have hd : decide (0 ≤ t ∧ t < 3) = false := decide_eq_false h1
  rw [if_neg (fun h => h1 h.1)]
  repeat' (first | (refine Ze (.func 280) ?_; refine qC rfl rfl (WD _ _) ?_; rintro v ρ' L' hle ⟨rfl, rfl, rfl⟩ <;> (try simp only [kM, kN, kO, hd])) | (refine Zj ?_; first | (refine Zf ?_; refine qQ ?_) | refine Zn ?_) | refine Zb ?_ | (refine Zi ?_; refine Zv ?_) | (refine Zh ?_; refine Zu ?_) | intro _)
  exact qE ⟨rfl, rfl, rfl⟩
def ZM {α : Type} (most : Nat) (right : Nat → α → Bool) (lt : α → α → Bool) (l : List α) : Nat → Bool
 | 0 => decide (l.length ≤ most)
 | k + 1 => ZM most right lt l k && (match l[k]? with | some x => right k x && (decide (k = 0) || (match l[k - 1]? with | some y => lt y x | none => false)) | none => false)
theorem YY {α : Type} {most : Nat} {right : Nat → α → Bool} {lt : α → α → Bool} {l : List α} {k : Nat} (h : k < l.length) : ZM most right lt l (k + 1) = (ZM most right lt l k && (right k l[k] && (decide (k = 0) || lt (l[k - 1]'(by omega)) l[k]))) := by
 rw [ZM]
 simp [h, show k - 1 < l.length by omega]
theorem risesB_false {α : Type} {most : Nat} {right : Nat → α → Bool} {lt : α → α → Bool} {l : List α} {k : Nat} (h : ZM most right lt l k = false) : ∀ m, ZM most right lt l (k + m) = false
 | 0 => h
 | m + 1 => by rw [← Nat.add_assoc, ZM, risesB_false h m]; rfl
theorem YM {α : Type} {most : Nat} {right : Nat → α → Bool} {lt : α → α → Bool} {l : List α} {k n : Nat} (h : ZM most right lt l k = false) (hk : k ≤ n) : ZM most right lt l n = false := by
 have := risesB_false h (n - k)
 rwa [Nat.add_sub_cancel' hk] at this
theorem Yp (ρ : Hp) (r : Row) : Spec Tryz.prog 303 [.agg ⟨rowV r⟩] ρ [] (fun v ρ' L' => v = .agg ⟨keyV r.t r.id⟩ ∧ ρ' = ρ ∧ L' = []) := by
 refine Zg Tryz.func303 rfl rfl rfl fun u R => ?_
 simp only [Zx, List.cons_append, List.nil_append]
 repeat' (first | (refine Zj ?_; first | (refine Zf ?_; refine qQ ?_) | refine Zn ?_) | refine Zb ?_ | (refine Zi ?_; refine Zv ?_) | (refine Zh ?_; refine Zu ?_) | intro _)
 exact qE ⟨rfl, rfl, rfl⟩
theorem Xc (ρ : Hp) (i : Int) (r : Row) : Spec Tryz.prog 304 [.int .i64 i, .agg ⟨rowV r⟩] ρ [] (fun v ρ' L' => v = .bool (Xl r) ∧ ρ' = ρ ∧ L' = []) := by
 refine Zg Tryz.func304 rfl rfl rfl fun u R => ?_
 simp only [Zx, List.cons_append, List.nil_append]
 cases h : Xl r
 ·repeat' (first | (refine Ze (.func 253) ?_; refine qC rfl rfl (checkRow_spec _ r) ?_; rintro v ρ' L' hle ⟨rfl, rfl, rfl⟩ <;> (try simp only [kM, kN, kO, h, if_false, Bool.false_eq_true])) | (refine Zj ?_; first | (refine Zf ?_; refine qQ ?_) | refine Zn ?_) | refine Zb ?_ | (refine Zi ?_; refine Zv ?_) | (refine Zh ?_; refine Zu ?_) | intro _)
  exact qE ⟨rfl, rfl, rfl⟩
 ·repeat' (first | (refine Ze (.func 253) ?_; refine qC rfl rfl (checkRow_spec _ r) ?_; rintro v ρ' L' hle ⟨rfl, rfl, rfl⟩ <;> (try simp only [kM, kN, kO, h, if_true])) | (refine Zj ?_; first | (refine Zf ?_; refine qQ ?_) | refine Zn ?_) | refine Zb ?_ | (refine Zi ?_; refine Zv ?_) | (refine Zh ?_; refine Zu ?_) | intro _)
  exact qE ⟨rfl, rfl, rfl⟩
def ltR (y x : Row) : Bool := decide (cmpK y.t y.id x.t x.id < 0)
def rowsOk (l : List Row) : Bool := ZM 4 (fun _ r => Xl r) ltR l l.length
theorem rowV_len (r : Row) : (rowV r).length = 4 := rfl
theorem risesRow_spec (ρ : Hp) (a : Option Addr) (n c : Nat) (l : List Row) (h : AIn ρ 4 rowV a n l) (hn : n ≤ 1000000) :
  Spec Tryz.prog 302 [.slice a n c, .int .i64 4, .func (.func 303) ⟨[]⟩ ⟨[]⟩, .func (.func 304) ⟨[]⟩ ⟨[]⟩] ρ [] (fun v ρ' L' => v = .bool (rowsOk l) ∧ ρ' = ρ ∧ L' = []) := by
 have hl := h.len
 unfold rowsOk
 rw [hl]
 refine Zg Tryz.func302 rfl rfl rfl fun u R => ?_
 simp only [Zx, List.cons_append, List.nil_append]
 repeat' (first | (refine Zj ?_; first | (refine Zf ?_; refine qQ ?_) | refine Zn ?_) | refine Zb ?_ | (refine Zi ?_; refine Zv ?_) | (refine Zh ?_; refine Zu ?_) | intro _)
 have e0 : decide ((n : Int) ≤ 4) = ZM 4 (fun _ r => Xl r) ltR l 0 := by
  rw [ZM]; simp [hl]; omega
 rw [e0]
 refine ZB [(0, _), (2, _), (3, _), (8, _), (16, _), (17, _)] (fun (ζ : (Nat)) => [(18, .int .i64 ζ), (9, .bool (ZM 4 (fun _ r => Xl r) ltR l ζ))]) (fun (ζ : (Nat)) => ρ) (fun (ζ : (Nat)) => []) (fun (ζ : (Nat)) => ζ ≤ n) (fun (ζ : (Nat)) => n - ζ) (0) (Nat.zero_le _) Zm Zm rfl tk ?_
 rintro k hI
 try simp only [List.cons_append, List.nil_append, List.append_assoc, List.append_eq] at hI ⊢
 try dsimp only at hI ⊢
 by_cases hlt : k < n
 ·obtain ⟨b, off, C, T, fr, rfl, hb, hfit, hc⟩ := h.get (show k < l.length by omega)
  have hs := YY (most := 4) (right := fun _ r => Xl r) (lt := ltR) (show k < l.length by omega)
  have hfin := fun (e : ZM 4 (fun _ r => Xl r) ltR l (k + 1) = false) => YM e (show k + 1 ≤ n by omega)
  cases hok : ZM 4 (fun _ r => Xl r) ltR l k
  ·rw [hok, Bool.false_and] at hs
   rw [hfin hs]
   generalize l[k] = x at *
   repeat' (first | (refine Zj ?_; first | (refine Zf ?_; refine qQ ?_) | refine Zn ?_) | refine Zb ?_ | (refine Zi ?_; refine Zv ?_) | (refine Zh ?_; refine Zu ?_) | intro _)
   refine ZD (Zs _ _ _) ZF ?_
   all_goals (refine ZT 0 ?_; refine ZT 1 ?_; (first | refine Zc 2 ?_ | refine Za 2 ?_ | refine ZP 2 ?_); (first | refine Zc 3 ?_ | refine Za 3 ?_ | refine ZP 3 ?_); (first | refine Zc 4 ?_ | refine Za 4 ?_ | refine Yb 4 ?_))
   all_goals (first | refine Zc 5 ?_ | refine Za 5 ?_ | (refine Zp (i := 5) ?_; ((try refine Zk ?_); (first | (refine Zn ?_; try intro _)) <;> ((try simp only [kM, kN, kO]); refine Zb ?_; refine Zl ?_))))
   all_goals (refine YA 6 ?_; refine ZT 7 ?_; (first | refine Zc 8 ?_ | refine Za 8 ?_ | refine ZP 8 ?_); (first | refine Zc 9 ?_ | refine Za 9 ?_ | refine Yw 9 ?_); (first | refine Zc 10 ?_ | refine Za 10 ?_ | refine ZP 10 ?_); (first | refine Zc 11 ?_ | refine Za 11 ?_ | refine ZP 11 ?_); (first | refine Zc 12 ?_ | refine Za 12 ?_ | refine ZP 12 ?_); (first | refine Zc 13 ?_ | refine Za 13 ?_ | refine ZP 13 ?_); (first | refine Zc 14 ?_ | refine Za 14 ?_ | refine wSb 14 ?_); (first | refine Zc 15 ?_ | refine Za 15 ?_ | refine wIa 15 ?_); (first | refine Zc 16 ?_ | refine Za 16 ?_ | refine Yb 16 ?_); (first | refine Zc 18 ?_ | refine Za 18 ?_ | refine ZP 18 ?_); (first | refine Zc 19 ?_ | refine Za 19 ?_ | refine Yb 19 ?_))
   all_goals (first | refine Zc 17 ?_ | refine Za 17 ?_ | (refine Zp (i := 17) ?_; ((try refine Zk ?_); (first | (refine Zn ?_; try intro _)) <;> ((try simp only [kM, kN, kO]); refine Zb ?_; refine Zl ?_))))
   all_goals (first | refine Zc 20 ?_ | refine Za 20 ?_ | (refine Zp (i := 20) ?_; ((try refine Zk ?_); (first | (refine Zn ?_; try intro _)) <;> ((try simp only [kM, kN, kO]); refine Zb ?_; refine Zl ?_))))
   all_goals (first | refine Zc 21 ?_ | refine Za 21 ?_ | (refine Zp (i := 21) ?_; ((try refine Zk ?_); (first | (refine Zn ?_; try intro _)) <;> ((try simp only [kM, kN, kO]); refine Zb ?_; refine Zl ?_))))
   all_goals (refine ZO ?_; (first | refine Zc 22 ?_ | refine Za 22 ?_ | refine Yw 22 ?_); (first | refine Zc 23 ?_ | refine Za 23 ?_ | refine wPk 23 ?_); refine YA 24 ?_; refine rAs 25 ?_; refine ZI ?_)
   repeat' (first | (refine Zj ?_; first | (refine Zf ?_; refine qQ ?_) | refine Zn ?_) | refine Zb ?_ | (refine Zi ?_; refine Zv ?_) | (refine Zh ?_; refine Zu ?_) | intro _)
   exact qE ⟨rfl, rfl, rfl⟩
  ·rw [hok, Bool.true_and] at hs
   cases hx : Xl l[k]
   ·rw [hx, Bool.false_and] at hs
    rw [hfin hs]
    generalize l[k] = x at *
    repeat' (first | (refine Zj ?_; first | (refine Zf ?_; refine qQ ?_) | refine Zn ?_) | refine Zb ?_ | (refine Zi ?_; refine Zv ?_) | (refine Zh ?_; refine Zu ?_) | intro _)
    refine ZD (Zs _ _ _) ZF ?_
    all_goals (refine ZT 0 ?_; refine ZT 1 ?_; (first | refine Zc 2 ?_ | refine Za 2 ?_ | refine ZP 2 ?_); (first | refine Zc 3 ?_ | refine Za 3 ?_ | refine ZP 3 ?_); (first | refine Zc 4 ?_ | refine Za 4 ?_ | refine Yb 4 ?_))
    all_goals (first | refine Zc 5 ?_ | refine Za 5 ?_ | (refine Zp (i := 5) ?_; ((try refine Zk ?_); (first | (refine Ze (.tmp 25) ?_; refine qC rfl rfl (Xc _ _ _) ?_; rintro v ρ' L' hle ⟨rfl, rfl, rfl⟩ <;> (try simp only [kM, kN, kO, hx])) | (refine Ze (.tmp 34) ?_; refine qC rfl rfl (Yp _ _) ?_; rintro v ρ' L' hle ⟨rfl, rfl, rfl⟩ <;> (try simp only [kM, kN, kO])) | (refine Ze (.tmp 41) ?_; refine qC rfl rfl (Yp _ _) ?_; rintro v ρ' L' hle ⟨rfl, rfl, rfl⟩ <;> (try simp only [kM, kN, kO])) | (refine Zn ?_; try intro _)) <;> ((try simp only [kM, kN, kO]); refine Zb ?_; refine Zl ?_))))
    all_goals (refine YA 6 ?_; refine ZT 7 ?_; (first | refine Zc 8 ?_ | refine Za 8 ?_ | refine ZP 8 ?_); (first | refine Zc 9 ?_ | refine Za 9 ?_ | refine Yw 9 ?_); (first | refine Zc 10 ?_ | refine Za 10 ?_ | refine ZP 10 ?_); (first | refine Zc 11 ?_ | refine Za 11 ?_ | refine ZP 11 ?_); (first | refine Zc 12 ?_ | refine Za 12 ?_ | refine ZP 12 ?_); (first | refine Zc 13 ?_ | refine Za 13 ?_ | refine ZP 13 ?_); (first | refine Zc 14 ?_ | refine Za 14 ?_ | refine wSb 14 ?_); (first | refine Zc 15 ?_ | refine Za 15 ?_ | refine wIa 15 ?_); (first | refine Zc 16 ?_ | refine Za 16 ?_ | refine Yb 16 ?_); (first | refine Zc 18 ?_ | refine Za 18 ?_ | refine ZP 18 ?_); (first | refine Zc 19 ?_ | refine Za 19 ?_ | refine Yb 19 ?_))
    all_goals (first | refine Zc 17 ?_ | refine Za 17 ?_ | (refine Zp (i := 17) ?_; ((try refine Zk ?_); (first | (refine Ze (.tmp 25) ?_; refine qC rfl rfl (Xc _ _ _) ?_; rintro v ρ' L' hle ⟨rfl, rfl, rfl⟩ <;> (try simp only [kM, kN, kO, hx])) | (refine Ze (.tmp 34) ?_; refine qC rfl rfl (Yp _ _) ?_; rintro v ρ' L' hle ⟨rfl, rfl, rfl⟩ <;> (try simp only [kM, kN, kO])) | (refine Ze (.tmp 41) ?_; refine qC rfl rfl (Yp _ _) ?_; rintro v ρ' L' hle ⟨rfl, rfl, rfl⟩ <;> (try simp only [kM, kN, kO])) | (refine Zn ?_; try intro _)) <;> ((try simp only [kM, kN, kO]); refine Zb ?_; refine Zl ?_))))
    all_goals (first | refine Zc 20 ?_ | refine Za 20 ?_ | (refine Zp (i := 20) ?_; ((try refine Zk ?_); (first | (refine Ze (.tmp 25) ?_; refine qC rfl rfl (Xc _ _ _) ?_; rintro v ρ' L' hle ⟨rfl, rfl, rfl⟩ <;> (try simp only [kM, kN, kO, hx])) | (refine Ze (.tmp 34) ?_; refine qC rfl rfl (Yp _ _) ?_; rintro v ρ' L' hle ⟨rfl, rfl, rfl⟩ <;> (try simp only [kM, kN, kO])) | (refine Ze (.tmp 41) ?_; refine qC rfl rfl (Yp _ _) ?_; rintro v ρ' L' hle ⟨rfl, rfl, rfl⟩ <;> (try simp only [kM, kN, kO])) | (refine Zn ?_; try intro _)) <;> ((try simp only [kM, kN, kO]); refine Zb ?_; refine Zl ?_))))
    all_goals (first | refine Zc 21 ?_ | refine Za 21 ?_ | (refine Zp (i := 21) ?_; ((try refine Zk ?_); (first | (refine Ze (.func 317) ?_; refine qC rfl rfl (XA _ _ _ _ _) ?_; rintro v ρ' L' hle ⟨rfl, rfl, rfl⟩ <;> (try simp only [kM, kN, kO])) | (refine Zn ?_; try intro _)) <;> ((try simp only [kM, kN, kO]); refine Zb ?_; refine Zl ?_))))
    all_goals (refine ZO ?_; (first | refine Zc 22 ?_ | refine Za 22 ?_ | refine Yw 22 ?_); (first | refine Zc 23 ?_ | refine Za 23 ?_ | refine wPk 23 ?_); refine YA 24 ?_; refine rAs 25 ?_; refine ZI ?_)
    repeat' (first | (refine Zj ?_; first | (refine Zf ?_; refine qQ ?_) | refine Zn ?_) | refine Zb ?_ | (refine Zi ?_; refine Zv ?_) | (refine Zh ?_; refine Zu ?_) | intro _)
    exact qE ⟨rfl, rfl, rfl⟩
   ·rw [hx, Bool.true_and] at hs
    by_cases hk0 : k = 0
    ·have hs' : ZM 4 (fun _ r => Xl r) ltR l (k + 1) = true := by rw [hs]; simp [hk0]
     generalize l[k] = x at *
     repeat' (first | (refine Zj ?_; first | (refine Zf ?_; refine qQ ?_) | refine Zn ?_) | refine Zb ?_ | (refine Zi ?_; refine Zv ?_) | (refine Zh ?_; refine Zu ?_) | intro _)
     refine ZD (Zs _ _ _) ZF ?_
     all_goals (refine ZT 0 ?_; refine ZT 1 ?_; (first | refine Zc 2 ?_ | refine Za 2 ?_ | refine ZP 2 ?_); (first | refine Zc 3 ?_ | refine Za 3 ?_ | refine ZP 3 ?_); (first | refine Zc 4 ?_ | refine Za 4 ?_ | refine Yb 4 ?_))
     all_goals (first | refine Zc 5 ?_ | refine Za 5 ?_ | (refine Zp (i := 5) ?_; ((try refine Zk ?_); (first | (refine Ze (.tmp 25) ?_; refine qC rfl rfl (Xc _ _ _) ?_; rintro v ρ' L' hle ⟨rfl, rfl, rfl⟩ <;> (try simp only [kM, kN, kO, hx])) | (refine Ze (.tmp 34) ?_; refine qC rfl rfl (Yp _ _) ?_; rintro v ρ' L' hle ⟨rfl, rfl, rfl⟩ <;> (try simp only [kM, kN, kO])) | (refine Ze (.tmp 41) ?_; refine qC rfl rfl (Yp _ _) ?_; rintro v ρ' L' hle ⟨rfl, rfl, rfl⟩ <;> (try simp only [kM, kN, kO])) | (refine Zn ?_; try intro _)) <;> ((try simp only [kM, kN, kO]); refine Zb ?_; refine Zl ?_))))
     all_goals (refine YA 6 ?_; refine ZT 7 ?_; (first | refine Zc 8 ?_ | refine Za 8 ?_ | refine ZP 8 ?_); (first | refine Zc 9 ?_ | refine Za 9 ?_ | refine Yw 9 ?_); (first | refine Zc 10 ?_ | refine Za 10 ?_ | refine ZP 10 ?_); (first | refine Zc 11 ?_ | refine Za 11 ?_ | refine ZP 11 ?_); (first | refine Zc 12 ?_ | refine Za 12 ?_ | refine ZP 12 ?_); (first | refine Zc 13 ?_ | refine Za 13 ?_ | refine ZP 13 ?_); (first | refine Zc 14 ?_ | refine Za 14 ?_ | refine wSb 14 ?_); (first | refine Zc 15 ?_ | refine Za 15 ?_ | refine wIa 15 ?_); (first | refine Zc 16 ?_ | refine Za 16 ?_ | refine Yb 16 ?_); (first | refine Zc 18 ?_ | refine Za 18 ?_ | refine ZP 18 ?_); (first | refine Zc 19 ?_ | refine Za 19 ?_ | refine Yb 19 ?_))
     all_goals (first | refine Zc 17 ?_ | refine Za 17 ?_ | (refine Zp (i := 17) ?_; ((try refine Zk ?_); (first | (refine Ze (.tmp 25) ?_; refine qC rfl rfl (Xc _ _ _) ?_; rintro v ρ' L' hle ⟨rfl, rfl, rfl⟩ <;> (try simp only [kM, kN, kO, hx])) | (refine Ze (.tmp 34) ?_; refine qC rfl rfl (Yp _ _) ?_; rintro v ρ' L' hle ⟨rfl, rfl, rfl⟩ <;> (try simp only [kM, kN, kO])) | (refine Ze (.tmp 41) ?_; refine qC rfl rfl (Yp _ _) ?_; rintro v ρ' L' hle ⟨rfl, rfl, rfl⟩ <;> (try simp only [kM, kN, kO])) | (refine Zn ?_; try intro _)) <;> ((try simp only [kM, kN, kO]); refine Zb ?_; refine Zl ?_))))
     all_goals (first | refine Zc 20 ?_ | refine Za 20 ?_ | (refine Zp (i := 20) ?_; ((try refine Zk ?_); (first | (refine Ze (.tmp 25) ?_; refine qC rfl rfl (Xc _ _ _) ?_; rintro v ρ' L' hle ⟨rfl, rfl, rfl⟩ <;> (try simp only [kM, kN, kO, hx])) | (refine Ze (.tmp 34) ?_; refine qC rfl rfl (Yp _ _) ?_; rintro v ρ' L' hle ⟨rfl, rfl, rfl⟩ <;> (try simp only [kM, kN, kO])) | (refine Ze (.tmp 41) ?_; refine qC rfl rfl (Yp _ _) ?_; rintro v ρ' L' hle ⟨rfl, rfl, rfl⟩ <;> (try simp only [kM, kN, kO])) | (refine Zn ?_; try intro _)) <;> ((try simp only [kM, kN, kO]); refine Zb ?_; refine Zl ?_))))
     all_goals (first | refine Zc 21 ?_ | refine Za 21 ?_ | (refine Zp (i := 21) ?_; ((try refine Zk ?_); (first | (refine Ze (.func 317) ?_; refine qC rfl rfl (XA _ _ _ _ _) ?_; rintro v ρ' L' hle ⟨rfl, rfl, rfl⟩ <;> (try simp only [kM, kN, kO])) | (refine Zn ?_; try intro _)) <;> ((try simp only [kM, kN, kO]); refine Zb ?_; refine Zl ?_))))
     all_goals (refine ZO ?_; (first | refine Zc 22 ?_ | refine Za 22 ?_ | refine Yw 22 ?_); (first | refine Zc 23 ?_ | refine Za 23 ?_ | refine wPk 23 ?_); refine YA 24 ?_; refine rAs 25 ?_; refine ZI ?_)
     repeat' (first | (refine Zj ?_; first | (refine Zf ?_; refine qQ ?_) | refine Zn ?_) | refine Zb ?_ | (refine Zi ?_; refine Zv ?_) | (refine Zh ?_; refine Zu ?_) | intro _)
     rw [← hs']
     refine Zq (k + 1) (hlt) Zm Zm rfl tk inferInstance (by first | omega | (dsimp only; omega))
    ·have hd : decide (k = 0) = false := decide_eq_false hk0
     obtain ⟨b2, off2, C2, T2, fr2, f1, hb2, hfit2, hc2⟩ := h.get (show k - 1 < l.length by omega)
     cases f1
     rw [hb] at hb2
     cases hb2
     have ek : ((k : Int) - 1).toNat = k - 1 := by omega
     rw [← ek] at hfit2
     have hc3 : List.take 4 (List.drop (off + ((k : Int) - 1).toNat * 4) C) = rowV (l[k - 1]'(by omega)) := by rw [ek]; exact hc2
     clear hc2
     rw [hd, Bool.false_or] at hs
     generalize l[k] = x at *
     generalize l[k - 1]'(by omega) = y at *
     unfold ltR at hs
     by_cases hcm : cmpK y.t y.id x.t x.id < 0
     ·rw [decide_eq_true hcm] at hs
      repeat' (first | (refine Zj ?_; first | (refine Zf ?_; refine qQ ?_) | refine Zn ?_) | refine Zb ?_ | (refine Zi ?_; refine Zv ?_) | (refine Zh ?_; refine Zu ?_) | intro _)
      refine ZD (Zs _ _ _) ZF ?_
      all_goals (refine ZT 0 ?_; refine ZT 1 ?_; (first | refine Zc 2 ?_ | refine Za 2 ?_ | refine ZP 2 ?_); (first | refine Zc 3 ?_ | refine Za 3 ?_ | refine ZP 3 ?_); (first | refine Zc 4 ?_ | refine Za 4 ?_ | refine Yb 4 ?_))
      all_goals (first | refine Zc 5 ?_ | refine Za 5 ?_ | (refine Zp (i := 5) ?_; ((try refine Zk ?_); (first | (refine Ze (.tmp 25) ?_; refine qC rfl rfl (Xc _ _ _) ?_; rintro v ρ' L' hle ⟨rfl, rfl, rfl⟩ <;> (try simp only [kM, kN, kO, hx])) | (refine Ze (.tmp 34) ?_; refine qC rfl rfl (Yp _ _) ?_; rintro v ρ' L' hle ⟨rfl, rfl, rfl⟩ <;> (try simp only [kM, kN, kO])) | (refine Ze (.tmp 41) ?_; refine qC rfl rfl (Yp _ _) ?_; rintro v ρ' L' hle ⟨rfl, rfl, rfl⟩ <;> (try simp only [kM, kN, kO])) | (refine Zn ?_; try intro _)) <;> ((try simp only [kM, kN, kO]); refine Zb ?_; refine Zl ?_))))
      all_goals (refine YA 6 ?_; refine ZT 7 ?_; (first | refine Zc 8 ?_ | refine Za 8 ?_ | refine ZP 8 ?_); (first | refine Zc 9 ?_ | refine Za 9 ?_ | refine Yw 9 ?_); (first | refine Zc 10 ?_ | refine Za 10 ?_ | refine ZP 10 ?_); (first | refine Zc 11 ?_ | refine Za 11 ?_ | refine ZP 11 ?_); (first | refine Zc 12 ?_ | refine Za 12 ?_ | refine ZP 12 ?_); (first | refine Zc 13 ?_ | refine Za 13 ?_ | refine ZP 13 ?_); (first | refine Zc 14 ?_ | refine Za 14 ?_ | refine wSb 14 ?_); (first | refine Zc 15 ?_ | refine Za 15 ?_ | refine wIa 15 ?_); (first | refine Zc 16 ?_ | refine Za 16 ?_ | refine Yb 16 ?_); (first | refine Zc 18 ?_ | refine Za 18 ?_ | refine ZP 18 ?_); (first | refine Zc 19 ?_ | refine Za 19 ?_ | refine Yb 19 ?_))
      all_goals (first | refine Zc 17 ?_ | refine Za 17 ?_ | (refine Zp (i := 17) ?_; ((try refine Zk ?_); (first | (refine Ze (.tmp 25) ?_; refine qC rfl rfl (Xc _ _ _) ?_; rintro v ρ' L' hle ⟨rfl, rfl, rfl⟩ <;> (try simp only [kM, kN, kO, hx])) | (refine Ze (.tmp 34) ?_; refine qC rfl rfl (Yp _ _) ?_; rintro v ρ' L' hle ⟨rfl, rfl, rfl⟩ <;> (try simp only [kM, kN, kO])) | (refine Ze (.tmp 41) ?_; refine qC rfl rfl (Yp _ _) ?_; rintro v ρ' L' hle ⟨rfl, rfl, rfl⟩ <;> (try simp only [kM, kN, kO])) | (refine Zn ?_; try intro _)) <;> ((try simp only [kM, kN, kO]); refine Zb ?_; refine Zl ?_))))
      all_goals (first | refine Zc 20 ?_ | refine Za 20 ?_ | (refine Zp (i := 20) ?_; ((try refine Zk ?_); (first | (refine Ze (.tmp 25) ?_; refine qC rfl rfl (Xc _ _ _) ?_; rintro v ρ' L' hle ⟨rfl, rfl, rfl⟩ <;> (try simp only [kM, kN, kO, hx])) | (refine Ze (.tmp 34) ?_; refine qC rfl rfl (Yp _ _) ?_; rintro v ρ' L' hle ⟨rfl, rfl, rfl⟩ <;> (try simp only [kM, kN, kO])) | (refine Ze (.tmp 41) ?_; refine qC rfl rfl (Yp _ _) ?_; rintro v ρ' L' hle ⟨rfl, rfl, rfl⟩ <;> (try simp only [kM, kN, kO])) | (refine Zn ?_; try intro _)) <;> ((try simp only [kM, kN, kO]); refine Zb ?_; refine Zl ?_))))
      all_goals (first | refine Zc 21 ?_ | refine Za 21 ?_ | (refine Zp (i := 21) ?_; ((try refine Zk ?_); (first | (refine Ze (.func 317) ?_; refine qC rfl rfl (XA _ _ _ _ _) ?_; rintro v ρ' L' hle ⟨rfl, rfl, rfl⟩ <;> (try simp only [kM, kN, kO])) | (refine Zn ?_; try intro _)) <;> ((try simp only [kM, kN, kO]); refine Zb ?_; refine Zl ?_))))
      all_goals (refine ZO ?_; (first | refine Zc 22 ?_ | refine Za 22 ?_ | refine Yw 22 ?_); (first | refine Zc 23 ?_ | refine Za 23 ?_ | refine wPk 23 ?_); refine YA 24 ?_; refine rAs 25 ?_; refine ZI ?_)
      all_goals (repeat' (first | (refine Zj ?_; first | (refine Zf ?_; refine qQ ?_) | refine Zn ?_) | refine Zb ?_ | (refine Zi ?_; refine Zv ?_) | (refine Zh ?_; refine Zu ?_) | intro _))
      all_goals rw [← hs]
      all_goals refine Zq (k + 1) (hlt) Zm Zm rfl tk inferInstance (by first | omega | (dsimp only; omega))
     ·rw [decide_eq_false hcm] at hs
      rw [hfin hs]
      repeat' (first | (refine Zj ?_; first | (refine Zf ?_; refine qQ ?_) | refine Zn ?_) | refine Zb ?_ | (refine Zi ?_; refine Zv ?_) | (refine Zh ?_; refine Zu ?_) | intro _)
      refine ZD (Zs _ _ _) ZF ?_
      all_goals (refine ZT 0 ?_; refine ZT 1 ?_; (first | refine Zc 2 ?_ | refine Za 2 ?_ | refine ZP 2 ?_); (first | refine Zc 3 ?_ | refine Za 3 ?_ | refine ZP 3 ?_); (first | refine Zc 4 ?_ | refine Za 4 ?_ | refine Yb 4 ?_))
      all_goals (first | refine Zc 5 ?_ | refine Za 5 ?_ | (refine Zp (i := 5) ?_; ((try refine Zk ?_); (first | (refine Ze (.tmp 25) ?_; refine qC rfl rfl (Xc _ _ _) ?_; rintro v ρ' L' hle ⟨rfl, rfl, rfl⟩ <;> (try simp only [kM, kN, kO, hx])) | (refine Ze (.tmp 34) ?_; refine qC rfl rfl (Yp _ _) ?_; rintro v ρ' L' hle ⟨rfl, rfl, rfl⟩ <;> (try simp only [kM, kN, kO])) | (refine Ze (.tmp 41) ?_; refine qC rfl rfl (Yp _ _) ?_; rintro v ρ' L' hle ⟨rfl, rfl, rfl⟩ <;> (try simp only [kM, kN, kO])) | (refine Zn ?_; try intro _)) <;> ((try simp only [kM, kN, kO]); refine Zb ?_; refine Zl ?_))))
      all_goals (refine YA 6 ?_; refine ZT 7 ?_; (first | refine Zc 8 ?_ | refine Za 8 ?_ | refine ZP 8 ?_); (first | refine Zc 9 ?_ | refine Za 9 ?_ | refine Yw 9 ?_); (first | refine Zc 10 ?_ | refine Za 10 ?_ | refine ZP 10 ?_); (first | refine Zc 11 ?_ | refine Za 11 ?_ | refine ZP 11 ?_); (first | refine Zc 12 ?_ | refine Za 12 ?_ | refine ZP 12 ?_); (first | refine Zc 13 ?_ | refine Za 13 ?_ | refine ZP 13 ?_); (first | refine Zc 14 ?_ | refine Za 14 ?_ | refine wSb 14 ?_); (first | refine Zc 15 ?_ | refine Za 15 ?_ | refine wIa 15 ?_); (first | refine Zc 16 ?_ | refine Za 16 ?_ | refine Yb 16 ?_); (first | refine Zc 18 ?_ | refine Za 18 ?_ | refine ZP 18 ?_); (first | refine Zc 19 ?_ | refine Za 19 ?_ | refine Yb 19 ?_))
      all_goals (first | refine Zc 17 ?_ | refine Za 17 ?_ | (refine Zp (i := 17) ?_; ((try refine Zk ?_); (first | (refine Ze (.tmp 25) ?_; refine qC rfl rfl (Xc _ _ _) ?_; rintro v ρ' L' hle ⟨rfl, rfl, rfl⟩ <;> (try simp only [kM, kN, kO, hx])) | (refine Ze (.tmp 34) ?_; refine qC rfl rfl (Yp _ _) ?_; rintro v ρ' L' hle ⟨rfl, rfl, rfl⟩ <;> (try simp only [kM, kN, kO])) | (refine Ze (.tmp 41) ?_; refine qC rfl rfl (Yp _ _) ?_; rintro v ρ' L' hle ⟨rfl, rfl, rfl⟩ <;> (try simp only [kM, kN, kO])) | (refine Zn ?_; try intro _)) <;> ((try simp only [kM, kN, kO]); refine Zb ?_; refine Zl ?_))))
      all_goals (first | refine Zc 20 ?_ | refine Za 20 ?_ | (refine Zp (i := 20) ?_; ((try refine Zk ?_); (first | (refine Ze (.tmp 25) ?_; refine qC rfl rfl (Xc _ _ _) ?_; rintro v ρ' L' hle ⟨rfl, rfl, rfl⟩ <;> (try simp only [kM, kN, kO, hx])) | (refine Ze (.tmp 34) ?_; refine qC rfl rfl (Yp _ _) ?_; rintro v ρ' L' hle ⟨rfl, rfl, rfl⟩ <;> (try simp only [kM, kN, kO])) | (refine Ze (.tmp 41) ?_; refine qC rfl rfl (Yp _ _) ?_; rintro v ρ' L' hle ⟨rfl, rfl, rfl⟩ <;> (try simp only [kM, kN, kO])) | (refine Zn ?_; try intro _)) <;> ((try simp only [kM, kN, kO]); refine Zb ?_; refine Zl ?_))))
      all_goals (first | refine Zc 21 ?_ | refine Za 21 ?_ | (refine Zp (i := 21) ?_; ((try refine Zk ?_); (first | (refine Ze (.func 317) ?_; refine qC rfl rfl (XA _ _ _ _ _) ?_; rintro v ρ' L' hle ⟨rfl, rfl, rfl⟩ <;> (try simp only [kM, kN, kO])) | (refine Zn ?_; try intro _)) <;> ((try simp only [kM, kN, kO]); refine Zb ?_; refine Zl ?_))))
      all_goals (refine ZO ?_; (first | refine Zc 22 ?_ | refine Za 22 ?_ | refine Yw 22 ?_); (first | refine Zc 23 ?_ | refine Za 23 ?_ | refine wPk 23 ?_); refine YA 24 ?_; refine rAs 25 ?_; refine ZI ?_)
      all_goals (repeat' (first | (refine Zj ?_; first | (refine Zf ?_; refine qQ ?_) | refine Zn ?_) | refine Zb ?_ | (refine Zi ?_; refine Zv ?_) | (refine Zh ?_; refine Zu ?_) | intro _))
      all_goals exact qE ⟨rfl, rfl, rfl⟩
 ·have hk2 : k = n := by omega
  subst hk2
  repeat' (first | (refine Zj ?_; first | (refine Zf ?_; refine qQ ?_) | refine Zn ?_) | refine Zb ?_ | (refine Zi ?_; refine Zv ?_) | (refine Zh ?_; refine Zu ?_) | intro _)
  exact qE ⟨rfl, rfl, rfl⟩
end Go.Proofs.E
