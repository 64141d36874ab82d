/- The law LogNils. Part 4 of 12. -/
import Derived.Test.YtobldeddiffjgaaGreatA3
import Derived.Test.YtobldeddiffjgaaGreatChecked
import Derived.KernelRfl
namespace Go.Proofs.E
open Go Go.Proofs.E
set_option linter.unusedVariables false
theorem tqI {t : TypeId} {b : Bool} (h : (Tryz.prog.underlying t).map isIfaceD = some b := by kernel_rfl) : Zl Tryz.prog t b := mkTyIface h
theorem tqS {t : TypeId} (h : (Tryz.prog.underlying t).map isAggD = some false := by kernel_rfl) (k : (Tryz.prog.info? t).map (·.size) = some 1 := by kernel_rfl) : TyS Tryz.prog t := mkTyS h k
theorem tqA {t : TypeId} {n : Nat} (h : (Tryz.prog.underlying t).map isAggD = some true := by kernel_rfl) (k : (Tryz.prog.info? t).map (·.size) = some n := by kernel_rfl) : TyA Tryz.prog t n := mkTyA h k
theorem tqN {t : TypeId} {n : Nat} (k : (Tryz.prog.info? t).map (·.size) = some n := by kernel_rfl) : Zy Tryz.prog t n := mkTySz k
theorem tqB {t : TypeId} {n : Nat} (k : (Tryz.prog.info? t).map (·.bytes) = some n := by kernel_rfl) : Zj Tryz.prog t n := mkTyBytes k
theorem tqO {t : TypeId} {z : Value} (k : (Tryz.prog.info? t).bind (·.zero) = some z := by kernel_rfl) : Zm Tryz.prog t z := mkTyZero k
theorem tqF {t : TypeId} (h : (Tryz.prog.underlying t).map isFuncD = some true := by kernel_rfl) : Yj Tryz.prog t := mkTyFunc h
theorem tqD {s : TypeId} {f off : Nat} {ft : TypeId} (h : fldB Tryz.prog s f = some (off, ft) := by kernel_rfl) : Fld Tryz.prog s f off ft := mkFld h
theorem tqU {f : FuncId} (h : funB Tryz.prog f = true := by kernel_rfl) : Fun Tryz.prog f := mkFun h
instance : TyS Tryz.prog 1 := tqS
instance : Zl Tryz.prog 1 false := tqI
instance : Yj Tryz.prog 1 := tqF
instance : Zy Tryz.prog 1 1 := tqN
instance : Zj Tryz.prog 1 8 := tqB
instance : Zm Tryz.prog 1 (.nilFunc) := tqO
instance : TyS Tryz.prog 2 := tqS
instance : Zl Tryz.prog 2 false := tqI
instance : Zy Tryz.prog 2 1 := tqN
instance : Zj Tryz.prog 2 8 := tqB
instance : Zm Tryz.prog 2 (.int .i64 0) := tqO
instance : Ys Tryz.prog 2 .i64 := ⟨by kernel_rfl⟩
instance : TyS Tryz.prog 3 := tqS
instance : Zl Tryz.prog 3 false := tqI
instance : Zy Tryz.prog 3 1 := tqN
instance : Zj Tryz.prog 3 8 := tqB
instance : Zm Tryz.prog 3 (.int .i64 0) := tqO
instance : Ys Tryz.prog 3 .i64 := ⟨by kernel_rfl⟩
instance : TyS Tryz.prog 4 := tqS
instance : Zl Tryz.prog 4 false := tqI
instance : Zy Tryz.prog 4 1 := tqN
instance : Zj Tryz.prog 4 1 := tqB
instance : Zm Tryz.prog 4 (.bool false) := tqO
instance : TyBool Tryz.prog 4 := ⟨by kernel_rfl⟩
instance : TyS Tryz.prog 5 := tqS
instance : Zl Tryz.prog 5 false := tqI
instance : Zy Tryz.prog 5 1 := tqN
instance : Zj Tryz.prog 5 1 := tqB
instance : Zm Tryz.prog 5 (.int .u8 0) := tqO
instance : Ys Tryz.prog 5 .u8 := ⟨by kernel_rfl⟩
instance : TyA Tryz.prog 7 4 := tqA
instance : Zl Tryz.prog 7 false := tqI
instance : Zy Tryz.prog 7 4 := tqN
instance : Zj Tryz.prog 7 24 := tqB
instance : Zm Tryz.prog 7 (.agg ⟨[.int .i64 0, .int .i64 0, .bool false, .int .u8 0]⟩) := tqO
instance : ZG Tryz.prog 7 := ⟨by kernel_rfl⟩
instance : Fld Tryz.prog 7 0 0 2 := tqD
instance : Fld Tryz.prog 7 1 1 3 := tqD
instance : Fld Tryz.prog 7 2 2 4 := tqD
instance : Fld Tryz.prog 7 3 3 6 := tqD
instance : ZA Tryz.prog 7 (([(0, 1), (1, 1), (2, 1), (3, 1)] : List (Nat × Nat))[·]?) := Zz (by kernel_rfl)
instance : TyS Tryz.prog 9 := tqS
instance : Zl Tryz.prog 9 false := tqI
instance : Zy Tryz.prog 9 1 := tqN
instance : Zj Tryz.prog 9 16 := tqB
instance : Zm Tryz.prog 9 (.string ⟨⟨[]⟩⟩) := tqO
instance : TyStr Tryz.prog 9 := ⟨by kernel_rfl⟩
instance : TyS Tryz.prog 12 := tqS
instance : Zl Tryz.prog 12 false := tqI
instance : Zy Tryz.prog 12 1 := tqN
instance : Zj Tryz.prog 12 8 := tqB
instance : Zm Tryz.prog 12 (.int .u64 0) := tqO
instance : Ys Tryz.prog 12 .u64 := ⟨by kernel_rfl⟩
instance : TyS Tryz.prog 16 := tqS
instance : Zl Tryz.prog 16 false := tqI
instance : Zy Tryz.prog 16 1 := tqN
instance : Zj Tryz.prog 16 8 := tqB
instance : Zm Tryz.prog 16 (.pointer none) := tqO
instance : TyPtr Tryz.prog 16 351 := ⟨by kernel_rfl⟩
instance : TyS Tryz.prog 17 := tqS
instance : Zl Tryz.prog 17 false := tqI
instance : Zy Tryz.prog 17 1 := tqN
instance : Zj Tryz.prog 17 8 := tqB
instance : Zm Tryz.prog 17 (.pointer none) := tqO
instance : TyPtr Tryz.prog 17 359 := ⟨by kernel_rfl⟩
instance : TyS Tryz.prog 20 := tqS
instance : Zl Tryz.prog 20 true := tqI
instance : Zy Tryz.prog 20 1 := tqN
instance : Zj Tryz.prog 20 16 := tqB
instance : Zm Tryz.prog 20 (.nilIface) := tqO
instance : TyS Tryz.prog 21 := tqS
instance : Zl Tryz.prog 21 false := tqI
instance : Zy Tryz.prog 21 1 := tqN
instance : Zj Tryz.prog 21 4 := tqB
instance : Zm Tryz.prog 21 (.int .i32 0) := tqO
instance : Ys Tryz.prog 21 .i32 := ⟨by kernel_rfl⟩
instance : TyS Tryz.prog 22 := tqS
instance : Zl Tryz.prog 22 false := tqI
instance : Zy Tryz.prog 22 1 := tqN
instance : Zj Tryz.prog 22 8 := tqB
instance : Zm Tryz.prog 22 (.int .u64 0) := tqO
instance : Ys Tryz.prog 22 .u64 := ⟨by kernel_rfl⟩
instance : TyS Tryz.prog 23 := tqS
instance : Zl Tryz.prog 23 false := tqI
instance : Yj Tryz.prog 23 := tqF
instance : Zy Tryz.prog 23 1 := tqN
instance : Zj Tryz.prog 23 8 := tqB
instance : Zm Tryz.prog 23 (.nilFunc) := tqO
instance : TyS Tryz.prog 24 := tqS
instance : Zl Tryz.prog 24 false := tqI
instance : Zy Tryz.prog 24 1 := tqN
instance : Zj Tryz.prog 24 8 := tqB
instance : Zm Tryz.prog 24 (.pointer none) := tqO
instance : TyPtr Tryz.prog 24 106 := ⟨by kernel_rfl⟩
instance : TyS Tryz.prog 25 := tqS
instance : Zl Tryz.prog 25 false := tqI
instance : Zy Tryz.prog 25 1 := tqN
instance : Zj Tryz.prog 25 8 := tqB
instance : Zm Tryz.prog 25 (.int .i64 0) := tqO
instance : Ys Tryz.prog 25 .i64 := ⟨by kernel_rfl⟩
instance : TyS Tryz.prog 29 := tqS
instance : Zl Tryz.prog 29 false := tqI
instance : Zy Tryz.prog 29 1 := tqN
instance : Zj Tryz.prog 29 24 := tqB
instance : Zm Tryz.prog 29 (.slice none 0 0) := tqO
instance : ZK Tryz.prog 29 240 := ⟨by kernel_rfl⟩
instance : TyS Tryz.prog 30 := tqS
instance : Zl Tryz.prog 30 false := tqI
instance : Zy Tryz.prog 30 1 := tqN
instance : Zj Tryz.prog 30 24 := tqB
instance : Zm Tryz.prog 30 (.slice none 0 0) := tqO
instance : ZK Tryz.prog 30 246 := ⟨by kernel_rfl⟩
instance : TyS Tryz.prog 31 := tqS
instance : Zl Tryz.prog 31 false := tqI
instance : Zy Tryz.prog 31 1 := tqN
instance : Zj Tryz.prog 31 24 := tqB
instance : Zm Tryz.prog 31 (.slice none 0 0) := tqO
instance : ZK Tryz.prog 31 253 := ⟨by kernel_rfl⟩
instance : TyS Tryz.prog 32 := tqS
instance : Zl Tryz.prog 32 false := tqI
instance : Zy Tryz.prog 32 1 := tqN
instance : Zj Tryz.prog 32 24 := tqB
instance : Zm Tryz.prog 32 (.slice none 0 0) := tqO
instance : ZK Tryz.prog 32 72 := ⟨by kernel_rfl⟩
instance : TyA Tryz.prog 33 10 := tqA
instance : Zl Tryz.prog 33 false := tqI
instance : Zy Tryz.prog 33 10 := tqN
instance : Zj Tryz.prog 33 144 := tqB
instance : Zm Tryz.prog 33 (.agg ⟨[.int .i64 0, .int .u64 0, .int .i64 0, .int .u64 0, .int .u64 0, .slice none 0 0, .slice none 0 0, .int .i64 0, .slice none 0 0, .slice none 0 0]⟩) := tqO
instance : ZG Tryz.prog 33 := ⟨by kernel_rfl⟩
instance : Fld Tryz.prog 33 0 0 3 := tqD
instance : Fld Tryz.prog 33 1 1 22 := tqD
instance : Fld Tryz.prog 33 2 2 3 := tqD
instance : Fld Tryz.prog 33 3 3 22 := tqD
instance : Fld Tryz.prog 33 4 4 22 := tqD
instance : Fld Tryz.prog 33 5 5 29 := tqD
instance : Fld Tryz.prog 33 6 6 30 := tqD
instance : Fld Tryz.prog 33 7 7 3 := tqD
instance : Fld Tryz.prog 33 8 8 31 := tqD
instance : Fld Tryz.prog 33 9 9 32 := tqD
instance : ZA Tryz.prog 33 (([(0, 1), (1, 1), (2, 1), (3, 1), (4, 1), (5, 1), (6, 1), (7, 1), (8, 1), (9, 1)] : List (Nat × Nat))[·]?) := Zz (by kernel_rfl)
instance : TyA Tryz.prog 34 10 := tqA
instance : Zl Tryz.prog 34 false := tqI
instance : Zy Tryz.prog 34 10 := tqN
instance : Zj Tryz.prog 34 144 := tqB
instance : Zm Tryz.prog 34 (.agg ⟨[.int .i64 0, .int .u64 0, .int .i64 0, .int .u64 0, .int .u64 0, .slice none 0 0, .slice none 0 0, .int .i64 0, .slice none 0 0, .slice none 0 0]⟩) := tqO
instance : ZG Tryz.prog 34 := ⟨by kernel_rfl⟩
instance : Xh Tryz.prog 34 [(0, 3), (1, 22), (2, 3), (3, 22), (4, 22), (5, 29), (6, 30), (7, 3), (8, 31), (9, 32)] := YC (by kernel_rfl)
instance : Fld Tryz.prog 34 0 0 3 := tqD
instance : Fld Tryz.prog 34 1 1 22 := tqD
instance : Fld Tryz.prog 34 2 2 3 := tqD
instance : Fld Tryz.prog 34 3 3 22 := tqD
instance : Fld Tryz.prog 34 4 4 22 := tqD
instance : Fld Tryz.prog 34 5 5 29 := tqD
instance : Fld Tryz.prog 34 6 6 30 := tqD
instance : Fld Tryz.prog 34 7 7 3 := tqD
instance : Fld Tryz.prog 34 8 8 31 := tqD
instance : Fld Tryz.prog 34 9 9 32 := tqD
instance : ZA Tryz.prog 34 (([(0, 1), (1, 1), (2, 1), (3, 1), (4, 1), (5, 1), (6, 1), (7, 1), (8, 1), (9, 1)] : List (Nat × Nat))[·]?) := Zz (by kernel_rfl)
instance : TyS Tryz.prog 40 := tqS
instance : Zl Tryz.prog 40 false := tqI
instance : Zy Tryz.prog 40 1 := tqN
instance : Zj Tryz.prog 40 24 := tqB
instance : Zm Tryz.prog 40 (.slice none 0 0) := tqO
instance : ZK Tryz.prog 40 34 := ⟨by kernel_rfl⟩
instance : TyS Tryz.prog 44 := tqS
instance : Zl Tryz.prog 44 false := tqI
instance : Yj Tryz.prog 44 := tqF
instance : Zy Tryz.prog 44 1 := tqN
instance : Zj Tryz.prog 44 8 := tqB
instance : Zm Tryz.prog 44 (.nilFunc) := tqO
instance : TyS Tryz.prog 48 := tqS
instance : Zl Tryz.prog 48 false := tqI
instance : Yj Tryz.prog 48 := tqF
instance : Zy Tryz.prog 48 1 := tqN
instance : Zj Tryz.prog 48 8 := tqB
instance : Zm Tryz.prog 48 (.nilFunc) := tqO
instance : TyS Tryz.prog 54 := tqS
instance : Zl Tryz.prog 54 false := tqI
instance : Zy Tryz.prog 54 1 := tqN
instance : Zj Tryz.prog 54 8 := tqB
instance : Zm Tryz.prog 54 (.int .u64 0) := tqO
instance : Ys Tryz.prog 54 .u64 := ⟨by kernel_rfl⟩
instance : TyS Tryz.prog 55 := tqS
instance : Zl Tryz.prog 55 false := tqI
instance : Zy Tryz.prog 55 1 := tqN
instance : Zj Tryz.prog 55 8 := tqB
instance : Zm Tryz.prog 55 (.pointer none) := tqO
instance : TyPtr Tryz.prog 55 159 := ⟨by kernel_rfl⟩
instance : TyS Tryz.prog 56 := tqS
instance : Zl Tryz.prog 56 false := tqI
instance : Zy Tryz.prog 56 1 := tqN
instance : Zj Tryz.prog 56 8 := tqB
instance : Zm Tryz.prog 56 (.pointer none) := tqO
instance : TyPtr Tryz.prog 56 226 := ⟨by kernel_rfl⟩
instance : TyS Tryz.prog 62 := tqS
instance : Zl Tryz.prog 62 false := tqI
instance : Zy Tryz.prog 62 1 := tqN
instance : Zj Tryz.prog 62 24 := tqB
instance : Zm Tryz.prog 62 (.slice none 0 0) := tqO
instance : ZK Tryz.prog 62 130 := ⟨by kernel_rfl⟩
instance : TyS Tryz.prog 63 := tqS
instance : Zl Tryz.prog 63 false := tqI
instance : Zy Tryz.prog 63 1 := tqN
instance : Zj Tryz.prog 63 24 := tqB
instance : Zm Tryz.prog 63 (.slice none 0 0) := tqO
instance : ZK Tryz.prog 63 149 := ⟨by kernel_rfl⟩
instance : TyA Tryz.prog 64 3 := tqA
instance : Zl Tryz.prog 64 false := tqI
instance : Zy Tryz.prog 64 3 := tqN
instance : Zj Tryz.prog 64 56 := tqB
instance : Zm Tryz.prog 64 (.agg ⟨[.int .i64 0, .slice none 0 0, .slice none 0 0]⟩) := tqO
instance : ZG Tryz.prog 64 := ⟨by kernel_rfl⟩
instance : Fld Tryz.prog 64 0 0 3 := tqD
instance : Fld Tryz.prog 64 1 1 62 := tqD
instance : Fld Tryz.prog 64 2 2 63 := tqD
instance : ZA Tryz.prog 64 (([(0, 1), (1, 1), (2, 1)] : List (Nat × Nat))[·]?) := Zz (by kernel_rfl)
instance : TyA Tryz.prog 65 3 := tqA
instance : Zl Tryz.prog 65 false := tqI
instance : Zy Tryz.prog 65 3 := tqN
instance : Zj Tryz.prog 65 56 := tqB
instance : Zm Tryz.prog 65 (.agg ⟨[.int .i64 0, .slice none 0 0, .slice none 0 0]⟩) := tqO
instance : ZG Tryz.prog 65 := ⟨by kernel_rfl⟩
instance : Xh Tryz.prog 65 [(0, 3), (1, 62), (2, 63)] := YC (by kernel_rfl)
instance : Fld Tryz.prog 65 0 0 3 := tqD
instance : Fld Tryz.prog 65 1 1 62 := tqD
instance : Fld Tryz.prog 65 2 2 63 := tqD
instance : ZA Tryz.prog 65 (([(0, 1), (1, 1), (2, 1)] : List (Nat × Nat))[·]?) := Zz (by kernel_rfl)
instance : TyS Tryz.prog 69 := tqS
instance : Zl Tryz.prog 69 false := tqI
instance : Zy Tryz.prog 69 1 := tqN
instance : Zj Tryz.prog 69 8 := tqB
instance : Zm Tryz.prog 69 (.map none) := tqO
instance : TyMap Tryz.prog 69 3 4 := ⟨by kernel_rfl⟩
instance : TyA Tryz.prog 71 2 := tqA
instance : Zl Tryz.prog 71 false := tqI
instance : Zy Tryz.prog 71 2 := tqN
instance : Zj Tryz.prog 71 16 := tqB
instance : Zm Tryz.prog 71 (.agg ⟨[.int .i64 0, .int .u64 0]⟩) := tqO
instance : ZG Tryz.prog 71 := ⟨by kernel_rfl⟩
instance : Fld Tryz.prog 71 0 0 3 := tqD
instance : Fld Tryz.prog 71 1 1 22 := tqD
instance : ZA Tryz.prog 71 (([(0, 1), (1, 1)] : List (Nat × Nat))[·]?) := Zz (by kernel_rfl)
instance : TyA Tryz.prog 72 2 := tqA
instance : Zl Tryz.prog 72 false := tqI
instance : Zy Tryz.prog 72 2 := tqN
instance : Zj Tryz.prog 72 16 := tqB
instance : Zm Tryz.prog 72 (.agg ⟨[.int .i64 0, .int .u64 0]⟩) := tqO
instance : ZG Tryz.prog 72 := ⟨by kernel_rfl⟩
instance : Xh Tryz.prog 72 [(0, 3), (1, 22)] := YC (by kernel_rfl)
instance : Fld Tryz.prog 72 0 0 3 := tqD
instance : Fld Tryz.prog 72 1 1 22 := tqD
instance : ZA Tryz.prog 72 (([(0, 1), (1, 1)] : List (Nat × Nat))[·]?) := Zz (by kernel_rfl)
instance : TyS Tryz.prog 84 := tqS
instance : Zl Tryz.prog 84 false := tqI
instance : Zy Tryz.prog 84 1 := tqN
instance : Zj Tryz.prog 84 24 := tqB
instance : Zm Tryz.prog 84 (.slice none 0 0) := tqO
instance : ZK Tryz.prog 84 3 := ⟨by kernel_rfl⟩
instance : TyS Tryz.prog 87 := tqS
instance : Zl Tryz.prog 87 false := tqI
instance : Zy Tryz.prog 87 1 := tqN
instance : Zj Tryz.prog 87 24 := tqB
instance : Zm Tryz.prog 87 (.slice none 0 0) := tqO
instance : ZK Tryz.prog 87 4 := ⟨by kernel_rfl⟩
instance : TyA Tryz.prog 88 2 := tqA
instance : Zl Tryz.prog 88 false := tqI
instance : Zy Tryz.prog 88 2 := tqN
instance : Zj Tryz.prog 88 32 := tqB
instance : Zm Tryz.prog 88 (.agg ⟨[.int .i64 0, .slice none 0 0]⟩) := tqO
instance : ZG Tryz.prog 88 := ⟨by kernel_rfl⟩
instance : Fld Tryz.prog 88 0 0 3 := tqD
instance : Fld Tryz.prog 88 1 1 87 := tqD
instance : ZA Tryz.prog 88 (([(0, 1), (1, 1)] : List (Nat × Nat))[·]?) := Zz (by kernel_rfl)
instance : TyS Tryz.prog 96 := tqS
instance : Zl Tryz.prog 96 false := tqI
instance : Yj Tryz.prog 96 := tqF
instance : Zy Tryz.prog 96 1 := tqN
instance : Zj Tryz.prog 96 8 := tqB
instance : Zm Tryz.prog 96 (.nilFunc) := tqO
instance : TyS Tryz.prog 102 := tqS
instance : Zl Tryz.prog 102 false := tqI
instance : Zy Tryz.prog 102 1 := tqN
instance : Zj Tryz.prog 102 8 := tqB
instance : Zm Tryz.prog 102 (.pointer none) := tqO
instance : TyPtr Tryz.prog 102 178 := ⟨by kernel_rfl⟩
instance : TyA Tryz.prog 105 7 := tqA
instance : Zl Tryz.prog 105 false := tqI
instance : Zy Tryz.prog 105 7 := tqN
instance : Zj Tryz.prog 105 72 := tqB
instance : Zm Tryz.prog 105 (.agg ⟨[.pointer none, .int .u64 0, .int .u64 0, .int .u64 0, .int .i64 0, .slice none 0 0, .int .i64 0]⟩) := tqO
instance : ZG Tryz.prog 105 := ⟨by kernel_rfl⟩
instance : Fld Tryz.prog 105 0 0 102 := tqD
instance : Fld Tryz.prog 105 1 1 22 := tqD
instance : Fld Tryz.prog 105 2 2 22 := tqD
instance : Fld Tryz.prog 105 3 3 22 := tqD
instance : Fld Tryz.prog 105 4 4 3 := tqD
instance : Fld Tryz.prog 105 5 5 40 := tqD
instance : Fld Tryz.prog 105 6 6 3 := tqD
instance : ZA Tryz.prog 105 (([(0, 1), (1, 1), (2, 1), (3, 1), (4, 1), (5, 1), (6, 1)] : List (Nat × Nat))[·]?) := Zz (by kernel_rfl)
instance : TyA Tryz.prog 106 7 := tqA
instance : Zl Tryz.prog 106 false := tqI
instance : Zy Tryz.prog 106 7 := tqN
instance : Zj Tryz.prog 106 72 := tqB
instance : Zm Tryz.prog 106 (.agg ⟨[.pointer none, .int .u64 0, .int .u64 0, .int .u64 0, .int .i64 0, .slice none 0 0, .int .i64 0]⟩) := tqO
instance : ZG Tryz.prog 106 := ⟨by kernel_rfl⟩
instance : Xh Tryz.prog 106 [(0, 102), (1, 22), (2, 22), (3, 22), (4, 3), (5, 40), (6, 3)] := YC (by kernel_rfl)
instance : Fld Tryz.prog 106 0 0 102 := tqD
instance : Fld Tryz.prog 106 1 1 22 := tqD
instance : Fld Tryz.prog 106 2 2 22 := tqD
instance : Fld Tryz.prog 106 3 3 22 := tqD
instance : Fld Tryz.prog 106 4 4 3 := tqD
instance : Fld Tryz.prog 106 5 5 40 := tqD
instance : Fld Tryz.prog 106 6 6 3 := tqD
instance : ZA Tryz.prog 106 (([(0, 1), (1, 1), (2, 1), (3, 1), (4, 1), (5, 1), (6, 1)] : List (Nat × Nat))[·]?) := Zz (by kernel_rfl)
instance : TyS Tryz.prog 108 := tqS
instance : Zl Tryz.prog 108 false := tqI
instance : Yj Tryz.prog 108 := tqF
instance : Zy Tryz.prog 108 1 := tqN
instance : Zj Tryz.prog 108 8 := tqB
instance : Zm Tryz.prog 108 (.nilFunc) := tqO
instance : TyS Tryz.prog 109 := tqS
instance : Zl Tryz.prog 109 false := tqI
instance : Zy Tryz.prog 109 1 := tqN
instance : Zj Tryz.prog 109 24 := tqB
instance : Zm Tryz.prog 109 (.slice none 0 0) := tqO
instance : ZK Tryz.prog 109 5 := ⟨by kernel_rfl⟩
instance : TyS Tryz.prog 113 := tqS
instance : Zl Tryz.prog 113 false := tqI
instance : Zy Tryz.prog 113 1 := tqN
instance : Zj Tryz.prog 113 24 := tqB
instance : Zm Tryz.prog 113 (.slice none 0 0) := tqO
instance : ZK Tryz.prog 113 109 := ⟨by kernel_rfl⟩
instance : TyS Tryz.prog 115 := tqS
instance : Zl Tryz.prog 115 false := tqI
instance : Yj Tryz.prog 115 := tqF
instance : Zy Tryz.prog 115 1 := tqN
instance : Zj Tryz.prog 115 8 := tqB
instance : Zm Tryz.prog 115 (.nilFunc) := tqO
instance : TyS Tryz.prog 116 := tqS
instance : Zl Tryz.prog 116 false := tqI
instance : Yj Tryz.prog 116 := tqF
instance : Zy Tryz.prog 116 1 := tqN
instance : Zj Tryz.prog 116 8 := tqB
instance : Zm Tryz.prog 116 (.nilFunc) := tqO
instance : TyS Tryz.prog 126 := tqS
instance : Zl Tryz.prog 126 false := tqI
instance : Zy Tryz.prog 126 1 := tqN
instance : Zj Tryz.prog 126 2 := tqB
instance : Zm Tryz.prog 126 (.int .u16 0) := tqO
instance : Ys Tryz.prog 126 .u16 := ⟨by kernel_rfl⟩
instance : TyA Tryz.prog 127 2 := tqA
instance : Zl Tryz.prog 127 false := tqI
instance : Zy Tryz.prog 127 2 := tqN
instance : Zj Tryz.prog 127 16 := tqB
instance : Zm Tryz.prog 127 (.agg ⟨[.int .i64 0, .int .u16 0]⟩) := tqO
instance : ZG Tryz.prog 127 := ⟨by kernel_rfl⟩
instance : Fld Tryz.prog 127 0 0 3 := tqD
instance : Fld Tryz.prog 127 1 1 126 := tqD
instance : ZA Tryz.prog 127 (([(0, 1), (1, 1)] : List (Nat × Nat))[·]?) := Zz (by kernel_rfl)
instance : TyA Tryz.prog 128 2 := tqA
instance : Zl Tryz.prog 128 false := tqI
instance : Zy Tryz.prog 128 2 := tqN
instance : Zj Tryz.prog 128 16 := tqB
instance : Zm Tryz.prog 128 (.agg ⟨[.int .i64 0, .int .u16 0]⟩) := tqO
instance : ZG Tryz.prog 128 := ⟨by kernel_rfl⟩
instance : Xh Tryz.prog 128 [(0, 3), (1, 126)] := YC (by kernel_rfl)
instance : Fld Tryz.prog 128 0 0 3 := tqD
instance : Fld Tryz.prog 128 1 1 126 := tqD
instance : ZA Tryz.prog 128 (([(0, 1), (1, 1)] : List (Nat × Nat))[·]?) := Zz (by kernel_rfl)
instance : TyA Tryz.prog 129 4 := tqA
instance : Zl Tryz.prog 129 false := tqI
instance : Zy Tryz.prog 129 4 := tqN
instance : Zj Tryz.prog 129 40 := tqB
instance : Zm Tryz.prog 129 (.agg ⟨[.int .i64 0, .int .u16 0, .int .i64 0, .string ⟨⟨[]⟩⟩]⟩) := tqO
instance : ZG Tryz.prog 129 := ⟨by kernel_rfl⟩
instance : Fld Tryz.prog 129 0 0 128 := tqD
instance : Fld Tryz.prog 129 1 2 2 := tqD
instance : Fld Tryz.prog 129 2 3 9 := tqD
instance : ZA Tryz.prog 129 (([(0, 2), (2, 1), (3, 1)] : List (Nat × Nat))[·]?) := Zz (by kernel_rfl)
instance : TyA Tryz.prog 130 4 := tqA
instance : Zl Tryz.prog 130 false := tqI
instance : Zy Tryz.prog 130 4 := tqN
instance : Zj Tryz.prog 130 40 := tqB
instance : Zm Tryz.prog 130 (.agg ⟨[.int .i64 0, .int .u16 0, .int .i64 0, .string ⟨⟨[]⟩⟩]⟩) := tqO
instance : ZG Tryz.prog 130 := ⟨by kernel_rfl⟩
instance : Xh Tryz.prog 130 [(0, 128), (2, 2), (3, 9)] := YC (by kernel_rfl)
instance : Fld Tryz.prog 130 0 0 128 := tqD
instance : Fld Tryz.prog 130 1 2 2 := tqD
instance : Fld Tryz.prog 130 2 3 9 := tqD
instance : ZA Tryz.prog 130 (([(0, 2), (2, 1), (3, 1)] : List (Nat × Nat))[·]?) := Zz (by kernel_rfl)
instance : TyS Tryz.prog 143 := tqS
instance : Zl Tryz.prog 143 false := tqI
instance : Yj Tryz.prog 143 := tqF
instance : Zy Tryz.prog 143 1 := tqN
instance : Zj Tryz.prog 143 8 := tqB
instance : Zm Tryz.prog 143 (.nilFunc) := tqO
instance : TyA Tryz.prog 148 3 := tqA
instance : Zl Tryz.prog 148 false := tqI
instance : Zy Tryz.prog 148 3 := tqN
instance : Zj Tryz.prog 148 24 := tqB
instance : Zm Tryz.prog 148 (.agg ⟨[.int .i64 0, .int .u16 0, .int .i64 0]⟩) := tqO
instance : ZG Tryz.prog 148 := ⟨by kernel_rfl⟩
instance : Fld Tryz.prog 148 0 0 128 := tqD
instance : Fld Tryz.prog 148 1 2 3 := tqD
instance : ZA Tryz.prog 148 (([(0, 2), (2, 1)] : List (Nat × Nat))[·]?) := Zz (by kernel_rfl)
instance : TyA Tryz.prog 149 3 := tqA
instance : Zl Tryz.prog 149 false := tqI
instance : Zy Tryz.prog 149 3 := tqN
instance : Zj Tryz.prog 149 24 := tqB
instance : Zm Tryz.prog 149 (.agg ⟨[.int .i64 0, .int .u16 0, .int .i64 0]⟩) := tqO
instance : ZG Tryz.prog 149 := ⟨by kernel_rfl⟩
instance : Xh Tryz.prog 149 [(0, 128), (2, 3)] := YC (by kernel_rfl)
instance : Fld Tryz.prog 149 0 0 128 := tqD
instance : Fld Tryz.prog 149 1 2 3 := tqD
instance : ZA Tryz.prog 149 (([(0, 2), (2, 1)] : List (Nat × Nat))[·]?) := Zz (by kernel_rfl)
instance : TyS Tryz.prog 156 := tqS
instance : Zl Tryz.prog 156 false := tqI
instance : Zy Tryz.prog 156 1 := tqN
instance : Zj Tryz.prog 156 24 := tqB
instance : Zm Tryz.prog 156 (.slice none 0 0) := tqO
instance : ZK Tryz.prog 156 172 := ⟨by kernel_rfl⟩
instance : TyS Tryz.prog 157 := tqS
instance : Zl Tryz.prog 157 false := tqI
instance : Zy Tryz.prog 157 1 := tqN
instance : Zj Tryz.prog 157 8 := tqB
instance : Zm Tryz.prog 157 (.map none) := tqO
instance : TyMap Tryz.prog 157 3 172 := ⟨by kernel_rfl⟩
instance : TyA Tryz.prog 158 6 := tqA
instance : Zl Tryz.prog 158 false := tqI
instance : Zy Tryz.prog 158 6 := tqN
instance : Zj Tryz.prog 158 64 := tqB
instance : Zm Tryz.prog 158 (.agg ⟨[.slice none 0 0, .map none, .int .i64 0, .int .i64 0, .int .i64 0, .bool false]⟩) := tqO
instance : ZG Tryz.prog 158 := ⟨by kernel_rfl⟩
instance : Fld Tryz.prog 158 0 0 156 := tqD
instance : Fld Tryz.prog 158 1 1 157 := tqD
instance : Fld Tryz.prog 158 2 2 3 := tqD
instance : Fld Tryz.prog 158 3 3 3 := tqD
instance : Fld Tryz.prog 158 4 4 3 := tqD
instance : Fld Tryz.prog 158 5 5 4 := tqD
instance : ZA Tryz.prog 158 (([(0, 1), (1, 1), (2, 1), (3, 1), (4, 1), (5, 1)] : List (Nat × Nat))[·]?) := Zz (by kernel_rfl)
instance : TyA Tryz.prog 159 6 := tqA
instance : Zl Tryz.prog 159 false := tqI
instance : Zy Tryz.prog 159 6 := tqN
instance : Zj Tryz.prog 159 64 := tqB
instance : Zm Tryz.prog 159 (.agg ⟨[.slice none 0 0, .map none, .int .i64 0, .int .i64 0, .int .i64 0, .bool false]⟩) := tqO
instance : ZG Tryz.prog 159 := ⟨by kernel_rfl⟩
instance : Xh Tryz.prog 159 [(0, 156), (1, 157), (2, 3), (3, 3), (4, 3), (5, 4)] := YC (by kernel_rfl)
instance : Fld Tryz.prog 159 0 0 156 := tqD
instance : Fld Tryz.prog 159 1 1 157 := tqD
instance : Fld Tryz.prog 159 2 2 3 := tqD
instance : Fld Tryz.prog 159 3 3 3 := tqD
instance : Fld Tryz.prog 159 4 4 3 := tqD
instance : Fld Tryz.prog 159 5 5 4 := tqD
instance : ZA Tryz.prog 159 (([(0, 1), (1, 1), (2, 1), (3, 1), (4, 1), (5, 1)] : List (Nat × Nat))[·]?) := Zz (by kernel_rfl)
instance : TyS Tryz.prog 168 := tqS
instance : Zl Tryz.prog 168 false := tqI
instance : Yj Tryz.prog 168 := tqF
instance : Zy Tryz.prog 168 1 := tqN
instance : Zj Tryz.prog 168 8 := tqB
instance : Zm Tryz.prog 168 (.nilFunc) := tqO
instance : TyS Tryz.prog 170 := tqS
instance : Zl Tryz.prog 170 false := tqI
instance : Yj Tryz.prog 170 := tqF
instance : Zy Tryz.prog 170 1 := tqN
instance : Zj Tryz.prog 170 8 := tqB
instance : Zm Tryz.prog 170 (.nilFunc) := tqO
instance : TyA Tryz.prog 171 64 := tqA
instance : Zl Tryz.prog 171 false := tqI
instance : Zy Tryz.prog 171 64 := tqN
instance : Zj Tryz.prog 171 64 := tqB
instance : Zm Tryz.prog 171 (.agg ⟨List.replicate 64 (.int .u8 0)⟩) := tqO
instance : ZG Tryz.prog 171 := ⟨by kernel_rfl⟩
instance : TyArr Tryz.prog 171 64 5 := ⟨by kernel_rfl⟩
instance : ZA Tryz.prog 171 (fun i => some (i * 1, 1)) := mkTyPlacesA (n := 64) (e := 5) (by kernel_rfl) (by kernel_rfl)
instance : TyA Tryz.prog 172 64 := tqA
instance : Zl Tryz.prog 172 false := tqI
instance : Zy Tryz.prog 172 64 := tqN
instance : Zj Tryz.prog 172 64 := tqB
instance : Zm Tryz.prog 172 (.agg ⟨List.replicate 64 (.int .u8 0)⟩) := tqO
instance : ZG Tryz.prog 172 := ⟨by kernel_rfl⟩
instance : TyArr Tryz.prog 172 64 5 := ⟨by kernel_rfl⟩
instance : ZA Tryz.prog 172 (fun i => some (i * 1, 1)) := mkTyPlacesA (n := 64) (e := 5) (by kernel_rfl) (by kernel_rfl)
instance : TyS Tryz.prog 173 := tqS
instance : Zl Tryz.prog 173 false := tqI
instance : Yj Tryz.prog 173 := tqF
instance : Zy Tryz.prog 173 1 := tqN
instance : Zj Tryz.prog 173 8 := tqB
instance : Zm Tryz.prog 173 (.nilFunc) := tqO
instance : TyA Tryz.prog 174 5 := tqA
instance : Zl Tryz.prog 174 false := tqI
instance : Zy Tryz.prog 174 5 := tqN
instance : Zj Tryz.prog 174 56 := tqB
instance : Zm Tryz.prog 174 (.agg ⟨[.int .u64 0, .int .u64 0, .int .i64 0, .int .i64 0, .slice none 0 0]⟩) := tqO
instance : ZG Tryz.prog 174 := ⟨by kernel_rfl⟩
instance : Fld Tryz.prog 174 0 0 22 := tqD
instance : Fld Tryz.prog 174 1 1 22 := tqD
instance : Fld Tryz.prog 174 2 2 3 := tqD
instance : Fld Tryz.prog 174 3 3 3 := tqD
instance : Fld Tryz.prog 174 4 4 109 := tqD
instance : ZA Tryz.prog 174 (([(0, 1), (1, 1), (2, 1), (3, 1), (4, 1)] : List (Nat × Nat))[·]?) := Zz (by kernel_rfl)
instance : TyA Tryz.prog 175 5 := tqA
instance : Zl Tryz.prog 175 false := tqI
instance : Zy Tryz.prog 175 5 := tqN
instance : Zj Tryz.prog 175 56 := tqB
instance : Zm Tryz.prog 175 (.agg ⟨[.int .u64 0, .int .u64 0, .int .i64 0, .int .i64 0, .slice none 0 0]⟩) := tqO
instance : ZG Tryz.prog 175 := ⟨by kernel_rfl⟩
instance : Xh Tryz.prog 175 [(0, 22), (1, 22), (2, 3), (3, 3), (4, 109)] := YC (by kernel_rfl)
instance : Fld Tryz.prog 175 0 0 22 := tqD
instance : Fld Tryz.prog 175 1 1 22 := tqD
instance : Fld Tryz.prog 175 2 2 3 := tqD
instance : Fld Tryz.prog 175 3 3 3 := tqD
instance : Fld Tryz.prog 175 4 4 109 := tqD
instance : ZA Tryz.prog 175 (([(0, 1), (1, 1), (2, 1), (3, 1), (4, 1)] : List (Nat × Nat))[·]?) := Zz (by kernel_rfl)
instance : TyA Tryz.prog 177 9 := tqA
instance : Zl Tryz.prog 177 false := tqI
instance : Zy Tryz.prog 177 9 := tqN
instance : Zj Tryz.prog 177 104 := tqB
instance : Zm Tryz.prog 177 (.agg ⟨[.int .u64 0, .int .u64 0, .int .i64 0, .int .i64 0, .slice none 0 0, .pointer none, .slice none 0 0, .int .i64 0, .bool false]⟩) := tqO
instance : ZG Tryz.prog 177 := ⟨by kernel_rfl⟩
instance : Fld Tryz.prog 177 0 0 175 := tqD
instance : Fld Tryz.prog 177 1 5 55 := tqD
instance : Fld Tryz.prog 177 2 6 113 := tqD
instance : Fld Tryz.prog 177 3 7 3 := tqD
instance : Fld Tryz.prog 177 4 8 4 := tqD
instance : ZA Tryz.prog 177 (([(0, 5), (5, 1), (6, 1), (7, 1), (8, 1)] : List (Nat × Nat))[·]?) := Zz (by kernel_rfl)
instance : TyA Tryz.prog 178 9 := tqA
instance : Zl Tryz.prog 178 false := tqI
instance : Zy Tryz.prog 178 9 := tqN
instance : Zj Tryz.prog 178 104 := tqB
instance : Zm Tryz.prog 178 (.agg ⟨[.int .u64 0, .int .u64 0, .int .i64 0, .int .i64 0, .slice none 0 0, .pointer none, .slice none 0 0, .int .i64 0, .bool false]⟩) := tqO
instance : ZG Tryz.prog 178 := ⟨by kernel_rfl⟩
instance : Xh Tryz.prog 178 [(0, 175), (5, 55), (6, 113), (7, 3), (8, 4)] := YC (by kernel_rfl)
instance : Fld Tryz.prog 178 0 0 175 := tqD
instance : Fld Tryz.prog 178 1 5 55 := tqD
instance : Fld Tryz.prog 178 2 6 113 := tqD
instance : Fld Tryz.prog 178 3 7 3 := tqD
instance : Fld Tryz.prog 178 4 8 4 := tqD
instance : ZA Tryz.prog 178 (([(0, 5), (5, 1), (6, 1), (7, 1), (8, 1)] : List (Nat × Nat))[·]?) := Zz (by kernel_rfl)
instance : TyA Tryz.prog 179 128 := tqA
instance : Zl Tryz.prog 179 false := tqI
instance : Zy Tryz.prog 179 128 := tqN
instance : Zj Tryz.prog 179 128 := tqB
instance : Zm Tryz.prog 179 (.agg ⟨List.replicate 128 (.int .u8 0)⟩) := tqO
instance : ZG Tryz.prog 179 := ⟨by kernel_rfl⟩
instance : TyArr Tryz.prog 179 2 172 := ⟨by kernel_rfl⟩
instance : ZA Tryz.prog 179 (fun i => some (i * 64, 64)) := mkTyPlacesA (n := 2) (e := 172) (by kernel_rfl) (by kernel_rfl)
instance : TyS Tryz.prog 192 := tqS
instance : Zl Tryz.prog 192 false := tqI
instance : Zy Tryz.prog 192 1 := tqN
instance : Zj Tryz.prog 192 4 := tqB
instance : Zm Tryz.prog 192 (.int .u32 0) := tqO
instance : Ys Tryz.prog 192 .u32 := ⟨by kernel_rfl⟩
instance : TyS Tryz.prog 194 := tqS
instance : Zl Tryz.prog 194 false := tqI
instance : Zy Tryz.prog 194 1 := tqN
instance : Zj Tryz.prog 194 8 := tqB
instance : Zm Tryz.prog 194 (.map none) := tqO
instance : TyMap Tryz.prog 194 3 1 := ⟨by kernel_rfl⟩
instance : TyS Tryz.prog 196 := tqS
instance : Zl Tryz.prog 196 false := tqI
instance : Yj Tryz.prog 196 := tqF
instance : Zy Tryz.prog 196 1 := tqN
instance : Zj Tryz.prog 196 8 := tqB
instance : Zm Tryz.prog 196 (.nilFunc) := tqO
instance : TyS Tryz.prog 199 := tqS
instance : Zl Tryz.prog 199 false := tqI
instance : Yj Tryz.prog 199 := tqF
instance : Zy Tryz.prog 199 1 := tqN
instance : Zj Tryz.prog 199 8 := tqB
instance : Zm Tryz.prog 199 (.nilFunc) := tqO
instance : TyS Tryz.prog 203 := tqS
instance : Zl Tryz.prog 203 false := tqI
instance : Zy Tryz.prog 203 1 := tqN
instance : Zj Tryz.prog 203 24 := tqB
instance : Zm Tryz.prog 203 (.slice none 0 0) := tqO
instance : ZK Tryz.prog 203 22 := ⟨by kernel_rfl⟩
instance : TyS Tryz.prog 223 := tqS
instance : Zl Tryz.prog 223 false := tqI
instance : Yj Tryz.prog 223 := tqF
instance : Zy Tryz.prog 223 1 := tqN
instance : Zj Tryz.prog 223 8 := tqB
instance : Zm Tryz.prog 223 (.nilFunc) := tqO
instance : TyA Tryz.prog 225 2 := tqA
instance : Zl Tryz.prog 225 false := tqI
instance : Zy Tryz.prog 225 2 := tqN
instance : Zj Tryz.prog 225 16 := tqB
instance : Zm Tryz.prog 225 (.agg ⟨[.pointer none, .int .i64 0]⟩) := tqO
instance : ZG Tryz.prog 225 := ⟨by kernel_rfl⟩
instance : Fld Tryz.prog 225 0 0 55 := tqD
instance : Fld Tryz.prog 225 1 1 3 := tqD
instance : ZA Tryz.prog 225 (([(0, 1), (1, 1)] : List (Nat × Nat))[·]?) := Zz (by kernel_rfl)
instance : TyA Tryz.prog 226 2 := tqA
instance : Zl Tryz.prog 226 false := tqI
instance : Zy Tryz.prog 226 2 := tqN
instance : Zj Tryz.prog 226 16 := tqB
instance : Zm Tryz.prog 226 (.agg ⟨[.pointer none, .int .i64 0]⟩) := tqO
instance : ZG Tryz.prog 226 := ⟨by kernel_rfl⟩
instance : Xh Tryz.prog 226 [(0, 55), (1, 3)] := YC (by kernel_rfl)
instance : Fld Tryz.prog 226 0 0 55 := tqD
instance : Fld Tryz.prog 226 1 1 3 := tqD
instance : ZA Tryz.prog 226 (([(0, 1), (1, 1)] : List (Nat × Nat))[·]?) := Zz (by kernel_rfl)
instance : TyA Tryz.prog 239 7 := tqA
instance : Zl Tryz.prog 239 false := tqI
instance : Zy Tryz.prog 239 7 := tqN
instance : Zj Tryz.prog 239 120 := tqB
instance : Zm Tryz.prog 239 (.agg ⟨[.int .i64 0, .int .i64 0, .slice none 0 0, .slice none 0 0, .int .i64 0, .slice none 0 0, .slice none 0 0]⟩) := tqO
instance : ZG Tryz.prog 239 := ⟨by kernel_rfl⟩
instance : Fld Tryz.prog 239 0 0 3 := tqD
instance : Fld Tryz.prog 239 1 1 65 := tqD
instance : Fld Tryz.prog 239 2 4 65 := tqD
instance : ZA Tryz.prog 239 (([(0, 1), (1, 3), (4, 3)] : List (Nat × Nat))[·]?) := Zz (by kernel_rfl)
instance : TyA Tryz.prog 240 7 := tqA
instance : Zl Tryz.prog 240 false := tqI
instance : Zy Tryz.prog 240 7 := tqN
instance : Zj Tryz.prog 240 120 := tqB
instance : Zm Tryz.prog 240 (.agg ⟨[.int .i64 0, .int .i64 0, .slice none 0 0, .slice none 0 0, .int .i64 0, .slice none 0 0, .slice none 0 0]⟩) := tqO
instance : ZG Tryz.prog 240 := ⟨by kernel_rfl⟩
instance : Xh Tryz.prog 240 [(0, 3), (1, 65), (4, 65)] := YC (by kernel_rfl)
instance : Fld Tryz.prog 240 0 0 3 := tqD
instance : Fld Tryz.prog 240 1 1 65 := tqD
instance : Fld Tryz.prog 240 2 4 65 := tqD
instance : ZA Tryz.prog 240 (([(0, 1), (1, 3), (4, 3)] : List (Nat × Nat))[·]?) := Zz (by kernel_rfl)
instance : TyA Tryz.prog 245 6 := tqA
instance : Zl Tryz.prog 245 false := tqI
instance : Zy Tryz.prog 245 6 := tqN
instance : Zj Tryz.prog 245 56 := tqB
instance : Zm Tryz.prog 245 (.agg ⟨[.int .i64 0, .int .i64 0, .int .u16 0, .int .i64 0, .string ⟨⟨[]⟩⟩, .int .i64 0]⟩) := tqO
instance : ZG Tryz.prog 245 := ⟨by kernel_rfl⟩
instance : Fld Tryz.prog 245 0 0 3 := tqD
instance : Fld Tryz.prog 245 1 1 130 := tqD
instance : Fld Tryz.prog 245 2 5 2 := tqD
instance : ZA Tryz.prog 245 (([(0, 1), (1, 4), (5, 1)] : List (Nat × Nat))[·]?) := Zz (by kernel_rfl)
instance : TyA Tryz.prog 246 6 := tqA
instance : Zl Tryz.prog 246 false := tqI
instance : Zy Tryz.prog 246 6 := tqN
instance : Zj Tryz.prog 246 56 := tqB
instance : Zm Tryz.prog 246 (.agg ⟨[.int .i64 0, .int .i64 0, .int .u16 0, .int .i64 0, .string ⟨⟨[]⟩⟩, .int .i64 0]⟩) := tqO
instance : ZG Tryz.prog 246 := ⟨by kernel_rfl⟩
instance : Xh Tryz.prog 246 [(0, 3), (1, 130), (5, 2)] := YC (by kernel_rfl)
instance : Fld Tryz.prog 246 0 0 3 := tqD
instance : Fld Tryz.prog 246 1 1 130 := tqD
instance : Fld Tryz.prog 246 2 5 2 := tqD
instance : ZA Tryz.prog 246 (([(0, 1), (1, 4), (5, 1)] : List (Nat × Nat))[·]?) := Zz (by kernel_rfl)
instance : TyA Tryz.prog 252 5 := tqA
instance : Zl Tryz.prog 252 false := tqI
instance : Zy Tryz.prog 252 5 := tqN
instance : Zj Tryz.prog 252 40 := tqB
instance : Zm Tryz.prog 252 (.agg ⟨[.int .i64 0, .int .u64 0, .int .u64 0, .int .u64 0, .int .i64 0]⟩) := tqO
instance : ZG Tryz.prog 252 := ⟨by kernel_rfl⟩
instance : Fld Tryz.prog 252 0 0 3 := tqD
instance : Fld Tryz.prog 252 1 1 22 := tqD
instance : Fld Tryz.prog 252 2 2 22 := tqD
instance : Fld Tryz.prog 252 3 3 22 := tqD
instance : Fld Tryz.prog 252 4 4 3 := tqD
instance : ZA Tryz.prog 252 (([(0, 1), (1, 1), (2, 1), (3, 1), (4, 1)] : List (Nat × Nat))[·]?) := Zz (by kernel_rfl)
instance : TyA Tryz.prog 253 5 := tqA
instance : Zl Tryz.prog 253 false := tqI
instance : Zy Tryz.prog 253 5 := tqN
instance : Zj Tryz.prog 253 40 := tqB
instance : Zm Tryz.prog 253 (.agg ⟨[.int .i64 0, .int .u64 0, .int .u64 0, .int .u64 0, .int .i64 0]⟩) := tqO
instance : ZG Tryz.prog 253 := ⟨by kernel_rfl⟩
instance : Xh Tryz.prog 253 [(0, 3), (1, 22), (2, 22), (3, 22), (4, 3)] := YC (by kernel_rfl)
instance : Fld Tryz.prog 253 0 0 3 := tqD
instance : Fld Tryz.prog 253 1 1 22 := tqD
instance : Fld Tryz.prog 253 2 2 22 := tqD
instance : Fld Tryz.prog 253 3 3 22 := tqD
instance : Fld Tryz.prog 253 4 4 3 := tqD
instance : ZA Tryz.prog 253 (([(0, 1), (1, 1), (2, 1), (3, 1), (4, 1)] : List (Nat × Nat))[·]?) := Zz (by kernel_rfl)
instance : TyS Tryz.prog 257 := tqS
instance : Zl Tryz.prog 257 false := tqI
instance : Zy Tryz.prog 257 1 := tqN
instance : Zj Tryz.prog 257 8 := tqB
instance : Zm Tryz.prog 257 (.pointer none) := tqO
instance : TyPtr Tryz.prog 257 259 := ⟨by kernel_rfl⟩
instance : TyA Tryz.prog 258 10 := tqA
instance : Zl Tryz.prog 258 false := tqI
instance : Zy Tryz.prog 258 10 := tqN
instance : Zj Tryz.prog 258 144 := tqB
instance : Zm Tryz.prog 258 (.agg ⟨[.int .i64 0, .int .u64 0, .int .i64 0, .int .u64 0, .int .u64 0, .slice none 0 0, .slice none 0 0, .int .i64 0, .slice none 0 0, .slice none 0 0]⟩) := tqO
instance : ZG Tryz.prog 258 := ⟨by kernel_rfl⟩
instance : Fld Tryz.prog 258 0 0 34 := tqD
instance : ZA Tryz.prog 258 (([(0, 10)] : List (Nat × Nat))[·]?) := Zz (by kernel_rfl)
instance : TyA Tryz.prog 259 10 := tqA
instance : Zl Tryz.prog 259 false := tqI
instance : Zy Tryz.prog 259 10 := tqN
instance : Zj Tryz.prog 259 144 := tqB
instance : Zm Tryz.prog 259 (.agg ⟨[.int .i64 0, .int .u64 0, .int .i64 0, .int .u64 0, .int .u64 0, .slice none 0 0, .slice none 0 0, .int .i64 0, .slice none 0 0, .slice none 0 0]⟩) := tqO
instance : ZG Tryz.prog 259 := ⟨by kernel_rfl⟩
instance : Xh Tryz.prog 259 [(0, 34)] := YC (by kernel_rfl)
instance : Fld Tryz.prog 259 0 0 34 := tqD
instance : ZA Tryz.prog 259 (([(0, 10)] : List (Nat × Nat))[·]?) := Zz (by kernel_rfl)
instance : TyS Tryz.prog 260 := tqS
instance : Zl Tryz.prog 260 false := tqI
instance : Zy Tryz.prog 260 1 := tqN
instance : Zj Tryz.prog 260 8 := tqB
instance : Zm Tryz.prog 260 (.map none) := tqO
instance : TyMap Tryz.prog 260 3 23 := ⟨by kernel_rfl⟩
instance : TyS Tryz.prog 261 := tqS
instance : Zl Tryz.prog 261 false := tqI
instance : Zy Tryz.prog 261 1 := tqN
instance : Zj Tryz.prog 261 8 := tqB
instance : Zm Tryz.prog 261 (.pointer none) := tqO
instance : TyPtr Tryz.prog 261 263 := ⟨by kernel_rfl⟩
instance : TyA Tryz.prog 262 11 := tqA
instance : Zl Tryz.prog 262 false := tqI
instance : Zy Tryz.prog 262 11 := tqN
instance : Zj Tryz.prog 262 168 := tqB
instance : Zm Tryz.prog 262 (.agg ⟨[.int .i64 0, .int .u64 0, .int .i64 0, .int .u64 0, .int .u64 0, .slice none 0 0, .slice none 0 0, .int .i64 0, .slice none 0 0, .slice none 0 0, .slice none 0 0]⟩) := tqO
instance : ZG Tryz.prog 262 := ⟨by kernel_rfl⟩
instance : Fld Tryz.prog 262 0 0 34 := tqD
instance : Fld Tryz.prog 262 1 10 109 := tqD
instance : ZA Tryz.prog 262 (([(0, 10), (10, 1)] : List (Nat × Nat))[·]?) := Zz (by kernel_rfl)
instance : TyA Tryz.prog 263 11 := tqA
instance : Zl Tryz.prog 263 false := tqI
instance : Zy Tryz.prog 263 11 := tqN
instance : Zj Tryz.prog 263 168 := tqB
instance : Zm Tryz.prog 263 (.agg ⟨[.int .i64 0, .int .u64 0, .int .i64 0, .int .u64 0, .int .u64 0, .slice none 0 0, .slice none 0 0, .int .i64 0, .slice none 0 0, .slice none 0 0, .slice none 0 0]⟩) := tqO
instance : ZG Tryz.prog 263 := ⟨by kernel_rfl⟩
instance : Xh Tryz.prog 263 [(0, 34), (10, 109)] := YC (by kernel_rfl)
instance : Fld Tryz.prog 263 0 0 34 := tqD
instance : Fld Tryz.prog 263 1 10 109 := tqD
instance : ZA Tryz.prog 263 (([(0, 10), (10, 1)] : List (Nat × Nat))[·]?) := Zz (by kernel_rfl)
instance : TyS Tryz.prog 288 := tqS
instance : Zl Tryz.prog 288 false := tqI
instance : Zy Tryz.prog 288 1 := tqN
instance : Zj Tryz.prog 288 8 := tqB
instance : Zm Tryz.prog 288 (.pointer none) := tqO
instance : TyPtr Tryz.prog 288 3 := ⟨by kernel_rfl⟩
instance : TyS Tryz.prog 301 := tqS
instance : Zl Tryz.prog 301 false := tqI
instance : Yj Tryz.prog 301 := tqF
instance : Zy Tryz.prog 301 1 := tqN
instance : Zj Tryz.prog 301 8 := tqB
instance : Zm Tryz.prog 301 (.nilFunc) := tqO
instance : TyS Tryz.prog 303 := tqS
instance : Zl Tryz.prog 303 false := tqI
instance : Yj Tryz.prog 303 := tqF
instance : Zy Tryz.prog 303 1 := tqN
instance : Zj Tryz.prog 303 8 := tqB
instance : Zm Tryz.prog 303 (.nilFunc) := tqO
instance : TyS Tryz.prog 304 := tqS
instance : Zl Tryz.prog 304 false := tqI
instance : Yj Tryz.prog 304 := tqF
instance : Zy Tryz.prog 304 1 := tqN
instance : Zj Tryz.prog 304 8 := tqB
instance : Zm Tryz.prog 304 (.nilFunc) := tqO
instance : TyS Tryz.prog 306 := tqS
instance : Zl Tryz.prog 306 false := tqI
instance : Yj Tryz.prog 306 := tqF
instance : Zy Tryz.prog 306 1 := tqN
instance : Zj Tryz.prog 306 8 := tqB
instance : Zm Tryz.prog 306 (.nilFunc) := tqO
instance : TyS Tryz.prog 307 := tqS
instance : Zl Tryz.prog 307 false := tqI
instance : Yj Tryz.prog 307 := tqF
instance : Zy Tryz.prog 307 1 := tqN
instance : Zj Tryz.prog 307 8 := tqB
instance : Zm Tryz.prog 307 (.nilFunc) := tqO
instance : TyS Tryz.prog 312 := tqS
instance : Zl Tryz.prog 312 false := tqI
instance : Yj Tryz.prog 312 := tqF
instance : Zy Tryz.prog 312 1 := tqN
instance : Zj Tryz.prog 312 8 := tqB
instance : Zm Tryz.prog 312 (.nilFunc) := tqO
instance : TyS Tryz.prog 314 := tqS
instance : Zl Tryz.prog 314 false := tqI
instance : Yj Tryz.prog 314 := tqF
instance : Zy Tryz.prog 314 1 := tqN
instance : Zj Tryz.prog 314 8 := tqB
instance : Zm Tryz.prog 314 (.nilFunc) := tqO
instance : TyS Tryz.prog 316 := tqS
instance : Zl Tryz.prog 316 false := tqI
instance : Yj Tryz.prog 316 := tqF
instance : Zy Tryz.prog 316 1 := tqN
instance : Zj Tryz.prog 316 8 := tqB
instance : Zm Tryz.prog 316 (.nilFunc) := tqO
instance : TyS Tryz.prog 317 := tqS
instance : Zl Tryz.prog 317 false := tqI
instance : Yj Tryz.prog 317 := tqF
instance : Zy Tryz.prog 317 1 := tqN
instance : Zj Tryz.prog 317 8 := tqB
instance : Zm Tryz.prog 317 (.nilFunc) := tqO
instance : TyS Tryz.prog 333 := tqS
instance : Zl Tryz.prog 333 false := tqI
instance : Yj Tryz.prog 333 := tqF
instance : Zy Tryz.prog 333 1 := tqN
instance : Zj Tryz.prog 333 8 := tqB
instance : Zm Tryz.prog 333 (.nilFunc) := tqO
instance : TyS Tryz.prog 334 := tqS
instance : Zl Tryz.prog 334 false := tqI
instance : Yj Tryz.prog 334 := tqF
instance : Zy Tryz.prog 334 1 := tqN
instance : Zj Tryz.prog 334 8 := tqB
instance : Zm Tryz.prog 334 (.nilFunc) := tqO
instance : TyS Tryz.prog 354 := tqS
instance : Zl Tryz.prog 354 false := tqI
instance : Yj Tryz.prog 354 := tqF
instance : Zy Tryz.prog 354 1 := tqN
instance : Zj Tryz.prog 354 8 := tqB
instance : Zm Tryz.prog 354 (.nilFunc) := tqO
instance : TyS Tryz.prog 355 := tqS
instance : Zl Tryz.prog 355 false := tqI
instance : Zy Tryz.prog 355 1 := tqN
instance : Zj Tryz.prog 355 8 := tqB
instance : Zm Tryz.prog 355 (.pointer none) := tqO
instance : TyPtr Tryz.prog 355 5 := ⟨by kernel_rfl⟩
instance : TyA Tryz.prog 358 11 := tqA
instance : Zl Tryz.prog 358 false := tqI
instance : Zy Tryz.prog 358 11 := tqN
instance : Zj Tryz.prog 358 48 := tqB
instance : Zm Tryz.prog 358 (.agg ⟨[.int .u64 0, .int .u64 0, .int .u32 0, .int .u8 0, .int .u8 0, .int .u8 0, .int .u8 0, .nilFunc, .pointer none, .int .i32 0, .int .i32 0]⟩) := tqO
instance : ZG Tryz.prog 358 := ⟨by kernel_rfl⟩
instance : Fld Tryz.prog 358 0 0 12 := tqD
instance : Fld Tryz.prog 358 1 1 12 := tqD
instance : Fld Tryz.prog 358 2 2 192 := tqD
instance : Fld Tryz.prog 358 3 3 352 := tqD
instance : Fld Tryz.prog 358 4 4 5 := tqD
instance : Fld Tryz.prog 358 5 5 5 := tqD
instance : Fld Tryz.prog 358 6 6 353 := tqD
instance : Fld Tryz.prog 358 7 7 354 := tqD
instance : Fld Tryz.prog 358 8 8 355 := tqD
instance : Fld Tryz.prog 358 9 9 356 := tqD
instance : Fld Tryz.prog 358 10 10 357 := tqD
instance : ZA Tryz.prog 358 (([(0, 1), (1, 1), (2, 1), (3, 1), (4, 1), (5, 1), (6, 1), (7, 1), (8, 1), (9, 1), (10, 1)] : List (Nat × Nat))[·]?) := Zz (by kernel_rfl)
instance : Fun Tryz.prog 3 := tqU
instance : Fun Tryz.prog 7 := tqU
instance : Fun Tryz.prog 8 := tqU
instance : Fun Tryz.prog 9 := tqU
instance : Fun Tryz.prog 10 := tqU
instance : Fun Tryz.prog 11 := tqU
instance : Fun Tryz.prog 12 := tqU
instance : Fun Tryz.prog 13 := tqU
instance : Fun Tryz.prog 14 := tqU
instance : Fun Tryz.prog 15 := tqU
instance : Fun Tryz.prog 16 := tqU
instance : Fun Tryz.prog 17 := tqU
instance : Fun Tryz.prog 18 := tqU
instance : Fun Tryz.prog 19 := tqU
instance : Fun Tryz.prog 20 := tqU
instance : Fun Tryz.prog 21 := tqU
instance : Fun Tryz.prog 44 := tqU
instance : Fun Tryz.prog 45 := tqU
instance : Fun Tryz.prog 46 := tqU
instance : Fun Tryz.prog 52 := tqU
instance : Fun Tryz.prog 54 := tqU
instance : Fun Tryz.prog 55 := tqU
instance : Fun Tryz.prog 56 := tqU
instance : Fun Tryz.prog 57 := tqU
instance : Fun Tryz.prog 77 := tqU
instance : Fun Tryz.prog 84 := tqU
instance : Fun Tryz.prog 87 := tqU
instance : Fun Tryz.prog 88 := tqU
instance : Fun Tryz.prog 89 := tqU
instance : Fun Tryz.prog 90 := tqU
instance : Fun Tryz.prog 91 := tqU
instance : Fun Tryz.prog 95 := tqU
instance : Fun Tryz.prog 107 := tqU
instance : Fun Tryz.prog 108 := tqU
instance : Fun Tryz.prog 109 := tqU
instance : Fun Tryz.prog 110 := tqU
instance : Fun Tryz.prog 111 := tqU
instance : Fun Tryz.prog 112 := tqU
instance : Fun Tryz.prog 113 := tqU
instance : Fun Tryz.prog 114 := tqU
instance : Fun Tryz.prog 118 := tqU
instance : Fun Tryz.prog 132 := tqU
instance : Fun Tryz.prog 133 := tqU
instance : Fun Tryz.prog 134 := tqU
instance : Fun Tryz.prog 135 := tqU
instance : Fun Tryz.prog 136 := tqU
instance : Fun Tryz.prog 137 := tqU
instance : Fun Tryz.prog 158 := tqU
instance : Fun Tryz.prog 159 := tqU
instance : Fun Tryz.prog 160 := tqU
instance : Fun Tryz.prog 161 := tqU
instance : Fun Tryz.prog 162 := tqU
instance : Fun Tryz.prog 163 := tqU
instance : Fun Tryz.prog 164 := tqU
instance : Fun Tryz.prog 165 := tqU
instance : Fun Tryz.prog 166 := tqU
instance : Fun Tryz.prog 167 := tqU
instance : Fun Tryz.prog 168 := tqU
instance : Fun Tryz.prog 169 := tqU
instance : Fun Tryz.prog 170 := tqU
instance : Fun Tryz.prog 171 := tqU
instance : Fun Tryz.prog 172 := tqU
instance : Fun Tryz.prog 173 := tqU
instance : Fun Tryz.prog 174 := tqU
instance : Fun Tryz.prog 175 := tqU
instance : Fun Tryz.prog 176 := tqU
instance : Fun Tryz.prog 177 := tqU
instance : Fun Tryz.prog 178 := tqU
instance : Fun Tryz.prog 179 := tqU
instance : Fun Tryz.prog 191 := tqU
instance : Fun Tryz.prog 192 := tqU
instance : Fun Tryz.prog 193 := tqU
instance : Fun Tryz.prog 194 := tqU
instance : Fun Tryz.prog 195 := tqU
instance : Fun Tryz.prog 196 := tqU
instance : Fun Tryz.prog 197 := tqU
instance : Fun Tryz.prog 198 := tqU
instance : Fun Tryz.prog 208 := tqU
instance : Fun Tryz.prog 209 := tqU
instance : Fun Tryz.prog 210 := tqU
instance : Fun Tryz.prog 211 := tqU
instance : Fun Tryz.prog 212 := tqU
instance : Fun Tryz.prog 213 := tqU
instance : Fun Tryz.prog 214 := tqU
instance : Fun Tryz.prog 215 := tqU
instance : Fun Tryz.prog 216 := tqU
instance : Fun Tryz.prog 217 := tqU
instance : Fun Tryz.prog 218 := tqU
instance : Fun Tryz.prog 219 := tqU
instance : Fun Tryz.prog 220 := tqU
instance : Fun Tryz.prog 221 := tqU
instance : Fun Tryz.prog 222 := tqU
instance : Fun Tryz.prog 223 := tqU
instance : Fun Tryz.prog 224 := tqU
instance : Fun Tryz.prog 225 := tqU
instance : Fun Tryz.prog 226 := tqU
instance : Fun Tryz.prog 227 := tqU
instance : Fun Tryz.prog 228 := tqU
instance : Fun Tryz.prog 229 := tqU
instance : Fun Tryz.prog 230 := tqU
instance : Fun Tryz.prog 231 := tqU
instance : Fun Tryz.prog 232 := tqU
instance : Fun Tryz.prog 248 := tqU
instance : Fun Tryz.prog 249 := tqU
instance : Fun Tryz.prog 250 := tqU
instance : Fun Tryz.prog 251 := tqU
instance : Fun Tryz.prog 252 := tqU
instance : Fun Tryz.prog 259 := tqU
instance : Fun Tryz.prog 260 := tqU
instance : Fun Tryz.prog 261 := tqU
instance : Fun Tryz.prog 264 := tqU
instance : Fun Tryz.prog 265 := tqU
instance : Mixed Tryz.prog := ⟨by kernel_rfl⟩
end Go.Proofs.E
namespace Go.Proofs.E
open Go
set_option linter.unusedVariables false
set_option linter.unusedSimpArgs false
set_option linter.unusedSectionVars false
set_option maxRecDepth 4000
set_option maxHeartbeats 1000000
attribute [local irreducible] Yl TL TC TE Spec YSpec R1 Hp.le EnvLe TS TR YS Zs
def be : Nat → Nat → List UInt8
 | 0, _ => []
 | n + 1, x => UInt8.ofNat (x / 256 ^ n) :: be n x
def unbe (l : List UInt8) : Nat := l.foldl (fun a b => a * 256 + b.toNat) 0
theorem Zk (n x : Nat) : (be n x).length = n := by induction n <;> simp [be, *]
theorem foldl_be (l : List UInt8) (a : Nat) : l.foldl (fun a b => a * 256 + b.toNat) a = a * 256 ^ l.length + unbe l := by
 unfold unbe
 induction l generalizing a with
 | nil => simp
 | cons b l ih =>
  simp only [List.foldl_cons, List.length_cons]
  rw [ih (a * 256 + b.toNat), ih (0 * 256 + b.toNat)]
  rw [Nat.pow_succ]
  simp only [Nat.zero_mul, Nat.zero_add, Nat.add_mul, Nat.mul_assoc, Nat.mul_comm 256, Nat.add_assoc]
theorem unbe_cons (b : UInt8) (l : List UInt8) : unbe (b :: l) = b.toNat * 256 ^ l.length + unbe l := by
 have := foldl_be l (0 * 256 + b.toNat)
 simp only [Nat.zero_mul, Nat.zero_add] at this
 rw [← this]; simp [unbe]
theorem unbe_be (n x : Nat) : unbe (be n x) = x % 256 ^ n := by
 induction n with
 | zero => simp [be, unbe, Nat.mod_one]
 | succ n ih =>
  rw [be, unbe_cons, Zk, ih, UInt8.toNat_ofNat']
  have h1 := Nat.mod_mul (x := x) (a := 256 ^ n) (b := 256)
  have e : 256 ^ (n + 1) = 256 ^ n * 256 := by rw [Nat.pow_succ]
  have e2 : (2 : Nat) ^ 8 = 256 := by decide
  rw [e, h1, e2, Nat.mul_comm]
  omega
def z8 (n : Nat) : List UInt8 := List.replicate n 0
theorem stc_mid (A B vs ws : List Value) (h : ws.length = vs.length) : stc (A ++ (vs ++ B)) A.length ws = A ++ (ws ++ B) := by
 unfold stc
 rw [List.take_left, h, ← List.drop_drop, List.drop_left, List.drop_left, List.append_assoc]
theorem u8_wrap (y : Nat) : Value.int .u8 (IntKind.u8.wrap (y : Int)) = ZI (UInt8.ofNat y) := by
 simp only [ZI, UInt8.toNat_ofNat', IntKind.wrap, IntKind.bits, IntKind.signed, Bool.false_and, Bool.false_eq_true, if_false]
 congr 1
theorem made_z8 (m : Nat) : madeCells (Value.int .u8 0).cells m = ⟨(z8 m).map ZI⟩ := by
 have hz : (Value.int IntKind.u8 0).cells = ⟨[ZI 0]⟩ := rfl
 rw [hz]
 apply Array.ext'
 apply List.ext_getElem?
 intro i
 by_cases hi : i < m
 ·simp [madeCells, z8, hi, Nat.mod_one]
 ·rw [List.getElem?_eq_none (by simp [madeCells]; omega), List.getElem?_eq_none (by simp [z8]; omega)]
theorem own_chunk (b n c : Nat) {xs : List Value} {T : TypeId} : [(b, Obj.cells ⟨xs⟩ T (0, 0))] = Yd (.slice (some ⟨b, 0, none⟩) n c) xs [] T := by simp [Yd]
theorem stand_spec (ρ : Hp) (a : Option Addr) (n c : Nat) (l : List UInt8) (h : SIn ρ ZI a n l) (x p : Nat) (hx : x < 18446744073709551616) (hp : p ≤ 8) (hp1 : 1 ≤ p) (hn : n ≤ 1000000) :
  Spec Tryz.prog 232 [.slice a n c, .int .u64 x, .int .i64 p] ρ [] (fun v ρ' L' => ρ' = ρ ∧ ∃ sp, OwnS v (n + p) ((l ++ be p x).map ZI) sp 1 ∧ L' = [Yd v ((l ++ be p x).map ZI) sp 5]) := by
 have hl := h.len
 refine Zd Tryz.func232 rfl rfl rfl fun u R => ?_
 simp only [Zo, List.cons_append, List.nil_append]
 repeat' (first | (refine tl_makeSlice rfl rfl (by omega) (by omega) (by omega) (by omega) rfl (fun hbn => ?_)) | (refine Zg ?_; first | (refine Zf ?_; refine qQ ?_) | refine Zn ?_) | refine Za ?_ | (refine Zh ?_; refine Zu ?_) | (refine Zi ?_; refine Zv ?_) | intro _)
 simp only [show ((n : Int) + (p : Int)).toNat = n + p by omega, Nat.mul_one, made_z8]
 have hinit : stc ((z8 (n + p)).map ZI) 0 ((l.map ZI).take (n + p)) = (l ++ (z8 (p - 0) ++ be 0 x)).map ZI := by
  rw [List.take_of_length_le (by simp; omega)]
  unfold stc
  have e : z8 (n + p) = z8 n ++ z8 p := by simp [z8, List.replicate_append_replicate]
  rw [e]
  simp [be, hl, z8]
 refine tl_copy (ys := l.map ZI) rfl rfl (SIn.srcV h) (by simpa using hl) (Xy l) (by simp [z8]) rfl ?_
 simp only [hinit]
 repeat' (first | (refine Zg ?_; first | (refine Zf ?_; refine qQ ?_) | refine Zn ?_) | refine Za ?_ | (refine Zh ?_; refine Zu ?_) | (refine Zi ?_; refine Zv ?_) | intro _)
 refine ZP [(6, _), (7, _), (17, _)] (fun (ζ : (Nat) × (Nat)) => [(18, .int .i64 ζ.1), (1, .int .u64 (ζ.2 : Nat))]) (fun (ζ : (Nat) × (Nat)) => ρ) (fun (ζ : (Nat) × (Nat)) => [[(hbn, .cells ⟨(l ++ (z8 (p - ζ.1) ++ be ζ.1 x)).map ZI⟩ 5 (0, 0))]]) (fun (ζ : (Nat) × (Nat)) => ζ.1 ≤ p ∧ ζ.2 = x / 256 ^ ζ.1) (fun (ζ : (Nat) × (Nat)) => p - ζ.1) ((0, x)) (⟨Nat.zero_le _, by simp⟩) Zw Zw rfl tk ?_
 rintro ⟨k, y⟩ hI
 try simp only [List.cons_append, List.nil_append, List.append_assoc, List.append_eq] at hI ⊢
 try dsimp only at hI ⊢
 obtain ⟨hk, hy⟩ := hI
 by_cases hlt : k < p
 ·have hlen : ((l ++ (z8 (p - k) ++ be k x)).map ZI).length = n + p := by simp [z8, Zk, hl]; omega
  have hst : stc ((l ++ (z8 (p - k) ++ be k x)).map ZI) (0 + ((n : Int) + (p : Int) - 1 - k).toNat * 1) [ZI (UInt8.ofNat y)] = (l ++ (z8 (p - (k + 1)) ++ be (k + 1) x)).map ZI := by
   have e1 : z8 (p - k) = z8 (p - (k + 1)) ++ [0] := by
    rw [show p - k = (p - (k + 1)) + 1 by omega]; simp [z8, List.replicate_succ']
   have e2 : 0 + ((n : Int) + (p : Int) - 1 - k).toNat * 1 = ((l ++ z8 (p - (k + 1))).map ZI).length := by simp [z8, hl]; omega
   have e3 : (l ++ (z8 (p - k) ++ be k x)).map ZI = (l ++ z8 (p - (k + 1))).map ZI ++ ([ZI 0] ++ (be k x).map ZI) := by rw [e1]; simp
   rw [e2, e3, stc_mid _ _ [ZI 0] [ZI (UInt8.ofNat y)] rfl, be, ← hy]
   simp
  have hyy : y / 256 = x / 256 ^ (k + 1) := by rw [hy, Nat.div_div_eq_div_mul, Nat.pow_succ]
  repeat' (first | (refine Zg ?_; first | (refine Zf ?_; refine qQ ?_) | refine Zn ?_) | refine Za ?_ | (refine Zh ?_; refine Zu ?_) | (refine Zi ?_; refine Zv ?_) | intro _)
  have e8 : (y : Int) / 2 ^ 8 = ((x / 256 ^ (k + 1) : Nat) : Int) := by
   rw [← hyy]
   have : (2 : Int) ^ 8 = 256 := by decide
   omega
  rw [e8, u8_wrap, Int.natCast_add, hst]
  refine ZB (k + 1, x / 256 ^ (k + 1)) (⟨hlt, rfl⟩) Zw Zw rfl tk inferInstance (by first | omega | (dsimp only; omega))
 ·have hk2 : k = p := by omega
  subst hk2
  simp only [Nat.sub_self, z8, List.replicate_zero, List.nil_append]
  repeat' (first | (refine Zg ?_; first | (refine Zf ?_; refine qQ ?_) | refine Zn ?_) | refine Za ?_ | (refine Zh ?_; refine Zu ?_) | (refine Zi ?_; refine Zv ?_) | intro _)
  rw [own_chunk hbn (n + k) (n + k)]
  exact qE ⟨rfl, [], ⟨.inr ⟨hbn, n + k, rfl, by simp [Zk, hl], by simp [Zk, hl], Nat.le_refl _⟩⟩, rfl⟩
theorem put16_spec (ρ : Hp) (a : Option Addr) (n c : Nat) (l : List UInt8) (h : SIn ρ ZI a n l) (x : Nat) (hx : x < 65536) (hn : n ≤ 1000000) :
  Spec Tryz.prog 221 [.slice a n c, .int .u16 x] ρ [] (fun v ρ' L' => ρ' = ρ ∧ ∃ sp, OwnS v (n + 2) ((l ++ be 2 x).map ZI) sp 1 ∧ L' = [Yd v ((l ++ be 2 x).map ZI) sp 5]) := by
 have hw : IntKind.u64.wrap (x : Int) = x := XF (by simp only [lo, hi]; omega)
 have hs := stand_spec ρ a n c l h x 2 (by omega) (by omega) (by omega) hn
 refine Zd Tryz.func221 rfl rfl rfl fun u R => ?_
 simp only [Zo, List.cons_append, List.nil_append]
 repeat' (first | (refine iCv ?_; refine tl_y (y_conv rfl) rfl rfl ?_; rw [hw]) | (refine Ze (.func 232) ?_; refine qC rfl rfl (hs) ?_; rintro v ρ' L' hle ⟨rfl, sp, hown, rfl⟩ <;> (try simp only [kM, kN, kO])) | (refine Zg ?_; first | (refine Zf ?_; refine qQ ?_) | refine Zn ?_) | refine Za ?_ | (refine Zh ?_; refine Zu ?_) | (refine Zi ?_; refine Zv ?_) | intro _)
 exact qE ⟨rfl, sp, hown, rfl⟩
theorem put64_spec (ρ : Hp) (a : Option Addr) (n c : Nat) (l : List UInt8) (h : SIn ρ ZI a n l) (x : Nat) (hx : x < 18446744073709551616) (hn : n ≤ 1000000) :
  Spec Tryz.prog 178 [.slice a n c, .int .u64 x] ρ [] (fun v ρ' L' => ρ' = ρ ∧ ∃ sp, OwnS v (n + 8) ((l ++ be 8 x).map ZI) sp 1 ∧ L' = [Yd v ((l ++ be 8 x).map ZI) sp 5]) := by
 have hs := stand_spec ρ a n c l h x 8 (by omega) (by omega) (by omega) hn
 refine Zd Tryz.func178 rfl rfl rfl fun u R => ?_
 simp only [Zo, List.cons_append, List.nil_append]
 repeat' (first | (refine Ze (.func 232) ?_; refine qC rfl rfl (hs) ?_; rintro v ρ' L' hle ⟨rfl, sp, hown, rfl⟩ <;> (try simp only [kM, kN, kO])) | (refine Zg ?_; first | (refine Zf ?_; refine qQ ?_) | refine Zn ?_) | refine Za ?_ | (refine Zh ?_; refine Zu ?_) | (refine Zi ?_; refine Zv ?_) | intro _)
 exact qE ⟨rfl, sp, hown, rfl⟩
theorem OwnS.zero (b sz : Nat) : OwnS (.slice (some ⟨b, 0, none⟩) 0 0) 0 [] [] sz := ⟨.inr ⟨b, 0, rfl, by simp, by simp, Nat.le_refl _⟩⟩
structure Row where
 t : Int
 id : Nat
 val : Int
 note : List UInt8
deriving DecidableEq
structure Kid where
 t : Int
 id : Nat
 page : Int
deriving DecidableEq
abbrev keyV (t : Int) (id : Nat) : List Value := [.int .i64 t, .int .u16 id]
abbrev rowV (r : Row) : List Value := [.int .i64 r.t, .int .u16 r.id, .int .i64 r.val, strV r.note]
abbrev kidV (k : Kid) : List Value := [.int .i64 k.t, .int .u16 k.id, .int .i64 k.page]
theorem XL (ρ : Hp) (n : Int) : Spec Tryz.prog 229 [.int .i64 n] ρ [] (fun v ρ' L' => v = .bool (decide (0 ≤ n ∧ n < 3)) ∧ ρ' = ρ ∧ L' = []) := by
 refine Zd Tryz.func229 rfl rfl rfl fun u R => ?_
 simp only [Zo, List.cons_append, List.nil_append]
 by_cases h0 : 0 ≤ n
 ·by_cases h1 : n < 3
  ·rw [decide_eq_true ⟨h0, h1⟩]
   repeat' (first | (refine Zg ?_; first | (refine Zf ?_; refine qQ ?_) | refine Zn ?_) | refine Za ?_ | (refine Zh ?_; refine Zu ?_) | (refine Zi ?_; refine Zv ?_) | intro _)
   exact qE ⟨rfl, rfl, rfl⟩
  ·rw [decide_eq_false (fun h => h1 h.2)]
   repeat' (first | (refine Zg ?_; first | (refine Zf ?_; refine qQ ?_) | refine Zn ?_) | refine Za ?_ | (refine Zh ?_; refine Zu ?_) | (refine Zi ?_; refine Zv ?_) | intro _)
   exact qE ⟨rfl, rfl, rfl⟩
 ·rw [decide_eq_false (fun h => h0 h.1)]
  repeat' (first | (refine Zg ?_; first | (refine Zf ?_; refine qQ ?_) | refine Zn ?_) | refine Za ?_ | (refine Zh ?_; refine Zu ?_) | (refine Zi ?_; refine Zv ?_) | intro _)
  exact qE ⟨rfl, rfl, rfl⟩
def cmpI (x y : Int) : Int := if x < y then -1 else if y < x then 1 else 0
theorem nanI_spec (ρ : Hp) (x : Int) : Spec Tryz.prog 264 [.int .i64 x] ρ [] (fun v ρ' L' => v = .bool false ∧ ρ' = ρ ∧ L' = []) := by
 refine Zd Tryz.func264 rfl rfl rfl fun u R => ?_
 simp only [Zo, List.cons_append, List.nil_append]
 repeat' (first | (refine Zg ?_; first | (refine Zf ?_; refine qQ ?_) | refine Zn ?_) | refine Za ?_ | (refine Zh ?_; refine Zu ?_) | (refine Zi ?_; refine Zv ?_) | intro _)
 exact qE ⟨rfl, rfl, rfl⟩
theorem nanU_spec (ρ : Hp) (x : Int) : Spec Tryz.prog 265 [.int .u16 x] ρ [] (fun v ρ' L' => v = .bool false ∧ ρ' = ρ ∧ L' = []) := by
 refine Zd Tryz.func265 rfl rfl rfl fun u R => ?_
 simp only [Zo, List.cons_append, List.nil_append]
 repeat' (first | (refine Zg ?_; first | (refine Zf ?_; refine qQ ?_) | refine Zn ?_) | refine Za ?_ | (refine Zh ?_; refine Zu ?_) | (refine Zi ?_; refine Zv ?_) | intro _)
 exact qE ⟨rfl, rfl, rfl⟩
theorem cmpI_spec (ρ : Hp) (x y : Int) : Spec Tryz.prog 260 [.int .i64 x, .int .i64 y] ρ [] (fun v ρ' L' => v = .int .i64 (cmpI x y) ∧ ρ' = ρ ∧ L' = []) := by
 refine Zd Tryz.func260 rfl rfl rfl fun u R => ?_
 simp only [Zo, List.cons_append, List.nil_append]
 unfold cmpI
 split
 ·repeat' (first | (refine Ze (.func 264) ?_; refine qC rfl rfl (nanI_spec _ _) ?_; rintro v ρ' L' hle ⟨rfl, rfl, rfl⟩ <;> (try simp only [kM, kN, kO])) | (refine Zg ?_; first | (refine Zf ?_; refine qQ ?_) | refine Zn ?_) | refine Za ?_ | (refine Zh ?_; refine Zu ?_) | (refine Zi ?_; refine Zv ?_) | intro _)
  exact qE ⟨rfl, rfl, rfl⟩
 ·split
  ·repeat' (first | (refine Ze (.func 264) ?_; refine qC rfl rfl (nanI_spec _ _) ?_; rintro v ρ' L' hle ⟨rfl, rfl, rfl⟩ <;> (try simp only [kM, kN, kO])) | (refine Zg ?_; first | (refine Zf ?_; refine qQ ?_) | refine Zn ?_) | refine Za ?_ | (refine Zh ?_; refine Zu ?_) | (refine Zi ?_; refine Zv ?_) | intro _)
   exact qE ⟨rfl, rfl, rfl⟩
  ·repeat' (first | (refine Ze (.func 264) ?_; refine qC rfl rfl (nanI_spec _ _) ?_; rintro v ρ' L' hle ⟨rfl, rfl, rfl⟩ <;> (try simp only [kM, kN, kO])) | (refine Zg ?_; first | (refine Zf ?_; refine qQ ?_) | refine Zn ?_) | refine Za ?_ | (refine Zh ?_; refine Zu ?_) | (refine Zi ?_; refine Zv ?_) | intro _)
   exact qE ⟨rfl, rfl, rfl⟩
theorem cmpU_spec (ρ : Hp) (x y : Int) : Spec Tryz.prog 261 [.int .u16 x, .int .u16 y] ρ [] (fun v ρ' L' => v = .int .i64 (cmpI x y) ∧ ρ' = ρ ∧ L' = []) := by
 refine Zd Tryz.func261 rfl rfl rfl fun u R => ?_
 simp only [Zo, List.cons_append, List.nil_append]
 unfold cmpI
 split
 ·repeat' (first | (refine Ze (.func 265) ?_; refine qC rfl rfl (nanU_spec _ _) ?_; rintro v ρ' L' hle ⟨rfl, rfl, rfl⟩ <;> (try simp only [kM, kN, kO])) | (refine Zg ?_; first | (refine Zf ?_; refine qQ ?_) | refine Zn ?_) | refine Za ?_ | (refine Zh ?_; refine Zu ?_) | (refine Zi ?_; refine Zv ?_) | intro _)
  exact qE ⟨rfl, rfl, rfl⟩
 ·split
  ·repeat' (first | (refine Ze (.func 265) ?_; refine qC rfl rfl (nanU_spec _ _) ?_; rintro v ρ' L' hle ⟨rfl, rfl, rfl⟩ <;> (try simp only [kM, kN, kO])) | (refine Zg ?_; first | (refine Zf ?_; refine qQ ?_) | refine Zn ?_) | refine Za ?_ | (refine Zh ?_; refine Zu ?_) | (refine Zi ?_; refine Zv ?_) | intro _)
   exact qE ⟨rfl, rfl, rfl⟩
  ·repeat' (first | (refine Ze (.func 265) ?_; refine qC rfl rfl (nanU_spec _ _) ?_; rintro v ρ' L' hle ⟨rfl, rfl, rfl⟩ <;> (try simp only [kM, kN, kO])) | (refine Zg ?_; first | (refine Zf ?_; refine qQ ?_) | refine Zn ?_) | refine Za ?_ | (refine Zh ?_; refine Zu ?_) | (refine Zi ?_; refine Zv ?_) | intro _)
   exact qE ⟨rfl, rfl, rfl⟩
theorem or2_spec (ρ : Hp) (b : Nat) (x y : Int) : Spec Tryz.prog 259 [.slice (some ⟨b, 0, none⟩) 2 2] ρ [[(b, .cells ⟨[.int .i64 x, .int .i64 y]⟩ 3 (0, 0))]]
  (fun v ρ' L' => v = .int .i64 (if x = 0 then y else x) ∧ ρ' = ρ ∧ L' = [[(b, .cells ⟨[.int .i64 x, .int .i64 y]⟩ 3 (0, 0))]]) := by
 refine Zd Tryz.func259 rfl rfl rfl fun u R => ?_
 simp only [Zo, List.cons_append, List.nil_append]
 repeat' (first | (refine Zg ?_; first | (refine Zf ?_; refine qQ ?_) | refine Zn ?_) | refine Za ?_ | (refine Zh ?_; refine Zu ?_) | (refine Zi ?_; refine Zv ?_) | intro _)
 refine ZP [(2, _), (3, _), (6, _), (7, _)] (fun (ζ : (Nat)) => [(8, .int .i64 ζ)]) (fun (ζ : (Nat)) => ρ) (fun (ζ : (Nat)) => []) (fun (ζ : (Nat)) => ζ = 0 ∨ (ζ = 1 ∧ x = 0) ∨ (ζ = 2 ∧ x = 0 ∧ y = 0)) (fun (ζ : (Nat)) => 3 - ζ) (0) (.inl rfl) Zw Zw rfl tk ?_
 rintro k hI
 try simp only [List.cons_append, List.nil_append, List.append_assoc, List.append_eq] at hI ⊢
 try dsimp only at hI ⊢
 rcases hI with rfl | ⟨rfl, rfl⟩ | ⟨rfl, rfl, rfl⟩
 ·by_cases h : x = 0
  ·subst h
   repeat' (first | (refine Zg ?_; first | (refine Zf ?_; refine qQ ?_) | refine Zn ?_) | refine Za ?_ | (refine Zh ?_; refine Zu ?_) | (refine Zi ?_; refine Zv ?_) | intro _)
   refine ZB (1) (.inr (.inl ⟨rfl, rfl⟩)) Zw Zw rfl tk inferInstance (by first | omega | (dsimp only; omega))
  ·rw [if_neg h]
   repeat' (first | (refine Zg ?_; first | (refine Zf ?_; refine qQ ?_) | refine Zn ?_) | refine Za ?_ | (refine Zh ?_; refine Zu ?_) | (refine Zi ?_; refine Zv ?_) | intro _)
   exact qE ⟨rfl, rfl, rfl⟩
 ·by_cases h : y = 0
  ·subst h
   repeat' (first | (refine Zg ?_; first | (refine Zf ?_; refine qQ ?_) | refine Zn ?_) | refine Za ?_ | (refine Zh ?_; refine Zu ?_) | (refine Zi ?_; refine Zv ?_) | intro _)
   refine ZB (2) (.inr (.inr ⟨rfl, rfl, rfl⟩)) Zw Zw rfl tk inferInstance (by first | omega | (dsimp only; omega))
  ·repeat' (first | (refine Zg ?_; first | (refine Zf ?_; refine qQ ?_) | refine Zn ?_) | refine Za ?_ | (refine Zh ?_; refine Zu ?_) | (refine Zi ?_; refine Zv ?_) | intro _)
   exact qE ⟨rfl, rfl, rfl⟩
 ·repeat' (first | (refine Zg ?_; first | (refine Zf ?_; refine qQ ?_) | refine Zn ?_) | refine Za ?_ | (refine Zh ?_; refine Zu ?_) | (refine Zi ?_; refine Zv ?_) | intro _)
  exact qE ⟨rfl, rfl, rfl⟩
def cmpK (t1 : Int) (i1 : Nat) (t2 : Int) (i2 : Nat) : Int := if cmpI t1 t2 = 0 then cmpI i1 i2 else cmpI t1 t2
theorem YO (ρ : Hp) (t1 : Int) (i1 : Nat) (t2 : Int) (i2 : Nat) : Spec Tryz.prog 252 [.agg ⟨keyV t1 i1⟩, .agg ⟨keyV t2 i2⟩] ρ [] (fun v ρ' L' => v = .int .i64 (cmpK t1 i1 t2 i2) ∧ ρ' = ρ ∧ L' = []) := by
 refine Zd Tryz.func252 rfl rfl rfl fun u R => ?_
 simp only [Zo, List.cons_append, List.nil_append]
 repeat' (first | (refine Zg ?_; first | (refine Zf ?_; refine qQ ?_) | refine Zn ?_) | refine Za ?_ | (refine Zh ?_; refine Zu ?_) | (refine Zi ?_; refine Zv ?_) | intro _)
 refine ZF (Zs _ _ _) ZY ?_
 all_goals (refine rFa 0 ?_; refine rLd 1 ?_; refine rFa 2 ?_; refine rLd 3 ?_; refine rFa 5 ?_; refine rLd 6 ?_; refine rFa 7 ?_; refine rLd 8 ?_)
 all_goals (refine Zr (i := 4) ?_; ((try refine Zp ?_); (first | (refine Ze (.func 260) ?_; refine qC rfl rfl (cmpI_spec _ _ _) ?_; rintro v ρ' L' hle ⟨rfl, rfl, rfl⟩ <;> (try simp only [kM, kN, kO])) | (refine Zn ?_; try intro _)) <;> ((try simp only [kM, kN, kO]); refine Za ?_; refine Zq ?_)))
 all_goals (refine Zr (i := 9) ?_; ((try refine Zp ?_); (first | (refine Ze (.func 261) ?_; refine qC rfl rfl (cmpU_spec _ _ _) ?_; rintro v ρ' L' hle ⟨rfl, rfl, rfl⟩ <;> (try simp only [kM, kN, kO])) | (refine Zn ?_; try intro _)) <;> ((try simp only [kM, kN, kO]); refine Za ?_; refine Zq ?_)))
 all_goals (refine Zr (i := 10) ?_; ((try refine Zp ?_); (first | (refine Zt rfl rfl rfl rfl (by simp) rfl rfl (fun _ => ?_)) | (refine Zn ?_; try intro _)) <;> ((try simp only [kM, kN, kO]); refine Za ?_; refine Zq ?_)))
 all_goals (refine Zr (i := 11) ?_; ((try refine Zp ?_); (first | (refine Ze (.func 259) ?_; refine qC rfl rfl (or2_spec _ _ _ _) ?_; rintro v ρ' L' hle ⟨rfl, rfl, rfl⟩ <;> (try simp only [kM, kN, kO])) | (refine Zn ?_; try intro _)) <;> ((try simp only [kM, kN, kO]); refine Za ?_; refine Zq ?_)))
 all_goals (refine Ya ?_; refine rAs 12 ?_; refine ZO ?_)
 all_goals (repeat' (first | (refine Zg ?_; first | (refine Zf ?_; refine qQ ?_) | refine Zn ?_) | refine Za ?_ | (refine Zh ?_; refine Zu ?_) | (refine Zi ?_; refine Zv ?_) | intro _))
 all_goals exact qE ⟨rfl, rfl, rfl⟩
def Xj (r : Row) : Bool := decide ((0 ≤ r.t ∧ r.t < 3) ∧ r.note.length ≤ 8)
theorem checkRow_spec (ρ : Hp) (r : Row) : Spec Tryz.prog 225 [.agg ⟨rowV r⟩] ρ [] (fun v ρ' L' => v = .int .i64 (if Xj r then 0 else 151) ∧ ρ' = ρ ∧ L' = []) := by
 obtain ⟨t, id, val, note⟩ := r
 refine Zd Tryz.func225 rfl rfl rfl fun u R => ?_
 simp only [Zo, List.cons_append, List.nil_append, Xj, decide_eq_true_eq]
 by_cases h1 : 0 ≤ t ∧ t < 3
 ·have hd : decide (0 ≤ t ∧ t < 3) = true := decide_eq_true h1
  by_cases h2 : note.length ≤ 8
  ·rw [if_pos ⟨h1, h2⟩]
   repeat' (first | (refine Ze (.func 229) ?_; refine qC rfl rfl (XL _ _) ?_; rintro v ρ' L' hle ⟨rfl, rfl, rfl⟩ <;> (try simp only [kM, kN, kO, hd])) | (refine Zg ?_; first | (refine Zf ?_; refine qQ ?_) | refine Zn ?_) | refine Za ?_ | (refine Zh ?_; refine Zu ?_) | (refine Zi ?_; refine Zv ?_) | intro _)
   exact qE ⟨rfl, rfl, rfl⟩
  ·rw [if_neg (fun h => h2 h.2)]
   repeat' (first | (refine Ze (.func 229) ?_; refine qC rfl rfl (XL _ _) ?_; rintro v ρ' L' hle ⟨rfl, rfl, rfl⟩ <;> (try simp only [kM, kN, kO, hd])) | (refine Zg ?_; first | (refine Zf ?_; refine qQ ?_) | refine Zn ?_) | refine Za ?_ | (refine Zh ?_; refine Zu ?_) | (refine Zi ?_; refine Zv ?_) | intro _)
   exact qE ⟨rfl, rfl, rfl⟩
 ·have hd : decide (0 ≤ t ∧ t < 3) = false := decide_eq_false h1
  rw [if_neg (fun h => h1 h.1)]
  repeat' (first | (refine Ze (.func 229) ?_; refine qC rfl rfl (XL _ _) ?_; rintro v ρ' L' hle ⟨rfl, rfl, rfl⟩ <;> (try simp only [kM, kN, kO, hd])) | (refine Zg ?_; first | (refine Zf ?_; refine qQ ?_) | refine Zn ?_) | refine Za ?_ | (refine Zh ?_; refine Zu ?_) | (refine Zi ?_; refine Zv ?_) | intro _)
  exact qE ⟨rfl, rfl, rfl⟩
def ZN {α : Type} (most : Nat) (right : Nat → α → Bool) (lt : α → α → Bool) (l : List α) : Nat → Bool
 | 0 => decide (l.length ≤ most)
 | k + 1 => ZN most right lt l k && (match l[k]? with | some x => right k x && (decide (k = 0) || (match l[k - 1]? with | some y => lt y x | none => false)) | none => false)
theorem XP {α : Type} {most : Nat} {right : Nat → α → Bool} {lt : α → α → Bool} {l : List α} {k : Nat} (h : k < l.length) : ZN most right lt l (k + 1) = (ZN most right lt l k && (right k l[k] && (decide (k = 0) || lt (l[k - 1]'(by omega)) l[k]))) := by
 rw [ZN]
 simp [h, show k - 1 < l.length by omega]
theorem risesB_false {α : Type} {most : Nat} {right : Nat → α → Bool} {lt : α → α → Bool} {l : List α} {k : Nat} (h : ZN most right lt l k = false) : ∀ m, ZN most right lt l (k + m) = false
 | 0 => h
 | m + 1 => by rw [← Nat.add_assoc, ZN, risesB_false h m]; rfl
theorem XB {α : Type} {most : Nat} {right : Nat → α → Bool} {lt : α → α → Bool} {l : List α} {k n : Nat} (h : ZN most right lt l k = false) (hk : k ≤ n) : ZN most right lt l n = false := by
 have := risesB_false h (n - k)
 rwa [Nat.add_sub_cancel' hk] at this
theorem ZL (ρ : Hp) (r : Row) : Spec Tryz.prog 223 [.agg ⟨rowV r⟩] ρ [] (fun v ρ' L' => v = .agg ⟨keyV r.t r.id⟩ ∧ ρ' = ρ ∧ L' = []) := by
 refine Zd Tryz.func223 rfl rfl rfl fun u R => ?_
 simp only [Zo, List.cons_append, List.nil_append]
 repeat' (first | (refine Zg ?_; first | (refine Zf ?_; refine qQ ?_) | refine Zn ?_) | refine Za ?_ | (refine Zh ?_; refine Zu ?_) | (refine Zi ?_; refine Zv ?_) | intro _)
 exact qE ⟨rfl, rfl, rfl⟩
theorem YB (ρ : Hp) (i : Int) (r : Row) : Spec Tryz.prog 224 [.int .i64 i, .agg ⟨rowV r⟩] ρ [] (fun v ρ' L' => v = .bool (Xj r) ∧ ρ' = ρ ∧ L' = []) := by
 refine Zd Tryz.func224 rfl rfl rfl fun u R => ?_
 simp only [Zo, List.cons_append, List.nil_append]
 cases h : Xj r
 ·repeat' (first | (refine Ze (.func 225) ?_; refine qC rfl rfl (checkRow_spec _ r) ?_; rintro v ρ' L' hle ⟨rfl, rfl, rfl⟩ <;> (try simp only [kM, kN, kO, h, if_false, Bool.false_eq_true])) | (refine Zg ?_; first | (refine Zf ?_; refine qQ ?_) | refine Zn ?_) | refine Za ?_ | (refine Zh ?_; refine Zu ?_) | (refine Zi ?_; refine Zv ?_) | intro _)
  exact qE ⟨rfl, rfl, rfl⟩
 ·repeat' (first | (refine Ze (.func 225) ?_; refine qC rfl rfl (checkRow_spec _ r) ?_; rintro v ρ' L' hle ⟨rfl, rfl, rfl⟩ <;> (try simp only [kM, kN, kO, h, if_true])) | (refine Zg ?_; first | (refine Zf ?_; refine qQ ?_) | refine Zn ?_) | refine Za ?_ | (refine Zh ?_; refine Zu ?_) | (refine Zi ?_; refine Zv ?_) | intro _)
  exact qE ⟨rfl, rfl, rfl⟩
def ltR (y x : Row) : Bool := decide (cmpK y.t y.id x.t x.id < 0)
def rowsOk (l : List Row) : Bool := ZN 4 (fun _ r => Xj r) ltR l l.length
theorem risesRow_spec (ρ : Hp) (a : Option Addr) (n c : Nat) (l : List Row) (h : AIn ρ 4 rowV a n l) (hn : n ≤ 1000000) :
  Spec Tryz.prog 222 [.slice a n c, .int .i64 4, .func (.func 223) ⟨[]⟩ ⟨[]⟩, .func (.func 224) ⟨[]⟩ ⟨[]⟩] ρ [] (fun v ρ' L' => v = .bool (rowsOk l) ∧ ρ' = ρ ∧ L' = []) := by
 have hl := h.len
 unfold rowsOk
 rw [hl]
 refine Zd Tryz.func222 rfl rfl rfl fun u R => ?_
 simp only [Zo, List.cons_append, List.nil_append]
 repeat' (first | (refine Zg ?_; first | (refine Zf ?_; refine qQ ?_) | refine Zn ?_) | refine Za ?_ | (refine Zh ?_; refine Zu ?_) | (refine Zi ?_; refine Zv ?_) | intro _)
 have e0 : decide ((n : Int) ≤ 4) = ZN 4 (fun _ r => Xj r) ltR l 0 := by
  rw [ZN]; simp [hl]; omega
 rw [e0]
 refine ZP [(0, _), (2, _), (3, _), (8, _), (16, _), (17, _)] (fun (ζ : (Nat)) => [(18, .int .i64 ζ), (9, .bool (ZN 4 (fun _ r => Xj r) ltR l ζ))]) (fun (ζ : (Nat)) => ρ) (fun (ζ : (Nat)) => []) (fun (ζ : (Nat)) => ζ ≤ n) (fun (ζ : (Nat)) => n - ζ) (0) (Nat.zero_le _) Zw Zw rfl tk ?_
 rintro k hI
 try simp only [List.cons_append, List.nil_append, List.append_assoc, List.append_eq] at hI ⊢
 try dsimp only at hI ⊢
 by_cases hlt : k < n
 ·obtain ⟨b, off, C, T, fr, rfl, hb, hfit, hc⟩ := h.get (show k < l.length by omega)
  have hs := XP (most := 4) (right := fun _ r => Xj r) (lt := ltR) (show k < l.length by omega)
  have hfin := fun (e : ZN 4 (fun _ r => Xj r) ltR l (k + 1) = false) => XB e (show k + 1 ≤ n by omega)
  cases hok : ZN 4 (fun _ r => Xj r) ltR l k
  ·rw [hok, Bool.false_and] at hs
   rw [hfin hs]
   generalize l[k] = x at *
   repeat' (first | (refine Zg ?_; first | (refine Zf ?_; refine qQ ?_) | refine Zn ?_) | refine Za ?_ | (refine Zh ?_; refine Zu ?_) | (refine Zi ?_; refine Zv ?_) | intro _)
   refine ZF (Zs _ _ _) ZY ?_
   all_goals (refine rMv 0 ?_; refine rMv 1 ?_; (first | refine Zc 2 ?_ | refine Zb 2 ?_ | refine wMv 2 ?_); (first | refine Zc 3 ?_ | refine Zb 3 ?_ | refine wMv 3 ?_); (first | refine Zc 4 ?_ | refine Zb 4 ?_ | refine wLd 4 ?_))
   all_goals (first | refine Zc 5 ?_ | refine Zb 5 ?_ | (refine Zr (i := 5) ?_; ((try refine Zp ?_); (first | (refine Zn ?_; try intro _)) <;> ((try simp only [kM, kN, kO]); refine Za ?_; refine Zq ?_))))
   all_goals (refine rPk 6 ?_; refine rMv 7 ?_; (first | refine Zc 8 ?_ | refine Zb 8 ?_ | refine wMv 8 ?_); (first | refine Zc 9 ?_ | refine Zb 9 ?_ | refine wCm 9 ?_); (first | refine Zc 10 ?_ | refine Zb 10 ?_ | refine wMv 10 ?_); (first | refine Zc 11 ?_ | refine Zb 11 ?_ | refine wMv 11 ?_); (first | refine Zc 12 ?_ | refine Zb 12 ?_ | refine wMv 12 ?_); (first | refine Zc 13 ?_ | refine Zb 13 ?_ | refine wMv 13 ?_); (first | refine Zc 14 ?_ | refine Zb 14 ?_ | refine wSb 14 ?_); (first | refine Zc 15 ?_ | refine Zb 15 ?_ | refine wIa 15 ?_); (first | refine Zc 16 ?_ | refine Zb 16 ?_ | refine wLd 16 ?_); (first | refine Zc 18 ?_ | refine Zb 18 ?_ | refine wMv 18 ?_); (first | refine Zc 19 ?_ | refine Zb 19 ?_ | refine wLd 19 ?_))
   all_goals (first | refine Zc 17 ?_ | refine Zb 17 ?_ | (refine Zr (i := 17) ?_; ((try refine Zp ?_); (first | (refine Zn ?_; try intro _)) <;> ((try simp only [kM, kN, kO]); refine Za ?_; refine Zq ?_))))
   all_goals (first | refine Zc 20 ?_ | refine Zb 20 ?_ | (refine Zr (i := 20) ?_; ((try refine Zp ?_); (first | (refine Zn ?_; try intro _)) <;> ((try simp only [kM, kN, kO]); refine Za ?_; refine Zq ?_))))
   all_goals (first | refine Zc 21 ?_ | refine Zb 21 ?_ | (refine Zr (i := 21) ?_; ((try refine Zp ?_); (first | (refine Zn ?_; try intro _)) <;> ((try simp only [kM, kN, kO]); refine Za ?_; refine Zq ?_))))
   all_goals (refine Ya ?_; (first | refine Zc 22 ?_ | refine Zb 22 ?_ | refine wCm 22 ?_); (first | refine Zc 23 ?_ | refine Zb 23 ?_ | refine wPk 23 ?_); refine rPk 24 ?_; refine rAs 25 ?_; refine ZO ?_)
   repeat' (first | (refine Zg ?_; first | (refine Zf ?_; refine qQ ?_) | refine Zn ?_) | refine Za ?_ | (refine Zh ?_; refine Zu ?_) | (refine Zi ?_; refine Zv ?_) | intro _)
   exact qE ⟨rfl, rfl, rfl⟩
  ·rw [hok, Bool.true_and] at hs
   cases hx : Xj l[k]
   ·rw [hx, Bool.false_and] at hs
    rw [hfin hs]
    generalize l[k] = x at *
    repeat' (first | (refine Zg ?_; first | (refine Zf ?_; refine qQ ?_) | refine Zn ?_) | refine Za ?_ | (refine Zh ?_; refine Zu ?_) | (refine Zi ?_; refine Zv ?_) | intro _)
    refine ZF (Zs _ _ _) ZY ?_
    all_goals (refine rMv 0 ?_; refine rMv 1 ?_; (first | refine Zc 2 ?_ | refine Zb 2 ?_ | refine wMv 2 ?_); (first | refine Zc 3 ?_ | refine Zb 3 ?_ | refine wMv 3 ?_); (first | refine Zc 4 ?_ | refine Zb 4 ?_ | refine wLd 4 ?_))
    all_goals (first | refine Zc 5 ?_ | refine Zb 5 ?_ | (refine Zr (i := 5) ?_; ((try refine Zp ?_); (first | (refine Ze (.tmp 25) ?_; refine qC rfl rfl (YB _ _ _) ?_; rintro v ρ' L' hle ⟨rfl, rfl, rfl⟩ <;> (try simp only [kM, kN, kO, hx])) | (refine Ze (.tmp 34) ?_; refine qC rfl rfl (ZL _ _) ?_; rintro v ρ' L' hle ⟨rfl, rfl, rfl⟩ <;> (try simp only [kM, kN, kO])) | (refine Ze (.tmp 41) ?_; refine qC rfl rfl (ZL _ _) ?_; rintro v ρ' L' hle ⟨rfl, rfl, rfl⟩ <;> (try simp only [kM, kN, kO])) | (refine Zn ?_; try intro _)) <;> ((try simp only [kM, kN, kO]); refine Za ?_; refine Zq ?_))))
    all_goals (refine rPk 6 ?_; refine rMv 7 ?_; (first | refine Zc 8 ?_ | refine Zb 8 ?_ | refine wMv 8 ?_); (first | refine Zc 9 ?_ | refine Zb 9 ?_ | refine wCm 9 ?_); (first | refine Zc 10 ?_ | refine Zb 10 ?_ | refine wMv 10 ?_); (first | refine Zc 11 ?_ | refine Zb 11 ?_ | refine wMv 11 ?_); (first | refine Zc 12 ?_ | refine Zb 12 ?_ | refine wMv 12 ?_); (first | refine Zc 13 ?_ | refine Zb 13 ?_ | refine wMv 13 ?_); (first | refine Zc 14 ?_ | refine Zb 14 ?_ | refine wSb 14 ?_); (first | refine Zc 15 ?_ | refine Zb 15 ?_ | refine wIa 15 ?_); (first | refine Zc 16 ?_ | refine Zb 16 ?_ | refine wLd 16 ?_); (first | refine Zc 18 ?_ | refine Zb 18 ?_ | refine wMv 18 ?_); (first | refine Zc 19 ?_ | refine Zb 19 ?_ | refine wLd 19 ?_))
    all_goals (first | refine Zc 17 ?_ | refine Zb 17 ?_ | (refine Zr (i := 17) ?_; ((try refine Zp ?_); (first | (refine Ze (.tmp 25) ?_; refine qC rfl rfl (YB _ _ _) ?_; rintro v ρ' L' hle ⟨rfl, rfl, rfl⟩ <;> (try simp only [kM, kN, kO, hx])) | (refine Ze (.tmp 34) ?_; refine qC rfl rfl (ZL _ _) ?_; rintro v ρ' L' hle ⟨rfl, rfl, rfl⟩ <;> (try simp only [kM, kN, kO])) | (refine Ze (.tmp 41) ?_; refine qC rfl rfl (ZL _ _) ?_; rintro v ρ' L' hle ⟨rfl, rfl, rfl⟩ <;> (try simp only [kM, kN, kO])) | (refine Zn ?_; try intro _)) <;> ((try simp only [kM, kN, kO]); refine Za ?_; refine Zq ?_))))
    all_goals (first | refine Zc 20 ?_ | refine Zb 20 ?_ | (refine Zr (i := 20) ?_; ((try refine Zp ?_); (first | (refine Ze (.tmp 25) ?_; refine qC rfl rfl (YB _ _ _) ?_; rintro v ρ' L' hle ⟨rfl, rfl, rfl⟩ <;> (try simp only [kM, kN, kO, hx])) | (refine Ze (.tmp 34) ?_; refine qC rfl rfl (ZL _ _) ?_; rintro v ρ' L' hle ⟨rfl, rfl, rfl⟩ <;> (try simp only [kM, kN, kO])) | (refine Ze (.tmp 41) ?_; refine qC rfl rfl (ZL _ _) ?_; rintro v ρ' L' hle ⟨rfl, rfl, rfl⟩ <;> (try simp only [kM, kN, kO])) | (refine Zn ?_; try intro _)) <;> ((try simp only [kM, kN, kO]); refine Za ?_; refine Zq ?_))))
    all_goals (first | refine Zc 21 ?_ | refine Zb 21 ?_ | (refine Zr (i := 21) ?_; ((try refine Zp ?_); (first | (refine Ze (.func 252) ?_; refine qC rfl rfl (YO _ _ _ _ _) ?_; rintro v ρ' L' hle ⟨rfl, rfl, rfl⟩ <;> (try simp only [kM, kN, kO])) | (refine Zn ?_; try intro _)) <;> ((try simp only [kM, kN, kO]); refine Za ?_; refine Zq ?_))))
    all_goals (refine Ya ?_; (first | refine Zc 22 ?_ | refine Zb 22 ?_ | refine wCm 22 ?_); (first | refine Zc 23 ?_ | refine Zb 23 ?_ | refine wPk 23 ?_); refine rPk 24 ?_; refine rAs 25 ?_; refine ZO ?_)
    repeat' (first | (refine Zg ?_; first | (refine Zf ?_; refine qQ ?_) | refine Zn ?_) | refine Za ?_ | (refine Zh ?_; refine Zu ?_) | (refine Zi ?_; refine Zv ?_) | intro _)
    exact qE ⟨rfl, rfl, rfl⟩
   ·rw [hx, Bool.true_and] at hs
    by_cases hk0 : k = 0
    ·have hs' : ZN 4 (fun _ r => Xj r) ltR l (k + 1) = true := by rw [hs]; simp [hk0]
     generalize l[k] = x at *
     repeat' (first | (refine Zg ?_; first | (refine Zf ?_; refine qQ ?_) | refine Zn ?_) | refine Za ?_ | (refine Zh ?_; refine Zu ?_) | (refine Zi ?_; refine Zv ?_) | intro _)
     refine ZF (Zs _ _ _) ZY ?_
     all_goals (refine rMv 0 ?_; refine rMv 1 ?_; (first | refine Zc 2 ?_ | refine Zb 2 ?_ | refine wMv 2 ?_); (first | refine Zc 3 ?_ | refine Zb 3 ?_ | refine wMv 3 ?_); (first | refine Zc 4 ?_ | refine Zb 4 ?_ | refine wLd 4 ?_))
     all_goals (first | refine Zc 5 ?_ | refine Zb 5 ?_ | (refine Zr (i := 5) ?_; ((try refine Zp ?_); (first | (refine Ze (.tmp 25) ?_; refine qC rfl rfl (YB _ _ _) ?_; rintro v ρ' L' hle ⟨rfl, rfl, rfl⟩ <;> (try simp only [kM, kN, kO, hx])) | (refine Ze (.tmp 34) ?_; refine qC rfl rfl (ZL _ _) ?_; rintro v ρ' L' hle ⟨rfl, rfl, rfl⟩ <;> (try simp only [kM, kN, kO])) | (refine Ze (.tmp 41) ?_; refine qC rfl rfl (ZL _ _) ?_; rintro v ρ' L' hle ⟨rfl, rfl, rfl⟩ <;> (try simp only [kM, kN, kO])) | (refine Zn ?_; try intro _)) <;> ((try simp only [kM, kN, kO]); refine Za ?_; refine Zq ?_))))
     all_goals (refine rPk 6 ?_; refine rMv 7 ?_; (first | refine Zc 8 ?_ | refine Zb 8 ?_ | refine wMv 8 ?_); (first | refine Zc 9 ?_ | refine Zb 9 ?_ | refine wCm 9 ?_); (first | refine Zc 10 ?_ | refine Zb 10 ?_ | refine wMv 10 ?_); (first | refine Zc 11 ?_ | refine Zb 11 ?_ | refine wMv 11 ?_); (first | refine Zc 12 ?_ | refine Zb 12 ?_ | refine wMv 12 ?_); (first | refine Zc 13 ?_ | refine Zb 13 ?_ | refine wMv 13 ?_); (first | refine Zc 14 ?_ | refine Zb 14 ?_ | refine wSb 14 ?_); (first | refine Zc 15 ?_ | refine Zb 15 ?_ | refine wIa 15 ?_); (first | refine Zc 16 ?_ | refine Zb 16 ?_ | refine wLd 16 ?_); (first | refine Zc 18 ?_ | refine Zb 18 ?_ | refine wMv 18 ?_); (first | refine Zc 19 ?_ | refine Zb 19 ?_ | refine wLd 19 ?_))
     all_goals (first | refine Zc 17 ?_ | refine Zb 17 ?_ | (refine Zr (i := 17) ?_; ((try refine Zp ?_); (first | (refine Ze (.tmp 25) ?_; refine qC rfl rfl (YB _ _ _) ?_; rintro v ρ' L' hle ⟨rfl, rfl, rfl⟩ <;> (try simp only [kM, kN, kO, hx])) | (refine Ze (.tmp 34) ?_; refine qC rfl rfl (ZL _ _) ?_; rintro v ρ' L' hle ⟨rfl, rfl, rfl⟩ <;> (try simp only [kM, kN, kO])) | (refine Ze (.tmp 41) ?_; refine qC rfl rfl (ZL _ _) ?_; rintro v ρ' L' hle ⟨rfl, rfl, rfl⟩ <;> (try simp only [kM, kN, kO])) | (refine Zn ?_; try intro _)) <;> ((try simp only [kM, kN, kO]); refine Za ?_; refine Zq ?_))))
     all_goals (first | refine Zc 20 ?_ | refine Zb 20 ?_ | (refine Zr (i := 20) ?_; ((try refine Zp ?_); (first | (refine Ze (.tmp 25) ?_; refine qC rfl rfl (YB _ _ _) ?_; rintro v ρ' L' hle ⟨rfl, rfl, rfl⟩ <;> (try simp only [kM, kN, kO, hx])) | (refine Ze (.tmp 34) ?_; refine qC rfl rfl (ZL _ _) ?_; rintro v ρ' L' hle ⟨rfl, rfl, rfl⟩ <;> (try simp only [kM, kN, kO])) | (refine Ze (.tmp 41) ?_; refine qC rfl rfl (ZL _ _) ?_; rintro v ρ' L' hle ⟨rfl, rfl, rfl⟩ <;> (try simp only [kM, kN, kO])) | (refine Zn ?_; try intro _)) <;> ((try simp only [kM, kN, kO]); refine Za ?_; refine Zq ?_))))
     all_goals (first | refine Zc 21 ?_ | refine Zb 21 ?_ | (refine Zr (i := 21) ?_; ((try refine Zp ?_); (first | (refine Ze (.func 252) ?_; refine qC rfl rfl (YO _ _ _ _ _) ?_; rintro v ρ' L' hle ⟨rfl, rfl, rfl⟩ <;> (try simp only [kM, kN, kO])) | (refine Zn ?_; try intro _)) <;> ((try simp only [kM, kN, kO]); refine Za ?_; refine Zq ?_))))
     all_goals (refine Ya ?_; (first | refine Zc 22 ?_ | refine Zb 22 ?_ | refine wCm 22 ?_); (first | refine Zc 23 ?_ | refine Zb 23 ?_ | refine wPk 23 ?_); refine rPk 24 ?_; refine rAs 25 ?_; refine ZO ?_)
     repeat' (first | (refine Zg ?_; first | (refine Zf ?_; refine qQ ?_) | refine Zn ?_) | refine Za ?_ | (refine Zh ?_; refine Zu ?_) | (refine Zi ?_; refine Zv ?_) | intro _)
     rw [← hs']
     refine ZB (k + 1) (hlt) Zw Zw rfl tk inferInstance (by first | omega | (dsimp only; omega))
    ·have hd : decide (k = 0) = false := decide_eq_false hk0
     obtain ⟨b2, off2, C2, T2, fr2, f1, hb2, hfit2, hc2⟩ := h.get (show k - 1 < l.length by omega)
     cases f1
     rw [hb] at hb2
     cases hb2
     have ek : ((k : Int) - 1).toNat = k - 1 := by omega
     rw [← ek] at hfit2
     have hc3 : List.take 4 (List.drop (off + ((k : Int) - 1).toNat * 4) C) = rowV (l[k - 1]'(by omega)) := by rw [ek]; exact hc2
     clear hc2
     rw [hd, Bool.false_or] at hs
     generalize l[k] = x at *
     generalize l[k - 1]'(by omega) = y at *
     unfold ltR at hs
     by_cases hcm : cmpK y.t y.id x.t x.id < 0
     ·rw [decide_eq_true hcm] at hs
      repeat' (first | (refine Zg ?_; first | (refine Zf ?_; refine qQ ?_) | refine Zn ?_) | refine Za ?_ | (refine Zh ?_; refine Zu ?_) | (refine Zi ?_; refine Zv ?_) | intro _)
      refine ZF (Zs _ _ _) ZY ?_
      all_goals (refine rMv 0 ?_; refine rMv 1 ?_; (first | refine Zc 2 ?_ | refine Zb 2 ?_ | refine wMv 2 ?_); (first | refine Zc 3 ?_ | refine Zb 3 ?_ | refine wMv 3 ?_); (first | refine Zc 4 ?_ | refine Zb 4 ?_ | refine wLd 4 ?_))
      all_goals (first | refine Zc 5 ?_ | refine Zb 5 ?_ | (refine Zr (i := 5) ?_; ((try refine Zp ?_); (first | (refine Ze (.tmp 25) ?_; refine qC rfl rfl (YB _ _ _) ?_; rintro v ρ' L' hle ⟨rfl, rfl, rfl⟩ <;> (try simp only [kM, kN, kO, hx])) | (refine Ze (.tmp 34) ?_; refine qC rfl rfl (ZL _ _) ?_; rintro v ρ' L' hle ⟨rfl, rfl, rfl⟩ <;> (try simp only [kM, kN, kO])) | (refine Ze (.tmp 41) ?_; refine qC rfl rfl (ZL _ _) ?_; rintro v ρ' L' hle ⟨rfl, rfl, rfl⟩ <;> (try simp only [kM, kN, kO])) | (refine Zn ?_; try intro _)) <;> ((try simp only [kM, kN, kO]); refine Za ?_; refine Zq ?_))))
      all_goals (refine rPk 6 ?_; refine rMv 7 ?_; (first | refine Zc 8 ?_ | refine Zb 8 ?_ | refine wMv 8 ?_); (first | refine Zc 9 ?_ | refine Zb 9 ?_ | refine wCm 9 ?_); (first | refine Zc 10 ?_ | refine Zb 10 ?_ | refine wMv 10 ?_); (first | refine Zc 11 ?_ | refine Zb 11 ?_ | refine wMv 11 ?_); (first | refine Zc 12 ?_ | refine Zb 12 ?_ | refine wMv 12 ?_); (first | refine Zc 13 ?_ | refine Zb 13 ?_ | refine wMv 13 ?_); (first | refine Zc 14 ?_ | refine Zb 14 ?_ | refine wSb 14 ?_); (first | refine Zc 15 ?_ | refine Zb 15 ?_ | refine wIa 15 ?_); (first | refine Zc 16 ?_ | refine Zb 16 ?_ | refine wLd 16 ?_); (first | refine Zc 18 ?_ | refine Zb 18 ?_ | refine wMv 18 ?_); (first | refine Zc 19 ?_ | refine Zb 19 ?_ | refine wLd 19 ?_))
      all_goals (first | refine Zc 17 ?_ | refine Zb 17 ?_ | (refine Zr (i := 17) ?_; ((try refine Zp ?_); (first | (refine Ze (.tmp 25) ?_; refine qC rfl rfl (YB _ _ _) ?_; rintro v ρ' L' hle ⟨rfl, rfl, rfl⟩ <;> (try simp only [kM, kN, kO, hx])) | (refine Ze (.tmp 34) ?_; refine qC rfl rfl (ZL _ _) ?_; rintro v ρ' L' hle ⟨rfl, rfl, rfl⟩ <;> (try simp only [kM, kN, kO])) | (refine Ze (.tmp 41) ?_; refine qC rfl rfl (ZL _ _) ?_; rintro v ρ' L' hle ⟨rfl, rfl, rfl⟩ <;> (try simp only [kM, kN, kO])) | (refine Zn ?_; try intro _)) <;> ((try simp only [kM, kN, kO]); refine Za ?_; refine Zq ?_))))
      all_goals (first | refine Zc 20 ?_ | refine Zb 20 ?_ | (refine Zr (i := 20) ?_; ((try refine Zp ?_); (first | (refine Ze (.tmp 25) ?_; refine qC rfl rfl (YB _ _ _) ?_; rintro v ρ' L' hle ⟨rfl, rfl, rfl⟩ <;> (try simp only [kM, kN, kO, hx])) | (refine Ze (.tmp 34) ?_; refine qC rfl rfl (ZL _ _) ?_; rintro v ρ' L' hle ⟨rfl, rfl, rfl⟩ <;> (try simp only [kM, kN, kO])) | (refine Ze (.tmp 41) ?_; refine qC rfl rfl (ZL _ _) ?_; rintro v ρ' L' hle ⟨rfl, rfl, rfl⟩ <;> (try simp only [kM, kN, kO])) | (refine Zn ?_; try intro _)) <;> ((try simp only [kM, kN, kO]); refine Za ?_; refine Zq ?_))))
      all_goals (first | refine Zc 21 ?_ | refine Zb 21 ?_ | (refine Zr (i := 21) ?_; ((try refine Zp ?_); (first | (refine Ze (.func 252) ?_; refine qC rfl rfl (YO _ _ _ _ _) ?_; rintro v ρ' L' hle ⟨rfl, rfl, rfl⟩ <;> (try simp only [kM, kN, kO])) | (refine Zn ?_; try intro _)) <;> ((try simp only [kM, kN, kO]); refine Za ?_; refine Zq ?_))))
      all_goals (refine Ya ?_; (first | refine Zc 22 ?_ | refine Zb 22 ?_ | refine wCm 22 ?_); (first | refine Zc 23 ?_ | refine Zb 23 ?_ | refine wPk 23 ?_); refine rPk 24 ?_; refine rAs 25 ?_; refine ZO ?_)
      all_goals (repeat' (first | (refine Zg ?_; first | (refine Zf ?_; refine qQ ?_) | refine Zn ?_) | refine Za ?_ | (refine Zh ?_; refine Zu ?_) | (refine Zi ?_; refine Zv ?_) | intro _))
      all_goals rw [← hs]
      all_goals refine ZB (k + 1) (hlt) Zw Zw rfl tk inferInstance (by first | omega | (dsimp only; omega))
     ·rw [decide_eq_false hcm] at hs
      rw [hfin hs]
      repeat' (first | (refine Zg ?_; first | (refine Zf ?_; refine qQ ?_) | refine Zn ?_) | refine Za ?_ | (refine Zh ?_; refine Zu ?_) | (refine Zi ?_; refine Zv ?_) | intro _)
      refine ZF (Zs _ _ _) ZY ?_
      all_goals (refine rMv 0 ?_; refine rMv 1 ?_; (first | refine Zc 2 ?_ | refine Zb 2 ?_ | refine wMv 2 ?_); (first | refine Zc 3 ?_ | refine Zb 3 ?_ | refine wMv 3 ?_); (first | refine Zc 4 ?_ | refine Zb 4 ?_ | refine wLd 4 ?_))
      all_goals (first | refine Zc 5 ?_ | refine Zb 5 ?_ | (refine Zr (i := 5) ?_; ((try refine Zp ?_); (first | (refine Ze (.tmp 25) ?_; refine qC rfl rfl (YB _ _ _) ?_; rintro v ρ' L' hle ⟨rfl, rfl, rfl⟩ <;> (try simp only [kM, kN, kO, hx])) | (refine Ze (.tmp 34) ?_; refine qC rfl rfl (ZL _ _) ?_; rintro v ρ' L' hle ⟨rfl, rfl, rfl⟩ <;> (try simp only [kM, kN, kO])) | (refine Ze (.tmp 41) ?_; refine qC rfl rfl (ZL _ _) ?_; rintro v ρ' L' hle ⟨rfl, rfl, rfl⟩ <;> (try simp only [kM, kN, kO])) | (refine Zn ?_; try intro _)) <;> ((try simp only [kM, kN, kO]); refine Za ?_; refine Zq ?_))))
      all_goals (refine rPk 6 ?_; refine rMv 7 ?_; (first | refine Zc 8 ?_ | refine Zb 8 ?_ | refine wMv 8 ?_); (first | refine Zc 9 ?_ | refine Zb 9 ?_ | refine wCm 9 ?_); (first | refine Zc 10 ?_ | refine Zb 10 ?_ | refine wMv 10 ?_); (first | refine Zc 11 ?_ | refine Zb 11 ?_ | refine wMv 11 ?_); (first | refine Zc 12 ?_ | refine Zb 12 ?_ | refine wMv 12 ?_); (first | refine Zc 13 ?_ | refine Zb 13 ?_ | refine wMv 13 ?_); (first | refine Zc 14 ?_ | refine Zb 14 ?_ | refine wSb 14 ?_); (first | refine Zc 15 ?_ | refine Zb 15 ?_ | refine wIa 15 ?_); (first | refine Zc 16 ?_ | refine Zb 16 ?_ | refine wLd 16 ?_); (first | refine Zc 18 ?_ | refine Zb 18 ?_ | refine wMv 18 ?_); (first | refine Zc 19 ?_ | refine Zb 19 ?_ | refine wLd 19 ?_))
      all_goals (first | refine Zc 17 ?_ | refine Zb 17 ?_ | (refine Zr (i := 17) ?_; ((try refine Zp ?_); (first | (refine Ze (.tmp 25) ?_; refine qC rfl rfl (YB _ _ _) ?_; rintro v ρ' L' hle ⟨rfl, rfl, rfl⟩ <;> (try simp only [kM, kN, kO, hx])) | (refine Ze (.tmp 34) ?_; refine qC rfl rfl (ZL _ _) ?_; rintro v ρ' L' hle ⟨rfl, rfl, rfl⟩ <;> (try simp only [kM, kN, kO])) | (refine Ze (.tmp 41) ?_; refine qC rfl rfl (ZL _ _) ?_; rintro v ρ' L' hle ⟨rfl, rfl, rfl⟩ <;> (try simp only [kM, kN, kO])) | (refine Zn ?_; try intro _)) <;> ((try simp only [kM, kN, kO]); refine Za ?_; refine Zq ?_))))
      all_goals (first | refine Zc 20 ?_ | refine Zb 20 ?_ | (refine Zr (i := 20) ?_; ((try refine Zp ?_); (first | (refine Ze (.tmp 25) ?_; refine qC rfl rfl (YB _ _ _) ?_; rintro v ρ' L' hle ⟨rfl, rfl, rfl⟩ <;> (try simp only [kM, kN, kO, hx])) | (refine Ze (.tmp 34) ?_; refine qC rfl rfl (ZL _ _) ?_; rintro v ρ' L' hle ⟨rfl, rfl, rfl⟩ <;> (try simp only [kM, kN, kO])) | (refine Ze (.tmp 41) ?_; refine qC rfl rfl (ZL _ _) ?_; rintro v ρ' L' hle ⟨rfl, rfl, rfl⟩ <;> (try simp only [kM, kN, kO])) | (refine Zn ?_; try intro _)) <;> ((try simp only [kM, kN, kO]); refine Za ?_; refine Zq ?_))))
      all_goals (first | refine Zc 21 ?_ | refine Zb 21 ?_ | (refine Zr (i := 21) ?_; ((try refine Zp ?_); (first | (refine Ze (.func 252) ?_; refine qC rfl rfl (YO _ _ _ _ _) ?_; rintro v ρ' L' hle ⟨rfl, rfl, rfl⟩ <;> (try simp only [kM, kN, kO])) | (refine Zn ?_; try intro _)) <;> ((try simp only [kM, kN, kO]); refine Za ?_; refine Zq ?_))))
      all_goals (refine Ya ?_; (first | refine Zc 22 ?_ | refine Zb 22 ?_ | refine wCm 22 ?_); (first | refine Zc 23 ?_ | refine Zb 23 ?_ | refine wPk 23 ?_); refine rPk 24 ?_; refine rAs 25 ?_; refine ZO ?_)
      all_goals (repeat' (first | (refine Zg ?_; first | (refine Zf ?_; refine qQ ?_) | refine Zn ?_) | refine Za ?_ | (refine Zh ?_; refine Zu ?_) | (refine Zi ?_; refine Zv ?_) | intro _))
      all_goals exact qE ⟨rfl, rfl, rfl⟩
 ·have hk2 : k = n := by omega
  subst hk2
  repeat' (first | (refine Zg ?_; first | (refine Zf ?_; refine qQ ?_) | refine Zn ?_) | refine Za ?_ | (refine Zh ?_; refine Zu ?_) | (refine Zi ?_; refine Zv ?_) | intro _)
  exact qE ⟨rfl, rfl, rfl⟩
end Go.Proofs.E
