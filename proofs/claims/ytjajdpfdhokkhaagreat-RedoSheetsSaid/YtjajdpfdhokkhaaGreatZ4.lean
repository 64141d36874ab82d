/- The law RedoSheets. Part 4 of 12. -/
import Derived.Test.YtjajdpfdhokkhaaGreatZ3
import Derived.Test.YtjajdpfdhokkhaaGreatChecked
import Derived.KernelRfl
namespace Go.Proofs.E
open Go Go.Proofs.E
set_option linter.unusedVariables false
theorem tqI {t : TypeId} {b : Bool} (h : (Tryz.prog.underlying t).map isIfaceD = some b := by kernel_rfl) : Zl Tryz.prog t b := mkTyIface h
theorem tqS {t : TypeId} (h : (Tryz.prog.underlying t).map isAggD = some false := by kernel_rfl) (k : (Tryz.prog.info? t).map (·.size) = some 1 := by kernel_rfl) : TyS Tryz.prog t := mkTyS h k
theorem tqA {t : TypeId} {n : Nat} (h : (Tryz.prog.underlying t).map isAggD = some true := by kernel_rfl) (k : (Tryz.prog.info? t).map (·.size) = some n := by kernel_rfl) : TyA Tryz.prog t n := mkTyA h k
theorem tqN {t : TypeId} {n : Nat} (k : (Tryz.prog.info? t).map (·.size) = some n := by kernel_rfl) : ZB Tryz.prog t n := mkTySz k
theorem tqB {t : TypeId} {n : Nat} (k : (Tryz.prog.info? t).map (·.bytes) = some n := by kernel_rfl) : Zk Tryz.prog t n := mkTyBytes k
theorem tqO {t : TypeId} {z : Value} (k : (Tryz.prog.info? t).bind (·.zero) = some z := by kernel_rfl) : Zm Tryz.prog t z := mkTyZero k
theorem tqF {t : TypeId} (h : (Tryz.prog.underlying t).map isFuncD = some true := by kernel_rfl) : Yj Tryz.prog t := mkTyFunc h
theorem ZU {s : TypeId} {f off : Nat} {ft : TypeId} (h : fldB Tryz.prog s f = some (off, ft) := by kernel_rfl) : ZR Tryz.prog s f off ft := mkFld h
theorem tqU {f : FuncId} (h : funB Tryz.prog f = true := by kernel_rfl) : Fun Tryz.prog f := mkFun h
instance : TyS Tryz.prog 1 := tqS
instance : Zl Tryz.prog 1 false := tqI
instance : Yj Tryz.prog 1 := tqF
instance : ZB Tryz.prog 1 1 := tqN
instance : Zk Tryz.prog 1 8 := tqB
instance : Zm Tryz.prog 1 (.nilFunc) := tqO
instance : TyS Tryz.prog 2 := tqS
instance : Zl Tryz.prog 2 false := tqI
instance : ZB Tryz.prog 2 1 := tqN
instance : Zk Tryz.prog 2 8 := tqB
instance : Zm Tryz.prog 2 (.int .i64 0) := tqO
instance : Yr Tryz.prog 2 .i64 := ⟨by kernel_rfl⟩
instance : TyS Tryz.prog 3 := tqS
instance : Zl Tryz.prog 3 false := tqI
instance : ZB Tryz.prog 3 1 := tqN
instance : Zk Tryz.prog 3 8 := tqB
instance : Zm Tryz.prog 3 (.int .i64 0) := tqO
instance : Yr Tryz.prog 3 .i64 := ⟨by kernel_rfl⟩
instance : TyS Tryz.prog 4 := tqS
instance : Zl Tryz.prog 4 false := tqI
instance : ZB Tryz.prog 4 1 := tqN
instance : Zk Tryz.prog 4 1 := tqB
instance : Zm Tryz.prog 4 (.bool false) := tqO
instance : TyBool Tryz.prog 4 := ⟨by kernel_rfl⟩
instance : TyS Tryz.prog 5 := tqS
instance : Zl Tryz.prog 5 false := tqI
instance : ZB Tryz.prog 5 1 := tqN
instance : Zk Tryz.prog 5 1 := tqB
instance : Zm Tryz.prog 5 (.int .u8 0) := tqO
instance : Yr Tryz.prog 5 .u8 := ⟨by kernel_rfl⟩
instance : TyA Tryz.prog 7 4 := tqA
instance : Zl Tryz.prog 7 false := tqI
instance : ZB Tryz.prog 7 4 := tqN
instance : Zk Tryz.prog 7 24 := tqB
instance : Zm Tryz.prog 7 (.agg ⟨[.int .i64 0, .int .i64 0, .bool false, .int .u8 0]⟩) := tqO
instance : ZE Tryz.prog 7 := ⟨by kernel_rfl⟩
instance : ZR Tryz.prog 7 0 0 2 := ZU
instance : ZR Tryz.prog 7 1 1 3 := ZU
instance : ZR Tryz.prog 7 2 2 4 := ZU
instance : ZR Tryz.prog 7 3 3 6 := ZU
instance : ZA Tryz.prog 7 (([(0, 1), (1, 1), (2, 1), (3, 1)] : List (Nat × Nat))[·]?) := Zw (by kernel_rfl)
instance : TyS Tryz.prog 9 := tqS
instance : Zl Tryz.prog 9 false := tqI
instance : ZB Tryz.prog 9 1 := tqN
instance : Zk Tryz.prog 9 16 := tqB
instance : Zm Tryz.prog 9 (.string ⟨⟨[]⟩⟩) := tqO
instance : TyStr Tryz.prog 9 := ⟨by kernel_rfl⟩
instance : TyS Tryz.prog 12 := tqS
instance : Zl Tryz.prog 12 false := tqI
instance : ZB Tryz.prog 12 1 := tqN
instance : Zk Tryz.prog 12 8 := tqB
instance : Zm Tryz.prog 12 (.int .u64 0) := tqO
instance : Yr Tryz.prog 12 .u64 := ⟨by kernel_rfl⟩
instance : TyS Tryz.prog 16 := tqS
instance : Zl Tryz.prog 16 false := tqI
instance : ZB Tryz.prog 16 1 := tqN
instance : Zk Tryz.prog 16 8 := tqB
instance : Zm Tryz.prog 16 (.pointer none) := tqO
instance : TyPtr Tryz.prog 16 389 := ⟨by kernel_rfl⟩
instance : TyS Tryz.prog 17 := tqS
instance : Zl Tryz.prog 17 false := tqI
instance : ZB Tryz.prog 17 1 := tqN
instance : Zk Tryz.prog 17 8 := tqB
instance : Zm Tryz.prog 17 (.pointer none) := tqO
instance : TyPtr Tryz.prog 17 397 := ⟨by kernel_rfl⟩
instance : TyS Tryz.prog 20 := tqS
instance : Zl Tryz.prog 20 true := tqI
instance : ZB Tryz.prog 20 1 := tqN
instance : Zk Tryz.prog 20 16 := tqB
instance : Zm Tryz.prog 20 (.nilIface) := tqO
instance : TyS Tryz.prog 21 := tqS
instance : Zl Tryz.prog 21 false := tqI
instance : ZB Tryz.prog 21 1 := tqN
instance : Zk Tryz.prog 21 4 := tqB
instance : Zm Tryz.prog 21 (.int .i32 0) := tqO
instance : Yr Tryz.prog 21 .i32 := ⟨by kernel_rfl⟩
instance : TyS Tryz.prog 22 := tqS
instance : Zl Tryz.prog 22 false := tqI
instance : ZB Tryz.prog 22 1 := tqN
instance : Zk Tryz.prog 22 24 := tqB
instance : Zm Tryz.prog 22 (.slice none 0 0) := tqO
instance : ZM Tryz.prog 22 30 := ⟨by kernel_rfl⟩
instance : TyS Tryz.prog 23 := tqS
instance : Zl Tryz.prog 23 false := tqI
instance : Yj Tryz.prog 23 := tqF
instance : ZB Tryz.prog 23 1 := tqN
instance : Zk Tryz.prog 23 8 := tqB
instance : Zm Tryz.prog 23 (.nilFunc) := tqO
instance : TyS Tryz.prog 24 := tqS
instance : Zl Tryz.prog 24 false := tqI
instance : ZB Tryz.prog 24 1 := tqN
instance : Zk Tryz.prog 24 8 := tqB
instance : Zm Tryz.prog 24 (.int .u64 0) := tqO
instance : Yr Tryz.prog 24 .u64 := ⟨by kernel_rfl⟩
instance : TyS Tryz.prog 25 := tqS
instance : Zl Tryz.prog 25 false := tqI
instance : ZB Tryz.prog 25 1 := tqN
instance : Zk Tryz.prog 25 24 := tqB
instance : Zm Tryz.prog 25 (.slice none 0 0) := tqO
instance : ZM Tryz.prog 25 128 := ⟨by kernel_rfl⟩
instance : TyS Tryz.prog 26 := tqS
instance : Zl Tryz.prog 26 false := tqI
instance : ZB Tryz.prog 26 1 := tqN
instance : Zk Tryz.prog 26 24 := tqB
instance : Zm Tryz.prog 26 (.slice none 0 0) := tqO
instance : ZM Tryz.prog 26 103 := ⟨by kernel_rfl⟩
instance : TyS Tryz.prog 27 := tqS
instance : Zl Tryz.prog 27 false := tqI
instance : ZB Tryz.prog 27 1 := tqN
instance : Zk Tryz.prog 27 24 := tqB
instance : Zm Tryz.prog 27 (.slice none 0 0) := tqO
instance : ZM Tryz.prog 27 81 := ⟨by kernel_rfl⟩
instance : TyS Tryz.prog 28 := tqS
instance : Zl Tryz.prog 28 false := tqI
instance : ZB Tryz.prog 28 1 := tqN
instance : Zk Tryz.prog 28 24 := tqB
instance : Zm Tryz.prog 28 (.slice none 0 0) := tqO
instance : ZM Tryz.prog 28 125 := ⟨by kernel_rfl⟩
instance : TyA Tryz.prog 29 10 := tqA
instance : Zl Tryz.prog 29 false := tqI
instance : ZB Tryz.prog 29 10 := tqN
instance : Zk Tryz.prog 29 144 := tqB
instance : Zm Tryz.prog 29 (.agg ⟨[.int .i64 0, .int .u64 0, .int .i64 0, .int .u64 0, .int .u64 0, .slice none 0 0, .slice none 0 0, .int .i64 0, .slice none 0 0, .slice none 0 0]⟩) := tqO
instance : ZE Tryz.prog 29 := ⟨by kernel_rfl⟩
instance : ZR Tryz.prog 29 0 0 3 := ZU
instance : ZR Tryz.prog 29 1 1 24 := ZU
instance : ZR Tryz.prog 29 2 2 3 := ZU
instance : ZR Tryz.prog 29 3 3 24 := ZU
instance : ZR Tryz.prog 29 4 4 24 := ZU
instance : ZR Tryz.prog 29 5 5 25 := ZU
instance : ZR Tryz.prog 29 6 6 26 := ZU
instance : ZR Tryz.prog 29 7 7 3 := ZU
instance : ZR Tryz.prog 29 8 8 27 := ZU
instance : ZR Tryz.prog 29 9 9 28 := ZU
instance : ZA Tryz.prog 29 (([(0, 1), (1, 1), (2, 1), (3, 1), (4, 1), (5, 1), (6, 1), (7, 1), (8, 1), (9, 1)] : List (Nat × Nat))[·]?) := Zw (by kernel_rfl)
instance : TyA Tryz.prog 30 10 := tqA
instance : Zl Tryz.prog 30 false := tqI
instance : ZB Tryz.prog 30 10 := tqN
instance : Zk Tryz.prog 30 144 := tqB
instance : Zm Tryz.prog 30 (.agg ⟨[.int .i64 0, .int .u64 0, .int .i64 0, .int .u64 0, .int .u64 0, .slice none 0 0, .slice none 0 0, .int .i64 0, .slice none 0 0, .slice none 0 0]⟩) := tqO
instance : ZE Tryz.prog 30 := ⟨by kernel_rfl⟩
instance : Yy Tryz.prog 30 [(0, 3), (1, 24), (2, 3), (3, 24), (4, 24), (5, 25), (6, 26), (7, 3), (8, 27), (9, 28)] := Ye (by kernel_rfl)
instance : ZR Tryz.prog 30 0 0 3 := ZU
instance : ZR Tryz.prog 30 1 1 24 := ZU
instance : ZR Tryz.prog 30 2 2 3 := ZU
instance : ZR Tryz.prog 30 3 3 24 := ZU
instance : ZR Tryz.prog 30 4 4 24 := ZU
instance : ZR Tryz.prog 30 5 5 25 := ZU
instance : ZR Tryz.prog 30 6 6 26 := ZU
instance : ZR Tryz.prog 30 7 7 3 := ZU
instance : ZR Tryz.prog 30 8 8 27 := ZU
instance : ZR Tryz.prog 30 9 9 28 := ZU
instance : ZA Tryz.prog 30 (([(0, 1), (1, 1), (2, 1), (3, 1), (4, 1), (5, 1), (6, 1), (7, 1), (8, 1), (9, 1)] : List (Nat × Nat))[·]?) := Zw (by kernel_rfl)
instance : TyS Tryz.prog 32 := tqS
instance : Zl Tryz.prog 32 false := tqI
instance : ZB Tryz.prog 32 1 := tqN
instance : Zk Tryz.prog 32 24 := tqB
instance : Zm Tryz.prog 32 (.slice none 0 0) := tqO
instance : ZM Tryz.prog 32 72 := ⟨by kernel_rfl⟩
instance : TyS Tryz.prog 35 := tqS
instance : Zl Tryz.prog 35 false := tqI
instance : ZB Tryz.prog 35 1 := tqN
instance : Zk Tryz.prog 35 8 := tqB
instance : Zm Tryz.prog 35 (.int .i64 0) := tqO
instance : Yr Tryz.prog 35 .i64 := ⟨by kernel_rfl⟩
instance : TyS Tryz.prog 40 := tqS
instance : Zl Tryz.prog 40 false := tqI
instance : Yj Tryz.prog 40 := tqF
instance : ZB Tryz.prog 40 1 := tqN
instance : Zk Tryz.prog 40 8 := tqB
instance : Zm Tryz.prog 40 (.nilFunc) := tqO
instance : TyS Tryz.prog 43 := tqS
instance : Zl Tryz.prog 43 false := tqI
instance : ZB Tryz.prog 43 1 := tqN
instance : Zk Tryz.prog 43 24 := tqB
instance : Zm Tryz.prog 43 (.slice none 0 0) := tqO
instance : ZM Tryz.prog 43 44 := ⟨by kernel_rfl⟩
instance : TyS Tryz.prog 44 := tqS
instance : Zl Tryz.prog 44 false := tqI
instance : ZB Tryz.prog 44 1 := tqN
instance : Zk Tryz.prog 44 24 := tqB
instance : Zm Tryz.prog 44 (.slice none 0 0) := tqO
instance : ZM Tryz.prog 44 5 := ⟨by kernel_rfl⟩
instance : TyS Tryz.prog 48 := tqS
instance : Zl Tryz.prog 48 false := tqI
instance : Yj Tryz.prog 48 := tqF
instance : ZB Tryz.prog 48 1 := tqN
instance : Zk Tryz.prog 48 8 := tqB
instance : Zm Tryz.prog 48 (.nilFunc) := tqO
instance : TyS Tryz.prog 56 := tqS
instance : Zl Tryz.prog 56 false := tqI
instance : Yj Tryz.prog 56 := tqF
instance : ZB Tryz.prog 56 1 := tqN
instance : Zk Tryz.prog 56 8 := tqB
instance : Zm Tryz.prog 56 (.nilFunc) := tqO
instance : TyS Tryz.prog 57 := tqS
instance : Zl Tryz.prog 57 false := tqI
instance : ZB Tryz.prog 57 1 := tqN
instance : Zk Tryz.prog 57 24 := tqB
instance : Zm Tryz.prog 57 (.slice none 0 0) := tqO
instance : ZM Tryz.prog 57 3 := ⟨by kernel_rfl⟩
instance : TyA Tryz.prog 64 15 := tqA
instance : Zl Tryz.prog 64 false := tqI
instance : ZB Tryz.prog 64 15 := tqN
instance : Zk Tryz.prog 64 184 := tqB
instance : Zm Tryz.prog 64 (.agg ⟨[.int .i64 0, .int .i64 0, .int .i64 0, .int .i64 0, .bool false, .int .i64 0, .int .u64 0, .int .i64 0, .int .u64 0, .int .u64 0, .slice none 0 0, .slice none 0 0, .int .i64 0, .slice none 0 0, .slice none 0 0]⟩) := tqO
instance : ZE Tryz.prog 64 := ⟨by kernel_rfl⟩
instance : ZR Tryz.prog 64 0 0 3 := ZU
instance : ZR Tryz.prog 64 1 1 3 := ZU
instance : ZR Tryz.prog 64 2 2 3 := ZU
instance : ZR Tryz.prog 64 3 3 3 := ZU
instance : ZR Tryz.prog 64 4 4 4 := ZU
instance : ZR Tryz.prog 64 5 5 30 := ZU
instance : ZA Tryz.prog 64 (([(0, 1), (1, 1), (2, 1), (3, 1), (4, 1), (5, 10)] : List (Nat × Nat))[·]?) := Zw (by kernel_rfl)
instance : TyS Tryz.prog 69 := tqS
instance : Zl Tryz.prog 69 false := tqI
instance : ZB Tryz.prog 69 1 := tqN
instance : Zk Tryz.prog 69 24 := tqB
instance : Zm Tryz.prog 69 (.slice none 0 0) := tqO
instance : ZM Tryz.prog 69 74 := ⟨by kernel_rfl⟩
instance : TyS Tryz.prog 70 := tqS
instance : Zl Tryz.prog 70 false := tqI
instance : ZB Tryz.prog 70 1 := tqN
instance : Zk Tryz.prog 70 24 := tqB
instance : Zm Tryz.prog 70 (.slice none 0 0) := tqO
instance : ZM Tryz.prog 70 24 := ⟨by kernel_rfl⟩
instance : TyA Tryz.prog 71 7 := tqA
instance : Zl Tryz.prog 71 false := tqI
instance : ZB Tryz.prog 71 7 := tqN
instance : Zk Tryz.prog 71 88 := tqB
instance : Zm Tryz.prog 71 (.agg ⟨[.int .i64 0, .int .i64 0, .int .u64 0, .int .u64 0, .int .u64 0, .slice none 0 0, .slice none 0 0]⟩) := tqO
instance : ZE Tryz.prog 71 := ⟨by kernel_rfl⟩
instance : ZR Tryz.prog 71 0 0 3 := ZU
instance : ZR Tryz.prog 71 1 1 3 := ZU
instance : ZR Tryz.prog 71 2 2 24 := ZU
instance : ZR Tryz.prog 71 3 3 24 := ZU
instance : ZR Tryz.prog 71 4 4 24 := ZU
instance : ZR Tryz.prog 71 5 5 69 := ZU
instance : ZR Tryz.prog 71 6 6 70 := ZU
instance : ZA Tryz.prog 71 (([(0, 1), (1, 1), (2, 1), (3, 1), (4, 1), (5, 1), (6, 1)] : List (Nat × Nat))[·]?) := Zw (by kernel_rfl)
instance : TyA Tryz.prog 72 7 := tqA
instance : Zl Tryz.prog 72 false := tqI
instance : ZB Tryz.prog 72 7 := tqN
instance : Zk Tryz.prog 72 88 := tqB
instance : Zm Tryz.prog 72 (.agg ⟨[.int .i64 0, .int .i64 0, .int .u64 0, .int .u64 0, .int .u64 0, .slice none 0 0, .slice none 0 0]⟩) := tqO
instance : ZE Tryz.prog 72 := ⟨by kernel_rfl⟩
instance : Yy Tryz.prog 72 [(0, 3), (1, 3), (2, 24), (3, 24), (4, 24), (5, 69), (6, 70)] := Ye (by kernel_rfl)
instance : ZR Tryz.prog 72 0 0 3 := ZU
instance : ZR Tryz.prog 72 1 1 3 := ZU
instance : ZR Tryz.prog 72 2 2 24 := ZU
instance : ZR Tryz.prog 72 3 3 24 := ZU
instance : ZR Tryz.prog 72 4 4 24 := ZU
instance : ZR Tryz.prog 72 5 5 69 := ZU
instance : ZR Tryz.prog 72 6 6 70 := ZU
instance : ZA Tryz.prog 72 (([(0, 1), (1, 1), (2, 1), (3, 1), (4, 1), (5, 1), (6, 1)] : List (Nat × Nat))[·]?) := Zw (by kernel_rfl)
instance : TyA Tryz.prog 73 2 := tqA
instance : Zl Tryz.prog 73 false := tqI
instance : ZB Tryz.prog 73 2 := tqN
instance : Zk Tryz.prog 73 16 := tqB
instance : Zm Tryz.prog 73 (.agg ⟨[.int .u64 0, .int .i64 0]⟩) := tqO
instance : ZE Tryz.prog 73 := ⟨by kernel_rfl⟩
instance : ZR Tryz.prog 73 0 0 24 := ZU
instance : ZR Tryz.prog 73 1 1 3 := ZU
instance : ZA Tryz.prog 73 (([(0, 1), (1, 1)] : List (Nat × Nat))[·]?) := Zw (by kernel_rfl)
instance : TyA Tryz.prog 74 2 := tqA
instance : Zl Tryz.prog 74 false := tqI
instance : ZB Tryz.prog 74 2 := tqN
instance : Zk Tryz.prog 74 16 := tqB
instance : Zm Tryz.prog 74 (.agg ⟨[.int .u64 0, .int .i64 0]⟩) := tqO
instance : ZE Tryz.prog 74 := ⟨by kernel_rfl⟩
instance : Yy Tryz.prog 74 [(0, 24), (1, 3)] := Ye (by kernel_rfl)
instance : ZR Tryz.prog 74 0 0 24 := ZU
instance : ZR Tryz.prog 74 1 1 3 := ZU
instance : ZA Tryz.prog 74 (([(0, 1), (1, 1)] : List (Nat × Nat))[·]?) := Zw (by kernel_rfl)
instance : TyA Tryz.prog 80 5 := tqA
instance : Zl Tryz.prog 80 false := tqI
instance : ZB Tryz.prog 80 5 := tqN
instance : Zk Tryz.prog 80 40 := tqB
instance : Zm Tryz.prog 80 (.agg ⟨[.int .i64 0, .int .u64 0, .int .u64 0, .int .u64 0, .int .i64 0]⟩) := tqO
instance : ZE Tryz.prog 80 := ⟨by kernel_rfl⟩
instance : ZR Tryz.prog 80 0 0 3 := ZU
instance : ZR Tryz.prog 80 1 1 24 := ZU
instance : ZR Tryz.prog 80 2 2 24 := ZU
instance : ZR Tryz.prog 80 3 3 24 := ZU
instance : ZR Tryz.prog 80 4 4 3 := ZU
instance : ZA Tryz.prog 80 (([(0, 1), (1, 1), (2, 1), (3, 1), (4, 1)] : List (Nat × Nat))[·]?) := Zw (by kernel_rfl)
instance : TyA Tryz.prog 81 5 := tqA
instance : Zl Tryz.prog 81 false := tqI
instance : ZB Tryz.prog 81 5 := tqN
instance : Zk Tryz.prog 81 40 := tqB
instance : Zm Tryz.prog 81 (.agg ⟨[.int .i64 0, .int .u64 0, .int .u64 0, .int .u64 0, .int .i64 0]⟩) := tqO
instance : ZE Tryz.prog 81 := ⟨by kernel_rfl⟩
instance : Yy Tryz.prog 81 [(0, 3), (1, 24), (2, 24), (3, 24), (4, 3)] := Ye (by kernel_rfl)
instance : ZR Tryz.prog 81 0 0 3 := ZU
instance : ZR Tryz.prog 81 1 1 24 := ZU
instance : ZR Tryz.prog 81 2 2 24 := ZU
instance : ZR Tryz.prog 81 3 3 24 := ZU
instance : ZR Tryz.prog 81 4 4 3 := ZU
instance : ZA Tryz.prog 81 (([(0, 1), (1, 1), (2, 1), (3, 1), (4, 1)] : List (Nat × Nat))[·]?) := Zw (by kernel_rfl)
instance : TyS Tryz.prog 83 := tqS
instance : Zl Tryz.prog 83 false := tqI
instance : ZB Tryz.prog 83 1 := tqN
instance : Zk Tryz.prog 83 8 := tqB
instance : Zm Tryz.prog 83 (.int .u64 0) := tqO
instance : Yr Tryz.prog 83 .u64 := ⟨by kernel_rfl⟩
instance : TyS Tryz.prog 88 := tqS
instance : Zl Tryz.prog 88 false := tqI
instance : Yj Tryz.prog 88 := tqF
instance : ZB Tryz.prog 88 1 := tqN
instance : Zk Tryz.prog 88 8 := tqB
instance : Zm Tryz.prog 88 (.nilFunc) := tqO
instance : TyS Tryz.prog 96 := tqS
instance : Zl Tryz.prog 96 false := tqI
instance : Yj Tryz.prog 96 := tqF
instance : ZB Tryz.prog 96 1 := tqN
instance : Zk Tryz.prog 96 8 := tqB
instance : Zm Tryz.prog 96 (.nilFunc) := tqO
instance : TyS Tryz.prog 97 := tqS
instance : Zl Tryz.prog 97 false := tqI
instance : ZB Tryz.prog 97 1 := tqN
instance : Zk Tryz.prog 97 2 := tqB
instance : Zm Tryz.prog 97 (.int .u16 0) := tqO
instance : Yr Tryz.prog 97 .u16 := ⟨by kernel_rfl⟩
instance : TyA Tryz.prog 98 2 := tqA
instance : Zl Tryz.prog 98 false := tqI
instance : ZB Tryz.prog 98 2 := tqN
instance : Zk Tryz.prog 98 16 := tqB
instance : Zm Tryz.prog 98 (.agg ⟨[.int .i64 0, .int .u16 0]⟩) := tqO
instance : ZE Tryz.prog 98 := ⟨by kernel_rfl⟩
instance : ZR Tryz.prog 98 0 0 3 := ZU
instance : ZR Tryz.prog 98 1 1 97 := ZU
instance : ZA Tryz.prog 98 (([(0, 1), (1, 1)] : List (Nat × Nat))[·]?) := Zw (by kernel_rfl)
instance : TyA Tryz.prog 99 2 := tqA
instance : Zl Tryz.prog 99 false := tqI
instance : ZB Tryz.prog 99 2 := tqN
instance : Zk Tryz.prog 99 16 := tqB
instance : Zm Tryz.prog 99 (.agg ⟨[.int .i64 0, .int .u16 0]⟩) := tqO
instance : ZE Tryz.prog 99 := ⟨by kernel_rfl⟩
instance : Yy Tryz.prog 99 [(0, 3), (1, 97)] := Ye (by kernel_rfl)
instance : ZR Tryz.prog 99 0 0 3 := ZU
instance : ZR Tryz.prog 99 1 1 97 := ZU
instance : ZA Tryz.prog 99 (([(0, 1), (1, 1)] : List (Nat × Nat))[·]?) := Zw (by kernel_rfl)
instance : TyA Tryz.prog 100 4 := tqA
instance : Zl Tryz.prog 100 false := tqI
instance : ZB Tryz.prog 100 4 := tqN
instance : Zk Tryz.prog 100 40 := tqB
instance : Zm Tryz.prog 100 (.agg ⟨[.int .i64 0, .int .u16 0, .int .i64 0, .string ⟨⟨[]⟩⟩]⟩) := tqO
instance : ZE Tryz.prog 100 := ⟨by kernel_rfl⟩
instance : ZR Tryz.prog 100 0 0 99 := ZU
instance : ZR Tryz.prog 100 1 2 2 := ZU
instance : ZR Tryz.prog 100 2 3 9 := ZU
instance : ZA Tryz.prog 100 (([(0, 2), (2, 1), (3, 1)] : List (Nat × Nat))[·]?) := Zw (by kernel_rfl)
instance : TyA Tryz.prog 101 4 := tqA
instance : Zl Tryz.prog 101 false := tqI
instance : ZB Tryz.prog 101 4 := tqN
instance : Zk Tryz.prog 101 40 := tqB
instance : Zm Tryz.prog 101 (.agg ⟨[.int .i64 0, .int .u16 0, .int .i64 0, .string ⟨⟨[]⟩⟩]⟩) := tqO
instance : ZE Tryz.prog 101 := ⟨by kernel_rfl⟩
instance : Yy Tryz.prog 101 [(0, 99), (2, 2), (3, 9)] := Ye (by kernel_rfl)
instance : ZR Tryz.prog 101 0 0 99 := ZU
instance : ZR Tryz.prog 101 1 2 2 := ZU
instance : ZR Tryz.prog 101 2 3 9 := ZU
instance : ZA Tryz.prog 101 (([(0, 2), (2, 1), (3, 1)] : List (Nat × Nat))[·]?) := Zw (by kernel_rfl)
instance : TyA Tryz.prog 102 6 := tqA
instance : Zl Tryz.prog 102 false := tqI
instance : ZB Tryz.prog 102 6 := tqN
instance : Zk Tryz.prog 102 56 := tqB
instance : Zm Tryz.prog 102 (.agg ⟨[.int .i64 0, .int .i64 0, .int .u16 0, .int .i64 0, .string ⟨⟨[]⟩⟩, .int .i64 0]⟩) := tqO
instance : ZE Tryz.prog 102 := ⟨by kernel_rfl⟩
instance : ZR Tryz.prog 102 0 0 3 := ZU
instance : ZR Tryz.prog 102 1 1 101 := ZU
instance : ZR Tryz.prog 102 2 5 2 := ZU
instance : ZA Tryz.prog 102 (([(0, 1), (1, 4), (5, 1)] : List (Nat × Nat))[·]?) := Zw (by kernel_rfl)
instance : TyA Tryz.prog 103 6 := tqA
instance : Zl Tryz.prog 103 false := tqI
instance : ZB Tryz.prog 103 6 := tqN
instance : Zk Tryz.prog 103 56 := tqB
instance : Zm Tryz.prog 103 (.agg ⟨[.int .i64 0, .int .i64 0, .int .u16 0, .int .i64 0, .string ⟨⟨[]⟩⟩, .int .i64 0]⟩) := tqO
instance : ZE Tryz.prog 103 := ⟨by kernel_rfl⟩
instance : Yy Tryz.prog 103 [(0, 3), (1, 101), (5, 2)] := Ye (by kernel_rfl)
instance : ZR Tryz.prog 103 0 0 3 := ZU
instance : ZR Tryz.prog 103 1 1 101 := ZU
instance : ZR Tryz.prog 103 2 5 2 := ZU
instance : ZA Tryz.prog 103 (([(0, 1), (1, 4), (5, 1)] : List (Nat × Nat))[·]?) := Zw (by kernel_rfl)
instance : TyS Tryz.prog 106 := tqS
instance : Zl Tryz.prog 106 false := tqI
instance : ZB Tryz.prog 106 1 := tqN
instance : Zk Tryz.prog 106 24 := tqB
instance : Zm Tryz.prog 106 (.slice none 0 0) := tqO
instance : ZM Tryz.prog 106 112 := ⟨by kernel_rfl⟩
instance : TyS Tryz.prog 107 := tqS
instance : Zl Tryz.prog 107 false := tqI
instance : ZB Tryz.prog 107 1 := tqN
instance : Zk Tryz.prog 107 24 := tqB
instance : Zm Tryz.prog 107 (.slice none 0 0) := tqO
instance : ZM Tryz.prog 107 101 := ⟨by kernel_rfl⟩
instance : TyS Tryz.prog 108 := tqS
instance : Zl Tryz.prog 108 false := tqI
instance : ZB Tryz.prog 108 1 := tqN
instance : Zk Tryz.prog 108 24 := tqB
instance : Zm Tryz.prog 108 (.slice none 0 0) := tqO
instance : ZM Tryz.prog 108 224 := ⟨by kernel_rfl⟩
instance : TyA Tryz.prog 109 3 := tqA
instance : Zl Tryz.prog 109 false := tqI
instance : ZB Tryz.prog 109 3 := tqN
instance : Zk Tryz.prog 109 56 := tqB
instance : Zm Tryz.prog 109 (.agg ⟨[.int .i64 0, .slice none 0 0, .slice none 0 0]⟩) := tqO
instance : ZE Tryz.prog 109 := ⟨by kernel_rfl⟩
instance : ZR Tryz.prog 109 0 0 3 := ZU
instance : ZR Tryz.prog 109 1 1 107 := ZU
instance : ZR Tryz.prog 109 2 2 108 := ZU
instance : ZA Tryz.prog 109 (([(0, 1), (1, 1), (2, 1)] : List (Nat × Nat))[·]?) := Zw (by kernel_rfl)
instance : TyA Tryz.prog 110 3 := tqA
instance : Zl Tryz.prog 110 false := tqI
instance : ZB Tryz.prog 110 3 := tqN
instance : Zk Tryz.prog 110 56 := tqB
instance : Zm Tryz.prog 110 (.agg ⟨[.int .i64 0, .slice none 0 0, .slice none 0 0]⟩) := tqO
instance : ZE Tryz.prog 110 := ⟨by kernel_rfl⟩
instance : Yy Tryz.prog 110 [(0, 3), (1, 107), (2, 108)] := Ye (by kernel_rfl)
instance : ZR Tryz.prog 110 0 0 3 := ZU
instance : ZR Tryz.prog 110 1 1 107 := ZU
instance : ZR Tryz.prog 110 2 2 108 := ZU
instance : ZA Tryz.prog 110 (([(0, 1), (1, 1), (2, 1)] : List (Nat × Nat))[·]?) := Zw (by kernel_rfl)
instance : TyA Tryz.prog 111 4 := tqA
instance : Zl Tryz.prog 111 false := tqI
instance : ZB Tryz.prog 111 4 := tqN
instance : Zk Tryz.prog 111 64 := tqB
instance : Zm Tryz.prog 111 (.agg ⟨[.int .i64 0, .slice none 0 0, .slice none 0 0, .int .u64 0]⟩) := tqO
instance : ZE Tryz.prog 111 := ⟨by kernel_rfl⟩
instance : ZR Tryz.prog 111 0 0 110 := ZU
instance : ZR Tryz.prog 111 1 3 24 := ZU
instance : ZA Tryz.prog 111 (([(0, 3), (3, 1)] : List (Nat × Nat))[·]?) := Zw (by kernel_rfl)
instance : TyA Tryz.prog 112 4 := tqA
instance : Zl Tryz.prog 112 false := tqI
instance : ZB Tryz.prog 112 4 := tqN
instance : Zk Tryz.prog 112 64 := tqB
instance : Zm Tryz.prog 112 (.agg ⟨[.int .i64 0, .slice none 0 0, .slice none 0 0, .int .u64 0]⟩) := tqO
instance : ZE Tryz.prog 112 := ⟨by kernel_rfl⟩
instance : Yy Tryz.prog 112 [(0, 110), (3, 24)] := Ye (by kernel_rfl)
instance : ZR Tryz.prog 112 0 0 110 := ZU
instance : ZR Tryz.prog 112 1 3 24 := ZU
instance : ZA Tryz.prog 112 (([(0, 3), (3, 1)] : List (Nat × Nat))[·]?) := Zw (by kernel_rfl)
instance : TyS Tryz.prog 114 := tqS
instance : Zl Tryz.prog 114 false := tqI
instance : ZB Tryz.prog 114 1 := tqN
instance : Zk Tryz.prog 114 24 := tqB
instance : Zm Tryz.prog 114 (.slice none 0 0) := tqO
instance : ZM Tryz.prog 114 189 := ⟨by kernel_rfl⟩
instance : TyS Tryz.prog 120 := tqS
instance : Zl Tryz.prog 120 false := tqI
instance : Yj Tryz.prog 120 := tqF
instance : ZB Tryz.prog 120 1 := tqN
instance : Zk Tryz.prog 120 8 := tqB
instance : Zm Tryz.prog 120 (.nilFunc) := tqO
instance : TyA Tryz.prog 124 2 := tqA
instance : Zl Tryz.prog 124 false := tqI
instance : ZB Tryz.prog 124 2 := tqN
instance : Zk Tryz.prog 124 16 := tqB
instance : Zm Tryz.prog 124 (.agg ⟨[.int .i64 0, .int .u64 0]⟩) := tqO
instance : ZE Tryz.prog 124 := ⟨by kernel_rfl⟩
instance : ZR Tryz.prog 124 0 0 3 := ZU
instance : ZR Tryz.prog 124 1 1 24 := ZU
instance : ZA Tryz.prog 124 (([(0, 1), (1, 1)] : List (Nat × Nat))[·]?) := Zw (by kernel_rfl)
instance : TyA Tryz.prog 125 2 := tqA
instance : Zl Tryz.prog 125 false := tqI
instance : ZB Tryz.prog 125 2 := tqN
instance : Zk Tryz.prog 125 16 := tqB
instance : Zm Tryz.prog 125 (.agg ⟨[.int .i64 0, .int .u64 0]⟩) := tqO
instance : ZE Tryz.prog 125 := ⟨by kernel_rfl⟩
instance : Yy Tryz.prog 125 [(0, 3), (1, 24)] := Ye (by kernel_rfl)
instance : ZR Tryz.prog 125 0 0 3 := ZU
instance : ZR Tryz.prog 125 1 1 24 := ZU
instance : ZA Tryz.prog 125 (([(0, 1), (1, 1)] : List (Nat × Nat))[·]?) := Zw (by kernel_rfl)
instance : TyA Tryz.prog 127 7 := tqA
instance : Zl Tryz.prog 127 false := tqI
instance : ZB Tryz.prog 127 7 := tqN
instance : Zk Tryz.prog 127 120 := tqB
instance : Zm Tryz.prog 127 (.agg ⟨[.int .i64 0, .int .i64 0, .slice none 0 0, .slice none 0 0, .int .i64 0, .slice none 0 0, .slice none 0 0]⟩) := tqO
instance : ZE Tryz.prog 127 := ⟨by kernel_rfl⟩
instance : ZR Tryz.prog 127 0 0 3 := ZU
instance : ZR Tryz.prog 127 1 1 110 := ZU
instance : ZR Tryz.prog 127 2 4 110 := ZU
instance : ZA Tryz.prog 127 (([(0, 1), (1, 3), (4, 3)] : List (Nat × Nat))[·]?) := Zw (by kernel_rfl)
instance : TyA Tryz.prog 128 7 := tqA
instance : Zl Tryz.prog 128 false := tqI
instance : ZB Tryz.prog 128 7 := tqN
instance : Zk Tryz.prog 128 120 := tqB
instance : Zm Tryz.prog 128 (.agg ⟨[.int .i64 0, .int .i64 0, .slice none 0 0, .slice none 0 0, .int .i64 0, .slice none 0 0, .slice none 0 0]⟩) := tqO
instance : ZE Tryz.prog 128 := ⟨by kernel_rfl⟩
instance : Yy Tryz.prog 128 [(0, 3), (1, 110), (4, 110)] := Ye (by kernel_rfl)
instance : ZR Tryz.prog 128 0 0 3 := ZU
instance : ZR Tryz.prog 128 1 1 110 := ZU
instance : ZR Tryz.prog 128 2 4 110 := ZU
instance : ZA Tryz.prog 128 (([(0, 1), (1, 3), (4, 3)] : List (Nat × Nat))[·]?) := Zw (by kernel_rfl)
instance : TyS Tryz.prog 141 := tqS
instance : Zl Tryz.prog 141 false := tqI
instance : ZB Tryz.prog 141 1 := tqN
instance : Zk Tryz.prog 141 4 := tqB
instance : Zm Tryz.prog 141 (.int .u32 0) := tqO
instance : Yr Tryz.prog 141 .u32 := ⟨by kernel_rfl⟩
instance : TyS Tryz.prog 156 := tqS
instance : Zl Tryz.prog 156 false := tqI
instance : ZB Tryz.prog 156 1 := tqN
instance : Zk Tryz.prog 156 8 := tqB
instance : Zm Tryz.prog 156 (.pointer none) := tqO
instance : TyPtr Tryz.prog 156 158 := ⟨by kernel_rfl⟩
instance : TyA Tryz.prog 157 10 := tqA
instance : Zl Tryz.prog 157 false := tqI
instance : ZB Tryz.prog 157 10 := tqN
instance : Zk Tryz.prog 157 144 := tqB
instance : Zm Tryz.prog 157 (.agg ⟨[.int .i64 0, .int .u64 0, .int .i64 0, .int .u64 0, .int .u64 0, .slice none 0 0, .slice none 0 0, .int .i64 0, .slice none 0 0, .slice none 0 0]⟩) := tqO
instance : ZE Tryz.prog 157 := ⟨by kernel_rfl⟩
instance : ZR Tryz.prog 157 0 0 30 := ZU
instance : ZA Tryz.prog 157 (([(0, 10)] : List (Nat × Nat))[·]?) := Zw (by kernel_rfl)
instance : TyA Tryz.prog 158 10 := tqA
instance : Zl Tryz.prog 158 false := tqI
instance : ZB Tryz.prog 158 10 := tqN
instance : Zk Tryz.prog 158 144 := tqB
instance : Zm Tryz.prog 158 (.agg ⟨[.int .i64 0, .int .u64 0, .int .i64 0, .int .u64 0, .int .u64 0, .slice none 0 0, .slice none 0 0, .int .i64 0, .slice none 0 0, .slice none 0 0]⟩) := tqO
instance : ZE Tryz.prog 158 := ⟨by kernel_rfl⟩
instance : Yy Tryz.prog 158 [(0, 30)] := Ye (by kernel_rfl)
instance : ZR Tryz.prog 158 0 0 30 := ZU
instance : ZA Tryz.prog 158 (([(0, 10)] : List (Nat × Nat))[·]?) := Zw (by kernel_rfl)
instance : TyS Tryz.prog 159 := tqS
instance : Zl Tryz.prog 159 false := tqI
instance : ZB Tryz.prog 159 1 := tqN
instance : Zk Tryz.prog 159 8 := tqB
instance : Zm Tryz.prog 159 (.map none) := tqO
instance : TyMap Tryz.prog 159 3 23 := ⟨by kernel_rfl⟩
instance : TyA Tryz.prog 188 4 := tqA
instance : Zl Tryz.prog 188 false := tqI
instance : ZB Tryz.prog 188 4 := tqN
instance : Zk Tryz.prog 188 64 := tqB
instance : Zm Tryz.prog 188 (.agg ⟨[.int .i64 0, .int .i64 0, .slice none 0 0, .slice none 0 0]⟩) := tqO
instance : ZE Tryz.prog 188 := ⟨by kernel_rfl⟩
instance : ZR Tryz.prog 188 0 0 3 := ZU
instance : ZR Tryz.prog 188 1 1 110 := ZU
instance : ZA Tryz.prog 188 (([(0, 1), (1, 3)] : List (Nat × Nat))[·]?) := Zw (by kernel_rfl)
instance : TyA Tryz.prog 189 4 := tqA
instance : Zl Tryz.prog 189 false := tqI
instance : ZB Tryz.prog 189 4 := tqN
instance : Zk Tryz.prog 189 64 := tqB
instance : Zm Tryz.prog 189 (.agg ⟨[.int .i64 0, .int .i64 0, .slice none 0 0, .slice none 0 0]⟩) := tqO
instance : ZE Tryz.prog 189 := ⟨by kernel_rfl⟩
instance : Yy Tryz.prog 189 [(0, 3), (1, 110)] := Ye (by kernel_rfl)
instance : ZR Tryz.prog 189 0 0 3 := ZU
instance : ZR Tryz.prog 189 1 1 110 := ZU
instance : ZA Tryz.prog 189 (([(0, 1), (1, 3)] : List (Nat × Nat))[·]?) := Zw (by kernel_rfl)
instance : TyS Tryz.prog 192 := tqS
instance : Zl Tryz.prog 192 false := tqI
instance : Yj Tryz.prog 192 := tqF
instance : ZB Tryz.prog 192 1 := tqN
instance : Zk Tryz.prog 192 8 := tqB
instance : Zm Tryz.prog 192 (.nilFunc) := tqO
instance : TyA Tryz.prog 223 3 := tqA
instance : Zl Tryz.prog 223 false := tqI
instance : ZB Tryz.prog 223 3 := tqN
instance : Zk Tryz.prog 223 24 := tqB
instance : Zm Tryz.prog 223 (.agg ⟨[.int .i64 0, .int .u16 0, .int .i64 0]⟩) := tqO
instance : ZE Tryz.prog 223 := ⟨by kernel_rfl⟩
instance : ZR Tryz.prog 223 0 0 99 := ZU
instance : ZR Tryz.prog 223 1 2 3 := ZU
instance : ZA Tryz.prog 223 (([(0, 2), (2, 1)] : List (Nat × Nat))[·]?) := Zw (by kernel_rfl)
instance : TyA Tryz.prog 224 3 := tqA
instance : Zl Tryz.prog 224 false := tqI
instance : ZB Tryz.prog 224 3 := tqN
instance : Zk Tryz.prog 224 24 := tqB
instance : Zm Tryz.prog 224 (.agg ⟨[.int .i64 0, .int .u16 0, .int .i64 0]⟩) := tqO
instance : ZE Tryz.prog 224 := ⟨by kernel_rfl⟩
instance : Yy Tryz.prog 224 [(0, 99), (2, 3)] := Ye (by kernel_rfl)
instance : ZR Tryz.prog 224 0 0 99 := ZU
instance : ZR Tryz.prog 224 1 2 3 := ZU
instance : ZA Tryz.prog 224 (([(0, 2), (2, 1)] : List (Nat × Nat))[·]?) := Zw (by kernel_rfl)
instance : TyS Tryz.prog 227 := tqS
instance : Zl Tryz.prog 227 false := tqI
instance : Yj Tryz.prog 227 := tqF
instance : ZB Tryz.prog 227 1 := tqN
instance : Zk Tryz.prog 227 8 := tqB
instance : Zm Tryz.prog 227 (.nilFunc) := tqO
instance : TyS Tryz.prog 230 := tqS
instance : Zl Tryz.prog 230 false := tqI
instance : Yj Tryz.prog 230 := tqF
instance : ZB Tryz.prog 230 1 := tqN
instance : Zk Tryz.prog 230 8 := tqB
instance : Zm Tryz.prog 230 (.nilFunc) := tqO
instance : TyS Tryz.prog 231 := tqS
instance : Zl Tryz.prog 231 false := tqI
instance : Yj Tryz.prog 231 := tqF
instance : ZB Tryz.prog 231 1 := tqN
instance : Zk Tryz.prog 231 8 := tqB
instance : Zm Tryz.prog 231 (.nilFunc) := tqO
instance : TyS Tryz.prog 233 := tqS
instance : Zl Tryz.prog 233 false := tqI
instance : Yj Tryz.prog 233 := tqF
instance : ZB Tryz.prog 233 1 := tqN
instance : Zk Tryz.prog 233 8 := tqB
instance : Zm Tryz.prog 233 (.nilFunc) := tqO
instance : TyS Tryz.prog 234 := tqS
instance : Zl Tryz.prog 234 false := tqI
instance : Yj Tryz.prog 234 := tqF
instance : ZB Tryz.prog 234 1 := tqN
instance : Zk Tryz.prog 234 8 := tqB
instance : Zm Tryz.prog 234 (.nilFunc) := tqO
instance : TyS Tryz.prog 258 := tqS
instance : Zl Tryz.prog 258 false := tqI
instance : ZB Tryz.prog 258 1 := tqN
instance : Zk Tryz.prog 258 8 := tqB
instance : Zm Tryz.prog 258 (.pointer none) := tqO
instance : TyPtr Tryz.prog 258 308 := ⟨by kernel_rfl⟩
instance : TyS Tryz.prog 262 := tqS
instance : Zl Tryz.prog 262 false := tqI
instance : Yj Tryz.prog 262 := tqF
instance : ZB Tryz.prog 262 1 := tqN
instance : Zk Tryz.prog 262 8 := tqB
instance : Zm Tryz.prog 262 (.nilFunc) := tqO
instance : TyS Tryz.prog 263 := tqS
instance : Zl Tryz.prog 263 false := tqI
instance : Yj Tryz.prog 263 := tqF
instance : ZB Tryz.prog 263 1 := tqN
instance : Zk Tryz.prog 263 8 := tqB
instance : Zm Tryz.prog 263 (.nilFunc) := tqO
instance : TyS Tryz.prog 267 := tqS
instance : Zl Tryz.prog 267 false := tqI
instance : Yj Tryz.prog 267 := tqF
instance : ZB Tryz.prog 267 1 := tqN
instance : Zk Tryz.prog 267 8 := tqB
instance : Zm Tryz.prog 267 (.nilFunc) := tqO
instance : TyS Tryz.prog 270 := tqS
instance : Zl Tryz.prog 270 false := tqI
instance : Yj Tryz.prog 270 := tqF
instance : ZB Tryz.prog 270 1 := tqN
instance : Zk Tryz.prog 270 8 := tqB
instance : Zm Tryz.prog 270 (.nilFunc) := tqO
instance : TyS Tryz.prog 285 := tqS
instance : Zl Tryz.prog 285 false := tqI
instance : Yj Tryz.prog 285 := tqF
instance : ZB Tryz.prog 285 1 := tqN
instance : Zk Tryz.prog 285 8 := tqB
instance : Zm Tryz.prog 285 (.nilFunc) := tqO
instance : TyA Tryz.prog 300 5 := tqA
instance : Zl Tryz.prog 300 false := tqI
instance : ZB Tryz.prog 300 5 := tqN
instance : Zk Tryz.prog 300 72 := tqB
instance : Zm Tryz.prog 300 (.agg ⟨[.int .i64 0, .slice none 0 0, .slice none 0 0, .int .u64 0, .int .u64 0]⟩) := tqO
instance : ZE Tryz.prog 300 := ⟨by kernel_rfl⟩
instance : ZR Tryz.prog 300 0 0 110 := ZU
instance : ZR Tryz.prog 300 1 3 24 := ZU
instance : ZR Tryz.prog 300 2 4 24 := ZU
instance : ZA Tryz.prog 300 (([(0, 3), (3, 1), (4, 1)] : List (Nat × Nat))[·]?) := Zw (by kernel_rfl)
instance : TyA Tryz.prog 301 5 := tqA
instance : Zl Tryz.prog 301 false := tqI
instance : ZB Tryz.prog 301 5 := tqN
instance : Zk Tryz.prog 301 72 := tqB
instance : Zm Tryz.prog 301 (.agg ⟨[.int .i64 0, .slice none 0 0, .slice none 0 0, .int .u64 0, .int .u64 0]⟩) := tqO
instance : ZE Tryz.prog 301 := ⟨by kernel_rfl⟩
instance : Yy Tryz.prog 301 [(0, 110), (3, 24), (4, 24)] := Ye (by kernel_rfl)
instance : ZR Tryz.prog 301 0 0 110 := ZU
instance : ZR Tryz.prog 301 1 3 24 := ZU
instance : ZR Tryz.prog 301 2 4 24 := ZU
instance : ZA Tryz.prog 301 (([(0, 3), (3, 1), (4, 1)] : List (Nat × Nat))[·]?) := Zw (by kernel_rfl)
instance : TyS Tryz.prog 304 := tqS
instance : Zl Tryz.prog 304 false := tqI
instance : ZB Tryz.prog 304 1 := tqN
instance : Zk Tryz.prog 304 8 := tqB
instance : Zm Tryz.prog 304 (.pointer none) := tqO
instance : TyPtr Tryz.prog 304 365 := ⟨by kernel_rfl⟩
instance : TyS Tryz.prog 305 := tqS
instance : Zl Tryz.prog 305 false := tqI
instance : ZB Tryz.prog 305 1 := tqN
instance : Zk Tryz.prog 305 8 := tqB
instance : Zm Tryz.prog 305 (.pointer none) := tqO
instance : TyPtr Tryz.prog 305 356 := ⟨by kernel_rfl⟩
instance : TyS Tryz.prog 306 := tqS
instance : Zl Tryz.prog 306 false := tqI
instance : ZB Tryz.prog 306 1 := tqN
instance : Zk Tryz.prog 306 8 := tqB
instance : Zm Tryz.prog 306 (.map none) := tqO
instance : TyMap Tryz.prog 306 3 301 := ⟨by kernel_rfl⟩
instance : TyA Tryz.prog 307 3 := tqA
instance : Zl Tryz.prog 307 false := tqI
instance : ZB Tryz.prog 307 3 := tqN
instance : Zk Tryz.prog 307 24 := tqB
instance : Zm Tryz.prog 307 (.agg ⟨[.pointer none, .pointer none, .map none]⟩) := tqO
instance : ZE Tryz.prog 307 := ⟨by kernel_rfl⟩
instance : ZR Tryz.prog 307 0 0 304 := ZU
instance : ZR Tryz.prog 307 1 1 305 := ZU
instance : ZR Tryz.prog 307 2 2 306 := ZU
instance : ZA Tryz.prog 307 (([(0, 1), (1, 1), (2, 1)] : List (Nat × Nat))[·]?) := Zw (by kernel_rfl)
instance : TyA Tryz.prog 308 3 := tqA
instance : Zl Tryz.prog 308 false := tqI
instance : ZB Tryz.prog 308 3 := tqN
instance : Zk Tryz.prog 308 24 := tqB
instance : Zm Tryz.prog 308 (.agg ⟨[.pointer none, .pointer none, .map none]⟩) := tqO
instance : ZE Tryz.prog 308 := ⟨by kernel_rfl⟩
instance : Yy Tryz.prog 308 [(0, 304), (1, 305), (2, 306)] := Ye (by kernel_rfl)
instance : ZR Tryz.prog 308 0 0 304 := ZU
instance : ZR Tryz.prog 308 1 1 305 := ZU
instance : ZR Tryz.prog 308 2 2 306 := ZU
instance : ZA Tryz.prog 308 (([(0, 1), (1, 1), (2, 1)] : List (Nat × Nat))[·]?) := Zw (by kernel_rfl)
instance : TyS Tryz.prog 309 := tqS
instance : Zl Tryz.prog 309 false := tqI
instance : Yj Tryz.prog 309 := tqF
instance : ZB Tryz.prog 309 1 := tqN
instance : Zk Tryz.prog 309 8 := tqB
instance : Zm Tryz.prog 309 (.nilFunc) := tqO
instance : TyS Tryz.prog 333 := tqS
instance : Zl Tryz.prog 333 false := tqI
instance : Yj Tryz.prog 333 := tqF
instance : ZB Tryz.prog 333 1 := tqN
instance : Zk Tryz.prog 333 8 := tqB
instance : Zm Tryz.prog 333 (.nilFunc) := tqO
instance : TyS Tryz.prog 334 := tqS
instance : Zl Tryz.prog 334 false := tqI
instance : Yj Tryz.prog 334 := tqF
instance : ZB Tryz.prog 334 1 := tqN
instance : Zk Tryz.prog 334 8 := tqB
instance : Zm Tryz.prog 334 (.nilFunc) := tqO
instance : TyS Tryz.prog 335 := tqS
instance : Zl Tryz.prog 335 false := tqI
instance : ZB Tryz.prog 335 1 := tqN
instance : Zk Tryz.prog 335 8 := tqB
instance : Zm Tryz.prog 335 (.map none) := tqO
instance : TyMap Tryz.prog 335 3 4 := ⟨by kernel_rfl⟩
instance : TyS Tryz.prog 337 := tqS
instance : Zl Tryz.prog 337 false := tqI
instance : Yj Tryz.prog 337 := tqF
instance : ZB Tryz.prog 337 1 := tqN
instance : Zk Tryz.prog 337 8 := tqB
instance : Zm Tryz.prog 337 (.nilFunc) := tqO
instance : TyS Tryz.prog 338 := tqS
instance : Zl Tryz.prog 338 false := tqI
instance : Yj Tryz.prog 338 := tqF
instance : ZB Tryz.prog 338 1 := tqN
instance : Zk Tryz.prog 338 8 := tqB
instance : Zm Tryz.prog 338 (.nilFunc) := tqO
instance : TyS Tryz.prog 354 := tqS
instance : Zl Tryz.prog 354 false := tqI
instance : ZB Tryz.prog 354 1 := tqN
instance : Zk Tryz.prog 354 8 := tqB
instance : Zm Tryz.prog 354 (.pointer none) := tqO
instance : TyPtr Tryz.prog 354 402 := ⟨by kernel_rfl⟩
instance : TyA Tryz.prog 355 7 := tqA
instance : Zl Tryz.prog 355 false := tqI
instance : ZB Tryz.prog 355 7 := tqN
instance : Zk Tryz.prog 355 72 := tqB
instance : Zm Tryz.prog 355 (.agg ⟨[.pointer none, .int .u64 0, .int .u64 0, .int .u64 0, .int .i64 0, .slice none 0 0, .int .i64 0]⟩) := tqO
instance : ZE Tryz.prog 355 := ⟨by kernel_rfl⟩
instance : ZR Tryz.prog 355 0 0 354 := ZU
instance : ZR Tryz.prog 355 1 1 24 := ZU
instance : ZR Tryz.prog 355 2 2 24 := ZU
instance : ZR Tryz.prog 355 3 3 24 := ZU
instance : ZR Tryz.prog 355 4 4 3 := ZU
instance : ZR Tryz.prog 355 5 5 22 := ZU
instance : ZR Tryz.prog 355 6 6 3 := ZU
instance : ZA Tryz.prog 355 (([(0, 1), (1, 1), (2, 1), (3, 1), (4, 1), (5, 1), (6, 1)] : List (Nat × Nat))[·]?) := Zw (by kernel_rfl)
instance : TyA Tryz.prog 356 7 := tqA
instance : Zl Tryz.prog 356 false := tqI
instance : ZB Tryz.prog 356 7 := tqN
instance : Zk Tryz.prog 356 72 := tqB
instance : Zm Tryz.prog 356 (.agg ⟨[.pointer none, .int .u64 0, .int .u64 0, .int .u64 0, .int .i64 0, .slice none 0 0, .int .i64 0]⟩) := tqO
instance : ZE Tryz.prog 356 := ⟨by kernel_rfl⟩
instance : Yy Tryz.prog 356 [(0, 354), (1, 24), (2, 24), (3, 24), (4, 3), (5, 22), (6, 3)] := Ye (by kernel_rfl)
instance : ZR Tryz.prog 356 0 0 354 := ZU
instance : ZR Tryz.prog 356 1 1 24 := ZU
instance : ZR Tryz.prog 356 2 2 24 := ZU
instance : ZR Tryz.prog 356 3 3 24 := ZU
instance : ZR Tryz.prog 356 4 4 3 := ZU
instance : ZR Tryz.prog 356 5 5 22 := ZU
instance : ZR Tryz.prog 356 6 6 3 := ZU
instance : ZA Tryz.prog 356 (([(0, 1), (1, 1), (2, 1), (3, 1), (4, 1), (5, 1), (6, 1)] : List (Nat × Nat))[·]?) := Zw (by kernel_rfl)
instance : TyA Tryz.prog 359 64 := tqA
instance : Zl Tryz.prog 359 false := tqI
instance : ZB Tryz.prog 359 64 := tqN
instance : Zk Tryz.prog 359 64 := tqB
instance : Zm Tryz.prog 359 (.agg ⟨List.replicate 64 (.int .u8 0)⟩) := tqO
instance : ZE Tryz.prog 359 := ⟨by kernel_rfl⟩
instance : TyArr Tryz.prog 359 64 5 := ⟨by kernel_rfl⟩
instance : ZA Tryz.prog 359 (fun i => some (i * 1, 1)) := mkTyPlacesA (n := 64) (e := 5) (by kernel_rfl) (by kernel_rfl)
instance : TyA Tryz.prog 360 64 := tqA
instance : Zl Tryz.prog 360 false := tqI
instance : ZB Tryz.prog 360 64 := tqN
instance : Zk Tryz.prog 360 64 := tqB
instance : Zm Tryz.prog 360 (.agg ⟨List.replicate 64 (.int .u8 0)⟩) := tqO
instance : ZE Tryz.prog 360 := ⟨by kernel_rfl⟩
instance : TyArr Tryz.prog 360 64 5 := ⟨by kernel_rfl⟩
instance : ZA Tryz.prog 360 (fun i => some (i * 1, 1)) := mkTyPlacesA (n := 64) (e := 5) (by kernel_rfl) (by kernel_rfl)
instance : TyS Tryz.prog 363 := tqS
instance : Zl Tryz.prog 363 false := tqI
instance : ZB Tryz.prog 363 1 := tqN
instance : Zk Tryz.prog 363 8 := tqB
instance : Zm Tryz.prog 363 (.pointer none) := tqO
instance : TyPtr Tryz.prog 363 375 := ⟨by kernel_rfl⟩
instance : TyA Tryz.prog 364 2 := tqA
instance : Zl Tryz.prog 364 false := tqI
instance : ZB Tryz.prog 364 2 := tqN
instance : Zk Tryz.prog 364 16 := tqB
instance : Zm Tryz.prog 364 (.agg ⟨[.pointer none, .int .i64 0]⟩) := tqO
instance : ZE Tryz.prog 364 := ⟨by kernel_rfl⟩
instance : ZR Tryz.prog 364 0 0 363 := ZU
instance : ZR Tryz.prog 364 1 1 3 := ZU
instance : ZA Tryz.prog 364 (([(0, 1), (1, 1)] : List (Nat × Nat))[·]?) := Zw (by kernel_rfl)
instance : TyA Tryz.prog 365 2 := tqA
instance : Zl Tryz.prog 365 false := tqI
instance : ZB Tryz.prog 365 2 := tqN
instance : Zk Tryz.prog 365 16 := tqB
instance : Zm Tryz.prog 365 (.agg ⟨[.pointer none, .int .i64 0]⟩) := tqO
instance : ZE Tryz.prog 365 := ⟨by kernel_rfl⟩
instance : Yy Tryz.prog 365 [(0, 363), (1, 3)] := Ye (by kernel_rfl)
instance : ZR Tryz.prog 365 0 0 363 := ZU
instance : ZR Tryz.prog 365 1 1 3 := ZU
instance : ZA Tryz.prog 365 (([(0, 1), (1, 1)] : List (Nat × Nat))[·]?) := Zw (by kernel_rfl)
instance : TyS Tryz.prog 372 := tqS
instance : Zl Tryz.prog 372 false := tqI
instance : ZB Tryz.prog 372 1 := tqN
instance : Zk Tryz.prog 372 24 := tqB
instance : Zm Tryz.prog 372 (.slice none 0 0) := tqO
instance : ZM Tryz.prog 372 360 := ⟨by kernel_rfl⟩
instance : TyS Tryz.prog 373 := tqS
instance : Zl Tryz.prog 373 false := tqI
instance : ZB Tryz.prog 373 1 := tqN
instance : Zk Tryz.prog 373 8 := tqB
instance : Zm Tryz.prog 373 (.map none) := tqO
instance : TyMap Tryz.prog 373 3 360 := ⟨by kernel_rfl⟩
instance : TyA Tryz.prog 374 6 := tqA
instance : Zl Tryz.prog 374 false := tqI
instance : ZB Tryz.prog 374 6 := tqN
instance : Zk Tryz.prog 374 64 := tqB
instance : Zm Tryz.prog 374 (.agg ⟨[.slice none 0 0, .map none, .int .i64 0, .int .i64 0, .int .i64 0, .bool false]⟩) := tqO
instance : ZE Tryz.prog 374 := ⟨by kernel_rfl⟩
instance : ZR Tryz.prog 374 0 0 372 := ZU
instance : ZR Tryz.prog 374 1 1 373 := ZU
instance : ZR Tryz.prog 374 2 2 3 := ZU
instance : ZR Tryz.prog 374 3 3 3 := ZU
instance : ZR Tryz.prog 374 4 4 3 := ZU
instance : ZR Tryz.prog 374 5 5 4 := ZU
instance : ZA Tryz.prog 374 (([(0, 1), (1, 1), (2, 1), (3, 1), (4, 1), (5, 1)] : List (Nat × Nat))[·]?) := Zw (by kernel_rfl)
instance : TyA Tryz.prog 375 6 := tqA
instance : Zl Tryz.prog 375 false := tqI
instance : ZB Tryz.prog 375 6 := tqN
instance : Zk Tryz.prog 375 64 := tqB
instance : Zm Tryz.prog 375 (.agg ⟨[.slice none 0 0, .map none, .int .i64 0, .int .i64 0, .int .i64 0, .bool false]⟩) := tqO
instance : ZE Tryz.prog 375 := ⟨by kernel_rfl⟩
instance : Yy Tryz.prog 375 [(0, 372), (1, 373), (2, 3), (3, 3), (4, 3), (5, 4)] := Ye (by kernel_rfl)
instance : ZR Tryz.prog 375 0 0 372 := ZU
instance : ZR Tryz.prog 375 1 1 373 := ZU
instance : ZR Tryz.prog 375 2 2 3 := ZU
instance : ZR Tryz.prog 375 3 3 3 := ZU
instance : ZR Tryz.prog 375 4 4 3 := ZU
instance : ZR Tryz.prog 375 5 5 4 := ZU
instance : ZA Tryz.prog 375 (([(0, 1), (1, 1), (2, 1), (3, 1), (4, 1), (5, 1)] : List (Nat × Nat))[·]?) := Zw (by kernel_rfl)
instance : TyS Tryz.prog 392 := tqS
instance : Zl Tryz.prog 392 false := tqI
instance : Yj Tryz.prog 392 := tqF
instance : ZB Tryz.prog 392 1 := tqN
instance : Zk Tryz.prog 392 8 := tqB
instance : Zm Tryz.prog 392 (.nilFunc) := tqO
instance : TyS Tryz.prog 393 := tqS
instance : Zl Tryz.prog 393 false := tqI
instance : ZB Tryz.prog 393 1 := tqN
instance : Zk Tryz.prog 393 8 := tqB
instance : Zm Tryz.prog 393 (.pointer none) := tqO
instance : TyPtr Tryz.prog 393 5 := ⟨by kernel_rfl⟩
instance : TyA Tryz.prog 396 11 := tqA
instance : Zl Tryz.prog 396 false := tqI
instance : ZB Tryz.prog 396 11 := tqN
instance : Zk Tryz.prog 396 48 := tqB
instance : Zm Tryz.prog 396 (.agg ⟨[.int .u64 0, .int .u64 0, .int .u32 0, .int .u8 0, .int .u8 0, .int .u8 0, .int .u8 0, .nilFunc, .pointer none, .int .i32 0, .int .i32 0]⟩) := tqO
instance : ZE Tryz.prog 396 := ⟨by kernel_rfl⟩
instance : ZR Tryz.prog 396 0 0 12 := ZU
instance : ZR Tryz.prog 396 1 1 12 := ZU
instance : ZR Tryz.prog 396 2 2 141 := ZU
instance : ZR Tryz.prog 396 3 3 390 := ZU
instance : ZR Tryz.prog 396 4 4 5 := ZU
instance : ZR Tryz.prog 396 5 5 5 := ZU
instance : ZR Tryz.prog 396 6 6 391 := ZU
instance : ZR Tryz.prog 396 7 7 392 := ZU
instance : ZR Tryz.prog 396 8 8 393 := ZU
instance : ZR Tryz.prog 396 9 9 394 := ZU
instance : ZR Tryz.prog 396 10 10 395 := ZU
instance : ZA Tryz.prog 396 (([(0, 1), (1, 1), (2, 1), (3, 1), (4, 1), (5, 1), (6, 1), (7, 1), (8, 1), (9, 1), (10, 1)] : List (Nat × Nat))[·]?) := Zw (by kernel_rfl)
instance : TyA Tryz.prog 399 5 := tqA
instance : Zl Tryz.prog 399 false := tqI
instance : ZB Tryz.prog 399 5 := tqN
instance : Zk Tryz.prog 399 56 := tqB
instance : Zm Tryz.prog 399 (.agg ⟨[.int .u64 0, .int .u64 0, .int .i64 0, .int .i64 0, .slice none 0 0]⟩) := tqO
instance : ZE Tryz.prog 399 := ⟨by kernel_rfl⟩
instance : ZR Tryz.prog 399 0 0 24 := ZU
instance : ZR Tryz.prog 399 1 1 24 := ZU
instance : ZR Tryz.prog 399 2 2 3 := ZU
instance : ZR Tryz.prog 399 3 3 3 := ZU
instance : ZR Tryz.prog 399 4 4 44 := ZU
instance : ZA Tryz.prog 399 (([(0, 1), (1, 1), (2, 1), (3, 1), (4, 1)] : List (Nat × Nat))[·]?) := Zw (by kernel_rfl)
instance : TyA Tryz.prog 400 5 := tqA
instance : Zl Tryz.prog 400 false := tqI
instance : ZB Tryz.prog 400 5 := tqN
instance : Zk Tryz.prog 400 56 := tqB
instance : Zm Tryz.prog 400 (.agg ⟨[.int .u64 0, .int .u64 0, .int .i64 0, .int .i64 0, .slice none 0 0]⟩) := tqO
instance : ZE Tryz.prog 400 := ⟨by kernel_rfl⟩
instance : Yy Tryz.prog 400 [(0, 24), (1, 24), (2, 3), (3, 3), (4, 44)] := Ye (by kernel_rfl)
instance : ZR Tryz.prog 400 0 0 24 := ZU
instance : ZR Tryz.prog 400 1 1 24 := ZU
instance : ZR Tryz.prog 400 2 2 3 := ZU
instance : ZR Tryz.prog 400 3 3 3 := ZU
instance : ZR Tryz.prog 400 4 4 44 := ZU
instance : ZA Tryz.prog 400 (([(0, 1), (1, 1), (2, 1), (3, 1), (4, 1)] : List (Nat × Nat))[·]?) := Zw (by kernel_rfl)
instance : TyA Tryz.prog 401 9 := tqA
instance : Zl Tryz.prog 401 false := tqI
instance : ZB Tryz.prog 401 9 := tqN
instance : Zk Tryz.prog 401 104 := tqB
instance : Zm Tryz.prog 401 (.agg ⟨[.int .u64 0, .int .u64 0, .int .i64 0, .int .i64 0, .slice none 0 0, .pointer none, .slice none 0 0, .int .i64 0, .bool false]⟩) := tqO
instance : ZE Tryz.prog 401 := ⟨by kernel_rfl⟩
instance : ZR Tryz.prog 401 0 0 400 := ZU
instance : ZR Tryz.prog 401 1 5 363 := ZU
instance : ZR Tryz.prog 401 2 6 43 := ZU
instance : ZR Tryz.prog 401 3 7 3 := ZU
instance : ZR Tryz.prog 401 4 8 4 := ZU
instance : ZA Tryz.prog 401 (([(0, 5), (5, 1), (6, 1), (7, 1), (8, 1)] : List (Nat × Nat))[·]?) := Zw (by kernel_rfl)
instance : TyA Tryz.prog 402 9 := tqA
instance : Zl Tryz.prog 402 false := tqI
instance : ZB Tryz.prog 402 9 := tqN
instance : Zk Tryz.prog 402 104 := tqB
instance : Zm Tryz.prog 402 (.agg ⟨[.int .u64 0, .int .u64 0, .int .i64 0, .int .i64 0, .slice none 0 0, .pointer none, .slice none 0 0, .int .i64 0, .bool false]⟩) := tqO
instance : ZE Tryz.prog 402 := ⟨by kernel_rfl⟩
instance : Yy Tryz.prog 402 [(0, 400), (5, 363), (6, 43), (7, 3), (8, 4)] := Ye (by kernel_rfl)
instance : ZR Tryz.prog 402 0 0 400 := ZU
instance : ZR Tryz.prog 402 1 5 363 := ZU
instance : ZR Tryz.prog 402 2 6 43 := ZU
instance : ZR Tryz.prog 402 3 7 3 := ZU
instance : ZR Tryz.prog 402 4 8 4 := ZU
instance : ZA Tryz.prog 402 (([(0, 5), (5, 1), (6, 1), (7, 1), (8, 1)] : List (Nat × Nat))[·]?) := Zw (by kernel_rfl)
instance : Fun Tryz.prog 12 := tqU
instance : Fun Tryz.prog 26 := tqU
instance : Fun Tryz.prog 27 := tqU
instance : Fun Tryz.prog 61 := tqU
instance : Fun Tryz.prog 62 := tqU
instance : Fun Tryz.prog 63 := tqU
instance : Fun Tryz.prog 64 := tqU
instance : Fun Tryz.prog 65 := tqU
instance : Fun Tryz.prog 66 := tqU
instance : Fun Tryz.prog 71 := tqU
instance : Fun Tryz.prog 93 := tqU
instance : Fun Tryz.prog 95 := tqU
instance : Fun Tryz.prog 96 := tqU
instance : Fun Tryz.prog 97 := tqU
instance : Fun Tryz.prog 98 := tqU
instance : Fun Tryz.prog 99 := tqU
instance : Fun Tryz.prog 100 := tqU
instance : Fun Tryz.prog 101 := tqU
instance : Fun Tryz.prog 102 := tqU
instance : Fun Tryz.prog 103 := tqU
instance : Fun Tryz.prog 104 := tqU
instance : Fun Tryz.prog 105 := tqU
instance : Fun Tryz.prog 142 := tqU
instance : Fun Tryz.prog 143 := tqU
instance : Fun Tryz.prog 144 := tqU
instance : Fun Tryz.prog 145 := tqU
instance : Fun Tryz.prog 146 := tqU
instance : Fun Tryz.prog 147 := tqU
instance : Fun Tryz.prog 148 := tqU
instance : Fun Tryz.prog 151 := tqU
instance : Fun Tryz.prog 156 := tqU
instance : Fun Tryz.prog 157 := tqU
instance : Fun Tryz.prog 177 := tqU
instance : Fun Tryz.prog 178 := tqU
instance : Fun Tryz.prog 179 := tqU
instance : Fun Tryz.prog 180 := tqU
instance : Fun Tryz.prog 181 := tqU
instance : Fun Tryz.prog 182 := tqU
instance : Fun Tryz.prog 183 := tqU
instance : Fun Tryz.prog 184 := tqU
instance : Fun Tryz.prog 185 := tqU
instance : Fun Tryz.prog 186 := tqU
instance : Fun Tryz.prog 187 := tqU
instance : Fun Tryz.prog 188 := tqU
instance : Fun Tryz.prog 189 := tqU
instance : Fun Tryz.prog 190 := tqU
instance : Fun Tryz.prog 209 := tqU
instance : Fun Tryz.prog 226 := tqU
instance : Fun Tryz.prog 227 := tqU
instance : Fun Tryz.prog 228 := tqU
instance : Fun Tryz.prog 229 := tqU
instance : Fun Tryz.prog 232 := tqU
instance : Fun Tryz.prog 233 := tqU
instance : Fun Tryz.prog 243 := tqU
instance : Fun Tryz.prog 245 := tqU
instance : Fun Tryz.prog 246 := tqU
instance : Fun Tryz.prog 247 := tqU
instance : Fun Tryz.prog 248 := tqU
instance : Fun Tryz.prog 249 := tqU
instance : Fun Tryz.prog 250 := tqU
instance : Fun Tryz.prog 251 := tqU
instance : Fun Tryz.prog 252 := tqU
instance : Fun Tryz.prog 253 := tqU
instance : Fun Tryz.prog 262 := tqU
instance : Fun Tryz.prog 273 := tqU
instance : Fun Tryz.prog 280 := tqU
instance : Fun Tryz.prog 281 := tqU
instance : Fun Tryz.prog 282 := tqU
instance : Fun Tryz.prog 283 := tqU
instance : Fun Tryz.prog 302 := tqU
instance : Fun Tryz.prog 303 := tqU
instance : Fun Tryz.prog 304 := tqU
instance : Fun Tryz.prog 305 := tqU
instance : Fun Tryz.prog 306 := tqU
instance : Fun Tryz.prog 307 := tqU
instance : Fun Tryz.prog 317 := tqU
instance : Fun Tryz.prog 320 := tqU
instance : Fun Tryz.prog 321 := tqU
instance : Fun Tryz.prog 327 := tqU
instance : Mixed Tryz.prog := ⟨by kernel_rfl⟩
end Go.Proofs.E
namespace Go.Proofs.E
open Go
set_option linter.unusedVariables false
set_option linter.unusedSimpArgs false
set_option linter.unusedSectionVars false
set_option maxRecDepth 4000
set_option maxHeartbeats 1000000
attribute [local irreducible] Yl TL TC TE Spec Xn R1 Hp.le EnvLe TS TR YS Zq
theorem OwnS.zero (b sz : Nat) : OwnS (.slice (some ⟨b, 0, none⟩) 0 0) 0 [] [] sz := ⟨.inr ⟨b, 0, rfl, by simp, by simp, Nat.le_refl _⟩⟩
structure Row where
 t : Int
 id : Nat
 val : Int
 note : List UInt8
deriving DecidableEq
structure Kid where
 t : Int
 id : Nat
 page : Int
deriving DecidableEq
abbrev keyV (t : Int) (id : Nat) : List Value := [.int .i64 t, .int .u16 id]
abbrev Yx (r : Row) : List Value := [.int .i64 r.t, .int .u16 r.id, .int .i64 r.val, strV r.note]
abbrev Xp (k : Kid) : List Value := [.int .i64 k.t, .int .u16 k.id, .int .i64 k.page]
theorem Xh (ρ : Hp) (n : Int) : Spec Tryz.prog 280 [.int .i64 n] ρ [] (fun v ρ' L' => v = .bool (decide (0 ≤ n ∧ n < 3)) ∧ ρ' = ρ ∧ L' = []) := by
 refine Zf Tryz.func280 rfl rfl rfl fun u R => ?_
 simp only [ZG, List.cons_append, List.nil_append]
 by_cases h0 : 0 ≤ n
 ·by_cases h1 : n < 3
  ·rw [decide_eq_true ⟨h0, h1⟩]
   repeat' (first | (refine Zj ?_; first | (refine Zi ?_; refine qQ ?_) | refine Zo ?_) | refine Zc ?_ | (refine Zh ?_; refine Zz ?_) | (refine Zg ?_; refine Zy ?_) | intro _)
   exact qE ⟨rfl, rfl, rfl⟩
  ·rw [decide_eq_false (fun h => h1 h.2)]
   repeat' (first | (refine Zj ?_; first | (refine Zi ?_; refine qQ ?_) | refine Zo ?_) | refine Zc ?_ | (refine Zh ?_; refine Zz ?_) | (refine Zg ?_; refine Zy ?_) | intro _)
   exact qE ⟨rfl, rfl, rfl⟩
 ·rw [decide_eq_false (fun h => h0 h.1)]
  repeat' (first | (refine Zj ?_; first | (refine Zi ?_; refine qQ ?_) | refine Zo ?_) | refine Zc ?_ | (refine Zh ?_; refine Zz ?_) | (refine Zg ?_; refine Zy ?_) | intro _)
  exact qE ⟨rfl, rfl, rfl⟩
def cmpI (x y : Int) : Int := if x < y then -1 else if y < x then 1 else 0
theorem nanI_spec (ρ : Hp) (x : Int) : Spec Tryz.prog 262 [.int .i64 x] ρ [] (fun v ρ' L' => v = .bool false ∧ ρ' = ρ ∧ L' = []) := by
 refine Zf Tryz.func262 rfl rfl rfl fun u R => ?_
 simp only [ZG, List.cons_append, List.nil_append]
 repeat' (first | (refine Zj ?_; first | (refine Zi ?_; refine qQ ?_) | refine Zo ?_) | refine Zc ?_ | (refine Zh ?_; refine Zz ?_) | (refine Zg ?_; refine Zy ?_) | intro _)
 exact qE ⟨rfl, rfl, rfl⟩
theorem nanU_spec (ρ : Hp) (x : Int) : Spec Tryz.prog 327 [.int .u16 x] ρ [] (fun v ρ' L' => v = .bool false ∧ ρ' = ρ ∧ L' = []) := by
 refine Zf Tryz.func327 rfl rfl rfl fun u R => ?_
 simp only [ZG, List.cons_append, List.nil_append]
 repeat' (first | (refine Zj ?_; first | (refine Zi ?_; refine qQ ?_) | refine Zo ?_) | refine Zc ?_ | (refine Zh ?_; refine Zz ?_) | (refine Zg ?_; refine Zy ?_) | intro _)
 exact qE ⟨rfl, rfl, rfl⟩
theorem cmpI_spec (ρ : Hp) (x y : Int) : Spec Tryz.prog 209 [.int .i64 x, .int .i64 y] ρ [] (fun v ρ' L' => v = .int .i64 (cmpI x y) ∧ ρ' = ρ ∧ L' = []) := by
 refine Zf Tryz.func209 rfl rfl rfl fun u R => ?_
 simp only [ZG, List.cons_append, List.nil_append]
 unfold cmpI
 split
 ·repeat' (first | (refine Zd (.func 262) ?_; refine qC rfl rfl (nanI_spec _ _) ?_; rintro v ρ' L' hle ⟨rfl, rfl, rfl⟩ <;> (try simp only [kM, kN, kO])) | (refine Zj ?_; first | (refine Zi ?_; refine qQ ?_) | refine Zo ?_) | refine Zc ?_ | (refine Zh ?_; refine Zz ?_) | (refine Zg ?_; refine Zy ?_) | intro _)
  exact qE ⟨rfl, rfl, rfl⟩
 ·split
  ·repeat' (first | (refine Zd (.func 262) ?_; refine qC rfl rfl (nanI_spec _ _) ?_; rintro v ρ' L' hle ⟨rfl, rfl, rfl⟩ <;> (try simp only [kM, kN, kO])) | (refine Zj ?_; first | (refine Zi ?_; refine qQ ?_) | refine Zo ?_) | refine Zc ?_ | (refine Zh ?_; refine Zz ?_) | (refine Zg ?_; refine Zy ?_) | intro _)
   exact qE ⟨rfl, rfl, rfl⟩
  ·repeat' (first | (refine Zd (.func 262) ?_; refine qC rfl rfl (nanI_spec _ _) ?_; rintro v ρ' L' hle ⟨rfl, rfl, rfl⟩ <;> (try simp only [kM, kN, kO])) | (refine Zj ?_; first | (refine Zi ?_; refine qQ ?_) | refine Zo ?_) | refine Zc ?_ | (refine Zh ?_; refine Zz ?_) | (refine Zg ?_; refine Zy ?_) | intro _)
   exact qE ⟨rfl, rfl, rfl⟩
theorem cmpU_spec (ρ : Hp) (x y : Int) : Spec Tryz.prog 321 [.int .u16 x, .int .u16 y] ρ [] (fun v ρ' L' => v = .int .i64 (cmpI x y) ∧ ρ' = ρ ∧ L' = []) := by
 refine Zf Tryz.func321 rfl rfl rfl fun u R => ?_
 simp only [ZG, List.cons_append, List.nil_append]
 unfold cmpI
 split
 ·repeat' (first | (refine Zd (.func 327) ?_; refine qC rfl rfl (nanU_spec _ _) ?_; rintro v ρ' L' hle ⟨rfl, rfl, rfl⟩ <;> (try simp only [kM, kN, kO])) | (refine Zj ?_; first | (refine Zi ?_; refine qQ ?_) | refine Zo ?_) | refine Zc ?_ | (refine Zh ?_; refine Zz ?_) | (refine Zg ?_; refine Zy ?_) | intro _)
  exact qE ⟨rfl, rfl, rfl⟩
 ·split
  ·repeat' (first | (refine Zd (.func 327) ?_; refine qC rfl rfl (nanU_spec _ _) ?_; rintro v ρ' L' hle ⟨rfl, rfl, rfl⟩ <;> (try simp only [kM, kN, kO])) | (refine Zj ?_; first | (refine Zi ?_; refine qQ ?_) | refine Zo ?_) | refine Zc ?_ | (refine Zh ?_; refine Zz ?_) | (refine Zg ?_; refine Zy ?_) | intro _)
   exact qE ⟨rfl, rfl, rfl⟩
  ·repeat' (first | (refine Zd (.func 327) ?_; refine qC rfl rfl (nanU_spec _ _) ?_; rintro v ρ' L' hle ⟨rfl, rfl, rfl⟩ <;> (try simp only [kM, kN, kO])) | (refine Zj ?_; first | (refine Zi ?_; refine qQ ?_) | refine Zo ?_) | refine Zc ?_ | (refine Zh ?_; refine Zz ?_) | (refine Zg ?_; refine Zy ?_) | intro _)
   exact qE ⟨rfl, rfl, rfl⟩
theorem or2_spec (ρ : Hp) (b : Nat) (x y : Int) : Spec Tryz.prog 320 [.slice (some ⟨b, 0, none⟩) 2 2] ρ [[(b, .cells ⟨[.int .i64 x, .int .i64 y]⟩ 3 (0, 0))]]
  (fun v ρ' L' => v = .int .i64 (if x = 0 then y else x) ∧ ρ' = ρ ∧ L' = [[(b, .cells ⟨[.int .i64 x, .int .i64 y]⟩ 3 (0, 0))]]) := by
 refine Zf Tryz.func320 rfl rfl rfl fun u R => ?_
 simp only [ZG, List.cons_append, List.nil_append]
 repeat' (first | (refine Zj ?_; first | (refine Zi ?_; refine qQ ?_) | refine Zo ?_) | refine Zc ?_ | (refine Zh ?_; refine Zz ?_) | (refine Zg ?_; refine Zy ?_) | intro _)
 refine ZL [(2, _), (3, _), (6, _), (7, _)] (fun (ζ : (Nat)) => [(8, .int .i64 ζ)]) (fun (ζ : (Nat)) => ρ) (fun (ζ : (Nat)) => []) (fun (ζ : (Nat)) => ζ = 0 ∨ (ζ = 1 ∧ x = 0) ∨ (ζ = 2 ∧ x = 0 ∧ y = 0)) (fun (ζ : (Nat)) => 3 - ζ) (0) (.inl rfl) Zn Zn rfl tk ?_
 rintro k hI
 try simp only [List.cons_append, List.nil_append, List.append_assoc, List.append_eq] at hI ⊢
 try dsimp only at hI ⊢
 rcases hI with rfl | ⟨rfl, rfl⟩ | ⟨rfl, rfl, rfl⟩
 ·by_cases h : x = 0
  ·subst h
   repeat' (first | (refine Zj ?_; first | (refine Zi ?_; refine qQ ?_) | refine Zo ?_) | refine Zc ?_ | (refine Zh ?_; refine Zz ?_) | (refine Zg ?_; refine Zy ?_) | intro _)
   refine Zu (1) (.inr (.inl ⟨rfl, rfl⟩)) Zn Zn rfl tk inferInstance (by first | omega | (dsimp only; omega))
  ·rw [if_neg h]
   repeat' (first | (refine Zj ?_; first | (refine Zi ?_; refine qQ ?_) | refine Zo ?_) | refine Zc ?_ | (refine Zh ?_; refine Zz ?_) | (refine Zg ?_; refine Zy ?_) | intro _)
   exact qE ⟨rfl, rfl, rfl⟩
 ·by_cases h : y = 0
  ·subst h
   repeat' (first | (refine Zj ?_; first | (refine Zi ?_; refine qQ ?_) | refine Zo ?_) | refine Zc ?_ | (refine Zh ?_; refine Zz ?_) | (refine Zg ?_; refine Zy ?_) | intro _)
   refine Zu (2) (.inr (.inr ⟨rfl, rfl, rfl⟩)) Zn Zn rfl tk inferInstance (by first | omega | (dsimp only; omega))
  ·repeat' (first | (refine Zj ?_; first | (refine Zi ?_; refine qQ ?_) | refine Zo ?_) | refine Zc ?_ | (refine Zh ?_; refine Zz ?_) | (refine Zg ?_; refine Zy ?_) | intro _)
   exact qE ⟨rfl, rfl, rfl⟩
 ·repeat' (first | (refine Zj ?_; first | (refine Zi ?_; refine qQ ?_) | refine Zo ?_) | refine Zc ?_ | (refine Zh ?_; refine Zz ?_) | (refine Zg ?_; refine Zy ?_) | intro _)
  exact qE ⟨rfl, rfl, rfl⟩
def cmpK (t1 : Int) (i1 : Nat) (t2 : Int) (i2 : Nat) : Int := if cmpI t1 t2 = 0 then cmpI i1 i2 else cmpI t1 t2
theorem cmpK_lt (t1 : Int) (i1 : Nat) (t2 : Int) (i2 : Nat) : cmpK t1 i1 t2 i2 < 0 ↔ t1 < t2 ∨ (t1 = t2 ∧ i1 < i2) := by
 unfold cmpK cmpI
 repeat' split
 all_goals omega
theorem YD (ρ : Hp) (t1 : Int) (i1 : Nat) (t2 : Int) (i2 : Nat) : Spec Tryz.prog 317 [.agg ⟨keyV t1 i1⟩, .agg ⟨keyV t2 i2⟩] ρ [] (fun v ρ' L' => v = .int .i64 (cmpK t1 i1 t2 i2) ∧ ρ' = ρ ∧ L' = []) := by
 refine Zf Tryz.func317 rfl rfl rfl fun u R => ?_
 simp only [ZG, List.cons_append, List.nil_append]
 repeat' (first | (refine Zj ?_; first | (refine Zi ?_; refine qQ ?_) | refine Zo ?_) | refine Zc ?_ | (refine Zh ?_; refine Zz ?_) | (refine Zg ?_; refine Zy ?_) | intro _)
 refine ZJ (Zq _ _ _) Zx ?_
 all_goals (refine rFa 0 ?_; refine rLd 1 ?_; refine rFa 2 ?_; refine rLd 3 ?_; refine rFa 5 ?_; refine rLd 6 ?_; refine rFa 7 ?_; refine rLd 8 ?_)
 all_goals (refine Zt (i := 4) ?_; ((try refine Zr ?_); (first | (refine Zd (.func 209) ?_; refine qC rfl rfl (cmpI_spec _ _ _) ?_; rintro v ρ' L' hle ⟨rfl, rfl, rfl⟩ <;> (try simp only [kM, kN, kO])) | (refine Zo ?_; try intro _)) <;> ((try simp only [kM, kN, kO]); refine Zc ?_; refine Zs ?_)))
 all_goals (refine Zt (i := 9) ?_; ((try refine Zr ?_); (first | (refine Zd (.func 321) ?_; refine qC rfl rfl (cmpU_spec _ _ _) ?_; rintro v ρ' L' hle ⟨rfl, rfl, rfl⟩ <;> (try simp only [kM, kN, kO])) | (refine Zo ?_; try intro _)) <;> ((try simp only [kM, kN, kO]); refine Zc ?_; refine Zs ?_)))
 all_goals (refine Zt (i := 10) ?_; ((try refine Zr ?_); (first | (refine tl_buildSlice_s rfl rfl rfl rfl (by simp) rfl rfl (fun _ => ?_)) | (refine Zo ?_; try intro _)) <;> ((try simp only [kM, kN, kO]); refine Zc ?_; refine Zs ?_)))
 all_goals (refine Zt (i := 11) ?_; ((try refine Zr ?_); (first | (refine Zd (.func 320) ?_; refine qC rfl rfl (or2_spec _ _ _ _) ?_; rintro v ρ' L' hle ⟨rfl, rfl, rfl⟩ <;> (try simp only [kM, kN, kO])) | (refine Zo ?_; try intro _)) <;> ((try simp only [kM, kN, kO]); refine Zc ?_; refine Zs ?_)))
 all_goals (refine ZY ?_; refine rAs 12 ?_; refine ZT ?_)
 all_goals (repeat' (first | (refine Zj ?_; first | (refine Zi ?_; refine qQ ?_) | refine Zo ?_) | refine Zc ?_ | (refine Zh ?_; refine Zz ?_) | (refine Zg ?_; refine Zy ?_) | intro _))
 all_goals exact qE ⟨rfl, rfl, rfl⟩
def YJ (r : Row) : Bool := decide ((0 ≤ r.t ∧ r.t < 3) ∧ r.note.length ≤ 8)
theorem checkRow_spec (ρ : Hp) (r : Row) : Spec Tryz.prog 253 [.agg ⟨Yx r⟩] ρ [] (fun v ρ' L' => v = .int .i64 (if YJ r then 0 else 151) ∧ ρ' = ρ ∧ L' = []) := by
 obtain ⟨t, id, val, note⟩ := r
 refine Zf Tryz.func253 rfl rfl rfl fun u R => ?_
 simp only [ZG, List.cons_append, List.nil_append, YJ, decide_eq_true_eq]
 by_cases h1 : 0 ≤ t ∧ t < 3
 ·have hd : decide (0 ≤ t ∧ t < 3) = true := decide_eq_true h1
  by_cases h2 : note.length ≤ 8
  ·rw [if_pos ⟨h1, h2⟩]
   repeat' (first | (refine Zd (.func 280) ?_; refine qC rfl rfl (Xh _ _) ?_; rintro v ρ' L' hle ⟨rfl, rfl, rfl⟩ <;> (try simp only [kM, kN, kO, hd])) | (refine Zj ?_; first | (refine Zi ?_; refine qQ ?_) | refine Zo ?_) | refine Zc ?_ | (refine Zh ?_; refine Zz ?_) | (refine Zg ?_; refine Zy ?_) | intro _)
   exact qE ⟨rfl, rfl, rfl⟩
  ·rw [if_neg (fun h => h2 h.2)]
   repeat' (first | (refine Zd (.func 280) ?_; refine qC rfl rfl (Xh _ _) ?_; rintro v ρ' L' hle ⟨rfl, rfl, rfl⟩ <;> (try simp only [kM, kN, kO, hd])) | (refine Zj ?_; first | (refine Zi ?_; refine qQ ?_) | refine Zo ?_) | refine Zc ?_ | (refine Zh ?_; refine Zz ?_) | (refine Zg ?_; refine Zy ?_) | intro _)
   exact qE ⟨rfl, rfl, rfl⟩
 ·have hd : decide (0 ≤ t ∧ t < 3) = false := decide_eq_false h1
  rw [if_neg (fun h => h1 h.1)]
  repeat' (first | (refine Zd (.func 280) ?_; refine qC rfl rfl (Xh _ _) ?_; rintro v ρ' L' hle ⟨rfl, rfl, rfl⟩ <;> (try simp only [kM, kN, kO, hd])) | (refine Zj ?_; first | (refine Zi ?_; refine qQ ?_) | refine Zo ?_) | refine Zc ?_ | (refine Zh ?_; refine Zz ?_) | (refine Zg ?_; refine Zy ?_) | intro _)
  exact qE ⟨rfl, rfl, rfl⟩
def Zv {α : Type} (most : Nat) (right : Nat → α → Bool) (lt : α → α → Bool) (l : List α) : Nat → Bool
 | 0 => decide (l.length ≤ most)
 | k + 1 => Zv most right lt l k && (match l[k]? with | some x => right k x && (decide (k = 0) || (match l[k - 1]? with | some y => lt y x | none => false)) | none => false)
theorem Yg {α : Type} {most : Nat} {right : Nat → α → Bool} {lt : α → α → Bool} {l : List α} {k : Nat} (h : k < l.length) : Zv most right lt l (k + 1) = (Zv most right lt l k && (right k l[k] && (decide (k = 0) || lt (l[k - 1]'(by omega)) l[k]))) := by
 rw [Zv]
 simp [h, show k - 1 < l.length by omega]
theorem risesB_false {α : Type} {most : Nat} {right : Nat → α → Bool} {lt : α → α → Bool} {l : List α} {k : Nat} (h : Zv most right lt l k = false) : ∀ m, Zv most right lt l (k + m) = false
 | 0 => h
 | m + 1 => by rw [← Nat.add_assoc, Zv, risesB_false h m]; rfl
theorem Yd {α : Type} {most : Nat} {right : Nat → α → Bool} {lt : α → α → Bool} {l : List α} {k n : Nat} (h : Zv most right lt l k = false) (hk : k ≤ n) : Zv most right lt l n = false := by
 have := risesB_false h (n - k)
 rwa [Nat.add_sub_cancel' hk] at this
theorem ZN (ρ : Hp) (r : Row) : Spec Tryz.prog 303 [.agg ⟨Yx r⟩] ρ [] (fun v ρ' L' => v = .agg ⟨keyV r.t r.id⟩ ∧ ρ' = ρ ∧ L' = []) := by
 refine Zf Tryz.func303 rfl rfl rfl fun u R => ?_
 simp only [ZG, List.cons_append, List.nil_append]
 repeat' (first | (refine Zj ?_; first | (refine Zi ?_; refine qQ ?_) | refine Zo ?_) | refine Zc ?_ | (refine Zh ?_; refine Zz ?_) | (refine Zg ?_; refine Zy ?_) | intro _)
 exact qE ⟨rfl, rfl, rfl⟩
theorem Ys (ρ : Hp) (i : Int) (r : Row) : Spec Tryz.prog 304 [.int .i64 i, .agg ⟨Yx r⟩] ρ [] (fun v ρ' L' => v = .bool (YJ r) ∧ ρ' = ρ ∧ L' = []) := by
 refine Zf Tryz.func304 rfl rfl rfl fun u R => ?_
 simp only [ZG, List.cons_append, List.nil_append]
 cases h : YJ r
 ·repeat' (first | (refine Zd (.func 253) ?_; refine qC rfl rfl (checkRow_spec _ r) ?_; rintro v ρ' L' hle ⟨rfl, rfl, rfl⟩ <;> (try simp only [kM, kN, kO, h, if_false, Bool.false_eq_true])) | (refine Zj ?_; first | (refine Zi ?_; refine qQ ?_) | refine Zo ?_) | refine Zc ?_ | (refine Zh ?_; refine Zz ?_) | (refine Zg ?_; refine Zy ?_) | intro _)
  exact qE ⟨rfl, rfl, rfl⟩
 ·repeat' (first | (refine Zd (.func 253) ?_; refine qC rfl rfl (checkRow_spec _ r) ?_; rintro v ρ' L' hle ⟨rfl, rfl, rfl⟩ <;> (try simp only [kM, kN, kO, h, if_true])) | (refine Zj ?_; first | (refine Zi ?_; refine qQ ?_) | refine Zo ?_) | refine Zc ?_ | (refine Zh ?_; refine Zz ?_) | (refine Zg ?_; refine Zy ?_) | intro _)
  exact qE ⟨rfl, rfl, rfl⟩
def ltR (y x : Row) : Bool := decide (cmpK y.t y.id x.t x.id < 0)
def rowsOk (l : List Row) : Bool := Zv 4 (fun _ r => YJ r) ltR l l.length
theorem rowV_len (r : Row) : (Yx r).length = 4 := rfl
theorem risesRow_spec (ρ : Hp) (a : Option Addr) (n c : Nat) (l : List Row) (h : AIn ρ 4 Yx a n l) (hn : n ≤ 1000000) :
  Spec Tryz.prog 302 [.slice a n c, .int .i64 4, .func (.func 303) ⟨[]⟩ ⟨[]⟩, .func (.func 304) ⟨[]⟩ ⟨[]⟩] ρ [] (fun v ρ' L' => v = .bool (rowsOk l) ∧ ρ' = ρ ∧ L' = []) := by
 have hl := h.len
 unfold rowsOk
 rw [hl]
 refine Zf Tryz.func302 rfl rfl rfl fun u R => ?_
 simp only [ZG, List.cons_append, List.nil_append]
 repeat' (first | (refine Zj ?_; first | (refine Zi ?_; refine qQ ?_) | refine Zo ?_) | refine Zc ?_ | (refine Zh ?_; refine Zz ?_) | (refine Zg ?_; refine Zy ?_) | intro _)
 have e0 : decide ((n : Int) ≤ 4) = Zv 4 (fun _ r => YJ r) ltR l 0 := by
  rw [Zv]; simp [hl]; omega
 rw [e0]
 refine ZL [(0, _), (2, _), (3, _), (8, _), (16, _), (17, _)] (fun (ζ : (Nat)) => [(18, .int .i64 ζ), (9, .bool (Zv 4 (fun _ r => YJ r) ltR l ζ))]) (fun (ζ : (Nat)) => ρ) (fun (ζ : (Nat)) => []) (fun (ζ : (Nat)) => ζ ≤ n) (fun (ζ : (Nat)) => n - ζ) (0) (Nat.zero_le _) Zn Zn rfl tk ?_
 rintro k hI
 try simp only [List.cons_append, List.nil_append, List.append_assoc, List.append_eq] at hI ⊢
 try dsimp only at hI ⊢
 by_cases hlt : k < n
 ·obtain ⟨b, off, C, T, fr, rfl, hb, hfit, hc⟩ := h.get (show k < l.length by omega)
  have hs := Yg (most := 4) (right := fun _ r => YJ r) (lt := ltR) (show k < l.length by omega)
  have hfin := fun (e : Zv 4 (fun _ r => YJ r) ltR l (k + 1) = false) => Yd e (show k + 1 ≤ n by omega)
  cases hok : Zv 4 (fun _ r => YJ r) ltR l k
  ·rw [hok, Bool.false_and] at hs
   rw [hfin hs]
   generalize l[k] = x at *
   repeat' (first | (refine Zj ?_; first | (refine Zi ?_; refine qQ ?_) | refine Zo ?_) | refine Zc ?_ | (refine Zh ?_; refine Zz ?_) | (refine Zg ?_; refine Zy ?_) | intro _)
   refine ZJ (Zq _ _ _) Zx ?_
   all_goals (refine ZW 0 ?_; refine ZW 1 ?_; (first | refine Zb 2 ?_ | refine Za 2 ?_ | refine ZD 2 ?_); (first | refine Zb 3 ?_ | refine Za 3 ?_ | refine ZD 3 ?_); (first | refine Zb 4 ?_ | refine Za 4 ?_ | refine ZX 4 ?_))
   all_goals (first | refine Zb 5 ?_ | refine Za 5 ?_ | (refine Zt (i := 5) ?_; ((try refine Zr ?_); (first | (refine Zo ?_; try intro _)) <;> ((try simp only [kM, kN, kO]); refine Zc ?_; refine Zs ?_))))
   all_goals (refine rPk 6 ?_; refine ZW 7 ?_; (first | refine Zb 8 ?_ | refine Za 8 ?_ | refine ZD 8 ?_); (first | refine Zb 9 ?_ | refine Za 9 ?_ | refine wCm 9 ?_); (first | refine Zb 10 ?_ | refine Za 10 ?_ | refine ZD 10 ?_); (first | refine Zb 11 ?_ | refine Za 11 ?_ | refine ZD 11 ?_); (first | refine Zb 12 ?_ | refine Za 12 ?_ | refine ZD 12 ?_); (first | refine Zb 13 ?_ | refine Za 13 ?_ | refine ZD 13 ?_); (first | refine Zb 14 ?_ | refine Za 14 ?_ | refine wSb 14 ?_); (first | refine Zb 15 ?_ | refine Za 15 ?_ | refine wIa 15 ?_); (first | refine Zb 16 ?_ | refine Za 16 ?_ | refine ZX 16 ?_); (first | refine Zb 18 ?_ | refine Za 18 ?_ | refine ZD 18 ?_); (first | refine Zb 19 ?_ | refine Za 19 ?_ | refine ZX 19 ?_))
   all_goals (first | refine Zb 17 ?_ | refine Za 17 ?_ | (refine Zt (i := 17) ?_; ((try refine Zr ?_); (first | (refine Zo ?_; try intro _)) <;> ((try simp only [kM, kN, kO]); refine Zc ?_; refine Zs ?_))))
   all_goals (first | refine Zb 20 ?_ | refine Za 20 ?_ | (refine Zt (i := 20) ?_; ((try refine Zr ?_); (first | (refine Zo ?_; try intro _)) <;> ((try simp only [kM, kN, kO]); refine Zc ?_; refine Zs ?_))))
   all_goals (first | refine Zb 21 ?_ | refine Za 21 ?_ | (refine Zt (i := 21) ?_; ((try refine Zr ?_); (first | (refine Zo ?_; try intro _)) <;> ((try simp only [kM, kN, kO]); refine Zc ?_; refine Zs ?_))))
   all_goals (refine ZY ?_; (first | refine Zb 22 ?_ | refine Za 22 ?_ | refine wCm 22 ?_); (first | refine Zb 23 ?_ | refine Za 23 ?_ | refine wPk 23 ?_); refine rPk 24 ?_; refine rAs 25 ?_; refine ZT ?_)
   repeat' (first | (refine Zj ?_; first | (refine Zi ?_; refine qQ ?_) | refine Zo ?_) | refine Zc ?_ | (refine Zh ?_; refine Zz ?_) | (refine Zg ?_; refine Zy ?_) | intro _)
   exact qE ⟨rfl, rfl, rfl⟩
  ·rw [hok, Bool.true_and] at hs
   cases hx : YJ l[k]
   ·rw [hx, Bool.false_and] at hs
    rw [hfin hs]
    generalize l[k] = x at *
    repeat' (first | (refine Zj ?_; first | (refine Zi ?_; refine qQ ?_) | refine Zo ?_) | refine Zc ?_ | (refine Zh ?_; refine Zz ?_) | (refine Zg ?_; refine Zy ?_) | intro _)
    refine ZJ (Zq _ _ _) Zx ?_
    all_goals (refine ZW 0 ?_; refine ZW 1 ?_; (first | refine Zb 2 ?_ | refine Za 2 ?_ | refine ZD 2 ?_); (first | refine Zb 3 ?_ | refine Za 3 ?_ | refine ZD 3 ?_); (first | refine Zb 4 ?_ | refine Za 4 ?_ | refine ZX 4 ?_))
    all_goals (first | refine Zb 5 ?_ | refine Za 5 ?_ | (refine Zt (i := 5) ?_; ((try refine Zr ?_); (first | (refine Zd (.tmp 25) ?_; refine qC rfl rfl (Ys _ _ _) ?_; rintro v ρ' L' hle ⟨rfl, rfl, rfl⟩ <;> (try simp only [kM, kN, kO, hx])) | (refine Zd (.tmp 34) ?_; refine qC rfl rfl (ZN _ _) ?_; rintro v ρ' L' hle ⟨rfl, rfl, rfl⟩ <;> (try simp only [kM, kN, kO])) | (refine Zd (.tmp 41) ?_; refine qC rfl rfl (ZN _ _) ?_; rintro v ρ' L' hle ⟨rfl, rfl, rfl⟩ <;> (try simp only [kM, kN, kO])) | (refine Zo ?_; try intro _)) <;> ((try simp only [kM, kN, kO]); refine Zc ?_; refine Zs ?_))))
    all_goals (refine rPk 6 ?_; refine ZW 7 ?_; (first | refine Zb 8 ?_ | refine Za 8 ?_ | refine ZD 8 ?_); (first | refine Zb 9 ?_ | refine Za 9 ?_ | refine wCm 9 ?_); (first | refine Zb 10 ?_ | refine Za 10 ?_ | refine ZD 10 ?_); (first | refine Zb 11 ?_ | refine Za 11 ?_ | refine ZD 11 ?_); (first | refine Zb 12 ?_ | refine Za 12 ?_ | refine ZD 12 ?_); (first | refine Zb 13 ?_ | refine Za 13 ?_ | refine ZD 13 ?_); (first | refine Zb 14 ?_ | refine Za 14 ?_ | refine wSb 14 ?_); (first | refine Zb 15 ?_ | refine Za 15 ?_ | refine wIa 15 ?_); (first | refine Zb 16 ?_ | refine Za 16 ?_ | refine ZX 16 ?_); (first | refine Zb 18 ?_ | refine Za 18 ?_ | refine ZD 18 ?_); (first | refine Zb 19 ?_ | refine Za 19 ?_ | refine ZX 19 ?_))
    all_goals (first | refine Zb 17 ?_ | refine Za 17 ?_ | (refine Zt (i := 17) ?_; ((try refine Zr ?_); (first | (refine Zd (.tmp 25) ?_; refine qC rfl rfl (Ys _ _ _) ?_; rintro v ρ' L' hle ⟨rfl, rfl, rfl⟩ <;> (try simp only [kM, kN, kO, hx])) | (refine Zd (.tmp 34) ?_; refine qC rfl rfl (ZN _ _) ?_; rintro v ρ' L' hle ⟨rfl, rfl, rfl⟩ <;> (try simp only [kM, kN, kO])) | (refine Zd (.tmp 41) ?_; refine qC rfl rfl (ZN _ _) ?_; rintro v ρ' L' hle ⟨rfl, rfl, rfl⟩ <;> (try simp only [kM, kN, kO])) | (refine Zo ?_; try intro _)) <;> ((try simp only [kM, kN, kO]); refine Zc ?_; refine Zs ?_))))
    all_goals (first | refine Zb 20 ?_ | refine Za 20 ?_ | (refine Zt (i := 20) ?_; ((try refine Zr ?_); (first | (refine Zd (.tmp 25) ?_; refine qC rfl rfl (Ys _ _ _) ?_; rintro v ρ' L' hle ⟨rfl, rfl, rfl⟩ <;> (try simp only [kM, kN, kO, hx])) | (refine Zd (.tmp 34) ?_; refine qC rfl rfl (ZN _ _) ?_; rintro v ρ' L' hle ⟨rfl, rfl, rfl⟩ <;> (try simp only [kM, kN, kO])) | (refine Zd (.tmp 41) ?_; refine qC rfl rfl (ZN _ _) ?_; rintro v ρ' L' hle ⟨rfl, rfl, rfl⟩ <;> (try simp only [kM, kN, kO])) | (refine Zo ?_; try intro _)) <;> ((try simp only [kM, kN, kO]); refine Zc ?_; refine Zs ?_))))
    all_goals (first | refine Zb 21 ?_ | refine Za 21 ?_ | (refine Zt (i := 21) ?_; ((try refine Zr ?_); (first | (refine Zd (.func 317) ?_; refine qC rfl rfl (YD _ _ _ _ _) ?_; rintro v ρ' L' hle ⟨rfl, rfl, rfl⟩ <;> (try simp only [kM, kN, kO])) | (refine Zo ?_; try intro _)) <;> ((try simp only [kM, kN, kO]); refine Zc ?_; refine Zs ?_))))
    all_goals (refine ZY ?_; (first | refine Zb 22 ?_ | refine Za 22 ?_ | refine wCm 22 ?_); (first | refine Zb 23 ?_ | refine Za 23 ?_ | refine wPk 23 ?_); refine rPk 24 ?_; refine rAs 25 ?_; refine ZT ?_)
    repeat' (first | (refine Zj ?_; first | (refine Zi ?_; refine qQ ?_) | refine Zo ?_) | refine Zc ?_ | (refine Zh ?_; refine Zz ?_) | (refine Zg ?_; refine Zy ?_) | intro _)
    exact qE ⟨rfl, rfl, rfl⟩
   ·rw [hx, Bool.true_and] at hs
    by_cases hk0 : k = 0
    ·have hs' : Zv 4 (fun _ r => YJ r) ltR l (k + 1) = true := by rw [hs]; simp [hk0]
     generalize l[k] = x at *
     repeat' (first | (refine Zj ?_; first | (refine Zi ?_; refine qQ ?_) | refine Zo ?_) | refine Zc ?_ | (refine Zh ?_; refine Zz ?_) | (refine Zg ?_; refine Zy ?_) | intro _)
     refine ZJ (Zq _ _ _) Zx ?_
     all_goals (refine ZW 0 ?_; refine ZW 1 ?_; (first | refine Zb 2 ?_ | refine Za 2 ?_ | refine ZD 2 ?_); (first | refine Zb 3 ?_ | refine Za 3 ?_ | refine ZD 3 ?_); (first | refine Zb 4 ?_ | refine Za 4 ?_ | refine ZX 4 ?_))
     all_goals (first | refine Zb 5 ?_ | refine Za 5 ?_ | (refine Zt (i := 5) ?_; ((try refine Zr ?_); (first | (refine Zd (.tmp 25) ?_; refine qC rfl rfl (Ys _ _ _) ?_; rintro v ρ' L' hle ⟨rfl, rfl, rfl⟩ <;> (try simp only [kM, kN, kO, hx])) | (refine Zd (.tmp 34) ?_; refine qC rfl rfl (ZN _ _) ?_; rintro v ρ' L' hle ⟨rfl, rfl, rfl⟩ <;> (try simp only [kM, kN, kO])) | (refine Zd (.tmp 41) ?_; refine qC rfl rfl (ZN _ _) ?_; rintro v ρ' L' hle ⟨rfl, rfl, rfl⟩ <;> (try simp only [kM, kN, kO])) | (refine Zo ?_; try intro _)) <;> ((try simp only [kM, kN, kO]); refine Zc ?_; refine Zs ?_))))
     all_goals (refine rPk 6 ?_; refine ZW 7 ?_; (first | refine Zb 8 ?_ | refine Za 8 ?_ | refine ZD 8 ?_); (first | refine Zb 9 ?_ | refine Za 9 ?_ | refine wCm 9 ?_); (first | refine Zb 10 ?_ | refine Za 10 ?_ | refine ZD 10 ?_); (first | refine Zb 11 ?_ | refine Za 11 ?_ | refine ZD 11 ?_); (first | refine Zb 12 ?_ | refine Za 12 ?_ | refine ZD 12 ?_); (first | refine Zb 13 ?_ | refine Za 13 ?_ | refine ZD 13 ?_); (first | refine Zb 14 ?_ | refine Za 14 ?_ | refine wSb 14 ?_); (first | refine Zb 15 ?_ | refine Za 15 ?_ | refine wIa 15 ?_); (first | refine Zb 16 ?_ | refine Za 16 ?_ | refine ZX 16 ?_); (first | refine Zb 18 ?_ | refine Za 18 ?_ | refine ZD 18 ?_); (first | refine Zb 19 ?_ | refine Za 19 ?_ | refine ZX 19 ?_))
     all_goals (first | refine Zb 17 ?_ | refine Za 17 ?_ | (refine Zt (i := 17) ?_; ((try refine Zr ?_); (first | (refine Zd (.tmp 25) ?_; refine qC rfl rfl (Ys _ _ _) ?_; rintro v ρ' L' hle ⟨rfl, rfl, rfl⟩ <;> (try simp only [kM, kN, kO, hx])) | (refine Zd (.tmp 34) ?_; refine qC rfl rfl (ZN _ _) ?_; rintro v ρ' L' hle ⟨rfl, rfl, rfl⟩ <;> (try simp only [kM, kN, kO])) | (refine Zd (.tmp 41) ?_; refine qC rfl rfl (ZN _ _) ?_; rintro v ρ' L' hle ⟨rfl, rfl, rfl⟩ <;> (try simp only [kM, kN, kO])) | (refine Zo ?_; try intro _)) <;> ((try simp only [kM, kN, kO]); refine Zc ?_; refine Zs ?_))))
     all_goals (first | refine Zb 20 ?_ | refine Za 20 ?_ | (refine Zt (i := 20) ?_; ((try refine Zr ?_); (first | (refine Zd (.tmp 25) ?_; refine qC rfl rfl (Ys _ _ _) ?_; rintro v ρ' L' hle ⟨rfl, rfl, rfl⟩ <;> (try simp only [kM, kN, kO, hx])) | (refine Zd (.tmp 34) ?_; refine qC rfl rfl (ZN _ _) ?_; rintro v ρ' L' hle ⟨rfl, rfl, rfl⟩ <;> (try simp only [kM, kN, kO])) | (refine Zd (.tmp 41) ?_; refine qC rfl rfl (ZN _ _) ?_; rintro v ρ' L' hle ⟨rfl, rfl, rfl⟩ <;> (try simp only [kM, kN, kO])) | (refine Zo ?_; try intro _)) <;> ((try simp only [kM, kN, kO]); refine Zc ?_; refine Zs ?_))))
     all_goals (first | refine Zb 21 ?_ | refine Za 21 ?_ | (refine Zt (i := 21) ?_; ((try refine Zr ?_); (first | (refine Zd (.func 317) ?_; refine qC rfl rfl (YD _ _ _ _ _) ?_; rintro v ρ' L' hle ⟨rfl, rfl, rfl⟩ <;> (try simp only [kM, kN, kO])) | (refine Zo ?_; try intro _)) <;> ((try simp only [kM, kN, kO]); refine Zc ?_; refine Zs ?_))))
     all_goals (refine ZY ?_; (first | refine Zb 22 ?_ | refine Za 22 ?_ | refine wCm 22 ?_); (first | refine Zb 23 ?_ | refine Za 23 ?_ | refine wPk 23 ?_); refine rPk 24 ?_; refine rAs 25 ?_; refine ZT ?_)
     repeat' (first | (refine Zj ?_; first | (refine Zi ?_; refine qQ ?_) | refine Zo ?_) | refine Zc ?_ | (refine Zh ?_; refine Zz ?_) | (refine Zg ?_; refine Zy ?_) | intro _)
     rw [← hs']
     refine Zu (k + 1) (hlt) Zn Zn rfl tk inferInstance (by first | omega | (dsimp only; omega))
    ·have hd : decide (k = 0) = false := decide_eq_false hk0
     obtain ⟨b2, off2, C2, T2, fr2, f1, hb2, hfit2, hc2⟩ := h.get (show k - 1 < l.length by omega)
     cases f1
     rw [hb] at hb2
     cases hb2
     have ek : ((k : Int) - 1).toNat = k - 1 := by omega
     rw [← ek] at hfit2
     have hc3 : List.take 4 (List.drop (off + ((k : Int) - 1).toNat * 4) C) = Yx (l[k - 1]'(by omega)) := by rw [ek]; exact hc2
     clear hc2
     rw [hd, Bool.false_or] at hs
     generalize l[k] = x at *
     generalize l[k - 1]'(by omega) = y at *
     unfold ltR at hs
     by_cases hcm : cmpK y.t y.id x.t x.id < 0
     ·rw [decide_eq_true hcm] at hs
      repeat' (first | (refine Zj ?_; first | (refine Zi ?_; refine qQ ?_) | refine Zo ?_) | refine Zc ?_ | (refine Zh ?_; refine Zz ?_) | (refine Zg ?_; refine Zy ?_) | intro _)
      refine ZJ (Zq _ _ _) Zx ?_
      all_goals (refine ZW 0 ?_; refine ZW 1 ?_; (first | refine Zb 2 ?_ | refine Za 2 ?_ | refine ZD 2 ?_); (first | refine Zb 3 ?_ | refine Za 3 ?_ | refine ZD 3 ?_); (first | refine Zb 4 ?_ | refine Za 4 ?_ | refine ZX 4 ?_))
      all_goals (first | refine Zb 5 ?_ | refine Za 5 ?_ | (refine Zt (i := 5) ?_; ((try refine Zr ?_); (first | (refine Zd (.tmp 25) ?_; refine qC rfl rfl (Ys _ _ _) ?_; rintro v ρ' L' hle ⟨rfl, rfl, rfl⟩ <;> (try simp only [kM, kN, kO, hx])) | (refine Zd (.tmp 34) ?_; refine qC rfl rfl (ZN _ _) ?_; rintro v ρ' L' hle ⟨rfl, rfl, rfl⟩ <;> (try simp only [kM, kN, kO])) | (refine Zd (.tmp 41) ?_; refine qC rfl rfl (ZN _ _) ?_; rintro v ρ' L' hle ⟨rfl, rfl, rfl⟩ <;> (try simp only [kM, kN, kO])) | (refine Zo ?_; try intro _)) <;> ((try simp only [kM, kN, kO]); refine Zc ?_; refine Zs ?_))))
      all_goals (refine rPk 6 ?_; refine ZW 7 ?_; (first | refine Zb 8 ?_ | refine Za 8 ?_ | refine ZD 8 ?_); (first | refine Zb 9 ?_ | refine Za 9 ?_ | refine wCm 9 ?_); (first | refine Zb 10 ?_ | refine Za 10 ?_ | refine ZD 10 ?_); (first | refine Zb 11 ?_ | refine Za 11 ?_ | refine ZD 11 ?_); (first | refine Zb 12 ?_ | refine Za 12 ?_ | refine ZD 12 ?_); (first | refine Zb 13 ?_ | refine Za 13 ?_ | refine ZD 13 ?_); (first | refine Zb 14 ?_ | refine Za 14 ?_ | refine wSb 14 ?_); (first | refine Zb 15 ?_ | refine Za 15 ?_ | refine wIa 15 ?_); (first | refine Zb 16 ?_ | refine Za 16 ?_ | refine ZX 16 ?_); (first | refine Zb 18 ?_ | refine Za 18 ?_ | refine ZD 18 ?_); (first | refine Zb 19 ?_ | refine Za 19 ?_ | refine ZX 19 ?_))
      all_goals (first | refine Zb 17 ?_ | refine Za 17 ?_ | (refine Zt (i := 17) ?_; ((try refine Zr ?_); (first | (refine Zd (.tmp 25) ?_; refine qC rfl rfl (Ys _ _ _) ?_; rintro v ρ' L' hle ⟨rfl, rfl, rfl⟩ <;> (try simp only [kM, kN, kO, hx])) | (refine Zd (.tmp 34) ?_; refine qC rfl rfl (ZN _ _) ?_; rintro v ρ' L' hle ⟨rfl, rfl, rfl⟩ <;> (try simp only [kM, kN, kO])) | (refine Zd (.tmp 41) ?_; refine qC rfl rfl (ZN _ _) ?_; rintro v ρ' L' hle ⟨rfl, rfl, rfl⟩ <;> (try simp only [kM, kN, kO])) | (refine Zo ?_; try intro _)) <;> ((try simp only [kM, kN, kO]); refine Zc ?_; refine Zs ?_))))
      all_goals (first | refine Zb 20 ?_ | refine Za 20 ?_ | (refine Zt (i := 20) ?_; ((try refine Zr ?_); (first | (refine Zd (.tmp 25) ?_; refine qC rfl rfl (Ys _ _ _) ?_; rintro v ρ' L' hle ⟨rfl, rfl, rfl⟩ <;> (try simp only [kM, kN, kO, hx])) | (refine Zd (.tmp 34) ?_; refine qC rfl rfl (ZN _ _) ?_; rintro v ρ' L' hle ⟨rfl, rfl, rfl⟩ <;> (try simp only [kM, kN, kO])) | (refine Zd (.tmp 41) ?_; refine qC rfl rfl (ZN _ _) ?_; rintro v ρ' L' hle ⟨rfl, rfl, rfl⟩ <;> (try simp only [kM, kN, kO])) | (refine Zo ?_; try intro _)) <;> ((try simp only [kM, kN, kO]); refine Zc ?_; refine Zs ?_))))
      all_goals (first | refine Zb 21 ?_ | refine Za 21 ?_ | (refine Zt (i := 21) ?_; ((try refine Zr ?_); (first | (refine Zd (.func 317) ?_; refine qC rfl rfl (YD _ _ _ _ _) ?_; rintro v ρ' L' hle ⟨rfl, rfl, rfl⟩ <;> (try simp only [kM, kN, kO])) | (refine Zo ?_; try intro _)) <;> ((try simp only [kM, kN, kO]); refine Zc ?_; refine Zs ?_))))
      all_goals (refine ZY ?_; (first | refine Zb 22 ?_ | refine Za 22 ?_ | refine wCm 22 ?_); (first | refine Zb 23 ?_ | refine Za 23 ?_ | refine wPk 23 ?_); refine rPk 24 ?_; refine rAs 25 ?_; refine ZT ?_)
      all_goals (repeat' (first | (refine Zj ?_; first | (refine Zi ?_; refine qQ ?_) | refine Zo ?_) | refine Zc ?_ | (refine Zh ?_; refine Zz ?_) | (refine Zg ?_; refine Zy ?_) | intro _))
      all_goals rw [← hs]
      all_goals refine Zu (k + 1) (hlt) Zn Zn rfl tk inferInstance (by first | omega | (dsimp only; omega))
     ·rw [decide_eq_false hcm] at hs
      rw [hfin hs]
      repeat' (first | (refine Zj ?_; first | (refine Zi ?_; refine qQ ?_) | refine Zo ?_) | refine Zc ?_ | (refine Zh ?_; refine Zz ?_) | (refine Zg ?_; refine Zy ?_) | intro _)
      refine ZJ (Zq _ _ _) Zx ?_
      all_goals (refine ZW 0 ?_; refine ZW 1 ?_; (first | refine Zb 2 ?_ | refine Za 2 ?_ | refine ZD 2 ?_); (first | refine Zb 3 ?_ | refine Za 3 ?_ | refine ZD 3 ?_); (first | refine Zb 4 ?_ | refine Za 4 ?_ | refine ZX 4 ?_))
      all_goals (first | refine Zb 5 ?_ | refine Za 5 ?_ | (refine Zt (i := 5) ?_; ((try refine Zr ?_); (first | (refine Zd (.tmp 25) ?_; refine qC rfl rfl (Ys _ _ _) ?_; rintro v ρ' L' hle ⟨rfl, rfl, rfl⟩ <;> (try simp only [kM, kN, kO, hx])) | (refine Zd (.tmp 34) ?_; refine qC rfl rfl (ZN _ _) ?_; rintro v ρ' L' hle ⟨rfl, rfl, rfl⟩ <;> (try simp only [kM, kN, kO])) | (refine Zd (.tmp 41) ?_; refine qC rfl rfl (ZN _ _) ?_; rintro v ρ' L' hle ⟨rfl, rfl, rfl⟩ <;> (try simp only [kM, kN, kO])) | (refine Zo ?_; try intro _)) <;> ((try simp only [kM, kN, kO]); refine Zc ?_; refine Zs ?_))))
      all_goals (refine rPk 6 ?_; refine ZW 7 ?_; (first | refine Zb 8 ?_ | refine Za 8 ?_ | refine ZD 8 ?_); (first | refine Zb 9 ?_ | refine Za 9 ?_ | refine wCm 9 ?_); (first | refine Zb 10 ?_ | refine Za 10 ?_ | refine ZD 10 ?_); (first | refine Zb 11 ?_ | refine Za 11 ?_ | refine ZD 11 ?_); (first | refine Zb 12 ?_ | refine Za 12 ?_ | refine ZD 12 ?_); (first | refine Zb 13 ?_ | refine Za 13 ?_ | refine ZD 13 ?_); (first | refine Zb 14 ?_ | refine Za 14 ?_ | refine wSb 14 ?_); (first | refine Zb 15 ?_ | refine Za 15 ?_ | refine wIa 15 ?_); (first | refine Zb 16 ?_ | refine Za 16 ?_ | refine ZX 16 ?_); (first | refine Zb 18 ?_ | refine Za 18 ?_ | refine ZD 18 ?_); (first | refine Zb 19 ?_ | refine Za 19 ?_ | refine ZX 19 ?_))
      all_goals (first | refine Zb 17 ?_ | refine Za 17 ?_ | (refine Zt (i := 17) ?_; ((try refine Zr ?_); (first | (refine Zd (.tmp 25) ?_; refine qC rfl rfl (Ys _ _ _) ?_; rintro v ρ' L' hle ⟨rfl, rfl, rfl⟩ <;> (try simp only [kM, kN, kO, hx])) | (refine Zd (.tmp 34) ?_; refine qC rfl rfl (ZN _ _) ?_; rintro v ρ' L' hle ⟨rfl, rfl, rfl⟩ <;> (try simp only [kM, kN, kO])) | (refine Zd (.tmp 41) ?_; refine qC rfl rfl (ZN _ _) ?_; rintro v ρ' L' hle ⟨rfl, rfl, rfl⟩ <;> (try simp only [kM, kN, kO])) | (refine Zo ?_; try intro _)) <;> ((try simp only [kM, kN, kO]); refine Zc ?_; refine Zs ?_))))
      all_goals (first | refine Zb 20 ?_ | refine Za 20 ?_ | (refine Zt (i := 20) ?_; ((try refine Zr ?_); (first | (refine Zd (.tmp 25) ?_; refine qC rfl rfl (Ys _ _ _) ?_; rintro v ρ' L' hle ⟨rfl, rfl, rfl⟩ <;> (try simp only [kM, kN, kO, hx])) | (refine Zd (.tmp 34) ?_; refine qC rfl rfl (ZN _ _) ?_; rintro v ρ' L' hle ⟨rfl, rfl, rfl⟩ <;> (try simp only [kM, kN, kO])) | (refine Zd (.tmp 41) ?_; refine qC rfl rfl (ZN _ _) ?_; rintro v ρ' L' hle ⟨rfl, rfl, rfl⟩ <;> (try simp only [kM, kN, kO])) | (refine Zo ?_; try intro _)) <;> ((try simp only [kM, kN, kO]); refine Zc ?_; refine Zs ?_))))
      all_goals (first | refine Zb 21 ?_ | refine Za 21 ?_ | (refine Zt (i := 21) ?_; ((try refine Zr ?_); (first | (refine Zd (.func 317) ?_; refine qC rfl rfl (YD _ _ _ _ _) ?_; rintro v ρ' L' hle ⟨rfl, rfl, rfl⟩ <;> (try simp only [kM, kN, kO])) | (refine Zo ?_; try intro _)) <;> ((try simp only [kM, kN, kO]); refine Zc ?_; refine Zs ?_))))
      all_goals (refine ZY ?_; (first | refine Zb 22 ?_ | refine Za 22 ?_ | refine wCm 22 ?_); (first | refine Zb 23 ?_ | refine Za 23 ?_ | refine wPk 23 ?_); refine rPk 24 ?_; refine rAs 25 ?_; refine ZT ?_)
      all_goals (repeat' (first | (refine Zj ?_; first | (refine Zi ?_; refine qQ ?_) | refine Zo ?_) | refine Zc ?_ | (refine Zh ?_; refine Zz ?_) | (refine Zg ?_; refine Zy ?_) | intro _))
      all_goals exact qE ⟨rfl, rfl, rfl⟩
 ·have hk2 : k = n := by omega
  subst hk2
  repeat' (first | (refine Zj ?_; first | (refine Zi ?_; refine qQ ?_) | refine Zo ?_) | refine Zc ?_ | (refine Zh ?_; refine Zz ?_) | (refine Zg ?_; refine Zy ?_) | intro _)
  exact qE ⟨rfl, rfl, rfl⟩
end Go.Proofs.E
