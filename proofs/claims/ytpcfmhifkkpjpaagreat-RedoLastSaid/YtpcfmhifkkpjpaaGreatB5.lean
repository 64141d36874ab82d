/- Laws of RedoLast. Part 5 of 19. -/
import Derived.Test.YtpcfmhifkkpjpaaGreatB4
import Derived.Test.YtpcfmhifkkpjpaaGreatChecked
import Derived.KernelRfl
namespace Go.Proofs.E
open Go Go.Proofs.E
set_option linter.unusedVariables false
theorem Ym {t : TypeId} {b : Bool} (h : (Tryz.prog.underlying t).map isIfaceD = some b := by kernel_rfl) : Ze Tryz.prog t b := mkTyIface h
theorem tqS {t : TypeId} (h : (Tryz.prog.underlying t).map isAggD = some false := by kernel_rfl) (k : (Tryz.prog.info? t).map (·.size) = some 1 := by kernel_rfl) : TyS Tryz.prog t := mkTyS h k
theorem tqA {t : TypeId} {n : Nat} (h : (Tryz.prog.underlying t).map isAggD = some true := by kernel_rfl) (k : (Tryz.prog.info? t).map (·.size) = some n := by kernel_rfl) : TyA Tryz.prog t n := mkTyA h k
theorem Yn {t : TypeId} {n : Nat} (k : (Tryz.prog.info? t).map (·.size) = some n := by kernel_rfl) : Zo Tryz.prog t n := mkTySz k
theorem Yk {t : TypeId} {n : Nat} (k : (Tryz.prog.info? t).map (·.bytes) = some n := by kernel_rfl) : Zd Tryz.prog t n := mkTyBytes k
theorem Yo {t : TypeId} {z : Value} (k : (Tryz.prog.info? t).bind (·.zero) = some z := by kernel_rfl) : Zh Tryz.prog t z := mkTyZero k
theorem tqF {t : TypeId} (h : (Tryz.prog.underlying t).map isFuncD = some true := by kernel_rfl) : ZN Tryz.prog t := mkTyFunc h
theorem ZQ {s : TypeId} {f off : Nat} {ft : TypeId} (h : fldB Tryz.prog s f = some (off, ft) := by kernel_rfl) : ZM Tryz.prog s f off ft := mkFld h
theorem ZS {f : FuncId} (h : funB Tryz.prog f = true := by kernel_rfl) : ZJ Tryz.prog f := mkFun h
instance : TyS Tryz.prog 1 := tqS
instance : Ze Tryz.prog 1 false := Ym
instance : ZN Tryz.prog 1 := tqF
instance : Zo Tryz.prog 1 1 := Yn
instance : Zd Tryz.prog 1 8 := Yk
instance : Zh Tryz.prog 1 (.nilFunc) := Yo
instance : TyS Tryz.prog 2 := tqS
instance : Ze Tryz.prog 2 false := Ym
instance : Zo Tryz.prog 2 1 := Yn
instance : Zd Tryz.prog 2 8 := Yk
instance : Zh Tryz.prog 2 (.int .i64 0) := Yo
instance : YO Tryz.prog 2 .i64 := ⟨by kernel_rfl⟩
instance : TyS Tryz.prog 3 := tqS
instance : Ze Tryz.prog 3 false := Ym
instance : Zo Tryz.prog 3 1 := Yn
instance : Zd Tryz.prog 3 8 := Yk
instance : Zh Tryz.prog 3 (.int .i64 0) := Yo
instance : YO Tryz.prog 3 .i64 := ⟨by kernel_rfl⟩
instance : TyS Tryz.prog 4 := tqS
instance : Ze Tryz.prog 4 false := Ym
instance : Zo Tryz.prog 4 1 := Yn
instance : Zd Tryz.prog 4 1 := Yk
instance : Zh Tryz.prog 4 (.bool false) := Yo
instance : TyBool Tryz.prog 4 := ⟨by kernel_rfl⟩
instance : TyS Tryz.prog 5 := tqS
instance : Ze Tryz.prog 5 false := Ym
instance : Zo Tryz.prog 5 1 := Yn
instance : Zd Tryz.prog 5 1 := Yk
instance : Zh Tryz.prog 5 (.int .u8 0) := Yo
instance : YO Tryz.prog 5 .u8 := ⟨by kernel_rfl⟩
instance : TyA Tryz.prog 7 4 := tqA
instance : Ze Tryz.prog 7 false := Ym
instance : Zo Tryz.prog 7 4 := Yn
instance : Zd Tryz.prog 7 24 := Yk
instance : Zh Tryz.prog 7 (.agg ⟨[.int .i64 0, .int .i64 0, .bool false, .int .u8 0]⟩) := Yo
instance : Zv Tryz.prog 7 := ⟨by kernel_rfl⟩
instance : ZM Tryz.prog 7 0 0 2 := ZQ
instance : ZM Tryz.prog 7 1 1 3 := ZQ
instance : ZM Tryz.prog 7 2 2 4 := ZQ
instance : ZM Tryz.prog 7 3 3 6 := ZQ
instance : Zq Tryz.prog 7 (([(0, 1), (1, 1), (2, 1), (3, 1)] : List (Nat × Nat))[·]?) := Zm (by kernel_rfl)
instance : TyS Tryz.prog 9 := tqS
instance : Ze Tryz.prog 9 false := Ym
instance : Zo Tryz.prog 9 1 := Yn
instance : Zd Tryz.prog 9 16 := Yk
instance : Zh Tryz.prog 9 (.string ⟨⟨[]⟩⟩) := Yo
instance : TyStr Tryz.prog 9 := ⟨by kernel_rfl⟩
instance : TyS Tryz.prog 12 := tqS
instance : Ze Tryz.prog 12 false := Ym
instance : Zo Tryz.prog 12 1 := Yn
instance : Zd Tryz.prog 12 8 := Yk
instance : Zh Tryz.prog 12 (.int .u64 0) := Yo
instance : YO Tryz.prog 12 .u64 := ⟨by kernel_rfl⟩
instance : TyS Tryz.prog 16 := tqS
instance : Ze Tryz.prog 16 false := Ym
instance : Zo Tryz.prog 16 1 := Yn
instance : Zd Tryz.prog 16 8 := Yk
instance : Zh Tryz.prog 16 (.pointer none) := Yo
instance : TyPtr Tryz.prog 16 448 := ⟨by kernel_rfl⟩
instance : TyS Tryz.prog 17 := tqS
instance : Ze Tryz.prog 17 false := Ym
instance : Zo Tryz.prog 17 1 := Yn
instance : Zd Tryz.prog 17 8 := Yk
instance : Zh Tryz.prog 17 (.pointer none) := Yo
instance : TyPtr Tryz.prog 17 456 := ⟨by kernel_rfl⟩
instance : TyS Tryz.prog 20 := tqS
instance : Ze Tryz.prog 20 true := Ym
instance : Zo Tryz.prog 20 1 := Yn
instance : Zd Tryz.prog 20 16 := Yk
instance : Zh Tryz.prog 20 (.nilIface) := Yo
instance : TyS Tryz.prog 21 := tqS
instance : Ze Tryz.prog 21 false := Ym
instance : Zo Tryz.prog 21 1 := Yn
instance : Zd Tryz.prog 21 4 := Yk
instance : Zh Tryz.prog 21 (.int .i32 0) := Yo
instance : YO Tryz.prog 21 .i32 := ⟨by kernel_rfl⟩
instance : TyS Tryz.prog 22 := tqS
instance : Ze Tryz.prog 22 false := Ym
instance : Zo Tryz.prog 22 1 := Yn
instance : Zd Tryz.prog 22 24 := Yk
instance : Zh Tryz.prog 22 (.slice none 0 0) := Yo
instance : ZC Tryz.prog 22 5 := ⟨by kernel_rfl⟩
instance : TyS Tryz.prog 23 := tqS
instance : Ze Tryz.prog 23 false := Ym
instance : Zo Tryz.prog 23 1 := Yn
instance : Zd Tryz.prog 23 24 := Yk
instance : Zh Tryz.prog 23 (.slice none 0 0) := Yo
instance : ZC Tryz.prog 23 39 := ⟨by kernel_rfl⟩
instance : TyS Tryz.prog 24 := tqS
instance : Ze Tryz.prog 24 false := Ym
instance : Zo Tryz.prog 24 1 := Yn
instance : Zd Tryz.prog 24 24 := Yk
instance : Zh Tryz.prog 24 (.slice none 0 0) := Yo
instance : ZC Tryz.prog 24 22 := ⟨by kernel_rfl⟩
instance : TyS Tryz.prog 25 := tqS
instance : Ze Tryz.prog 25 false := Ym
instance : ZN Tryz.prog 25 := tqF
instance : Zo Tryz.prog 25 1 := Yn
instance : Zd Tryz.prog 25 8 := Yk
instance : Zh Tryz.prog 25 (.nilFunc) := Yo
instance : TyS Tryz.prog 26 := tqS
instance : Ze Tryz.prog 26 false := Ym
instance : Zo Tryz.prog 26 1 := Yn
instance : Zd Tryz.prog 26 8 := Yk
instance : Zh Tryz.prog 26 (.pointer none) := Yo
instance : TyPtr Tryz.prog 26 153 := ⟨by kernel_rfl⟩
instance : TyS Tryz.prog 27 := tqS
instance : Ze Tryz.prog 27 false := Ym
instance : Zo Tryz.prog 27 1 := Yn
instance : Zd Tryz.prog 27 8 := Yk
instance : Zh Tryz.prog 27 (.int .i64 0) := Yo
instance : YO Tryz.prog 27 .i64 := ⟨by kernel_rfl⟩
instance : TyS Tryz.prog 30 := tqS
instance : Ze Tryz.prog 30 false := Ym
instance : Zo Tryz.prog 30 1 := Yn
instance : Zd Tryz.prog 30 8 := Yk
instance : Zh Tryz.prog 30 (.pointer none) := Yo
instance : TyPtr Tryz.prog 30 163 := ⟨by kernel_rfl⟩
instance : TyS Tryz.prog 32 := tqS
instance : Ze Tryz.prog 32 false := Ym
instance : ZN Tryz.prog 32 := tqF
instance : Zo Tryz.prog 32 1 := Yn
instance : Zd Tryz.prog 32 8 := Yk
instance : Zh Tryz.prog 32 (.nilFunc) := Yo
instance : TyS Tryz.prog 33 := tqS
instance : Ze Tryz.prog 33 false := Ym
instance : Zo Tryz.prog 33 1 := Yn
instance : Zd Tryz.prog 33 8 := Yk
instance : Zh Tryz.prog 33 (.int .u64 0) := Yo
instance : YO Tryz.prog 33 .u64 := ⟨by kernel_rfl⟩
instance : TyS Tryz.prog 34 := tqS
instance : Ze Tryz.prog 34 false := Ym
instance : Zo Tryz.prog 34 1 := Yn
instance : Zd Tryz.prog 34 24 := Yk
instance : Zh Tryz.prog 34 (.slice none 0 0) := Yo
instance : ZC Tryz.prog 34 165 := ⟨by kernel_rfl⟩
instance : TyS Tryz.prog 35 := tqS
instance : Ze Tryz.prog 35 false := Ym
instance : Zo Tryz.prog 35 1 := Yn
instance : Zd Tryz.prog 35 24 := Yk
instance : Zh Tryz.prog 35 (.slice none 0 0) := Yo
instance : ZC Tryz.prog 35 173 := ⟨by kernel_rfl⟩
instance : TyS Tryz.prog 36 := tqS
instance : Ze Tryz.prog 36 false := Ym
instance : Zo Tryz.prog 36 1 := Yn
instance : Zd Tryz.prog 36 24 := Yk
instance : Zh Tryz.prog 36 (.slice none 0 0) := Yo
instance : ZC Tryz.prog 36 187 := ⟨by kernel_rfl⟩
instance : TyS Tryz.prog 37 := tqS
instance : Ze Tryz.prog 37 false := Ym
instance : Zo Tryz.prog 37 1 := Yn
instance : Zd Tryz.prog 37 24 := Yk
instance : Zh Tryz.prog 37 (.slice none 0 0) := Yo
instance : ZC Tryz.prog 37 108 := ⟨by kernel_rfl⟩
instance : TyA Tryz.prog 38 10 := tqA
instance : Ze Tryz.prog 38 false := Ym
instance : Zo Tryz.prog 38 10 := Yn
instance : Zd Tryz.prog 38 144 := Yk
instance : Zh Tryz.prog 38 (.agg ⟨[.int .i64 0, .int .u64 0, .int .i64 0, .int .u64 0, .int .u64 0, .slice none 0 0, .slice none 0 0, .int .i64 0, .slice none 0 0, .slice none 0 0]⟩) := Yo
instance : Zv Tryz.prog 38 := ⟨by kernel_rfl⟩
instance : ZM Tryz.prog 38 0 0 3 := ZQ
instance : ZM Tryz.prog 38 1 1 33 := ZQ
instance : ZM Tryz.prog 38 2 2 3 := ZQ
instance : ZM Tryz.prog 38 3 3 33 := ZQ
instance : ZM Tryz.prog 38 4 4 33 := ZQ
instance : ZM Tryz.prog 38 5 5 34 := ZQ
instance : ZM Tryz.prog 38 6 6 35 := ZQ
instance : ZM Tryz.prog 38 7 7 3 := ZQ
instance : ZM Tryz.prog 38 8 8 36 := ZQ
instance : ZM Tryz.prog 38 9 9 37 := ZQ
instance : Zq Tryz.prog 38 (([(0, 1), (1, 1), (2, 1), (3, 1), (4, 1), (5, 1), (6, 1), (7, 1), (8, 1), (9, 1)] : List (Nat × Nat))[·]?) := Zm (by kernel_rfl)
instance : TyA Tryz.prog 39 10 := tqA
instance : Ze Tryz.prog 39 false := Ym
instance : Zo Tryz.prog 39 10 := Yn
instance : Zd Tryz.prog 39 144 := Yk
instance : Zh Tryz.prog 39 (.agg ⟨[.int .i64 0, .int .u64 0, .int .i64 0, .int .u64 0, .int .u64 0, .slice none 0 0, .slice none 0 0, .int .i64 0, .slice none 0 0, .slice none 0 0]⟩) := Yo
instance : Zv Tryz.prog 39 := ⟨by kernel_rfl⟩
instance : YT Tryz.prog 39 [(0, 3), (1, 33), (2, 3), (3, 33), (4, 33), (5, 34), (6, 35), (7, 3), (8, 36), (9, 37)] := Yg (by kernel_rfl)
instance : ZM Tryz.prog 39 0 0 3 := ZQ
instance : ZM Tryz.prog 39 1 1 33 := ZQ
instance : ZM Tryz.prog 39 2 2 3 := ZQ
instance : ZM Tryz.prog 39 3 3 33 := ZQ
instance : ZM Tryz.prog 39 4 4 33 := ZQ
instance : ZM Tryz.prog 39 5 5 34 := ZQ
instance : ZM Tryz.prog 39 6 6 35 := ZQ
instance : ZM Tryz.prog 39 7 7 3 := ZQ
instance : ZM Tryz.prog 39 8 8 36 := ZQ
instance : ZM Tryz.prog 39 9 9 37 := ZQ
instance : Zq Tryz.prog 39 (([(0, 1), (1, 1), (2, 1), (3, 1), (4, 1), (5, 1), (6, 1), (7, 1), (8, 1), (9, 1)] : List (Nat × Nat))[·]?) := Zm (by kernel_rfl)
instance : TyS Tryz.prog 40 := tqS
instance : Ze Tryz.prog 40 false := Ym
instance : ZN Tryz.prog 40 := tqF
instance : Zo Tryz.prog 40 1 := Yn
instance : Zd Tryz.prog 40 8 := Yk
instance : Zh Tryz.prog 40 (.nilFunc) := Yo
instance : TyS Tryz.prog 41 := tqS
instance : Ze Tryz.prog 41 false := Ym
instance : ZN Tryz.prog 41 := tqF
instance : Zo Tryz.prog 41 1 := Yn
instance : Zd Tryz.prog 41 8 := Yk
instance : Zh Tryz.prog 41 (.nilFunc) := Yo
instance : TyS Tryz.prog 44 := tqS
instance : Ze Tryz.prog 44 false := Ym
instance : ZN Tryz.prog 44 := tqF
instance : Zo Tryz.prog 44 1 := Yn
instance : Zd Tryz.prog 44 8 := Yk
instance : Zh Tryz.prog 44 (.nilFunc) := Yo
instance : TyA Tryz.prog 48 5 := tqA
instance : Ze Tryz.prog 48 false := Ym
instance : Zo Tryz.prog 48 5 := Yn
instance : Zd Tryz.prog 48 56 := Yk
instance : Zh Tryz.prog 48 (.agg ⟨[.int .u64 0, .int .u64 0, .int .u64 0, .int .i64 0, .slice none 0 0]⟩) := Yo
instance : Zv Tryz.prog 48 := ⟨by kernel_rfl⟩
instance : ZM Tryz.prog 48 0 0 33 := ZQ
instance : ZM Tryz.prog 48 1 1 33 := ZQ
instance : ZM Tryz.prog 48 2 2 33 := ZQ
instance : ZM Tryz.prog 48 3 3 3 := ZQ
instance : ZM Tryz.prog 48 4 4 23 := ZQ
instance : Zq Tryz.prog 48 (([(0, 1), (1, 1), (2, 1), (3, 1), (4, 1)] : List (Nat × Nat))[·]?) := Zm (by kernel_rfl)
instance : TyS Tryz.prog 52 := tqS
instance : Ze Tryz.prog 52 false := Ym
instance : Zo Tryz.prog 52 1 := Yn
instance : Zd Tryz.prog 52 8 := Yk
instance : Zh Tryz.prog 52 (.pointer none) := Yo
instance : TyPtr Tryz.prog 52 193 := ⟨by kernel_rfl⟩
instance : TyS Tryz.prog 56 := tqS
instance : Ze Tryz.prog 56 false := Ym
instance : ZN Tryz.prog 56 := tqF
instance : Zo Tryz.prog 56 1 := Yn
instance : Zd Tryz.prog 56 8 := Yk
instance : Zh Tryz.prog 56 (.nilFunc) := Yo
instance : TyS Tryz.prog 58 := tqS
instance : Ze Tryz.prog 58 false := Ym
instance : Zo Tryz.prog 58 1 := Yn
instance : Zd Tryz.prog 58 24 := Yk
instance : Zh Tryz.prog 58 (.slice none 0 0) := Yo
instance : ZC Tryz.prog 58 3 := ⟨by kernel_rfl⟩
instance : TyS Tryz.prog 60 := tqS
instance : Ze Tryz.prog 60 false := Ym
instance : Zo Tryz.prog 60 1 := Yn
instance : Zd Tryz.prog 60 24 := Yk
instance : Zh Tryz.prog 60 (.slice none 0 0) := Yo
instance : ZC Tryz.prog 60 4 := ⟨by kernel_rfl⟩
instance : TyS Tryz.prog 64 := tqS
instance : Ze Tryz.prog 64 false := Ym
instance : ZN Tryz.prog 64 := tqF
instance : Zo Tryz.prog 64 1 := Yn
instance : Zd Tryz.prog 64 8 := Yk
instance : Zh Tryz.prog 64 (.nilFunc) := Yo
instance : TyS Tryz.prog 72 := tqS
instance : Ze Tryz.prog 72 false := Ym
instance : ZN Tryz.prog 72 := tqF
instance : Zo Tryz.prog 72 1 := Yn
instance : Zd Tryz.prog 72 8 := Yk
instance : Zh Tryz.prog 72 (.nilFunc) := Yo
instance : TyS Tryz.prog 73 := tqS
instance : Ze Tryz.prog 73 false := Ym
instance : Zo Tryz.prog 73 1 := Yn
instance : Zd Tryz.prog 73 24 := Yk
instance : Zh Tryz.prog 73 (.slice none 0 0) := Yo
instance : ZC Tryz.prog 73 217 := ⟨by kernel_rfl⟩
instance : TyA Tryz.prog 74 2 := tqA
instance : Ze Tryz.prog 74 false := Ym
instance : Zo Tryz.prog 74 2 := Yn
instance : Zd Tryz.prog 74 48 := Yk
instance : Zh Tryz.prog 74 (.agg ⟨[.slice none 0 0, .slice none 0 0]⟩) := Yo
instance : Zv Tryz.prog 74 := ⟨by kernel_rfl⟩
instance : ZM Tryz.prog 74 0 0 23 := ZQ
instance : ZM Tryz.prog 74 1 1 73 := ZQ
instance : Zq Tryz.prog 74 (([(0, 1), (1, 1)] : List (Nat × Nat))[·]?) := Zm (by kernel_rfl)
instance : TyA Tryz.prog 75 2 := tqA
instance : Ze Tryz.prog 75 false := Ym
instance : Zo Tryz.prog 75 2 := Yn
instance : Zd Tryz.prog 75 48 := Yk
instance : Zh Tryz.prog 75 (.agg ⟨[.slice none 0 0, .slice none 0 0]⟩) := Yo
instance : Zv Tryz.prog 75 := ⟨by kernel_rfl⟩
instance : YT Tryz.prog 75 [(0, 23), (1, 73)] := Yg (by kernel_rfl)
instance : ZM Tryz.prog 75 0 0 23 := ZQ
instance : ZM Tryz.prog 75 1 1 73 := ZQ
instance : Zq Tryz.prog 75 (([(0, 1), (1, 1)] : List (Nat × Nat))[·]?) := Zm (by kernel_rfl)
instance : TyS Tryz.prog 76 := tqS
instance : Ze Tryz.prog 76 false := Ym
instance : Zo Tryz.prog 76 1 := Yn
instance : Zd Tryz.prog 76 8 := Yk
instance : Zh Tryz.prog 76 (.pointer none) := Yo
instance : TyPtr Tryz.prog 76 85 := ⟨by kernel_rfl⟩
instance : TyS Tryz.prog 79 := tqS
instance : Ze Tryz.prog 79 false := Ym
instance : Zo Tryz.prog 79 1 := Yn
instance : Zd Tryz.prog 79 8 := Yk
instance : Zh Tryz.prog 79 (.pointer none) := Yo
instance : TyPtr Tryz.prog 79 222 := ⟨by kernel_rfl⟩
instance : TyS Tryz.prog 82 := tqS
instance : Ze Tryz.prog 82 false := Ym
instance : Zo Tryz.prog 82 1 := Yn
instance : Zd Tryz.prog 82 8 := Yk
instance : Zh Tryz.prog 82 (.pointer none) := Yo
instance : TyPtr Tryz.prog 82 330 := ⟨by kernel_rfl⟩
instance : TyS Tryz.prog 83 := tqS
instance : Ze Tryz.prog 83 false := Ym
instance : Zo Tryz.prog 83 1 := Yn
instance : Zd Tryz.prog 83 24 := Yk
instance : Zh Tryz.prog 83 (.slice none 0 0) := Yo
instance : ZC Tryz.prog 83 114 := ⟨by kernel_rfl⟩
instance : TyA Tryz.prog 84 5 := tqA
instance : Ze Tryz.prog 84 false := Ym
instance : Zo Tryz.prog 84 5 := Yn
instance : Zd Tryz.prog 84 72 := Yk
instance : Zh Tryz.prog 84 (.agg ⟨[.pointer none, .pointer none, .pointer none, .slice none 0 0, .slice none 0 0]⟩) := Yo
instance : Zv Tryz.prog 84 := ⟨by kernel_rfl⟩
instance : ZM Tryz.prog 84 0 0 26 := ZQ
instance : ZM Tryz.prog 84 1 1 52 := ZQ
instance : ZM Tryz.prog 84 2 2 82 := ZQ
instance : ZM Tryz.prog 84 3 3 23 := ZQ
instance : ZM Tryz.prog 84 4 4 83 := ZQ
instance : Zq Tryz.prog 84 (([(0, 1), (1, 1), (2, 1), (3, 1), (4, 1)] : List (Nat × Nat))[·]?) := Zm (by kernel_rfl)
instance : TyA Tryz.prog 85 5 := tqA
instance : Ze Tryz.prog 85 false := Ym
instance : Zo Tryz.prog 85 5 := Yn
instance : Zd Tryz.prog 85 72 := Yk
instance : Zh Tryz.prog 85 (.agg ⟨[.pointer none, .pointer none, .pointer none, .slice none 0 0, .slice none 0 0]⟩) := Yo
instance : Zv Tryz.prog 85 := ⟨by kernel_rfl⟩
instance : YT Tryz.prog 85 [(0, 26), (1, 52), (2, 82), (3, 23), (4, 83)] := Yg (by kernel_rfl)
instance : ZM Tryz.prog 85 0 0 26 := ZQ
instance : ZM Tryz.prog 85 1 1 52 := ZQ
instance : ZM Tryz.prog 85 2 2 82 := ZQ
instance : ZM Tryz.prog 85 3 3 23 := ZQ
instance : ZM Tryz.prog 85 4 4 83 := ZQ
instance : Zq Tryz.prog 85 (([(0, 1), (1, 1), (2, 1), (3, 1), (4, 1)] : List (Nat × Nat))[·]?) := Zm (by kernel_rfl)
instance : TyS Tryz.prog 88 := tqS
instance : Ze Tryz.prog 88 false := Ym
instance : ZN Tryz.prog 88 := tqF
instance : Zo Tryz.prog 88 1 := Yn
instance : Zd Tryz.prog 88 8 := Yk
instance : Zh Tryz.prog 88 (.nilFunc) := Yo
instance : TyS Tryz.prog 96 := tqS
instance : Ze Tryz.prog 96 false := Ym
instance : ZN Tryz.prog 96 := tqF
instance : Zo Tryz.prog 96 1 := Yn
instance : Zd Tryz.prog 96 8 := Yk
instance : Zh Tryz.prog 96 (.nilFunc) := Yo
instance : TyS Tryz.prog 97 := tqS
instance : Ze Tryz.prog 97 false := Ym
instance : Zo Tryz.prog 97 1 := Yn
instance : Zd Tryz.prog 97 8 := Yk
instance : Zh Tryz.prog 97 (.int .u64 0) := Yo
instance : YO Tryz.prog 97 .u64 := ⟨by kernel_rfl⟩
instance : TyS Tryz.prog 106 := tqS
instance : Ze Tryz.prog 106 false := Ym
instance : Zo Tryz.prog 106 1 := Yn
instance : Zd Tryz.prog 106 8 := Yk
instance : Zh Tryz.prog 106 (.map none) := Yo
instance : WV Tryz.prog 106 3 4 := ⟨by kernel_rfl⟩
instance : TyA Tryz.prog 107 2 := tqA
instance : Ze Tryz.prog 107 false := Ym
instance : Zo Tryz.prog 107 2 := Yn
instance : Zd Tryz.prog 107 16 := Yk
instance : Zh Tryz.prog 107 (.agg ⟨[.int .i64 0, .int .u64 0]⟩) := Yo
instance : Zv Tryz.prog 107 := ⟨by kernel_rfl⟩
instance : ZM Tryz.prog 107 0 0 3 := ZQ
instance : ZM Tryz.prog 107 1 1 33 := ZQ
instance : Zq Tryz.prog 107 (([(0, 1), (1, 1)] : List (Nat × Nat))[·]?) := Zm (by kernel_rfl)
instance : TyA Tryz.prog 108 2 := tqA
instance : Ze Tryz.prog 108 false := Ym
instance : Zo Tryz.prog 108 2 := Yn
instance : Zd Tryz.prog 108 16 := Yk
instance : Zh Tryz.prog 108 (.agg ⟨[.int .i64 0, .int .u64 0]⟩) := Yo
instance : Zv Tryz.prog 108 := ⟨by kernel_rfl⟩
instance : YT Tryz.prog 108 [(0, 3), (1, 33)] := Yg (by kernel_rfl)
instance : ZM Tryz.prog 108 0 0 3 := ZQ
instance : ZM Tryz.prog 108 1 1 33 := ZQ
instance : Zq Tryz.prog 108 (([(0, 1), (1, 1)] : List (Nat × Nat))[·]?) := Zm (by kernel_rfl)
instance : TyS Tryz.prog 109 := tqS
instance : Ze Tryz.prog 109 false := Ym
instance : Zo Tryz.prog 109 1 := Yn
instance : Zd Tryz.prog 109 24 := Yk
instance : Zh Tryz.prog 109 (.slice none 0 0) := Yo
instance : ZC Tryz.prog 109 171 := ⟨by kernel_rfl⟩
instance : TyS Tryz.prog 110 := tqS
instance : Ze Tryz.prog 110 false := Ym
instance : Zo Tryz.prog 110 1 := Yn
instance : Zd Tryz.prog 110 24 := Yk
instance : Zh Tryz.prog 110 (.slice none 0 0) := Yo
instance : ZC Tryz.prog 110 238 := ⟨by kernel_rfl⟩
instance : TyA Tryz.prog 111 3 := tqA
instance : Ze Tryz.prog 111 false := Ym
instance : Zo Tryz.prog 111 3 := Yn
instance : Zd Tryz.prog 111 56 := Yk
instance : Zh Tryz.prog 111 (.agg ⟨[.int .i64 0, .slice none 0 0, .slice none 0 0]⟩) := Yo
instance : Zv Tryz.prog 111 := ⟨by kernel_rfl⟩
instance : ZM Tryz.prog 111 0 0 3 := ZQ
instance : ZM Tryz.prog 111 1 1 109 := ZQ
instance : ZM Tryz.prog 111 2 2 110 := ZQ
instance : Zq Tryz.prog 111 (([(0, 1), (1, 1), (2, 1)] : List (Nat × Nat))[·]?) := Zm (by kernel_rfl)
instance : TyA Tryz.prog 112 3 := tqA
instance : Ze Tryz.prog 112 false := Ym
instance : Zo Tryz.prog 112 3 := Yn
instance : Zd Tryz.prog 112 56 := Yk
instance : Zh Tryz.prog 112 (.agg ⟨[.int .i64 0, .slice none 0 0, .slice none 0 0]⟩) := Yo
instance : Zv Tryz.prog 112 := ⟨by kernel_rfl⟩
instance : YT Tryz.prog 112 [(0, 3), (1, 109), (2, 110)] := Yg (by kernel_rfl)
instance : ZM Tryz.prog 112 0 0 3 := ZQ
instance : ZM Tryz.prog 112 1 1 109 := ZQ
instance : ZM Tryz.prog 112 2 2 110 := ZQ
instance : Zq Tryz.prog 112 (([(0, 1), (1, 1), (2, 1)] : List (Nat × Nat))[·]?) := Zm (by kernel_rfl)
instance : TyA Tryz.prog 113 4 := tqA
instance : Ze Tryz.prog 113 false := Ym
instance : Zo Tryz.prog 113 4 := Yn
instance : Zd Tryz.prog 113 64 := Yk
instance : Zh Tryz.prog 113 (.agg ⟨[.int .i64 0, .slice none 0 0, .slice none 0 0, .int .u64 0]⟩) := Yo
instance : Zv Tryz.prog 113 := ⟨by kernel_rfl⟩
instance : ZM Tryz.prog 113 0 0 112 := ZQ
instance : ZM Tryz.prog 113 1 3 33 := ZQ
instance : Zq Tryz.prog 113 (([(0, 3), (3, 1)] : List (Nat × Nat))[·]?) := Zm (by kernel_rfl)
instance : TyA Tryz.prog 114 4 := tqA
instance : Ze Tryz.prog 114 false := Ym
instance : Zo Tryz.prog 114 4 := Yn
instance : Zd Tryz.prog 114 64 := Yk
instance : Zh Tryz.prog 114 (.agg ⟨[.int .i64 0, .slice none 0 0, .slice none 0 0, .int .u64 0]⟩) := Yo
instance : Zv Tryz.prog 114 := ⟨by kernel_rfl⟩
instance : YT Tryz.prog 114 [(0, 112), (3, 33)] := Yg (by kernel_rfl)
instance : ZM Tryz.prog 114 0 0 112 := ZQ
instance : ZM Tryz.prog 114 1 3 33 := ZQ
instance : Zq Tryz.prog 114 (([(0, 3), (3, 1)] : List (Nat × Nat))[·]?) := Zm (by kernel_rfl)
instance : TyS Tryz.prog 118 := tqS
instance : Ze Tryz.prog 118 false := Ym
instance : Zo Tryz.prog 118 1 := Yn
instance : Zd Tryz.prog 118 24 := Yk
instance : Zh Tryz.prog 118 (.slice none 0 0) := Yo
instance : ZC Tryz.prog 118 123 := ⟨by kernel_rfl⟩
instance : TyS Tryz.prog 120 := tqS
instance : Ze Tryz.prog 120 false := Ym
instance : ZN Tryz.prog 120 := tqF
instance : Zo Tryz.prog 120 1 := Yn
instance : Zd Tryz.prog 120 8 := Yk
instance : Zh Tryz.prog 120 (.nilFunc) := Yo
instance : TyS Tryz.prog 121 := tqS
instance : Ze Tryz.prog 121 false := Ym
instance : Zo Tryz.prog 121 1 := Yn
instance : Zd Tryz.prog 121 8 := Yk
instance : Zh Tryz.prog 121 (.map none) := Yo
instance : WV Tryz.prog 121 3 123 := ⟨by kernel_rfl⟩
instance : TyA Tryz.prog 122 2 := tqA
instance : Ze Tryz.prog 122 false := Ym
instance : Zo Tryz.prog 122 2 := Yn
instance : Zd Tryz.prog 122 32 := Yk
instance : Zh Tryz.prog 122 (.agg ⟨[.int .i64 0, .slice none 0 0]⟩) := Yo
instance : Zv Tryz.prog 122 := ⟨by kernel_rfl⟩
instance : ZM Tryz.prog 122 0 0 3 := ZQ
instance : ZM Tryz.prog 122 1 1 60 := ZQ
instance : Zq Tryz.prog 122 (([(0, 1), (1, 1)] : List (Nat × Nat))[·]?) := Zm (by kernel_rfl)
instance : TyA Tryz.prog 123 2 := tqA
instance : Ze Tryz.prog 123 false := Ym
instance : Zo Tryz.prog 123 2 := Yn
instance : Zd Tryz.prog 123 32 := Yk
instance : Zh Tryz.prog 123 (.agg ⟨[.int .i64 0, .slice none 0 0]⟩) := Yo
instance : Zv Tryz.prog 123 := ⟨by kernel_rfl⟩
instance : YT Tryz.prog 123 [(0, 3), (1, 60)] := Yg (by kernel_rfl)
instance : ZM Tryz.prog 123 0 0 3 := ZQ
instance : ZM Tryz.prog 123 1 1 60 := ZQ
instance : Zq Tryz.prog 123 (([(0, 1), (1, 1)] : List (Nat × Nat))[·]?) := Zm (by kernel_rfl)
instance : TyS Tryz.prog 139 := tqS
instance : Ze Tryz.prog 139 false := Ym
instance : Zo Tryz.prog 139 1 := Yn
instance : Zd Tryz.prog 139 24 := Yk
instance : Zh Tryz.prog 139 (.slice none 0 0) := Yo
instance : ZC Tryz.prog 139 215 := ⟨by kernel_rfl⟩
instance : TyS Tryz.prog 150 := tqS
instance : Ze Tryz.prog 150 false := Ym
instance : Zo Tryz.prog 150 1 := Yn
instance : Zd Tryz.prog 150 24 := Yk
instance : Zh Tryz.prog 150 (.slice none 0 0) := Yo
instance : ZC Tryz.prog 150 157 := ⟨by kernel_rfl⟩
instance : TyS Tryz.prog 151 := tqS
instance : Ze Tryz.prog 151 false := Ym
instance : Zo Tryz.prog 151 1 := Yn
instance : Zd Tryz.prog 151 8 := Yk
instance : Zh Tryz.prog 151 (.map none) := Yo
instance : WV Tryz.prog 151 3 157 := ⟨by kernel_rfl⟩
instance : TyA Tryz.prog 152 6 := tqA
instance : Ze Tryz.prog 152 false := Ym
instance : Zo Tryz.prog 152 6 := Yn
instance : Zd Tryz.prog 152 64 := Yk
instance : Zh Tryz.prog 152 (.agg ⟨[.slice none 0 0, .map none, .int .i64 0, .int .i64 0, .int .i64 0, .bool false]⟩) := Yo
instance : Zv Tryz.prog 152 := ⟨by kernel_rfl⟩
instance : ZM Tryz.prog 152 0 0 150 := ZQ
instance : ZM Tryz.prog 152 1 1 151 := ZQ
instance : ZM Tryz.prog 152 2 2 3 := ZQ
instance : ZM Tryz.prog 152 3 3 3 := ZQ
instance : ZM Tryz.prog 152 4 4 3 := ZQ
instance : ZM Tryz.prog 152 5 5 4 := ZQ
instance : Zq Tryz.prog 152 (([(0, 1), (1, 1), (2, 1), (3, 1), (4, 1), (5, 1)] : List (Nat × Nat))[·]?) := Zm (by kernel_rfl)
instance : TyA Tryz.prog 153 6 := tqA
instance : Ze Tryz.prog 153 false := Ym
instance : Zo Tryz.prog 153 6 := Yn
instance : Zd Tryz.prog 153 64 := Yk
instance : Zh Tryz.prog 153 (.agg ⟨[.slice none 0 0, .map none, .int .i64 0, .int .i64 0, .int .i64 0, .bool false]⟩) := Yo
instance : Zv Tryz.prog 153 := ⟨by kernel_rfl⟩
instance : YT Tryz.prog 153 [(0, 150), (1, 151), (2, 3), (3, 3), (4, 3), (5, 4)] := Yg (by kernel_rfl)
instance : ZM Tryz.prog 153 0 0 150 := ZQ
instance : ZM Tryz.prog 153 1 1 151 := ZQ
instance : ZM Tryz.prog 153 2 2 3 := ZQ
instance : ZM Tryz.prog 153 3 3 3 := ZQ
instance : ZM Tryz.prog 153 4 4 3 := ZQ
instance : ZM Tryz.prog 153 5 5 4 := ZQ
instance : Zq Tryz.prog 153 (([(0, 1), (1, 1), (2, 1), (3, 1), (4, 1), (5, 1)] : List (Nat × Nat))[·]?) := Zm (by kernel_rfl)
instance : TyS Tryz.prog 155 := tqS
instance : Ze Tryz.prog 155 false := Ym
instance : ZN Tryz.prog 155 := tqF
instance : Zo Tryz.prog 155 1 := Yn
instance : Zd Tryz.prog 155 8 := Yk
instance : Zh Tryz.prog 155 (.nilFunc) := Yo
instance : TyA Tryz.prog 156 64 := tqA
instance : Ze Tryz.prog 156 false := Ym
instance : Zo Tryz.prog 156 64 := Yn
instance : Zd Tryz.prog 156 64 := Yk
instance : Zh Tryz.prog 156 (.agg ⟨List.replicate 64 (.int .u8 0)⟩) := Yo
instance : Zv Tryz.prog 156 := ⟨by kernel_rfl⟩
instance : WM Tryz.prog 156 64 5 := ⟨by kernel_rfl⟩
instance : Zq Tryz.prog 156 (fun i => some (i * 1, 1)) := mkTyPlacesA (n := 64) (e := 5) (by kernel_rfl) (by kernel_rfl)
instance : TyA Tryz.prog 157 64 := tqA
instance : Ze Tryz.prog 157 false := Ym
instance : Zo Tryz.prog 157 64 := Yn
instance : Zd Tryz.prog 157 64 := Yk
instance : Zh Tryz.prog 157 (.agg ⟨List.replicate 64 (.int .u8 0)⟩) := Yo
instance : Zv Tryz.prog 157 := ⟨by kernel_rfl⟩
instance : WM Tryz.prog 157 64 5 := ⟨by kernel_rfl⟩
instance : Zq Tryz.prog 157 (fun i => some (i * 1, 1)) := mkTyPlacesA (n := 64) (e := 5) (by kernel_rfl) (by kernel_rfl)
instance : TyS Tryz.prog 158 := tqS
instance : Ze Tryz.prog 158 false := Ym
instance : ZN Tryz.prog 158 := tqF
instance : Zo Tryz.prog 158 1 := Yn
instance : Zd Tryz.prog 158 8 := Yk
instance : Zh Tryz.prog 158 (.nilFunc) := Yo
instance : TyA Tryz.prog 159 5 := tqA
instance : Ze Tryz.prog 159 false := Ym
instance : Zo Tryz.prog 159 5 := Yn
instance : Zd Tryz.prog 159 56 := Yk
instance : Zh Tryz.prog 159 (.agg ⟨[.int .u64 0, .int .u64 0, .int .i64 0, .int .i64 0, .slice none 0 0]⟩) := Yo
instance : Zv Tryz.prog 159 := ⟨by kernel_rfl⟩
instance : ZM Tryz.prog 159 0 0 33 := ZQ
instance : ZM Tryz.prog 159 1 1 33 := ZQ
instance : ZM Tryz.prog 159 2 2 3 := ZQ
instance : ZM Tryz.prog 159 3 3 3 := ZQ
instance : ZM Tryz.prog 159 4 4 22 := ZQ
instance : Zq Tryz.prog 159 (([(0, 1), (1, 1), (2, 1), (3, 1), (4, 1)] : List (Nat × Nat))[·]?) := Zm (by kernel_rfl)
instance : TyA Tryz.prog 160 5 := tqA
instance : Ze Tryz.prog 160 false := Ym
instance : Zo Tryz.prog 160 5 := Yn
instance : Zd Tryz.prog 160 56 := Yk
instance : Zh Tryz.prog 160 (.agg ⟨[.int .u64 0, .int .u64 0, .int .i64 0, .int .i64 0, .slice none 0 0]⟩) := Yo
instance : Zv Tryz.prog 160 := ⟨by kernel_rfl⟩
instance : YT Tryz.prog 160 [(0, 33), (1, 33), (2, 3), (3, 3), (4, 22)] := Yg (by kernel_rfl)
instance : ZM Tryz.prog 160 0 0 33 := ZQ
instance : ZM Tryz.prog 160 1 1 33 := ZQ
instance : ZM Tryz.prog 160 2 2 3 := ZQ
instance : ZM Tryz.prog 160 3 3 3 := ZQ
instance : ZM Tryz.prog 160 4 4 22 := ZQ
instance : Zq Tryz.prog 160 (([(0, 1), (1, 1), (2, 1), (3, 1), (4, 1)] : List (Nat × Nat))[·]?) := Zm (by kernel_rfl)
instance : TyA Tryz.prog 162 9 := tqA
instance : Ze Tryz.prog 162 false := Ym
instance : Zo Tryz.prog 162 9 := Yn
instance : Zd Tryz.prog 162 104 := Yk
instance : Zh Tryz.prog 162 (.agg ⟨[.int .u64 0, .int .u64 0, .int .i64 0, .int .i64 0, .slice none 0 0, .pointer none, .slice none 0 0, .int .i64 0, .bool false]⟩) := Yo
instance : Zv Tryz.prog 162 := ⟨by kernel_rfl⟩
instance : ZM Tryz.prog 162 0 0 160 := ZQ
instance : ZM Tryz.prog 162 1 5 26 := ZQ
instance : ZM Tryz.prog 162 2 6 24 := ZQ
instance : ZM Tryz.prog 162 3 7 3 := ZQ
instance : ZM Tryz.prog 162 4 8 4 := ZQ
instance : Zq Tryz.prog 162 (([(0, 5), (5, 1), (6, 1), (7, 1), (8, 1)] : List (Nat × Nat))[·]?) := Zm (by kernel_rfl)
instance : TyA Tryz.prog 163 9 := tqA
instance : Ze Tryz.prog 163 false := Ym
instance : Zo Tryz.prog 163 9 := Yn
instance : Zd Tryz.prog 163 104 := Yk
instance : Zh Tryz.prog 163 (.agg ⟨[.int .u64 0, .int .u64 0, .int .i64 0, .int .i64 0, .slice none 0 0, .pointer none, .slice none 0 0, .int .i64 0, .bool false]⟩) := Yo
instance : Zv Tryz.prog 163 := ⟨by kernel_rfl⟩
instance : YT Tryz.prog 163 [(0, 160), (5, 26), (6, 24), (7, 3), (8, 4)] := Yg (by kernel_rfl)
instance : ZM Tryz.prog 163 0 0 160 := ZQ
instance : ZM Tryz.prog 163 1 5 26 := ZQ
instance : ZM Tryz.prog 163 2 6 24 := ZQ
instance : ZM Tryz.prog 163 3 7 3 := ZQ
instance : ZM Tryz.prog 163 4 8 4 := ZQ
instance : Zq Tryz.prog 163 (([(0, 5), (5, 1), (6, 1), (7, 1), (8, 1)] : List (Nat × Nat))[·]?) := Zm (by kernel_rfl)
instance : TyA Tryz.prog 164 7 := tqA
instance : Ze Tryz.prog 164 false := Ym
instance : Zo Tryz.prog 164 7 := Yn
instance : Zd Tryz.prog 164 120 := Yk
instance : Zh Tryz.prog 164 (.agg ⟨[.int .i64 0, .int .i64 0, .slice none 0 0, .slice none 0 0, .int .i64 0, .slice none 0 0, .slice none 0 0]⟩) := Yo
instance : Zv Tryz.prog 164 := ⟨by kernel_rfl⟩
instance : ZM Tryz.prog 164 0 0 3 := ZQ
instance : ZM Tryz.prog 164 1 1 112 := ZQ
instance : ZM Tryz.prog 164 2 4 112 := ZQ
instance : Zq Tryz.prog 164 (([(0, 1), (1, 3), (4, 3)] : List (Nat × Nat))[·]?) := Zm (by kernel_rfl)
instance : TyA Tryz.prog 165 7 := tqA
instance : Ze Tryz.prog 165 false := Ym
instance : Zo Tryz.prog 165 7 := Yn
instance : Zd Tryz.prog 165 120 := Yk
instance : Zh Tryz.prog 165 (.agg ⟨[.int .i64 0, .int .i64 0, .slice none 0 0, .slice none 0 0, .int .i64 0, .slice none 0 0, .slice none 0 0]⟩) := Yo
instance : Zv Tryz.prog 165 := ⟨by kernel_rfl⟩
instance : YT Tryz.prog 165 [(0, 3), (1, 112), (4, 112)] := Yg (by kernel_rfl)
instance : ZM Tryz.prog 165 0 0 3 := ZQ
instance : ZM Tryz.prog 165 1 1 112 := ZQ
instance : ZM Tryz.prog 165 2 4 112 := ZQ
instance : Zq Tryz.prog 165 (([(0, 1), (1, 3), (4, 3)] : List (Nat × Nat))[·]?) := Zm (by kernel_rfl)
instance : TyS Tryz.prog 167 := tqS
instance : Ze Tryz.prog 167 false := Ym
instance : Zo Tryz.prog 167 1 := Yn
instance : Zd Tryz.prog 167 2 := Yk
instance : Zh Tryz.prog 167 (.int .u16 0) := Yo
instance : YO Tryz.prog 167 .u16 := ⟨by kernel_rfl⟩
instance : TyA Tryz.prog 168 2 := tqA
instance : Ze Tryz.prog 168 false := Ym
instance : Zo Tryz.prog 168 2 := Yn
instance : Zd Tryz.prog 168 16 := Yk
instance : Zh Tryz.prog 168 (.agg ⟨[.int .i64 0, .int .u16 0]⟩) := Yo
instance : Zv Tryz.prog 168 := ⟨by kernel_rfl⟩
instance : ZM Tryz.prog 168 0 0 3 := ZQ
instance : ZM Tryz.prog 168 1 1 167 := ZQ
instance : Zq Tryz.prog 168 (([(0, 1), (1, 1)] : List (Nat × Nat))[·]?) := Zm (by kernel_rfl)
instance : TyA Tryz.prog 169 2 := tqA
instance : Ze Tryz.prog 169 false := Ym
instance : Zo Tryz.prog 169 2 := Yn
instance : Zd Tryz.prog 169 16 := Yk
instance : Zh Tryz.prog 169 (.agg ⟨[.int .i64 0, .int .u16 0]⟩) := Yo
instance : Zv Tryz.prog 169 := ⟨by kernel_rfl⟩
instance : YT Tryz.prog 169 [(0, 3), (1, 167)] := Yg (by kernel_rfl)
instance : ZM Tryz.prog 169 0 0 3 := ZQ
instance : ZM Tryz.prog 169 1 1 167 := ZQ
instance : Zq Tryz.prog 169 (([(0, 1), (1, 1)] : List (Nat × Nat))[·]?) := Zm (by kernel_rfl)
instance : TyA Tryz.prog 170 4 := tqA
instance : Ze Tryz.prog 170 false := Ym
instance : Zo Tryz.prog 170 4 := Yn
instance : Zd Tryz.prog 170 40 := Yk
instance : Zh Tryz.prog 170 (.agg ⟨[.int .i64 0, .int .u16 0, .int .i64 0, .string ⟨⟨[]⟩⟩]⟩) := Yo
instance : Zv Tryz.prog 170 := ⟨by kernel_rfl⟩
instance : ZM Tryz.prog 170 0 0 169 := ZQ
instance : ZM Tryz.prog 170 1 2 2 := ZQ
instance : ZM Tryz.prog 170 2 3 9 := ZQ
instance : Zq Tryz.prog 170 (([(0, 2), (2, 1), (3, 1)] : List (Nat × Nat))[·]?) := Zm (by kernel_rfl)
instance : TyA Tryz.prog 171 4 := tqA
instance : Ze Tryz.prog 171 false := Ym
instance : Zo Tryz.prog 171 4 := Yn
instance : Zd Tryz.prog 171 40 := Yk
instance : Zh Tryz.prog 171 (.agg ⟨[.int .i64 0, .int .u16 0, .int .i64 0, .string ⟨⟨[]⟩⟩]⟩) := Yo
instance : Zv Tryz.prog 171 := ⟨by kernel_rfl⟩
instance : YT Tryz.prog 171 [(0, 169), (2, 2), (3, 9)] := Yg (by kernel_rfl)
instance : ZM Tryz.prog 171 0 0 169 := ZQ
instance : ZM Tryz.prog 171 1 2 2 := ZQ
instance : ZM Tryz.prog 171 2 3 9 := ZQ
instance : Zq Tryz.prog 171 (([(0, 2), (2, 1), (3, 1)] : List (Nat × Nat))[·]?) := Zm (by kernel_rfl)
instance : TyA Tryz.prog 172 6 := tqA
instance : Ze Tryz.prog 172 false := Ym
instance : Zo Tryz.prog 172 6 := Yn
instance : Zd Tryz.prog 172 56 := Yk
instance : Zh Tryz.prog 172 (.agg ⟨[.int .i64 0, .int .i64 0, .int .u16 0, .int .i64 0, .string ⟨⟨[]⟩⟩, .int .i64 0]⟩) := Yo
instance : Zv Tryz.prog 172 := ⟨by kernel_rfl⟩
instance : ZM Tryz.prog 172 0 0 3 := ZQ
instance : ZM Tryz.prog 172 1 1 171 := ZQ
instance : ZM Tryz.prog 172 2 5 2 := ZQ
instance : Zq Tryz.prog 172 (([(0, 1), (1, 4), (5, 1)] : List (Nat × Nat))[·]?) := Zm (by kernel_rfl)
instance : TyA Tryz.prog 173 6 := tqA
instance : Ze Tryz.prog 173 false := Ym
instance : Zo Tryz.prog 173 6 := Yn
instance : Zd Tryz.prog 173 56 := Yk
instance : Zh Tryz.prog 173 (.agg ⟨[.int .i64 0, .int .i64 0, .int .u16 0, .int .i64 0, .string ⟨⟨[]⟩⟩, .int .i64 0]⟩) := Yo
instance : Zv Tryz.prog 173 := ⟨by kernel_rfl⟩
instance : YT Tryz.prog 173 [(0, 3), (1, 171), (5, 2)] := Yg (by kernel_rfl)
instance : ZM Tryz.prog 173 0 0 3 := ZQ
instance : ZM Tryz.prog 173 1 1 171 := ZQ
instance : ZM Tryz.prog 173 2 5 2 := ZQ
instance : Zq Tryz.prog 173 (([(0, 1), (1, 4), (5, 1)] : List (Nat × Nat))[·]?) := Zm (by kernel_rfl)
instance : TyS Tryz.prog 179 := tqS
instance : Ze Tryz.prog 179 false := Ym
instance : ZN Tryz.prog 179 := tqF
instance : Zo Tryz.prog 179 1 := Yn
instance : Zd Tryz.prog 179 8 := Yk
instance : Zh Tryz.prog 179 (.nilFunc) := Yo
instance : TyS Tryz.prog 181 := tqS
instance : Ze Tryz.prog 181 false := Ym
instance : ZN Tryz.prog 181 := tqF
instance : Zo Tryz.prog 181 1 := Yn
instance : Zd Tryz.prog 181 8 := Yk
instance : Zh Tryz.prog 181 (.nilFunc) := Yo
instance : TyA Tryz.prog 186 5 := tqA
instance : Ze Tryz.prog 186 false := Ym
instance : Zo Tryz.prog 186 5 := Yn
instance : Zd Tryz.prog 186 40 := Yk
instance : Zh Tryz.prog 186 (.agg ⟨[.int .i64 0, .int .u64 0, .int .u64 0, .int .u64 0, .int .i64 0]⟩) := Yo
instance : Zv Tryz.prog 186 := ⟨by kernel_rfl⟩
instance : ZM Tryz.prog 186 0 0 3 := ZQ
instance : ZM Tryz.prog 186 1 1 33 := ZQ
instance : ZM Tryz.prog 186 2 2 33 := ZQ
instance : ZM Tryz.prog 186 3 3 33 := ZQ
instance : ZM Tryz.prog 186 4 4 3 := ZQ
instance : Zq Tryz.prog 186 (([(0, 1), (1, 1), (2, 1), (3, 1), (4, 1)] : List (Nat × Nat))[·]?) := Zm (by kernel_rfl)
instance : TyA Tryz.prog 187 5 := tqA
instance : Ze Tryz.prog 187 false := Ym
instance : Zo Tryz.prog 187 5 := Yn
instance : Zd Tryz.prog 187 40 := Yk
instance : Zh Tryz.prog 187 (.agg ⟨[.int .i64 0, .int .u64 0, .int .u64 0, .int .u64 0, .int .i64 0]⟩) := Yo
instance : Zv Tryz.prog 187 := ⟨by kernel_rfl⟩
instance : YT Tryz.prog 187 [(0, 3), (1, 33), (2, 33), (3, 33), (4, 3)] := Yg (by kernel_rfl)
instance : ZM Tryz.prog 187 0 0 3 := ZQ
instance : ZM Tryz.prog 187 1 1 33 := ZQ
instance : ZM Tryz.prog 187 2 2 33 := ZQ
instance : ZM Tryz.prog 187 3 3 33 := ZQ
instance : ZM Tryz.prog 187 4 4 3 := ZQ
instance : Zq Tryz.prog 187 (([(0, 1), (1, 1), (2, 1), (3, 1), (4, 1)] : List (Nat × Nat))[·]?) := Zm (by kernel_rfl)
instance : TyA Tryz.prog 192 7 := tqA
instance : Ze Tryz.prog 192 false := Ym
instance : Zo Tryz.prog 192 7 := Yn
instance : Zd Tryz.prog 192 72 := Yk
instance : Zh Tryz.prog 192 (.agg ⟨[.pointer none, .int .u64 0, .int .u64 0, .int .u64 0, .int .i64 0, .slice none 0 0, .int .i64 0]⟩) := Yo
instance : Zv Tryz.prog 192 := ⟨by kernel_rfl⟩
instance : ZM Tryz.prog 192 0 0 30 := ZQ
instance : ZM Tryz.prog 192 1 1 33 := ZQ
instance : ZM Tryz.prog 192 2 2 33 := ZQ
instance : ZM Tryz.prog 192 3 3 33 := ZQ
instance : ZM Tryz.prog 192 4 4 3 := ZQ
instance : ZM Tryz.prog 192 5 5 23 := ZQ
instance : ZM Tryz.prog 192 6 6 3 := ZQ
instance : Zq Tryz.prog 192 (([(0, 1), (1, 1), (2, 1), (3, 1), (4, 1), (5, 1), (6, 1)] : List (Nat × Nat))[·]?) := Zm (by kernel_rfl)
instance : TyA Tryz.prog 193 7 := tqA
instance : Ze Tryz.prog 193 false := Ym
instance : Zo Tryz.prog 193 7 := Yn
instance : Zd Tryz.prog 193 72 := Yk
instance : Zh Tryz.prog 193 (.agg ⟨[.pointer none, .int .u64 0, .int .u64 0, .int .u64 0, .int .i64 0, .slice none 0 0, .int .i64 0]⟩) := Yo
instance : Zv Tryz.prog 193 := ⟨by kernel_rfl⟩
instance : YT Tryz.prog 193 [(0, 30), (1, 33), (2, 33), (3, 33), (4, 3), (5, 23), (6, 3)] := Yg (by kernel_rfl)
instance : ZM Tryz.prog 193 0 0 30 := ZQ
instance : ZM Tryz.prog 193 1 1 33 := ZQ
instance : ZM Tryz.prog 193 2 2 33 := ZQ
instance : ZM Tryz.prog 193 3 3 33 := ZQ
instance : ZM Tryz.prog 193 4 4 3 := ZQ
instance : ZM Tryz.prog 193 5 5 23 := ZQ
instance : ZM Tryz.prog 193 6 6 3 := ZQ
instance : Zq Tryz.prog 193 (([(0, 1), (1, 1), (2, 1), (3, 1), (4, 1), (5, 1), (6, 1)] : List (Nat × Nat))[·]?) := Zm (by kernel_rfl)
instance : TyS Tryz.prog 201 := tqS
instance : Ze Tryz.prog 201 false := Ym
instance : ZN Tryz.prog 201 := tqF
instance : Zo Tryz.prog 201 1 := Yn
instance : Zd Tryz.prog 201 8 := Yk
instance : Zh Tryz.prog 201 (.nilFunc) := Yo
instance : TyS Tryz.prog 202 := tqS
instance : Ze Tryz.prog 202 false := Ym
instance : ZN Tryz.prog 202 := tqF
instance : Zo Tryz.prog 202 1 := Yn
instance : Zd Tryz.prog 202 8 := Yk
instance : Zh Tryz.prog 202 (.nilFunc) := Yo
instance : TyA Tryz.prog 214 4 := tqA
instance : Ze Tryz.prog 214 false := Ym
instance : Zo Tryz.prog 214 4 := Yn
instance : Zd Tryz.prog 214 64 := Yk
instance : Zh Tryz.prog 214 (.agg ⟨[.int .i64 0, .int .i64 0, .slice none 0 0, .slice none 0 0]⟩) := Yo
instance : Zv Tryz.prog 214 := ⟨by kernel_rfl⟩
instance : ZM Tryz.prog 214 0 0 3 := ZQ
instance : ZM Tryz.prog 214 1 1 112 := ZQ
instance : Zq Tryz.prog 214 (([(0, 1), (1, 3)] : List (Nat × Nat))[·]?) := Zm (by kernel_rfl)
instance : TyA Tryz.prog 215 4 := tqA
instance : Ze Tryz.prog 215 false := Ym
instance : Zo Tryz.prog 215 4 := Yn
instance : Zd Tryz.prog 215 64 := Yk
instance : Zh Tryz.prog 215 (.agg ⟨[.int .i64 0, .int .i64 0, .slice none 0 0, .slice none 0 0]⟩) := Yo
instance : Zv Tryz.prog 215 := ⟨by kernel_rfl⟩
instance : YT Tryz.prog 215 [(0, 3), (1, 112)] := Yg (by kernel_rfl)
instance : ZM Tryz.prog 215 0 0 3 := ZQ
instance : ZM Tryz.prog 215 1 1 112 := ZQ
instance : Zq Tryz.prog 215 (([(0, 1), (1, 3)] : List (Nat × Nat))[·]?) := Zm (by kernel_rfl)
instance : TyA Tryz.prog 216 5 := tqA
instance : Ze Tryz.prog 216 false := Ym
instance : Zo Tryz.prog 216 5 := Yn
instance : Zd Tryz.prog 216 72 := Yk
instance : Zh Tryz.prog 216 (.agg ⟨[.int .i64 0, .int .u64 0, .int .i64 0, .slice none 0 0, .slice none 0 0]⟩) := Yo
instance : Zv Tryz.prog 216 := ⟨by kernel_rfl⟩
instance : ZM Tryz.prog 216 0 0 3 := ZQ
instance : ZM Tryz.prog 216 1 1 33 := ZQ
instance : ZM Tryz.prog 216 2 2 112 := ZQ
instance : Zq Tryz.prog 216 (([(0, 1), (1, 1), (2, 3)] : List (Nat × Nat))[·]?) := Zm (by kernel_rfl)
instance : TyA Tryz.prog 217 5 := tqA
instance : Ze Tryz.prog 217 false := Ym
instance : Zo Tryz.prog 217 5 := Yn
instance : Zd Tryz.prog 217 72 := Yk
instance : Zh Tryz.prog 217 (.agg ⟨[.int .i64 0, .int .u64 0, .int .i64 0, .slice none 0 0, .slice none 0 0]⟩) := Yo
instance : Zv Tryz.prog 217 := ⟨by kernel_rfl⟩
instance : YT Tryz.prog 217 [(0, 3), (1, 33), (2, 112)] := Yg (by kernel_rfl)
instance : ZM Tryz.prog 217 0 0 3 := ZQ
instance : ZM Tryz.prog 217 1 1 33 := ZQ
instance : ZM Tryz.prog 217 2 2 112 := ZQ
instance : Zq Tryz.prog 217 (([(0, 1), (1, 1), (2, 3)] : List (Nat × Nat))[·]?) := Zm (by kernel_rfl)
instance : TyS Tryz.prog 220 := tqS
instance : Ze Tryz.prog 220 false := Ym
instance : Zo Tryz.prog 220 1 := Yn
instance : Zd Tryz.prog 220 8 := Yk
instance : Zh Tryz.prog 220 (.map none) := Yo
instance : WV Tryz.prog 220 3 232 := ⟨by kernel_rfl⟩
instance : TyA Tryz.prog 221 3 := tqA
instance : Ze Tryz.prog 221 false := Ym
instance : Zo Tryz.prog 221 3 := Yn
instance : Zd Tryz.prog 221 24 := Yk
instance : Zh Tryz.prog 221 (.agg ⟨[.pointer none, .pointer none, .map none]⟩) := Yo
instance : Zv Tryz.prog 221 := ⟨by kernel_rfl⟩
instance : ZM Tryz.prog 221 0 0 82 := ZQ
instance : ZM Tryz.prog 221 1 1 52 := ZQ
instance : ZM Tryz.prog 221 2 2 220 := ZQ
instance : Zq Tryz.prog 221 (([(0, 1), (1, 1), (2, 1)] : List (Nat × Nat))[·]?) := Zm (by kernel_rfl)
instance : TyA Tryz.prog 222 3 := tqA
instance : Ze Tryz.prog 222 false := Ym
instance : Zo Tryz.prog 222 3 := Yn
instance : Zd Tryz.prog 222 24 := Yk
instance : Zh Tryz.prog 222 (.agg ⟨[.pointer none, .pointer none, .map none]⟩) := Yo
instance : Zv Tryz.prog 222 := ⟨by kernel_rfl⟩
instance : YT Tryz.prog 222 [(0, 82), (1, 52), (2, 220)] := Yg (by kernel_rfl)
instance : ZM Tryz.prog 222 0 0 82 := ZQ
instance : ZM Tryz.prog 222 1 1 52 := ZQ
instance : ZM Tryz.prog 222 2 2 220 := ZQ
instance : Zq Tryz.prog 222 (([(0, 1), (1, 1), (2, 1)] : List (Nat × Nat))[·]?) := Zm (by kernel_rfl)
instance : TyS Tryz.prog 225 := tqS
instance : Ze Tryz.prog 225 false := Ym
instance : ZN Tryz.prog 225 := tqF
instance : Zo Tryz.prog 225 1 := Yn
instance : Zd Tryz.prog 225 8 := Yk
instance : Zh Tryz.prog 225 (.nilFunc) := Yo
instance : TyS Tryz.prog 229 := tqS
instance : Ze Tryz.prog 229 false := Ym
instance : ZN Tryz.prog 229 := tqF
instance : Zo Tryz.prog 229 1 := Yn
instance : Zd Tryz.prog 229 8 := Yk
instance : Zh Tryz.prog 229 (.nilFunc) := Yo
instance : TyS Tryz.prog 230 := tqS
instance : Ze Tryz.prog 230 false := Ym
instance : ZN Tryz.prog 230 := tqF
instance : Zo Tryz.prog 230 1 := Yn
instance : Zd Tryz.prog 230 8 := Yk
instance : Zh Tryz.prog 230 (.nilFunc) := Yo
instance : TyA Tryz.prog 231 5 := tqA
instance : Ze Tryz.prog 231 false := Ym
instance : Zo Tryz.prog 231 5 := Yn
instance : Zd Tryz.prog 231 72 := Yk
instance : Zh Tryz.prog 231 (.agg ⟨[.int .i64 0, .slice none 0 0, .slice none 0 0, .int .u64 0, .int .u64 0]⟩) := Yo
instance : Zv Tryz.prog 231 := ⟨by kernel_rfl⟩
instance : ZM Tryz.prog 231 0 0 112 := ZQ
instance : ZM Tryz.prog 231 1 3 33 := ZQ
instance : ZM Tryz.prog 231 2 4 33 := ZQ
instance : Zq Tryz.prog 231 (([(0, 3), (3, 1), (4, 1)] : List (Nat × Nat))[·]?) := Zm (by kernel_rfl)
instance : TyA Tryz.prog 232 5 := tqA
instance : Ze Tryz.prog 232 false := Ym
instance : Zo Tryz.prog 232 5 := Yn
instance : Zd Tryz.prog 232 72 := Yk
instance : Zh Tryz.prog 232 (.agg ⟨[.int .i64 0, .slice none 0 0, .slice none 0 0, .int .u64 0, .int .u64 0]⟩) := Yo
instance : Zv Tryz.prog 232 := ⟨by kernel_rfl⟩
instance : YT Tryz.prog 232 [(0, 112), (3, 33), (4, 33)] := Yg (by kernel_rfl)
instance : ZM Tryz.prog 232 0 0 112 := ZQ
instance : ZM Tryz.prog 232 1 3 33 := ZQ
instance : ZM Tryz.prog 232 2 4 33 := ZQ
instance : Zq Tryz.prog 232 (([(0, 3), (3, 1), (4, 1)] : List (Nat × Nat))[·]?) := Zm (by kernel_rfl)
instance : TyA Tryz.prog 237 3 := tqA
instance : Ze Tryz.prog 237 false := Ym
instance : Zo Tryz.prog 237 3 := Yn
instance : Zd Tryz.prog 237 24 := Yk
instance : Zh Tryz.prog 237 (.agg ⟨[.int .i64 0, .int .u16 0, .int .i64 0]⟩) := Yo
instance : Zv Tryz.prog 237 := ⟨by kernel_rfl⟩
instance : ZM Tryz.prog 237 0 0 169 := ZQ
instance : ZM Tryz.prog 237 1 2 3 := ZQ
instance : Zq Tryz.prog 237 (([(0, 2), (2, 1)] : List (Nat × Nat))[·]?) := Zm (by kernel_rfl)
instance : TyA Tryz.prog 238 3 := tqA
instance : Ze Tryz.prog 238 false := Ym
instance : Zo Tryz.prog 238 3 := Yn
instance : Zd Tryz.prog 238 24 := Yk
instance : Zh Tryz.prog 238 (.agg ⟨[.int .i64 0, .int .u16 0, .int .i64 0]⟩) := Yo
instance : Zv Tryz.prog 238 := ⟨by kernel_rfl⟩
instance : YT Tryz.prog 238 [(0, 169), (2, 3)] := Yg (by kernel_rfl)
instance : ZM Tryz.prog 238 0 0 169 := ZQ
instance : ZM Tryz.prog 238 1 2 3 := ZQ
instance : Zq Tryz.prog 238 (([(0, 2), (2, 1)] : List (Nat × Nat))[·]?) := Zm (by kernel_rfl)
instance : TyS Tryz.prog 240 := tqS
instance : Ze Tryz.prog 240 false := Ym
instance : Zo Tryz.prog 240 1 := Yn
instance : Zd Tryz.prog 240 8 := Yk
instance : Zh Tryz.prog 240 (.pointer none) := Yo
instance : TyPtr Tryz.prog 240 37 := ⟨by kernel_rfl⟩
instance : TyS Tryz.prog 245 := tqS
instance : Ze Tryz.prog 245 false := Ym
instance : ZN Tryz.prog 245 := tqF
instance : Zo Tryz.prog 245 1 := Yn
instance : Zd Tryz.prog 245 8 := Yk
instance : Zh Tryz.prog 245 (.nilFunc) := Yo
instance : TyS Tryz.prog 246 := tqS
instance : Ze Tryz.prog 246 false := Ym
instance : ZN Tryz.prog 246 := tqF
instance : Zo Tryz.prog 246 1 := Yn
instance : Zd Tryz.prog 246 8 := Yk
instance : Zh Tryz.prog 246 (.nilFunc) := Yo
instance : TyS Tryz.prog 247 := tqS
instance : Ze Tryz.prog 247 false := Ym
instance : ZN Tryz.prog 247 := tqF
instance : Zo Tryz.prog 247 1 := Yn
instance : Zd Tryz.prog 247 8 := Yk
instance : Zh Tryz.prog 247 (.nilFunc) := Yo
instance : TyS Tryz.prog 250 := tqS
instance : Ze Tryz.prog 250 false := Ym
instance : ZN Tryz.prog 250 := tqF
instance : Zo Tryz.prog 250 1 := Yn
instance : Zd Tryz.prog 250 8 := Yk
instance : Zh Tryz.prog 250 (.nilFunc) := Yo
instance : TyS Tryz.prog 252 := tqS
instance : Ze Tryz.prog 252 false := Ym
instance : ZN Tryz.prog 252 := tqF
instance : Zo Tryz.prog 252 1 := Yn
instance : Zd Tryz.prog 252 8 := Yk
instance : Zh Tryz.prog 252 (.nilFunc) := Yo
instance : TyA Tryz.prog 267 7 := tqA
instance : Ze Tryz.prog 267 false := Ym
instance : Zo Tryz.prog 267 7 := Yn
instance : Zd Tryz.prog 267 88 := Yk
instance : Zh Tryz.prog 267 (.agg ⟨[.int .u64 0, .int .u64 0, .int .i64 0, .slice none 0 0, .slice none 0 0, .bool false, .int .u64 0]⟩) := Yo
instance : Zv Tryz.prog 267 := ⟨by kernel_rfl⟩
instance : ZM Tryz.prog 267 0 0 33 := ZQ
instance : ZM Tryz.prog 267 1 1 33 := ZQ
instance : ZM Tryz.prog 267 2 2 112 := ZQ
instance : ZM Tryz.prog 267 3 5 4 := ZQ
instance : ZM Tryz.prog 267 4 6 33 := ZQ
instance : Zq Tryz.prog 267 (([(0, 1), (1, 1), (2, 3), (5, 1), (6, 1)] : List (Nat × Nat))[·]?) := Zm (by kernel_rfl)
instance : TyA Tryz.prog 268 7 := tqA
instance : Ze Tryz.prog 268 false := Ym
instance : Zo Tryz.prog 268 7 := Yn
instance : Zd Tryz.prog 268 88 := Yk
instance : Zh Tryz.prog 268 (.agg ⟨[.int .u64 0, .int .u64 0, .int .i64 0, .slice none 0 0, .slice none 0 0, .bool false, .int .u64 0]⟩) := Yo
instance : Zv Tryz.prog 268 := ⟨by kernel_rfl⟩
instance : YT Tryz.prog 268 [(0, 33), (1, 33), (2, 112), (5, 4), (6, 33)] := Yg (by kernel_rfl)
instance : ZM Tryz.prog 268 0 0 33 := ZQ
instance : ZM Tryz.prog 268 1 1 33 := ZQ
instance : ZM Tryz.prog 268 2 2 112 := ZQ
instance : ZM Tryz.prog 268 3 5 4 := ZQ
instance : ZM Tryz.prog 268 4 6 33 := ZQ
instance : Zq Tryz.prog 268 (([(0, 1), (1, 1), (2, 3), (5, 1), (6, 1)] : List (Nat × Nat))[·]?) := Zm (by kernel_rfl)
instance : TyS Tryz.prog 273 := tqS
instance : Ze Tryz.prog 273 false := Ym
instance : ZN Tryz.prog 273 := tqF
instance : Zo Tryz.prog 273 1 := Yn
instance : Zd Tryz.prog 273 8 := Yk
instance : Zh Tryz.prog 273 (.nilFunc) := Yo
instance : TyA Tryz.prog 278 128 := tqA
instance : Ze Tryz.prog 278 false := Ym
instance : Zo Tryz.prog 278 128 := Yn
instance : Zd Tryz.prog 278 128 := Yk
instance : Zh Tryz.prog 278 (.agg ⟨List.replicate 128 (.int .u8 0)⟩) := Yo
instance : Zv Tryz.prog 278 := ⟨by kernel_rfl⟩
instance : WM Tryz.prog 278 2 157 := ⟨by kernel_rfl⟩
instance : Zq Tryz.prog 278 (fun i => some (i * 64, 64)) := mkTyPlacesA (n := 2) (e := 157) (by kernel_rfl) (by kernel_rfl)
instance : TyS Tryz.prog 285 := tqS
instance : Ze Tryz.prog 285 false := Ym
instance : Zo Tryz.prog 285 1 := Yn
instance : Zd Tryz.prog 285 8 := Yk
instance : Zh Tryz.prog 285 (.pointer none) := Yo
instance : TyPtr Tryz.prog 285 341 := ⟨by kernel_rfl⟩
instance : TyS Tryz.prog 290 := tqS
instance : Ze Tryz.prog 290 false := Ym
instance : Zo Tryz.prog 290 1 := Yn
instance : Zd Tryz.prog 290 4 := Yk
instance : Zh Tryz.prog 290 (.int .u32 0) := Yo
instance : YO Tryz.prog 290 .u32 := ⟨by kernel_rfl⟩
instance : TyS Tryz.prog 292 := tqS
instance : Ze Tryz.prog 292 false := Ym
instance : Zo Tryz.prog 292 1 := Yn
instance : Zd Tryz.prog 292 8 := Yk
instance : Zh Tryz.prog 292 (.map none) := Yo
instance : WV Tryz.prog 292 3 1 := ⟨by kernel_rfl⟩
instance : TyS Tryz.prog 295 := tqS
instance : Ze Tryz.prog 295 false := Ym
instance : Zo Tryz.prog 295 1 := Yn
instance : Zd Tryz.prog 295 24 := Yk
instance : Zh Tryz.prog 295 (.slice none 0 0) := Yo
instance : ZC Tryz.prog 295 33 := ⟨by kernel_rfl⟩
instance : TyS Tryz.prog 302 := tqS
instance : Ze Tryz.prog 302 false := Ym
instance : ZN Tryz.prog 302 := tqF
instance : Zo Tryz.prog 302 1 := Yn
instance : Zd Tryz.prog 302 8 := Yk
instance : Zh Tryz.prog 302 (.nilFunc) := Yo
instance : TyS Tryz.prog 303 := tqS
instance : Ze Tryz.prog 303 false := Ym
instance : ZN Tryz.prog 303 := tqF
instance : Zo Tryz.prog 303 1 := Yn
instance : Zd Tryz.prog 303 8 := Yk
instance : Zh Tryz.prog 303 (.nilFunc) := Yo
instance : TyS Tryz.prog 307 := tqS
instance : Ze Tryz.prog 307 false := Ym
instance : ZN Tryz.prog 307 := tqF
instance : Zo Tryz.prog 307 1 := Yn
instance : Zd Tryz.prog 307 8 := Yk
instance : Zh Tryz.prog 307 (.nilFunc) := Yo
instance : TyS Tryz.prog 313 := tqS
instance : Ze Tryz.prog 313 false := Ym
instance : Zo Tryz.prog 313 1 := Yn
instance : Zd Tryz.prog 313 8 := Yk
instance : Zh Tryz.prog 313 (.pointer none) := Yo
instance : TyPtr Tryz.prog 313 315 := ⟨by kernel_rfl⟩
instance : TyA Tryz.prog 314 10 := tqA
instance : Ze Tryz.prog 314 false := Ym
instance : Zo Tryz.prog 314 10 := Yn
instance : Zd Tryz.prog 314 144 := Yk
instance : Zh Tryz.prog 314 (.agg ⟨[.int .i64 0, .int .u64 0, .int .i64 0, .int .u64 0, .int .u64 0, .slice none 0 0, .slice none 0 0, .int .i64 0, .slice none 0 0, .slice none 0 0]⟩) := Yo
instance : Zv Tryz.prog 314 := ⟨by kernel_rfl⟩
instance : ZM Tryz.prog 314 0 0 39 := ZQ
instance : Zq Tryz.prog 314 (([(0, 10)] : List (Nat × Nat))[·]?) := Zm (by kernel_rfl)
instance : TyA Tryz.prog 315 10 := tqA
instance : Ze Tryz.prog 315 false := Ym
instance : Zo Tryz.prog 315 10 := Yn
instance : Zd Tryz.prog 315 144 := Yk
instance : Zh Tryz.prog 315 (.agg ⟨[.int .i64 0, .int .u64 0, .int .i64 0, .int .u64 0, .int .u64 0, .slice none 0 0, .slice none 0 0, .int .i64 0, .slice none 0 0, .slice none 0 0]⟩) := Yo
instance : Zv Tryz.prog 315 := ⟨by kernel_rfl⟩
instance : YT Tryz.prog 315 [(0, 39)] := Yg (by kernel_rfl)
instance : ZM Tryz.prog 315 0 0 39 := ZQ
instance : Zq Tryz.prog 315 (([(0, 10)] : List (Nat × Nat))[·]?) := Zm (by kernel_rfl)
instance : TyS Tryz.prog 316 := tqS
instance : Ze Tryz.prog 316 false := Ym
instance : Zo Tryz.prog 316 1 := Yn
instance : Zd Tryz.prog 316 8 := Yk
instance : Zh Tryz.prog 316 (.map none) := Yo
instance : WV Tryz.prog 316 3 25 := ⟨by kernel_rfl⟩
instance : TyS Tryz.prog 318 := tqS
instance : Ze Tryz.prog 318 false := Ym
instance : ZN Tryz.prog 318 := tqF
instance : Zo Tryz.prog 318 1 := Yn
instance : Zd Tryz.prog 318 8 := Yk
instance : Zh Tryz.prog 318 (.nilFunc) := Yo
instance : TyS Tryz.prog 320 := tqS
instance : Ze Tryz.prog 320 false := Ym
instance : ZN Tryz.prog 320 := tqF
instance : Zo Tryz.prog 320 1 := Yn
instance : Zd Tryz.prog 320 8 := Yk
instance : Zh Tryz.prog 320 (.nilFunc) := Yo
instance : TyS Tryz.prog 326 := tqS
instance : Ze Tryz.prog 326 false := Ym
instance : ZN Tryz.prog 326 := tqF
instance : Zo Tryz.prog 326 1 := Yn
instance : Zd Tryz.prog 326 8 := Yk
instance : Zh Tryz.prog 326 (.nilFunc) := Yo
instance : TyS Tryz.prog 327 := tqS
instance : Ze Tryz.prog 327 false := Ym
instance : ZN Tryz.prog 327 := tqF
instance : Zo Tryz.prog 327 1 := Yn
instance : Zd Tryz.prog 327 8 := Yk
instance : Zh Tryz.prog 327 (.nilFunc) := Yo
instance : TyA Tryz.prog 329 2 := tqA
instance : Ze Tryz.prog 329 false := Ym
instance : Zo Tryz.prog 329 2 := Yn
instance : Zd Tryz.prog 329 16 := Yk
instance : Zh Tryz.prog 329 (.agg ⟨[.pointer none, .int .i64 0]⟩) := Yo
instance : Zv Tryz.prog 329 := ⟨by kernel_rfl⟩
instance : ZM Tryz.prog 329 0 0 26 := ZQ
instance : ZM Tryz.prog 329 1 1 3 := ZQ
instance : Zq Tryz.prog 329 (([(0, 1), (1, 1)] : List (Nat × Nat))[·]?) := Zm (by kernel_rfl)
instance : TyA Tryz.prog 330 2 := tqA
instance : Ze Tryz.prog 330 false := Ym
instance : Zo Tryz.prog 330 2 := Yn
instance : Zd Tryz.prog 330 16 := Yk
instance : Zh Tryz.prog 330 (.agg ⟨[.pointer none, .int .i64 0]⟩) := Yo
instance : Zv Tryz.prog 330 := ⟨by kernel_rfl⟩
instance : YT Tryz.prog 330 [(0, 26), (1, 3)] := Yg (by kernel_rfl)
instance : ZM Tryz.prog 330 0 0 26 := ZQ
instance : ZM Tryz.prog 330 1 1 3 := ZQ
instance : Zq Tryz.prog 330 (([(0, 1), (1, 1)] : List (Nat × Nat))[·]?) := Zm (by kernel_rfl)
instance : TyS Tryz.prog 339 := tqS
instance : Ze Tryz.prog 339 false := Ym
instance : Zo Tryz.prog 339 1 := Yn
instance : Zd Tryz.prog 339 24 := Yk
instance : Zh Tryz.prog 339 (.slice none 0 0) := Yo
instance : ZC Tryz.prog 339 5 := ⟨by kernel_rfl⟩
instance : TyA Tryz.prog 340 2 := tqA
instance : Ze Tryz.prog 340 false := Ym
instance : Zo Tryz.prog 340 2 := Yn
instance : Zd Tryz.prog 340 32 := Yk
instance : Zh Tryz.prog 340 (.agg ⟨[.slice none 0 0, .int .i64 0]⟩) := Yo
instance : Zv Tryz.prog 340 := ⟨by kernel_rfl⟩
instance : ZM Tryz.prog 340 0 0 339 := ZQ
instance : ZM Tryz.prog 340 1 1 27 := ZQ
instance : Zq Tryz.prog 340 (([(0, 1), (1, 1)] : List (Nat × Nat))[·]?) := Zm (by kernel_rfl)
instance : TyA Tryz.prog 341 2 := tqA
instance : Ze Tryz.prog 341 false := Ym
instance : Zo Tryz.prog 341 2 := Yn
instance : Zd Tryz.prog 341 32 := Yk
instance : Zh Tryz.prog 341 (.agg ⟨[.slice none 0 0, .int .i64 0]⟩) := Yo
instance : Zv Tryz.prog 341 := ⟨by kernel_rfl⟩
instance : YT Tryz.prog 341 [(0, 339), (1, 27)] := Yg (by kernel_rfl)
instance : ZM Tryz.prog 341 0 0 339 := ZQ
instance : ZM Tryz.prog 341 1 1 27 := ZQ
instance : Zq Tryz.prog 341 (([(0, 1), (1, 1)] : List (Nat × Nat))[·]?) := Zm (by kernel_rfl)
instance : TyS Tryz.prog 360 := tqS
instance : Ze Tryz.prog 360 false := Ym
instance : Zo Tryz.prog 360 1 := Yn
instance : Zd Tryz.prog 360 8 := Yk
instance : Zh Tryz.prog 360 (.pointer none) := Yo
instance : TyPtr Tryz.prog 360 362 := ⟨by kernel_rfl⟩
instance : TyA Tryz.prog 361 11 := tqA
instance : Ze Tryz.prog 361 false := Ym
instance : Zo Tryz.prog 361 11 := Yn
instance : Zd Tryz.prog 361 168 := Yk
instance : Zh Tryz.prog 361 (.agg ⟨[.int .i64 0, .int .u64 0, .int .i64 0, .int .u64 0, .int .u64 0, .slice none 0 0, .slice none 0 0, .int .i64 0, .slice none 0 0, .slice none 0 0, .slice none 0 0]⟩) := Yo
instance : Zv Tryz.prog 361 := ⟨by kernel_rfl⟩
instance : ZM Tryz.prog 361 0 0 39 := ZQ
instance : ZM Tryz.prog 361 1 10 22 := ZQ
instance : Zq Tryz.prog 361 (([(0, 10), (10, 1)] : List (Nat × Nat))[·]?) := Zm (by kernel_rfl)
instance : TyA Tryz.prog 362 11 := tqA
instance : Ze Tryz.prog 362 false := Ym
instance : Zo Tryz.prog 362 11 := Yn
instance : Zd Tryz.prog 362 168 := Yk
instance : Zh Tryz.prog 362 (.agg ⟨[.int .i64 0, .int .u64 0, .int .i64 0, .int .u64 0, .int .u64 0, .slice none 0 0, .slice none 0 0, .int .i64 0, .slice none 0 0, .slice none 0 0, .slice none 0 0]⟩) := Yo
instance : Zv Tryz.prog 362 := ⟨by kernel_rfl⟩
instance : YT Tryz.prog 362 [(0, 39), (10, 22)] := Yg (by kernel_rfl)
instance : ZM Tryz.prog 362 0 0 39 := ZQ
instance : ZM Tryz.prog 362 1 10 22 := ZQ
instance : Zq Tryz.prog 362 (([(0, 10), (10, 1)] : List (Nat × Nat))[·]?) := Zm (by kernel_rfl)
instance : TyS Tryz.prog 371 := tqS
instance : Ze Tryz.prog 371 false := Ym
instance : ZN Tryz.prog 371 := tqF
instance : Zo Tryz.prog 371 1 := Yn
instance : Zd Tryz.prog 371 8 := Yk
instance : Zh Tryz.prog 371 (.nilFunc) := Yo
instance : TyS Tryz.prog 375 := tqS
instance : Ze Tryz.prog 375 false := Ym
instance : ZN Tryz.prog 375 := tqF
instance : Zo Tryz.prog 375 1 := Yn
instance : Zd Tryz.prog 375 8 := Yk
instance : Zh Tryz.prog 375 (.nilFunc) := Yo
instance : TyS Tryz.prog 376 := tqS
instance : Ze Tryz.prog 376 false := Ym
instance : ZN Tryz.prog 376 := tqF
instance : Zo Tryz.prog 376 1 := Yn
instance : Zd Tryz.prog 376 8 := Yk
instance : Zh Tryz.prog 376 (.nilFunc) := Yo
instance : TyS Tryz.prog 378 := tqS
instance : Ze Tryz.prog 378 false := Ym
instance : ZN Tryz.prog 378 := tqF
instance : Zo Tryz.prog 378 1 := Yn
instance : Zd Tryz.prog 378 8 := Yk
instance : Zh Tryz.prog 378 (.nilFunc) := Yo
instance : TyS Tryz.prog 379 := tqS
instance : Ze Tryz.prog 379 false := Ym
instance : ZN Tryz.prog 379 := tqF
instance : Zo Tryz.prog 379 1 := Yn
instance : Zd Tryz.prog 379 8 := Yk
instance : Zh Tryz.prog 379 (.nilFunc) := Yo
instance : TyS Tryz.prog 387 := tqS
instance : Ze Tryz.prog 387 false := Ym
instance : ZN Tryz.prog 387 := tqF
instance : Zo Tryz.prog 387 1 := Yn
instance : Zd Tryz.prog 387 8 := Yk
instance : Zh Tryz.prog 387 (.nilFunc) := Yo
instance : TyS Tryz.prog 391 := tqS
instance : Ze Tryz.prog 391 false := Ym
instance : Zo Tryz.prog 391 1 := Yn
instance : Zd Tryz.prog 391 8 := Yk
instance : Zh Tryz.prog 391 (.pointer none) := Yo
instance : TyPtr Tryz.prog 391 3 := ⟨by kernel_rfl⟩
instance : TyS Tryz.prog 395 := tqS
instance : Ze Tryz.prog 395 false := Ym
instance : Zo Tryz.prog 395 1 := Yn
instance : Zd Tryz.prog 395 8 := Yk
instance : Zh Tryz.prog 395 (.pointer none) := Yo
instance : TyPtr Tryz.prog 395 427 := ⟨by kernel_rfl⟩
instance : TyS Tryz.prog 401 := tqS
instance : Ze Tryz.prog 401 false := Ym
instance : ZN Tryz.prog 401 := tqF
instance : Zo Tryz.prog 401 1 := Yn
instance : Zd Tryz.prog 401 8 := Yk
instance : Zh Tryz.prog 401 (.nilFunc) := Yo
instance : TyS Tryz.prog 406 := tqS
instance : Ze Tryz.prog 406 false := Ym
instance : ZN Tryz.prog 406 := tqF
instance : Zo Tryz.prog 406 1 := Yn
instance : Zd Tryz.prog 406 8 := Yk
instance : Zh Tryz.prog 406 (.nilFunc) := Yo
instance : TyS Tryz.prog 408 := tqS
instance : Ze Tryz.prog 408 false := Ym
instance : ZN Tryz.prog 408 := tqF
instance : Zo Tryz.prog 408 1 := Yn
instance : Zd Tryz.prog 408 8 := Yk
instance : Zh Tryz.prog 408 (.nilFunc) := Yo
instance : TyS Tryz.prog 410 := tqS
instance : Ze Tryz.prog 410 false := Ym
instance : ZN Tryz.prog 410 := tqF
instance : Zo Tryz.prog 410 1 := Yn
instance : Zd Tryz.prog 410 8 := Yk
instance : Zh Tryz.prog 410 (.nilFunc) := Yo
instance : TyS Tryz.prog 411 := tqS
instance : Ze Tryz.prog 411 false := Ym
instance : ZN Tryz.prog 411 := tqF
instance : Zo Tryz.prog 411 1 := Yn
instance : Zd Tryz.prog 411 8 := Yk
instance : Zh Tryz.prog 411 (.nilFunc) := Yo
instance : TyS Tryz.prog 416 := tqS
instance : Ze Tryz.prog 416 false := Ym
instance : ZN Tryz.prog 416 := tqF
instance : Zo Tryz.prog 416 1 := Yn
instance : Zd Tryz.prog 416 8 := Yk
instance : Zh Tryz.prog 416 (.nilFunc) := Yo
instance : TyA Tryz.prog 426 6 := tqA
instance : Ze Tryz.prog 426 false := Ym
instance : Zo Tryz.prog 426 6 := Yn
instance : Zd Tryz.prog 426 80 := Yk
instance : Zh Tryz.prog 426 (.agg ⟨[.pointer none, .int .i64 0, .bool false, .int .i64 0, .slice none 0 0, .slice none 0 0]⟩) := Yo
instance : Zv Tryz.prog 426 := ⟨by kernel_rfl⟩
instance : ZM Tryz.prog 426 0 0 285 := ZQ
instance : ZM Tryz.prog 426 1 1 3 := ZQ
instance : ZM Tryz.prog 426 2 2 4 := ZQ
instance : ZM Tryz.prog 426 3 3 112 := ZQ
instance : Zq Tryz.prog 426 (([(0, 1), (1, 1), (2, 1), (3, 3)] : List (Nat × Nat))[·]?) := Zm (by kernel_rfl)
instance : TyA Tryz.prog 427 6 := tqA
instance : Ze Tryz.prog 427 false := Ym
instance : Zo Tryz.prog 427 6 := Yn
instance : Zd Tryz.prog 427 80 := Yk
instance : Zh Tryz.prog 427 (.agg ⟨[.pointer none, .int .i64 0, .bool false, .int .i64 0, .slice none 0 0, .slice none 0 0]⟩) := Yo
instance : Zv Tryz.prog 427 := ⟨by kernel_rfl⟩
instance : YT Tryz.prog 427 [(0, 285), (1, 3), (2, 4), (3, 112)] := Yg (by kernel_rfl)
instance : ZM Tryz.prog 427 0 0 285 := ZQ
instance : ZM Tryz.prog 427 1 1 3 := ZQ
instance : ZM Tryz.prog 427 2 2 4 := ZQ
instance : ZM Tryz.prog 427 3 3 112 := ZQ
instance : Zq Tryz.prog 427 (([(0, 1), (1, 1), (2, 1), (3, 3)] : List (Nat × Nat))[·]?) := Zm (by kernel_rfl)
instance : TyS Tryz.prog 436 := tqS
instance : Ze Tryz.prog 436 false := Ym
instance : ZN Tryz.prog 436 := tqF
instance : Zo Tryz.prog 436 1 := Yn
instance : Zd Tryz.prog 436 8 := Yk
instance : Zh Tryz.prog 436 (.nilFunc) := Yo
instance : TyA Tryz.prog 439 16 := tqA
instance : Ze Tryz.prog 439 false := Ym
instance : Zo Tryz.prog 439 16 := Yn
instance : Zd Tryz.prog 439 64 := Yk
instance : Zh Tryz.prog 439 (.agg ⟨List.replicate 16 (.int .u32 0)⟩) := Yo
instance : Zv Tryz.prog 439 := ⟨by kernel_rfl⟩
instance : WM Tryz.prog 439 16 290 := ⟨by kernel_rfl⟩
instance : Zq Tryz.prog 439 (fun i => some (i * 1, 1)) := mkTyPlacesA (n := 16) (e := 290) (by kernel_rfl) (by kernel_rfl)
instance : TyS Tryz.prog 441 := tqS
instance : Ze Tryz.prog 441 false := Ym
instance : ZN Tryz.prog 441 := tqF
instance : Zo Tryz.prog 441 1 := Yn
instance : Zd Tryz.prog 441 8 := Yk
instance : Zh Tryz.prog 441 (.nilFunc) := Yo
instance : TyS Tryz.prog 451 := tqS
instance : Ze Tryz.prog 451 false := Ym
instance : ZN Tryz.prog 451 := tqF
instance : Zo Tryz.prog 451 1 := Yn
instance : Zd Tryz.prog 451 8 := Yk
instance : Zh Tryz.prog 451 (.nilFunc) := Yo
instance : TyS Tryz.prog 452 := tqS
instance : Ze Tryz.prog 452 false := Ym
instance : Zo Tryz.prog 452 1 := Yn
instance : Zd Tryz.prog 452 8 := Yk
instance : Zh Tryz.prog 452 (.pointer none) := Yo
instance : TyPtr Tryz.prog 452 5 := ⟨by kernel_rfl⟩
instance : TyA Tryz.prog 455 11 := tqA
instance : Ze Tryz.prog 455 false := Ym
instance : Zo Tryz.prog 455 11 := Yn
instance : Zd Tryz.prog 455 48 := Yk
instance : Zh Tryz.prog 455 (.agg ⟨[.int .u64 0, .int .u64 0, .int .u32 0, .int .u8 0, .int .u8 0, .int .u8 0, .int .u8 0, .nilFunc, .pointer none, .int .i32 0, .int .i32 0]⟩) := Yo
instance : Zv Tryz.prog 455 := ⟨by kernel_rfl⟩
instance : ZM Tryz.prog 455 0 0 12 := ZQ
instance : ZM Tryz.prog 455 1 1 12 := ZQ
instance : ZM Tryz.prog 455 2 2 290 := ZQ
instance : ZM Tryz.prog 455 3 3 449 := ZQ
instance : ZM Tryz.prog 455 4 4 5 := ZQ
instance : ZM Tryz.prog 455 5 5 5 := ZQ
instance : ZM Tryz.prog 455 6 6 450 := ZQ
instance : ZM Tryz.prog 455 7 7 451 := ZQ
instance : ZM Tryz.prog 455 8 8 452 := ZQ
instance : ZM Tryz.prog 455 9 9 453 := ZQ
instance : ZM Tryz.prog 455 10 10 454 := ZQ
instance : Zq Tryz.prog 455 (([(0, 1), (1, 1), (2, 1), (3, 1), (4, 1), (5, 1), (6, 1), (7, 1), (8, 1), (9, 1), (10, 1)] : List (Nat × Nat))[·]?) := Zm (by kernel_rfl)
instance : ZJ Tryz.prog 9 := ZS
instance : ZJ Tryz.prog 12 := ZS
instance : ZJ Tryz.prog 13 := ZS
instance : ZJ Tryz.prog 15 := ZS
instance : ZJ Tryz.prog 16 := ZS
instance : ZJ Tryz.prog 24 := ZS
instance : ZJ Tryz.prog 26 := ZS
instance : ZJ Tryz.prog 27 := ZS
instance : ZJ Tryz.prog 29 := ZS
instance : ZJ Tryz.prog 31 := ZS
instance : ZJ Tryz.prog 37 := ZS
instance : ZJ Tryz.prog 38 := ZS
instance : ZJ Tryz.prog 39 := ZS
instance : ZJ Tryz.prog 40 := ZS
instance : ZJ Tryz.prog 41 := ZS
instance : ZJ Tryz.prog 44 := ZS
instance : ZJ Tryz.prog 57 := ZS
instance : ZJ Tryz.prog 58 := ZS
instance : ZJ Tryz.prog 59 := ZS
instance : ZJ Tryz.prog 60 := ZS
instance : ZJ Tryz.prog 61 := ZS
instance : ZJ Tryz.prog 62 := ZS
instance : ZJ Tryz.prog 63 := ZS
instance : ZJ Tryz.prog 64 := ZS
instance : ZJ Tryz.prog 71 := ZS
instance : ZJ Tryz.prog 72 := ZS
instance : ZJ Tryz.prog 73 := ZS
instance : ZJ Tryz.prog 74 := ZS
instance : ZJ Tryz.prog 75 := ZS
instance : ZJ Tryz.prog 76 := ZS
instance : ZJ Tryz.prog 78 := ZS
instance : ZJ Tryz.prog 79 := ZS
instance : ZJ Tryz.prog 80 := ZS
instance : ZJ Tryz.prog 81 := ZS
instance : ZJ Tryz.prog 82 := ZS
instance : ZJ Tryz.prog 83 := ZS
instance : ZJ Tryz.prog 84 := ZS
instance : ZJ Tryz.prog 85 := ZS
instance : ZJ Tryz.prog 86 := ZS
instance : ZJ Tryz.prog 87 := ZS
instance : ZJ Tryz.prog 100 := ZS
instance : ZJ Tryz.prog 107 := ZS
instance : ZJ Tryz.prog 108 := ZS
instance : ZJ Tryz.prog 109 := ZS
instance : ZJ Tryz.prog 116 := ZS
instance : ZJ Tryz.prog 117 := ZS
instance : ZJ Tryz.prog 118 := ZS
instance : ZJ Tryz.prog 119 := ZS
instance : ZJ Tryz.prog 120 := ZS
instance : ZJ Tryz.prog 121 := ZS
instance : ZJ Tryz.prog 122 := ZS
instance : ZJ Tryz.prog 123 := ZS
instance : ZJ Tryz.prog 129 := ZS
instance : ZJ Tryz.prog 130 := ZS
instance : ZJ Tryz.prog 132 := ZS
instance : ZJ Tryz.prog 133 := ZS
instance : ZJ Tryz.prog 134 := ZS
instance : ZJ Tryz.prog 135 := ZS
instance : ZJ Tryz.prog 136 := ZS
instance : ZJ Tryz.prog 137 := ZS
instance : ZJ Tryz.prog 138 := ZS
instance : ZJ Tryz.prog 139 := ZS
instance : ZJ Tryz.prog 140 := ZS
instance : ZJ Tryz.prog 141 := ZS
instance : ZJ Tryz.prog 142 := ZS
instance : ZJ Tryz.prog 143 := ZS
instance : ZJ Tryz.prog 144 := ZS
instance : ZJ Tryz.prog 145 := ZS
instance : ZJ Tryz.prog 146 := ZS
instance : ZJ Tryz.prog 159 := ZS
instance : ZJ Tryz.prog 160 := ZS
instance : ZJ Tryz.prog 161 := ZS
instance : ZJ Tryz.prog 162 := ZS
instance : ZJ Tryz.prog 163 := ZS
instance : ZJ Tryz.prog 164 := ZS
instance : ZJ Tryz.prog 165 := ZS
instance : ZJ Tryz.prog 166 := ZS
instance : ZJ Tryz.prog 167 := ZS
instance : ZJ Tryz.prog 168 := ZS
instance : ZJ Tryz.prog 169 := ZS
instance : ZJ Tryz.prog 173 := ZS
instance : ZJ Tryz.prog 177 := ZS
instance : ZJ Tryz.prog 178 := ZS
instance : ZJ Tryz.prog 179 := ZS
instance : ZJ Tryz.prog 180 := ZS
instance : ZJ Tryz.prog 187 := ZS
instance : ZJ Tryz.prog 190 := ZS
instance : ZJ Tryz.prog 191 := ZS
instance : ZJ Tryz.prog 192 := ZS
instance : ZJ Tryz.prog 193 := ZS
instance : ZJ Tryz.prog 194 := ZS
instance : ZJ Tryz.prog 195 := ZS
instance : ZJ Tryz.prog 196 := ZS
instance : ZJ Tryz.prog 197 := ZS
instance : ZJ Tryz.prog 198 := ZS
instance : ZJ Tryz.prog 199 := ZS
instance : ZJ Tryz.prog 200 := ZS
instance : ZJ Tryz.prog 201 := ZS
instance : ZJ Tryz.prog 205 := ZS
instance : ZJ Tryz.prog 206 := ZS
instance : ZJ Tryz.prog 207 := ZS
instance : ZJ Tryz.prog 208 := ZS
instance : ZJ Tryz.prog 209 := ZS
instance : ZJ Tryz.prog 210 := ZS
instance : ZJ Tryz.prog 211 := ZS
instance : ZJ Tryz.prog 212 := ZS
instance : ZJ Tryz.prog 213 := ZS
instance : ZJ Tryz.prog 214 := ZS
instance : ZJ Tryz.prog 215 := ZS
instance : ZJ Tryz.prog 216 := ZS
instance : ZJ Tryz.prog 217 := ZS
instance : ZJ Tryz.prog 218 := ZS
instance : ZJ Tryz.prog 221 := ZS
instance : ZJ Tryz.prog 229 := ZS
instance : ZJ Tryz.prog 230 := ZS
instance : ZJ Tryz.prog 231 := ZS
instance : ZJ Tryz.prog 232 := ZS
instance : ZJ Tryz.prog 233 := ZS
instance : ZJ Tryz.prog 234 := ZS
instance : ZJ Tryz.prog 235 := ZS
instance : ZJ Tryz.prog 236 := ZS
instance : ZJ Tryz.prog 237 := ZS
instance : ZJ Tryz.prog 238 := ZS
instance : ZJ Tryz.prog 242 := ZS
instance : ZJ Tryz.prog 243 := ZS
instance : ZJ Tryz.prog 247 := ZS
instance : ZJ Tryz.prog 252 := ZS
instance : ZJ Tryz.prog 257 := ZS
instance : ZJ Tryz.prog 261 := ZS
instance : ZJ Tryz.prog 262 := ZS
instance : ZJ Tryz.prog 263 := ZS
instance : ZJ Tryz.prog 264 := ZS
instance : ZJ Tryz.prog 265 := ZS
instance : ZJ Tryz.prog 266 := ZS
instance : ZJ Tryz.prog 267 := ZS
instance : ZJ Tryz.prog 268 := ZS
instance : ZJ Tryz.prog 269 := ZS
instance : ZJ Tryz.prog 270 := ZS
instance : ZJ Tryz.prog 271 := ZS
instance : ZJ Tryz.prog 272 := ZS
instance : ZJ Tryz.prog 273 := ZS
instance : ZJ Tryz.prog 274 := ZS
instance : ZJ Tryz.prog 275 := ZS
instance : ZJ Tryz.prog 276 := ZS
instance : ZJ Tryz.prog 277 := ZS
instance : ZJ Tryz.prog 278 := ZS
instance : ZJ Tryz.prog 280 := ZS
instance : ZJ Tryz.prog 281 := ZS
instance : ZJ Tryz.prog 282 := ZS
instance : ZJ Tryz.prog 283 := ZS
instance : ZJ Tryz.prog 284 := ZS
instance : ZJ Tryz.prog 285 := ZS
instance : ZJ Tryz.prog 286 := ZS
instance : ZJ Tryz.prog 287 := ZS
instance : ZJ Tryz.prog 288 := ZS
instance : ZJ Tryz.prog 289 := ZS
instance : ZJ Tryz.prog 290 := ZS
instance : ZJ Tryz.prog 291 := ZS
instance : ZJ Tryz.prog 292 := ZS
instance : ZJ Tryz.prog 297 := ZS
instance : ZJ Tryz.prog 298 := ZS
instance : ZJ Tryz.prog 299 := ZS
instance : ZJ Tryz.prog 300 := ZS
instance : ZJ Tryz.prog 302 := ZS
instance : ZJ Tryz.prog 303 := ZS
instance : ZJ Tryz.prog 304 := ZS
instance : ZJ Tryz.prog 305 := ZS
instance : ZJ Tryz.prog 306 := ZS
instance : ZJ Tryz.prog 307 := ZS
instance : ZJ Tryz.prog 309 := ZS
instance : ZJ Tryz.prog 312 := ZS
instance : ZJ Tryz.prog 313 := ZS
instance : ZJ Tryz.prog 314 := ZS
instance : ZJ Tryz.prog 315 := ZS
instance : ZJ Tryz.prog 316 := ZS
instance : ZJ Tryz.prog 317 := ZS
instance : ZJ Tryz.prog 318 := ZS
instance : ZJ Tryz.prog 319 := ZS
instance : ZJ Tryz.prog 320 := ZS
instance : ZJ Tryz.prog 321 := ZS
instance : ZJ Tryz.prog 322 := ZS
instance : ZJ Tryz.prog 323 := ZS
instance : ZJ Tryz.prog 324 := ZS
instance : ZJ Tryz.prog 325 := ZS
instance : ZJ Tryz.prog 326 := ZS
instance : ZJ Tryz.prog 327 := ZS
instance : ZJ Tryz.prog 328 := ZS
instance : ZJ Tryz.prog 329 := ZS
instance : ZJ Tryz.prog 330 := ZS
instance : ZJ Tryz.prog 338 := ZS
instance : ZJ Tryz.prog 339 := ZS
instance : ZJ Tryz.prog 340 := ZS
instance : ZJ Tryz.prog 341 := ZS
instance : ZJ Tryz.prog 342 := ZS
instance : ZJ Tryz.prog 345 := ZS
instance : ZJ Tryz.prog 346 := ZS
instance : ZJ Tryz.prog 351 := ZS
instance : ZJ Tryz.prog 352 := ZS
instance : ZJ Tryz.prog 353 := ZS
instance : ZJ Tryz.prog 354 := ZS
instance : ZJ Tryz.prog 355 := ZS
instance : ZJ Tryz.prog 356 := ZS
instance : ZJ Tryz.prog 357 := ZS
instance : ZJ Tryz.prog 359 := ZS
instance : Mixed Tryz.prog := ⟨by kernel_rfl⟩
end Go.Proofs.E
namespace Go.Proofs.E
open Go
set_option linter.unusedVariables false
set_option linter.unusedSimpArgs false
set_option linter.unusedSectionVars false
set_option maxRecDepth 4000
set_option maxHeartbeats 1000000
attribute [local irreducible] Yl TL TC TE Spec ZK R1 Hp.le EnvLe TS TR YS Zp
def be : Nat → Nat → List UInt8
 | 0, _ => []
 | n + 1, x => UInt8.ofNat (x / 256 ^ n) :: be n x
def Ye (l : List UInt8) : Nat := l.foldl (fun a b => a * 256 + b.toNat) 0
theorem Zj (n x : Nat) : (be n x).length = n := by induction n <;> simp [be, *]
theorem foldl_be (l : List UInt8) (a : Nat) : l.foldl (fun a b => a * 256 + b.toNat) a = a * 256 ^ l.length + Ye l := by
 unfold Ye
 induction l generalizing a with
 | nil => simp
 | cons b l ih =>
  simp only [List.foldl_cons, List.length_cons]
  rw [ih (a * 256 + b.toNat), ih (0 * 256 + b.toNat)]
  rw [Nat.pow_succ]
  simp only [Nat.zero_mul, Nat.zero_add, Nat.add_mul, Nat.mul_assoc, Nat.mul_comm 256, Nat.add_assoc]
theorem unbe_cons (b : UInt8) (l : List UInt8) : Ye (b :: l) = b.toNat * 256 ^ l.length + Ye l := by
 have := foldl_be l (0 * 256 + b.toNat)
 simp only [Nat.zero_mul, Nat.zero_add] at this
 rw [← this]; simp [Ye]
theorem unbe_snoc (b : UInt8) (l : List UInt8) : Ye (l ++ [b]) = Ye l * 256 + b.toNat := by simp [Ye]
theorem unbe_lt (l : List UInt8) : Ye l < 256 ^ l.length := by
 induction l with
 | nil => simp [Ye]
 | cons b l ih =>
  rw [unbe_cons, List.length_cons, Nat.pow_succ]
  have hb : b.toNat < 256 := b.toNat_lt
  have : (b.toNat + 1) * 256 ^ l.length ≤ 256 * 256 ^ l.length := Nat.mul_le_mul_right _ (by omega)
  rw [Nat.add_mul] at this
  omega
theorem Wx (n x : Nat) : Ye (be n x) = x % 256 ^ n := by
 induction n with
 | zero => simp [be, Ye, Nat.mod_one]
 | succ n ih =>
  rw [be, unbe_cons, Zj, ih, UInt8.toNat_ofNat']
  have h1 := Nat.mod_mul (x := x) (a := 256 ^ n) (b := 256)
  have e : 256 ^ (n + 1) = 256 ^ n * 256 := by rw [Nat.pow_succ]
  have e2 : (2 : Nat) ^ 8 = 256 := by decide
  rw [e, h1, e2, Nat.mul_comm]
  omega
theorem be_mod (n x : Nat) : be n (x % 256 ^ n) = be n x := by
 have key : ∀ m, m ≤ n → be m (x % 256 ^ n) = be m x := by
  intro m
  induction m with
  | zero => intro _; rfl
  | succ m ih =>
   intro hm
   rw [be, be, ih (by omega)]
   congr 1
   apply UInt8.toNat_inj.1
   simp only [UInt8.toNat_ofNat']
   obtain ⟨k, rfl⟩ : ∃ k, n = m + 1 + k := ⟨n - (m + 1), by omega⟩
   have e : 256 ^ (m + 1 + k) = 256 ^ m * (256 * 256 ^ k) := by rw [Nat.pow_add, Nat.pow_succ, Nat.mul_assoc]
   rw [e, Nat.mod_mul_right_div_self, Nat.mod_mul_right_mod]
 exact key n (Nat.le_refl _)
theorem be_unbe (l : List UInt8) : be l.length (Ye l) = l := by
 induction l with
 | nil => rfl
 | cons b l ih =>
  rw [List.length_cons, be, unbe_cons]
  have hlt := unbe_lt l
  have hp : 0 < 256 ^ l.length := Nat.pow_pos (by decide)
  have h1 : (b.toNat * 256 ^ l.length + Ye l) / 256 ^ l.length = b.toNat := by
   rw [Nat.mul_comm, Nat.mul_add_div hp, Nat.div_eq_of_lt hlt]; simp
  have h2 : be l.length (b.toNat * 256 ^ l.length + Ye l) = l := by
   rw [← be_mod, Nat.mul_comm, Nat.mul_add_mod, Nat.mod_eq_of_lt hlt, ih]
  rw [h1, h2]; simp
def z8 (n : Nat) : List UInt8 := List.replicate n 0
theorem stc_mid (A B vs ws : List Value) (h : ws.length = vs.length) : stc (A ++ (vs ++ B)) A.length ws = A ++ (ws ++ B) := by
 unfold stc
 rw [List.take_left, h, ← List.drop_drop, List.drop_left, List.drop_left, List.append_assoc]
theorem u8_wrap (y : Nat) : Value.int .u8 (IntKind.u8.wrap (y : Int)) = Zr (UInt8.ofNat y) := by
 simp only [Zr, UInt8.toNat_ofNat', IntKind.wrap, IntKind.bits, IntKind.signed, Bool.false_and, Bool.false_eq_true, if_false]
 congr 1
theorem made_z8 (m : Nat) : madeCells (Value.int .u8 0).cells m = ⟨(z8 m).map Zr⟩ := by
 have hz : (Value.int IntKind.u8 0).cells = ⟨[Zr 0]⟩ := rfl
 rw [hz]
 apply Array.ext'
 apply List.ext_getElem?
 intro i
 by_cases hi : i < m
 ·simp [madeCells, z8, hi, Nat.mod_one]
 ·rw [List.getElem?_eq_none (by simp [madeCells]; omega), List.getElem?_eq_none (by simp [z8]; omega)]
theorem own_chunk (b n c : Nat) {xs : List Value} {T : TypeId} : [(b, Obj.cells ⟨xs⟩ T (0, 0))] = ZG (.slice (some ⟨b, 0, none⟩) n c) xs [] T := by simp [ZG]
theorem stand_spec (ρ : Hp) (a : Option Addr) (n c : Nat) (l : List UInt8) (h : SIn ρ Zr a n l) (x p : Nat) (hx : x < 18446744073709551616) (hp : p ≤ 8) (hp1 : 1 ≤ p) (hn : n ≤ 1000000) :
  Spec Tryz.prog 325 [.slice a n c, .int .u64 x, .int .i64 p] ρ [] (fun v ρ' L' => ρ' = ρ ∧ ∃ sp, OwnS v (n + p) ((l ++ be p x).map Zr) sp 1 ∧ L' = [ZG v ((l ++ be p x).map Zr) sp 5]) := by
 have hl := h.len
 refine Za Tryz.func325 rfl rfl rfl fun u R => ?_
 simp only [Zg, kA]
 repeat' (first | (refine Vi rfl rfl (by omega) (by omega) (by omega) (by omega) rfl (fun hbn => ?_)) | refine zW ?_ | intro _)
 simp only [show ((n : Int) + (p : Int)).toNat = n + p by omega, Nat.mul_one, made_z8]
 have hinit : stc ((z8 (n + p)).map Zr) 0 ((l.map Zr).take (n + p)) = (l ++ (z8 (p - 0) ++ be 0 x)).map Zr := by
  rw [List.take_of_length_le (by simp; omega)]
  unfold stc
  have e : z8 (n + p) = z8 n ++ z8 p := by simp [z8, List.replicate_append_replicate]
  rw [e]
  simp [be, hl, z8]
 refine tl_copy (ys := l.map Zr) rfl rfl (SIn.srcV h) (by simpa using hl) (ZY l) (by simp [z8]) rfl ?_
 simp only [hinit]
 repeat' (first | refine zW ?_ | intro _)
 refine Zl [(6, _), (7, _), (17, _)] (fun (ζ : (Nat) × (Nat)) => [(18, .int .i64 ζ.1), (1, .int .u64 (ζ.2 : Nat))]) (fun (ζ : (Nat) × (Nat)) => ρ) (fun (ζ : (Nat) × (Nat)) => [[(hbn, .cells ⟨(l ++ (z8 (p - ζ.1) ++ be ζ.1 x)).map Zr⟩ 5 (0, 0))]]) (fun (ζ : (Nat) × (Nat)) => ζ.1 ≤ p ∧ ζ.2 = x / 256 ^ ζ.1) (fun (ζ : (Nat) × (Nat)) => p - ζ.1) ((0, x)) (⟨Nat.zero_le _, by simp⟩) Zc Zc rfl tk ?_
 rintro ⟨k, y⟩ hI
 try simp only [kA, List.append_assoc] at hI ⊢
 try dsimp only at hI ⊢
 obtain ⟨hk, hy⟩ := hI
 by_cases hlt : k < p
 ·have hlen : ((l ++ (z8 (p - k) ++ be k x)).map Zr).length = n + p := by simp [z8, Zj, hl]; omega
  have hst : stc ((l ++ (z8 (p - k) ++ be k x)).map Zr) (0 + ((n : Int) + (p : Int) - 1 - k).toNat * 1) [Zr (UInt8.ofNat y)] = (l ++ (z8 (p - (k + 1)) ++ be (k + 1) x)).map Zr := by
   have e1 : z8 (p - k) = z8 (p - (k + 1)) ++ [0] := by
    rw [show p - k = (p - (k + 1)) + 1 by omega]; simp [z8, List.replicate_succ']
   have e2 : 0 + ((n : Int) + (p : Int) - 1 - k).toNat * 1 = ((l ++ z8 (p - (k + 1))).map Zr).length := by simp [z8, hl]; omega
   have e3 : (l ++ (z8 (p - k) ++ be k x)).map Zr = (l ++ z8 (p - (k + 1))).map Zr ++ ([Zr 0] ++ (be k x).map Zr) := by rw [e1]; simp
   rw [e2, e3, stc_mid _ _ [Zr 0] [Zr (UInt8.ofNat y)] rfl, be, ← hy]
   simp
  have hyy : y / 256 = x / 256 ^ (k + 1) := by rw [hy, Nat.div_div_eq_div_mul, Nat.pow_succ]
  repeat' (first | refine zW ?_ | intro _)
  have e8 : (y : Int) / 2 ^ 8 = ((x / 256 ^ (k + 1) : Nat) : Int) := by
   rw [← hyy]
   have : (2 : Int) ^ 8 = 256 := by decide
   omega
  rw [e8, u8_wrap, Int.natCast_add, hst]
  refine Zf (k + 1, x / 256 ^ (k + 1)) (⟨hlt, rfl⟩) Zc Zc rfl tk inferInstance (by first | omega | (dsimp only; omega))
 ·have hk2 : k = p := by omega
  subst hk2
  simp only [Nat.sub_self, z8, List.replicate_zero, List.nil_append]
  repeat' (first | refine zW ?_ | intro _)
  rw [own_chunk hbn (n + k) (n + k)]
  exact qE ⟨rfl, [], ⟨.inr ⟨hbn, n + k, rfl, by simp [Zj, hl], by simp [Zj, hl], Nat.le_refl _⟩⟩, rfl⟩
theorem put16_spec (ρ : Hp) (a : Option Addr) (n c : Nat) (l : List UInt8) (h : SIn ρ Zr a n l) (x : Nat) (hx : x < 65536) (hn : n ≤ 1000000) :
  Spec Tryz.prog 314 [.slice a n c, .int .u16 x] ρ [] (fun v ρ' L' => ρ' = ρ ∧ ∃ sp, OwnS v (n + 2) ((l ++ be 2 x).map Zr) sp 1 ∧ L' = [ZG v ((l ++ be 2 x).map Zr) sp 5]) := by
 have hw : IntKind.u64.wrap (x : Int) = x := Wy (by simp only [lo, hi]; omega)
 have hs := stand_spec ρ a n c l h x 2 (by omega) (by omega) (by omega) hn
 refine Za Tryz.func314 rfl rfl rfl fun u R => ?_
 simp only [Zg, kA]
 repeat' (first | (refine iCv ?_; refine tl_y (y_conv rfl) rfl rfl ?_; rw [hw]) | (refine Zb (.func 325) ?_; refine qC rfl rfl (hs) ?_; rintro v ρ' L' hle ⟨rfl, sp, hown, rfl⟩ <;> (try simp only [kA])) | refine zW ?_ | intro _)
 exact qE ⟨rfl, sp, hown, rfl⟩
theorem put64_spec (ρ : Hp) (a : Option Addr) (n c : Nat) (l : List UInt8) (h : SIn ρ Zr a n l) (x : Nat) (hx : x < 18446744073709551616) (hn : n ≤ 1000000) :
  Spec Tryz.prog 274 [.slice a n c, .int .u64 x] ρ [] (fun v ρ' L' => ρ' = ρ ∧ ∃ sp, OwnS v (n + 8) ((l ++ be 8 x).map Zr) sp 1 ∧ L' = [ZG v ((l ++ be 8 x).map Zr) sp 5]) := by
 have hs := stand_spec ρ a n c l h x 8 (by omega) (by omega) (by omega) hn
 refine Za Tryz.func274 rfl rfl rfl fun u R => ?_
 simp only [Zg, kA]
 repeat' (first | (refine Zb (.func 325) ?_; refine qC rfl rfl (hs) ?_; rintro v ρ' L' hle ⟨rfl, sp, hown, rfl⟩ <;> (try simp only [kA])) | refine zW ?_ | intro _)
 exact qE ⟨rfl, sp, hown, rfl⟩
theorem OwnS.zero (b sz : Nat) : OwnS (.slice (some ⟨b, 0, none⟩) 0 0) 0 [] [] sz := ⟨.inr ⟨b, 0, rfl, by simp, by simp, Nat.le_refl _⟩⟩
abbrev rdC (br : Nat) (a : Option Addr) (n c : Nat) (st : Int) : List (Nat × Obj) := [(br, .cells ⟨[.slice a n c, .int .i64 st]⟩ 341 (0, 0))]
theorem bclone_spec (ρ : Hp) (a : Option Addr) (n c : Nat) (l : List UInt8) (h : SIn ρ Zr a n l) (hn : n ≤ 1000000) :
  Spec Tryz.prog 242 [.slice a n c] ρ [] (fun v ρ' L' => ρ.le ρ' ∧ ∃ a' c', v = .slice a' n c' ∧ n ≤ c' ∧ SIn ρ' Zr a' n l ∧ L' = []) := by
 refine Za Tryz.func242 rfl rfl rfl fun u R => ?_
 simp only [Zg, kA]
 cases a with
 | none =>
  have hn0 : n = 0 := by
   rcases h.out with h0 | ⟨b, off, C, T, fr, h1, _⟩
   ·exact h0
   ·cases h1
  subst hn0
  repeat' (first | refine zW ?_ | intro _)
  exact qE ⟨Hp.le_refl _, none, 0, rfl, Nat.le_refl _, ⟨h.len, .inl rfl⟩, rfl⟩
 | some a =>
  repeat' (first | refine zW ?_ | intro _)
  refine Yv (n := 0) (xs := []) (sp := []) (ys := l.map Zr) (sz := 1) rfl rfl (OwnS.zero _ 1) (hR := Zz) (SIn.srcV h) (by simpa using h.len) (ZY l) (by decide) rfl (by omega) (by omega) rfl (fun v' sp' hown' => ?_)
  simp only [Nat.zero_add, List.nil_append] at hown' ⊢
  repeat' (first | refine zW ?_ | intro _)
  refine YG _ (h := Rem.here) (fun ρ' hle hfz => ?_)
  obtain ⟨a', c', rfl, hc, hs⟩ := hown'.sIn hfz
  exact qE ⟨hle, a', c', rfl, hc, hs, rfl⟩
theorem read_spec (ρ : Hp) (a : Option Addr) (n c : Nat) (l : List UInt8) (h : SIn ρ Zr a n l) (hn : n ≤ 1000000) :
  Spec Tryz.prog 177 [.slice a n c] ρ [] (fun v ρ' L' => ρ.le ρ' ∧ ∃ br a' c', v = .pointer (some ⟨br, 0, none⟩) ∧ n ≤ c' ∧ SIn ρ' Zr a' n l ∧ L' = [rdC br a' n c' 0]) := by
 have hc := bclone_spec ρ a n c l h hn
 refine Za Tryz.func177 rfl rfl rfl fun u R => ?_
 simp only [Zg, kA]
 repeat' (first | (refine Zb (.func 242) ?_; refine qC rfl rfl (hc) ?_; rintro v ρ' L' hle ⟨hle, a', c', rfl, hc', hs, rfl⟩ <;> (try simp only [kA])) | refine zW ?_ | intro _)
 exact qE ⟨hle, _, a', c', rfl, hc', hs, rfl⟩
theorem Wg (ρ : Hp) (br : Nat) (a : Option Addr) (n c : Nat) (st : Int) :
  Spec Tryz.prog 257 [.pointer (some ⟨br, 0, none⟩)] ρ [rdC br a n c st] (fun v ρ' L' => v = .int .i64 st ∧ ρ' = ρ ∧ L' = [rdC br a n c st]) := by
 refine Za Tryz.func257 rfl rfl rfl fun u R => ?_
 simp only [Zg, kA]
 repeat' (first | refine zW ?_ | intro _)
 exact qE ⟨rfl, rfl, rfl⟩
theorem left_spec (ρ : Hp) (br : Nat) (a : Option Addr) (n c : Nat) (st : Int) :
  Spec Tryz.prog 187 [.pointer (some ⟨br, 0, none⟩)] ρ [rdC br a n c st] (fun v ρ' L' => v = .int .i64 n ∧ ρ' = ρ ∧ L' = [rdC br a n c st]) := by
 refine Za Tryz.func187 rfl rfl rfl fun u R => ?_
 simp only [Zg, kA]
 repeat' (first | refine zW ?_ | intro _)
 exact qE ⟨rfl, rfl, rfl⟩
theorem gives_stuck (ρ : Hp) (br : Nat) (a : Option Addr) (n c : Nat) (st : Int) (hst : st ≠ 0) (k : Int) (f : Value) :
  Spec Tryz.prog 302 [.pointer (some ⟨br, 0, none⟩), .int .i64 k, f] ρ [rdC br a n c st] (fun v ρ' L' => v = .tuple ⟨[]⟩ ∧ ρ' = ρ ∧ L' = [rdC br a n c st]) := by
 refine Za Tryz.func302 rfl rfl rfl fun u R => ?_
 simp only [Zg, kA]
 repeat' (first | (refine Zb (.func 257) ?_; refine qR rfl rfl (Wg _ br a n c st) ?_; try simp only [kA]) | refine zW ?_ | intro _)
 exact qE ⟨rfl, rfl, rfl⟩
theorem gives_short (ρ : Hp) (br : Nat) (a : Option Addr) (n c : Nat) (k : Int) (hk : (n : Int) < k) (f : Value) :
  Spec Tryz.prog 302 [.pointer (some ⟨br, 0, none⟩), .int .i64 k, f] ρ [rdC br a n c 0] (fun v ρ' L' => v = .tuple ⟨[]⟩ ∧ ρ' = ρ ∧ L' = [rdC br a n c 7]) := by
 refine Za Tryz.func302 rfl rfl rfl fun u R => ?_
 simp only [Zg, kA]
 repeat' (first | (refine Zb (.func 257) ?_; refine qR rfl rfl (Wg _ br a n c 0) ?_; try simp only [kA]) | refine zW ?_ | intro _)
 exact qE ⟨rfl, rfl, rfl⟩
theorem gives_ok (ρ : Hp) (br : Nat) (a : Option Addr) (n c : Nat) (l : List UInt8) (h : SIn ρ Zr a n l) (hc : n ≤ c) (k : Nat) (hk : k ≤ n) (g : Nat) (cs : List Value) (X X' : SH) [ZJ Tryz.prog g]
  (hS : SIn ρ Zr a k (l.take k) → Spec Tryz.prog g ([.slice a k c] ++ cs) ρ X (fun v ρ' L' => v = .tuple ⟨[]⟩ ∧ ρ' = ρ ∧ L' = X')) :
  Spec Tryz.prog 302 [.pointer (some ⟨br, 0, none⟩), .int .i64 k, .func (.func g) ⟨[]⟩ ⟨cs⟩] ρ (rdC br a n c 0 :: X)
   (fun v ρ' L' => v = .tuple ⟨[]⟩ ∧ ρ' = ρ ∧ ∃ a' c', SIn ρ Zr a' (n - k) (l.drop k) ∧ n - k ≤ c' ∧ L' = rdC br a' (n - k) c' 0 :: X') := by
 replace hS := hS (h.take hk)
 have hl := h.len
 have hsub := h.sub (lo' := k) (hi' := n) (cap := c) hk (Nat.le_refl _) hc
 rw [List.take_of_length_le (by simp; omega)] at hsub
 refine Za Tryz.func302 rfl rfl rfl fun u R => ?_
 simp only [Zg, kA] at hS ⊢
 repeat' (first | (refine Zb (.func 257) ?_; refine qR rfl rfl (Wg _ br a n c 0) ?_; try simp only [kA]) | (refine Zb (.tmp 9) ?_; refine qR rfl rfl (hS) ?_; try simp only [kA]) | refine zW ?_ | intro _)
 exact qE ⟨rfl, rfl, _, c - k, hsub, by omega, rfl⟩
end Go.Proofs.E
namespace Go.Proofs.E
open Go
set_option linter.unusedVariables false
set_option linter.unusedSimpArgs false
set_option linter.unusedSectionVars false
set_option maxRecDepth 4000
set_option maxHeartbeats 1000000
attribute [local irreducible] Yl TL TC TE Spec ZK R1 Hp.le EnvLe TS TR YS Zp TP QP
theorem take_succ_unbe (l : List UInt8) (k : Nat) (h : k < l.length) : Ye (l.take (k + 1)) = Ye (l.take k) * 256 + l[k].toNat := by
 rw [List.take_succ_eq_append_getElem h, unbe_snoc]
theorem unbe_take_lt (l : List UInt8) (k : Nat) (h : k < l.length) (h8 : l.length ≤ 8) : Ye (l.take k) < 72057594037927936 := by
 have h1 := unbe_lt (l.take k)
 have h2 : (l.take k).length ≤ 7 := by simp; omega
 have h3 : 256 ^ (l.take k).length ≤ 256 ^ 7 := Nat.pow_le_pow_right (by decide) h2
 have h4 : 256 ^ 7 = 72057594037927936 := by decide
 omega
theorem number1_spec (ρ : Hp) (bx : Nat) (a : Option Addr) (n c : Nat) (l : List UInt8) (h : SIn ρ Zr a n l) (hn : n ≤ 8) :
  Spec Tryz.prog 303 [.slice a n c, .pointer (some ⟨bx, 0, none⟩)] ρ [[(bx, .cells ⟨[.int .u64 0]⟩ 33 (0, 0))]]
   (fun v ρ' L' => v = .tuple ⟨[]⟩ ∧ ρ' = ρ ∧ L' = [[(bx, .cells ⟨[.int .u64 (Ye l : Nat)]⟩ 33 (0, 0))]]) := by
 have hl := h.len
 refine Za Tryz.func303 rfl rfl rfl fun u R => ?_
 simp only [Zg, kA]
 repeat' (first | refine zW ?_ | intro _)
 refine Zl [(0, _), (1, _), (5, _)] (fun (ζ : (Nat) × (Nat)) => [(6, .int .i64 ζ.1)]) (fun (ζ : (Nat) × (Nat)) => ρ) (fun (ζ : (Nat) × (Nat)) => [[(bx, .cells ⟨[.int .u64 (ζ.2 : Nat)]⟩ 33 (0, 0))]]) (fun (ζ : (Nat) × (Nat)) => ζ.1 ≤ n ∧ ζ.2 = Ye (l.take ζ.1)) (fun (ζ : (Nat) × (Nat)) => n - ζ.1) ((0, 0)) (⟨Nat.zero_le _, rfl⟩) Zc Zc rfl tk ?_
 rintro ⟨k, z⟩ hI
 try simp only [kA, List.append_assoc] at hI ⊢
 try dsimp only at hI ⊢
 obtain ⟨hk, hz⟩ := hI
 by_cases hlt : k < n
 ·obtain ⟨b, off, C, T, fr, rfl, hb, hc⟩ := h.get (show k < l.length by omega)
  have hzl := unbe_take_lt l k (by omega) (by omega)
  rw [← hz] at hzl
  have hs := take_succ_unbe l k (by omega)
  have hbt : l[k].toNat < 256 := l[k].toNat_lt
  generalize l[k] = b8 at *
  simp only [Zr] at hc
  repeat' (first | refine zW ?_ | intro _)
  refine tpA [2,3,4,5,6] (.e 0 [1,7] (.e 8 [] .o)) ([]) ?_
  repeat' (refine iT ?_; first | refine rA ?_ | ((refine iE ?_; refine rE ?_) <;> ((try refine Zn ?_); (first | (refine i_qq ?_; refine qQ ?_) | (refine Yj ?_; try intro _)) <;> ((try simp only [kA]); refine Zi ?_; refine rN ?_))))
  have e : 256 * (z : Int) + (b8.toNat : Int) = ((z * 256 + b8.toNat : Nat) : Int) := by omega
  rw [e]
  repeat' (first | refine zW ?_ | intro _)
  refine Zf (k + 1, z * 256 + b8.toNat) (⟨hlt, by dsimp only; rw [hs, hz]⟩) Zc Zc rfl tk inferInstance (by first | omega | (dsimp only; omega))
 ·have hk2 : k = n := by omega
  subst hk2
  rw [List.take_of_length_le (by omega)] at hz
  subst hz
  repeat' (first | refine zW ?_ | intro _)
  exact qE ⟨rfl, rfl, rfl⟩
def Yr (k : Nat) (l : List UInt8) (st : Int) : Nat × List UInt8 × Int := if st ≠ 0 then (0, l, st) else if l.length < k then (0, l, 7) else (Ye (l.take k), l.drop k, 0)
theorem Ve (k : Nat) (l : List UInt8) (st : Int) : (Yr k l st).1 < 256 ^ k := by
 unfold Yr
 have h0 : 0 < 256 ^ k := Nat.pow_pos (by decide)
 split
 ·exact h0
 ·split
  ·exact h0
  ·have := unbe_lt (l.take k)
   have e : (l.take k).length = k := by simp; omega
   rwa [e] at this
theorem number_spec (ρ : Hp) (br : Nat) (a : Option Addr) (n c : Nat) (l : List UInt8) (h : SIn ρ Zr a n l) (hc : n ≤ c) (st : Int) (k : Nat) (hk : k ≤ 8) :
  Spec Tryz.prog 243 [.pointer (some ⟨br, 0, none⟩), .int .i64 k] ρ [rdC br a n c st]
   (fun v ρ' L' => v = .int .u64 ((Yr k l st).1 : Nat) ∧ ρ' = ρ ∧ ∃ a' n' c', SIn ρ Zr a' n' (Yr k l st).2.1 ∧ n' ≤ c' ∧ L' = [rdC br a' n' c' (Yr k l st).2.2]) := by
 have hl := h.len
 by_cases hst : st = 0
 ·subst hst
  by_cases hs : n < k
  ·have e : Yr k l 0 = (0, l, 7) := by simp [Yr, hl, hs]
   rw [e]
   refine Za Tryz.func243 rfl rfl rfl fun u R => ?_
   simp only [Zg, kA]
   repeat' (first | (refine Zb (.func 302) ?_; refine qR rfl rfl (gives_short _ br a n c k (by omega) _) ?_; try simp only [kA]) | refine zW ?_ | intro _)
   exact qE ⟨rfl, rfl, a, n, c, h, hc, rfl⟩
  ·have e : Yr k l 0 = (Ye (l.take k), l.drop k, 0) := by simp [Yr, hl, hs]
   rw [e]
   refine Za Tryz.func243 rfl rfl rfl fun u R => ?_
   simp only [Zg, kA]
   repeat' (first | refine zW ?_ | intro _)
   rename_i bx
   have hg := gives_ok ρ br a n c l h hc k (by omega) 303 [.pointer (some ⟨bx, 0, none⟩)] [[(bx, .cells ⟨[.int .u64 0]⟩ 33 (0, 0))]] [[(bx, .cells ⟨[.int .u64 (Ye (l.take k) : Nat)]⟩ 33 (0, 0))]] (fun hs => number1_spec ρ bx a k c (l.take k) hs hk)
   repeat' (first | (refine Zb (.func 302) ?_; refine qC rfl rfl (hg) ?_; rintro v ρ' L' hle ⟨rfl, rfl, a', c', hs', hc', rfl⟩ <;> (try simp only [kA])) | refine zW ?_ | intro _)
   exact qE ⟨rfl, rfl, a', n - k, c', hs', hc', rfl⟩
 ·have e : Yr k l st = (0, l, st) := by simp [Yr, hst]
  rw [e]
  refine Za Tryz.func243 rfl rfl rfl fun u R => ?_
  simp only [Zg, kA]
  repeat' (first | (refine Zb (.func 302) ?_; refine qR rfl rfl (gives_stuck _ br a n c st hst k _) ?_; try simp only [kA]) | refine zW ?_ | intro _)
  exact qE ⟨rfl, rfl, a, n, c, h, hc, rfl⟩
theorem u8_spec (ρ : Hp) (br : Nat) (a : Option Addr) (n c : Nat) (l : List UInt8) (h : SIn ρ Zr a n l) (hc : n ≤ c) (st : Int) :
  Spec Tryz.prog 178 [.pointer (some ⟨br, 0, none⟩)] ρ [rdC br a n c st]
   (fun v ρ' L' => v = .int .u8 ((Yr 1 l st).1 : Nat) ∧ ρ' = ρ ∧ ∃ a' n' c', SIn ρ Zr a' n' (Yr 1 l st).2.1 ∧ n' ≤ c' ∧ L' = [rdC br a' n' c' (Yr 1 l st).2.2]) := by
 have hb := Ve 1 l st
 have hn := number_spec ρ br a n c l h hc st 1 (by omega)
 generalize Yr 1 l st = r at *
 refine Za Tryz.func178 rfl rfl rfl fun u R => ?_
 simp only [Zg, kA]
 repeat' (first | (refine Zb (.func 243) ?_; refine qC rfl rfl (hn) ?_; rintro v ρ' L' hle ⟨rfl, rfl, a', n', c', hs', hc', rfl⟩ <;> (try simp only [kA])) | refine zW ?_ | intro _)
 exact qE ⟨rfl, rfl, a', n', c', hs', hc', rfl⟩
theorem u16_spec (ρ : Hp) (br : Nat) (a : Option Addr) (n c : Nat) (l : List UInt8) (h : SIn ρ Zr a n l) (hc : n ≤ c) (st : Int) :
  Spec Tryz.prog 252 [.pointer (some ⟨br, 0, none⟩)] ρ [rdC br a n c st]
   (fun v ρ' L' => v = .int .u16 ((Yr 2 l st).1 : Nat) ∧ ρ' = ρ ∧ ∃ a' n' c', SIn ρ Zr a' n' (Yr 2 l st).2.1 ∧ n' ≤ c' ∧ L' = [rdC br a' n' c' (Yr 2 l st).2.2]) := by
 have hb := Ve 2 l st
 have hn := number_spec ρ br a n c l h hc st 2 (by omega)
 generalize Yr 2 l st = r at *
 refine Za Tryz.func252 rfl rfl rfl fun u R => ?_
 simp only [Zg, kA]
 repeat' (first | (refine Zb (.func 243) ?_; refine qC rfl rfl (hn) ?_; rintro v ρ' L' hle ⟨rfl, rfl, a', n', c', hs', hc', rfl⟩ <;> (try simp only [kA])) | refine zW ?_ | intro _)
 exact qE ⟨rfl, rfl, a', n', c', hs', hc', rfl⟩
theorem u64_spec (ρ : Hp) (br : Nat) (a : Option Addr) (n c : Nat) (l : List UInt8) (h : SIn ρ Zr a n l) (hc : n ≤ c) (st : Int) :
  Spec Tryz.prog 179 [.pointer (some ⟨br, 0, none⟩)] ρ [rdC br a n c st]
   (fun v ρ' L' => v = .int .u64 ((Yr 8 l st).1 : Nat) ∧ ρ' = ρ ∧ ∃ a' n' c', SIn ρ Zr a' n' (Yr 8 l st).2.1 ∧ n' ≤ c' ∧ L' = [rdC br a' n' c' (Yr 8 l st).2.2]) := by
 have hn := number_spec ρ br a n c l h hc st 8 (by omega)
 refine Za Tryz.func179 rfl rfl rfl fun u R => ?_
 simp only [Zg, kA]
 repeat' (first | (refine Zb (.func 243) ?_; refine qC rfl rfl (hn) ?_; rintro v ρ' L' hle ⟨rfl, rfl, a', n', c', hs', hc', rfl⟩ <;> (try simp only [kA])) | refine zW ?_ | intro _)
 exact qE ⟨rfl, rfl, a', n', c', hs', hc', rfl⟩
def rawR (k : Nat) (l : List UInt8) (st : Int) : List UInt8 × List UInt8 × Int := if st ≠ 0 then ([], l, st) else if l.length < k then ([], l, 7) else (l.take k, l.drop k, 0)
theorem raw1_spec (ρ : Hp) (bx : Nat) (a : Option Addr) (n c : Nat) (l : List UInt8) (h : SIn ρ Zr a n l) (hn : n ≤ 1000000) :
  Spec Tryz.prog 338 [.slice a n c, .pointer (some ⟨bx, 0, none⟩)] ρ [[(bx, .cells ⟨[.slice none 0 0]⟩ 22 (0, 0))]]
   (fun v ρ' L' => v = .tuple ⟨[]⟩ ∧ ρ.le ρ' ∧ ∃ a' c', SIn ρ' Zr a' n l ∧ n ≤ c' ∧ L' = [[(bx, .cells ⟨[.slice a' n c']⟩ 22 (0, 0))]]) := by
 refine Za Tryz.func338 rfl rfl rfl fun u R => ?_
 simp only [Zg, kA]
 repeat' (first | refine zW ?_ | intro _)
 refine Yv (n := 0) (xs := []) (sp := []) (ys := l.map Zr) (sz := 1) rfl rfl (OwnS.nil 1) (hR := rem_nil') (SIn.srcV h) (by simpa using h.len) (ZY l) (by decide) rfl (by omega) (by omega) rfl (fun v' sp' hown' => ?_)
 simp only [Nat.zero_add, List.nil_append] at hown' ⊢
 refine ZA _ (h := Rem.here) (fun ρ' hle hfz => ?_)
 obtain ⟨a', c', rfl, hc, hs⟩ := hown'.sIn hfz
 repeat' (first | refine zW ?_ | intro _)
 exact qE ⟨rfl, hle, a', c', hs, hc, rfl⟩
end Go.Proofs.E
namespace Go.Proofs.E
open Go
set_option linter.unusedVariables false
set_option linter.unusedSimpArgs false
set_option linter.unusedSectionVars false
set_option maxRecDepth 4000
set_option maxHeartbeats 1000000
attribute [local irreducible] Yl TL TC TE Spec ZK R1 Hp.le EnvLe TS TR YS Zp
theorem gives_ok2 (ρ : Hp) (br : Nat) (a : Option Addr) (n c : Nat) (l : List UInt8) (h : SIn ρ Zr a n l) (hc : n ≤ c) (k : Nat) (hk : k ≤ n) (g : Nat) (cs : List Value) (X : SH) (PX : Hp → SH → Prop) [ZJ Tryz.prog g]
  (hS : SIn ρ Zr a k (l.take k) → Spec Tryz.prog g ([.slice a k c] ++ cs) ρ X (fun v ρ' L' => v = .tuple ⟨[]⟩ ∧ ρ.le ρ' ∧ PX ρ' L')) :
  Spec Tryz.prog 302 [.pointer (some ⟨br, 0, none⟩), .int .i64 k, .func (.func g) ⟨[]⟩ ⟨cs⟩] ρ (rdC br a n c 0 :: X)
   (fun v ρ' L' => v = .tuple ⟨[]⟩ ∧ ρ.le ρ' ∧ ∃ a' c' X', SIn ρ' Zr a' (n - k) (l.drop k) ∧ n - k ≤ c' ∧ L' = rdC br a' (n - k) c' 0 :: X' ∧ PX ρ' X') := by
 replace hS := hS (h.take hk)
 have hl := h.len
 have hsub := h.sub (lo' := k) (hi' := n) (cap := c) hk (Nat.le_refl _) hc
 rw [List.take_of_length_le (by simp; omega)] at hsub
 refine Za Tryz.func302 rfl rfl rfl fun u R => ?_
 simp only [Zg, kA] at hS ⊢
 repeat' (first | (refine Zb (.func 257) ?_; refine qR rfl rfl (Wg _ br a n c 0) ?_; try simp only [kA]) | (refine Zb (.tmp 9) ?_; refine qC rfl rfl (hS) ?_; rintro v ρ' L' hle ⟨rfl, hle1, hP⟩ <;> (try simp only [kA])) | refine zW ?_ | intro _)
 exact qE ⟨rfl, hle1, _, c - k, _, hsub.mono hle1, by omega, rfl, hP⟩
theorem raw_spec (ρ : Hp) (br : Nat) (a : Option Addr) (n c : Nat) (l : List UInt8) (h : SIn ρ Zr a n l) (hc : n ≤ c) (st : Int) (k : Nat) (hk : k ≤ 1000000) :
  Spec Tryz.prog 304 [.pointer (some ⟨br, 0, none⟩), .int .i64 k] ρ [rdC br a n c st]
   (fun v ρ' L' => ρ.le ρ' ∧ ∃ va vn vc a' n' c', v = .slice va vn vc ∧ vn ≤ vc ∧ SIn ρ' Zr va vn (rawR k l st).1 ∧ SIn ρ' Zr a' n' (rawR k l st).2.1 ∧ n' ≤ c' ∧ L' = [rdC br a' n' c' (rawR k l st).2.2]) := by
 have hl := h.len
 by_cases hst : st = 0
 ·subst hst
  by_cases hs : n < k
  ·have e : rawR k l 0 = ([], l, 7) := by simp [rawR, hl, hs]
   rw [e]
   refine Za Tryz.func304 rfl rfl rfl fun u R => ?_
   simp only [Zg, kA]
   repeat' (first | (refine Zb (.func 302) ?_; refine qR rfl rfl (gives_short _ br a n c k (by omega) _) ?_; try simp only [kA]) | refine zW ?_ | intro _)
   exact qE ⟨Hp.le_refl _, none, 0, 0, a, n, c, rfl, Nat.le_refl _, SIn.nil, h, hc, rfl⟩
  ·have e : rawR k l 0 = (l.take k, l.drop k, 0) := by simp [rawR, hl, hs]
   rw [e]
   refine Za Tryz.func304 rfl rfl rfl fun u R => ?_
   simp only [Zg, kA]
   repeat' (first | refine zW ?_ | intro _)
   rename_i bx
   have hg := gives_ok2 ρ br a n c l h hc k (by omega) 338 [.pointer (some ⟨bx, 0, none⟩)] [[(bx, .cells ⟨[.slice none 0 0]⟩ 22 (0, 0))]] _ (fun hs => raw1_spec ρ bx a k c (l.take k) hs hk)
   repeat' (first | (refine Zb (.func 302) ?_; refine qC rfl rfl (hg) ?_; rintro v ρ' L' hle ⟨rfl, hle1, a', c', X', hs', hc', rfl, va, vc, hv, hvc, rfl⟩ <;> (try simp only [kA])) | refine zW ?_ | intro _)
   exact qE ⟨hle1, va, k, vc, a', n - k, c', rfl, hvc, hv, hs', hc', rfl⟩
 ·have e : rawR k l st = ([], l, st) := by simp [rawR, hst]
  rw [e]
  refine Za Tryz.func304 rfl rfl rfl fun u R => ?_
  simp only [Zg, kA]
  repeat' (first | (refine Zb (.func 302) ?_; refine qR rfl rfl (gives_stuck _ br a n c st hst k _) ?_; try simp only [kA]) | refine zW ?_ | intro _)
  exact qE ⟨Hp.le_refl _, none, 0, 0, a, n, c, rfl, Nat.le_refl _, SIn.nil, h, hc, rfl⟩
structure Row where
 t : Int
 id : Nat
 val : Int
 note : List UInt8
deriving DecidableEq
structure Kid where
 t : Int
 id : Nat
 page : Int
deriving DecidableEq
abbrev keyV (t : Int) (id : Nat) : List Value := [.int .i64 t, .int .u16 id]
abbrev Yu (r : Row) : List Value := [.int .i64 r.t, .int .u16 r.id, .int .i64 r.val, strV r.note]
abbrev Xj (k : Kid) : List Value := [.int .i64 k.t, .int .u16 k.id, .int .i64 k.page]
abbrev tkC (bt br : Nat) (all : Int) (bad : Bool) (vk vr vs : Value) : List (Nat × Obj) := [(bt, .cells ⟨[.pointer (some ⟨br, 0, none⟩), .int .i64 all, .bool bad, vk, vr, vs]⟩ 427 (0, 0))]
theorem Ws (ρ : Hp) (n : Int) : Spec Tryz.prog 322 [.int .i64 n] ρ [] (fun v ρ' L' => v = .bool (decide (0 ≤ n ∧ n < 3)) ∧ ρ' = ρ ∧ L' = []) := by
 refine Za Tryz.func322 rfl rfl rfl fun u R => ?_
 simp only [Zg, kA]
 by_cases h0 : 0 ≤ n
 ·by_cases h1 : n < 3
  ·rw [decide_eq_true ⟨h0, h1⟩]
   repeat' (first | refine zW ?_ | intro _)
   exact qE ⟨rfl, rfl, rfl⟩
  ·rw [decide_eq_false (fun h => h1 h.2)]
   repeat' (first | refine zW ?_ | intro _)
   exact qE ⟨rfl, rfl, rfl⟩
 ·rw [decide_eq_false (fun h => h0 h.1)]
  repeat' (first | refine zW ?_ | intro _)
  exact qE ⟨rfl, rfl, rfl⟩
theorem ok_spec (ρ : Hp) (bt br : Nat) (all : Int) (bad : Bool) (vk vr vs : Value) (a : Option Addr) (n c : Nat) (st : Int) :
  Spec Tryz.prog 342 [.pointer (some ⟨bt, 0, none⟩)] ρ [tkC bt br all bad vk vr vs, rdC br a n c st]
   (fun v ρ' L' => v = .bool (!bad && decide (st = 0)) ∧ ρ' = ρ ∧ L' = [tkC bt br all bad vk vr vs, rdC br a n c st]) := by
 refine Za Tryz.func342 rfl rfl rfl fun u R => ?_
 simp only [Zg, kA]
 cases bad
 ·by_cases h : st = 0
  ·subst h
   repeat' (first | (refine Zb (.func 257) ?_; refine qR rfl rfl (Wg _ br a n c 0) ?_; try simp only [kA]) | refine zW ?_ | intro _)
   exact qE ⟨rfl, rfl, rfl⟩
  ·have hd : decide (st = 0) = false := decide_eq_false h
   rw [hd]
   repeat' (first | (refine Zb (.func 257) ?_; refine qR rfl rfl (Wg _ br a n c st) ?_; try simp only [kA]) | refine zW ?_ | intro _)
   exact qE ⟨rfl, rfl, rfl⟩
 ·repeat' (first | refine zW ?_ | intro _)
  exact qE ⟨rfl, rfl, rfl⟩
def XF (bad : Bool) (st : Int) (is : Bool) : Bool := bad || (decide (st = 0) && !is)
theorem Xp (ρ : Hp) (bt br : Nat) (all : Int) (bad : Bool) (vk vr vs : Value) (a : Option Addr) (n c : Nat) (st : Int) (is : Bool) :
  Spec Tryz.prog 339 [.pointer (some ⟨bt, 0, none⟩), .bool is] ρ [tkC bt br all bad vk vr vs, rdC br a n c st]
   (fun v ρ' L' => v = .tuple ⟨[]⟩ ∧ ρ' = ρ ∧ L' = [tkC bt br all (XF bad st is) vk vr vs, rdC br a n c st]) := by
 refine Za Tryz.func339 rfl rfl rfl fun u R => ?_
 simp only [Zg, kA, XF]
 cases bad
 ·by_cases h : st = 0
  ·subst h
   cases is
   all_goals (repeat' (first | (refine Zb (.func 257) ?_; refine qR rfl rfl (Wg _ br a n c 0) ?_; try simp only [kA]) | refine zW ?_ | intro _))
   all_goals exact qE ⟨rfl, rfl, rfl⟩
  ·have hd : decide (st = 0) = false := decide_eq_false h
   rw [hd]
   repeat' (first | (refine Zb (.func 257) ?_; refine qR rfl rfl (Wg _ br a n c st) ?_; try simp only [kA]) | refine zW ?_ | intro _)
   exact qE ⟨rfl, rfl, rfl⟩
 ·repeat' (first | refine zW ?_ | intro _)
  exact qE ⟨rfl, rfl, rfl⟩
end Go.Proofs.E
