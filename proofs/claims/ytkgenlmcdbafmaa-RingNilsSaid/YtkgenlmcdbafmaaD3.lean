/- Disks of layer 2 and rings of layer 4 as data, and what their functions come to. Part 3 of 5. -/
import Derived.Test.YtkgenlmcdbafmaaD2
import Derived.Test.YtkgenlmcdbafmaaChecked
import Derived.KernelRfl
namespace Go.Proofs.E
open Go Go.Proofs.E
set_option linter.unusedVariables false

instance : TyS Try.prog 1 := mkTyS (by kernel_rfl) (by kernel_rfl)
instance : TyIface Try.prog 1 false := mkTyIface (by kernel_rfl)
instance : TyFunc Try.prog 1 := mkTyFunc (by kernel_rfl)
instance : TySz Try.prog 1 1 := mkTySz (by kernel_rfl)
instance : TyBytes Try.prog 1 8 := mkTyBytes (by kernel_rfl)
instance : TyZero Try.prog 1 (.nilFunc) := mkTyZero (by kernel_rfl)
instance : TyS Try.prog 2 := mkTyS (by kernel_rfl) (by kernel_rfl)
instance : TyIface Try.prog 2 false := mkTyIface (by kernel_rfl)
instance : TySz Try.prog 2 1 := mkTySz (by kernel_rfl)
instance : TyBytes Try.prog 2 8 := mkTyBytes (by kernel_rfl)
instance : TyZero Try.prog 2 (.int .i64 0) := mkTyZero (by kernel_rfl)
instance : TyInt Try.prog 2 .i64 := ⟨by kernel_rfl⟩
instance : TyS Try.prog 3 := mkTyS (by kernel_rfl) (by kernel_rfl)
instance : TyIface Try.prog 3 false := mkTyIface (by kernel_rfl)
instance : TySz Try.prog 3 1 := mkTySz (by kernel_rfl)
instance : TyBytes Try.prog 3 8 := mkTyBytes (by kernel_rfl)
instance : TyZero Try.prog 3 (.int .i64 0) := mkTyZero (by kernel_rfl)
instance : TyInt Try.prog 3 .i64 := ⟨by kernel_rfl⟩
instance : TyS Try.prog 4 := mkTyS (by kernel_rfl) (by kernel_rfl)
instance : TyIface Try.prog 4 false := mkTyIface (by kernel_rfl)
instance : TySz Try.prog 4 1 := mkTySz (by kernel_rfl)
instance : TyBytes Try.prog 4 1 := mkTyBytes (by kernel_rfl)
instance : TyZero Try.prog 4 (.bool false) := mkTyZero (by kernel_rfl)
instance : TyBool Try.prog 4 := ⟨by kernel_rfl⟩
instance : TyS Try.prog 5 := mkTyS (by kernel_rfl) (by kernel_rfl)
instance : TyIface Try.prog 5 false := mkTyIface (by kernel_rfl)
instance : TySz Try.prog 5 1 := mkTySz (by kernel_rfl)
instance : TyBytes Try.prog 5 1 := mkTyBytes (by kernel_rfl)
instance : TyZero Try.prog 5 (.int .u8 0) := mkTyZero (by kernel_rfl)
instance : TyInt Try.prog 5 .u8 := ⟨by kernel_rfl⟩
instance : TyA Try.prog 7 4 := mkTyA (by kernel_rfl) (by kernel_rfl)
instance : TyIface Try.prog 7 false := mkTyIface (by kernel_rfl)
instance : TySz Try.prog 7 4 := mkTySz (by kernel_rfl)
instance : TyBytes Try.prog 7 24 := mkTyBytes (by kernel_rfl)
instance : TyZero Try.prog 7 (.agg ⟨[.int .i64 0, .int .i64 0, .bool false, .int .u8 0]⟩) := mkTyZero (by kernel_rfl)
instance : NoGuard Try.prog 7 := ⟨by kernel_rfl⟩
instance : Fld Try.prog 7 0 0 2 := mkFld (by kernel_rfl)
instance : Fld Try.prog 7 1 1 3 := mkFld (by kernel_rfl)
instance : Fld Try.prog 7 2 2 4 := mkFld (by kernel_rfl)
instance : Fld Try.prog 7 3 3 6 := mkFld (by kernel_rfl)
instance : TyPlaces Try.prog 7 (([(0, 1), (1, 1), (2, 1), (3, 1)] : List (Nat × Nat))[·]?) := mkTyPlaces (by kernel_rfl)
instance : TyS Try.prog 9 := mkTyS (by kernel_rfl) (by kernel_rfl)
instance : TyIface Try.prog 9 false := mkTyIface (by kernel_rfl)
instance : TySz Try.prog 9 1 := mkTySz (by kernel_rfl)
instance : TyBytes Try.prog 9 16 := mkTyBytes (by kernel_rfl)
instance : TyZero Try.prog 9 (.string ⟨⟨[]⟩⟩) := mkTyZero (by kernel_rfl)
instance : TyStr Try.prog 9 := ⟨by kernel_rfl⟩
instance : TyS Try.prog 12 := mkTyS (by kernel_rfl) (by kernel_rfl)
instance : TyIface Try.prog 12 false := mkTyIface (by kernel_rfl)
instance : TySz Try.prog 12 1 := mkTySz (by kernel_rfl)
instance : TyBytes Try.prog 12 8 := mkTyBytes (by kernel_rfl)
instance : TyZero Try.prog 12 (.int .u64 0) := mkTyZero (by kernel_rfl)
instance : TyInt Try.prog 12 .u64 := ⟨by kernel_rfl⟩
instance : TyA Try.prog 13 2 := mkTyA (by kernel_rfl) (by kernel_rfl)
instance : TyIface Try.prog 13 false := mkTyIface (by kernel_rfl)
instance : TySz Try.prog 13 2 := mkTySz (by kernel_rfl)
instance : TyBytes Try.prog 13 24 := mkTyBytes (by kernel_rfl)
instance : TyZero Try.prog 13 (.agg ⟨[.string ⟨⟨[]⟩⟩, .int .u64 0]⟩) := mkTyZero (by kernel_rfl)
instance : NoGuard Try.prog 13 := ⟨by kernel_rfl⟩
instance : Fld Try.prog 13 0 0 9 := mkFld (by kernel_rfl)
instance : Fld Try.prog 13 1 1 12 := mkFld (by kernel_rfl)
instance : TyPlaces Try.prog 13 (([(0, 1), (1, 1)] : List (Nat × Nat))[·]?) := mkTyPlaces (by kernel_rfl)
instance : TyS Try.prog 15 := mkTyS (by kernel_rfl) (by kernel_rfl)
instance : TyIface Try.prog 15 false := mkTyIface (by kernel_rfl)
instance : TySz Try.prog 15 1 := mkTySz (by kernel_rfl)
instance : TyBytes Try.prog 15 8 := mkTyBytes (by kernel_rfl)
instance : TyZero Try.prog 15 (.pointer none) := mkTyZero (by kernel_rfl)
instance : TyPtr Try.prog 15 301 := ⟨by kernel_rfl⟩
instance : TyS Try.prog 16 := mkTyS (by kernel_rfl) (by kernel_rfl)
instance : TyIface Try.prog 16 false := mkTyIface (by kernel_rfl)
instance : TySz Try.prog 16 1 := mkTySz (by kernel_rfl)
instance : TyBytes Try.prog 16 8 := mkTyBytes (by kernel_rfl)
instance : TyZero Try.prog 16 (.pointer none) := mkTyZero (by kernel_rfl)
instance : TyPtr Try.prog 16 304 := ⟨by kernel_rfl⟩
instance : TyS Try.prog 17 := mkTyS (by kernel_rfl) (by kernel_rfl)
instance : TyIface Try.prog 17 false := mkTyIface (by kernel_rfl)
instance : TySz Try.prog 17 1 := mkTySz (by kernel_rfl)
instance : TyBytes Try.prog 17 8 := mkTyBytes (by kernel_rfl)
instance : TyZero Try.prog 17 (.pointer none) := mkTyZero (by kernel_rfl)
instance : TyPtr Try.prog 17 313 := ⟨by kernel_rfl⟩
instance : TyA Try.prog 18 1 := mkTyA (by kernel_rfl) (by kernel_rfl)
instance : TyIface Try.prog 18 false := mkTyIface (by kernel_rfl)
instance : TySz Try.prog 18 1 := mkTySz (by kernel_rfl)
instance : TyBytes Try.prog 18 8 := mkTyBytes (by kernel_rfl)
instance : TyZero Try.prog 18 (.agg ⟨[.pointer none]⟩) := mkTyZero (by kernel_rfl)
instance : NoGuard Try.prog 18 := ⟨by kernel_rfl⟩
instance : Fld Try.prog 18 0 0 17 := mkFld (by kernel_rfl)
instance : TyPlaces Try.prog 18 (([(0, 1)] : List (Nat × Nat))[·]?) := mkTyPlaces (by kernel_rfl)
instance : TyA Try.prog 19 1 := mkTyA (by kernel_rfl) (by kernel_rfl)
instance : TyIface Try.prog 19 false := mkTyIface (by kernel_rfl)
instance : TySz Try.prog 19 1 := mkTySz (by kernel_rfl)
instance : TyBytes Try.prog 19 8 := mkTyBytes (by kernel_rfl)
instance : TyZero Try.prog 19 (.agg ⟨[.pointer none]⟩) := mkTyZero (by kernel_rfl)
instance : NoGuard Try.prog 19 := ⟨by kernel_rfl⟩
instance : Fld Try.prog 19 0 0 17 := mkFld (by kernel_rfl)
instance : TyPlaces Try.prog 19 (([(0, 1)] : List (Nat × Nat))[·]?) := mkTyPlaces (by kernel_rfl)
instance : TyS Try.prog 20 := mkTyS (by kernel_rfl) (by kernel_rfl)
instance : TyIface Try.prog 20 true := mkTyIface (by kernel_rfl)
instance : TySz Try.prog 20 1 := mkTySz (by kernel_rfl)
instance : TyBytes Try.prog 20 16 := mkTyBytes (by kernel_rfl)
instance : TyZero Try.prog 20 (.nilIface) := mkTyZero (by kernel_rfl)
instance : TyS Try.prog 21 := mkTyS (by kernel_rfl) (by kernel_rfl)
instance : TyIface Try.prog 21 false := mkTyIface (by kernel_rfl)
instance : TySz Try.prog 21 1 := mkTySz (by kernel_rfl)
instance : TyBytes Try.prog 21 4 := mkTyBytes (by kernel_rfl)
instance : TyZero Try.prog 21 (.int .i32 0) := mkTyZero (by kernel_rfl)
instance : TyInt Try.prog 21 .i32 := ⟨by kernel_rfl⟩
instance : TyS Try.prog 22 := mkTyS (by kernel_rfl) (by kernel_rfl)
instance : TyIface Try.prog 22 false := mkTyIface (by kernel_rfl)
instance : TySz Try.prog 22 1 := mkTySz (by kernel_rfl)
instance : TyBytes Try.prog 22 24 := mkTyBytes (by kernel_rfl)
instance : TyZero Try.prog 22 (.slice none 0 0) := mkTyZero (by kernel_rfl)
instance : TySlice Try.prog 22 5 := ⟨by kernel_rfl⟩
instance : TyS Try.prog 23 := mkTyS (by kernel_rfl) (by kernel_rfl)
instance : TyIface Try.prog 23 false := mkTyIface (by kernel_rfl)
instance : TyFunc Try.prog 23 := mkTyFunc (by kernel_rfl)
instance : TySz Try.prog 23 1 := mkTySz (by kernel_rfl)
instance : TyBytes Try.prog 23 8 := mkTyBytes (by kernel_rfl)
instance : TyZero Try.prog 23 (.nilFunc) := mkTyZero (by kernel_rfl)
instance : TyS Try.prog 24 := mkTyS (by kernel_rfl) (by kernel_rfl)
instance : TyIface Try.prog 24 false := mkTyIface (by kernel_rfl)
instance : TySz Try.prog 24 1 := mkTySz (by kernel_rfl)
instance : TyBytes Try.prog 24 2 := mkTyBytes (by kernel_rfl)
instance : TyZero Try.prog 24 (.int .u16 0) := mkTyZero (by kernel_rfl)
instance : TyInt Try.prog 24 .u16 := ⟨by kernel_rfl⟩
instance : TyA Try.prog 25 2 := mkTyA (by kernel_rfl) (by kernel_rfl)
instance : TyIface Try.prog 25 false := mkTyIface (by kernel_rfl)
instance : TySz Try.prog 25 2 := mkTySz (by kernel_rfl)
instance : TyBytes Try.prog 25 16 := mkTyBytes (by kernel_rfl)
instance : TyZero Try.prog 25 (.agg ⟨[.int .i64 0, .int .u16 0]⟩) := mkTyZero (by kernel_rfl)
instance : NoGuard Try.prog 25 := ⟨by kernel_rfl⟩
instance : Fld Try.prog 25 0 0 3 := mkFld (by kernel_rfl)
instance : Fld Try.prog 25 1 1 24 := mkFld (by kernel_rfl)
instance : TyPlaces Try.prog 25 (([(0, 1), (1, 1)] : List (Nat × Nat))[·]?) := mkTyPlaces (by kernel_rfl)
instance : TyA Try.prog 26 2 := mkTyA (by kernel_rfl) (by kernel_rfl)
instance : TyIface Try.prog 26 false := mkTyIface (by kernel_rfl)
instance : TySz Try.prog 26 2 := mkTySz (by kernel_rfl)
instance : TyBytes Try.prog 26 16 := mkTyBytes (by kernel_rfl)
instance : TyZero Try.prog 26 (.agg ⟨[.int .i64 0, .int .u16 0]⟩) := mkTyZero (by kernel_rfl)
instance : NoGuard Try.prog 26 := ⟨by kernel_rfl⟩
instance : TyFlds Try.prog 26 [(0, 3), (1, 24)] := mkTyFlds (by kernel_rfl)
instance : Fld Try.prog 26 0 0 3 := mkFld (by kernel_rfl)
instance : Fld Try.prog 26 1 1 24 := mkFld (by kernel_rfl)
instance : TyPlaces Try.prog 26 (([(0, 1), (1, 1)] : List (Nat × Nat))[·]?) := mkTyPlaces (by kernel_rfl)
instance : TyA Try.prog 27 4 := mkTyA (by kernel_rfl) (by kernel_rfl)
instance : TyIface Try.prog 27 false := mkTyIface (by kernel_rfl)
instance : TySz Try.prog 27 4 := mkTySz (by kernel_rfl)
instance : TyBytes Try.prog 27 40 := mkTyBytes (by kernel_rfl)
instance : TyZero Try.prog 27 (.agg ⟨[.int .i64 0, .int .u16 0, .int .i64 0, .string ⟨⟨[]⟩⟩]⟩) := mkTyZero (by kernel_rfl)
instance : NoGuard Try.prog 27 := ⟨by kernel_rfl⟩
instance : Fld Try.prog 27 0 0 26 := mkFld (by kernel_rfl)
instance : Fld Try.prog 27 1 2 2 := mkFld (by kernel_rfl)
instance : Fld Try.prog 27 2 3 9 := mkFld (by kernel_rfl)
instance : TyPlaces Try.prog 27 (([(0, 2), (2, 1), (3, 1)] : List (Nat × Nat))[·]?) := mkTyPlaces (by kernel_rfl)
instance : TyA Try.prog 28 4 := mkTyA (by kernel_rfl) (by kernel_rfl)
instance : TyIface Try.prog 28 false := mkTyIface (by kernel_rfl)
instance : TySz Try.prog 28 4 := mkTySz (by kernel_rfl)
instance : TyBytes Try.prog 28 40 := mkTyBytes (by kernel_rfl)
instance : TyZero Try.prog 28 (.agg ⟨[.int .i64 0, .int .u16 0, .int .i64 0, .string ⟨⟨[]⟩⟩]⟩) := mkTyZero (by kernel_rfl)
instance : NoGuard Try.prog 28 := ⟨by kernel_rfl⟩
instance : TyFlds Try.prog 28 [(0, 26), (2, 2), (3, 9)] := mkTyFlds (by kernel_rfl)
instance : Fld Try.prog 28 0 0 26 := mkFld (by kernel_rfl)
instance : Fld Try.prog 28 1 2 2 := mkFld (by kernel_rfl)
instance : Fld Try.prog 28 2 3 9 := mkFld (by kernel_rfl)
instance : TyPlaces Try.prog 28 (([(0, 2), (2, 1), (3, 1)] : List (Nat × Nat))[·]?) := mkTyPlaces (by kernel_rfl)
instance : TyS Try.prog 29 := mkTyS (by kernel_rfl) (by kernel_rfl)
instance : TyIface Try.prog 29 false := mkTyIface (by kernel_rfl)
instance : TySz Try.prog 29 1 := mkTySz (by kernel_rfl)
instance : TyBytes Try.prog 29 8 := mkTyBytes (by kernel_rfl)
instance : TyZero Try.prog 29 (.int .i64 0) := mkTyZero (by kernel_rfl)
instance : TyInt Try.prog 29 .i64 := ⟨by kernel_rfl⟩
instance : TyS Try.prog 31 := mkTyS (by kernel_rfl) (by kernel_rfl)
instance : TyIface Try.prog 31 false := mkTyIface (by kernel_rfl)
instance : TyFunc Try.prog 31 := mkTyFunc (by kernel_rfl)
instance : TySz Try.prog 31 1 := mkTySz (by kernel_rfl)
instance : TyBytes Try.prog 31 8 := mkTyBytes (by kernel_rfl)
instance : TyZero Try.prog 31 (.nilFunc) := mkTyZero (by kernel_rfl)
instance : TyS Try.prog 33 := mkTyS (by kernel_rfl) (by kernel_rfl)
instance : TyIface Try.prog 33 false := mkTyIface (by kernel_rfl)
instance : TyFunc Try.prog 33 := mkTyFunc (by kernel_rfl)
instance : TySz Try.prog 33 1 := mkTySz (by kernel_rfl)
instance : TyBytes Try.prog 33 8 := mkTyBytes (by kernel_rfl)
instance : TyZero Try.prog 33 (.nilFunc) := mkTyZero (by kernel_rfl)
instance : TyS Try.prog 34 := mkTyS (by kernel_rfl) (by kernel_rfl)
instance : TyIface Try.prog 34 false := mkTyIface (by kernel_rfl)
instance : TyFunc Try.prog 34 := mkTyFunc (by kernel_rfl)
instance : TySz Try.prog 34 1 := mkTySz (by kernel_rfl)
instance : TyBytes Try.prog 34 8 := mkTyBytes (by kernel_rfl)
instance : TyZero Try.prog 34 (.nilFunc) := mkTyZero (by kernel_rfl)
instance : TyS Try.prog 35 := mkTyS (by kernel_rfl) (by kernel_rfl)
instance : TyIface Try.prog 35 false := mkTyIface (by kernel_rfl)
instance : TySz Try.prog 35 1 := mkTySz (by kernel_rfl)
instance : TyBytes Try.prog 35 24 := mkTyBytes (by kernel_rfl)
instance : TyZero Try.prog 35 (.slice none 0 0) := mkTyZero (by kernel_rfl)
instance : TySlice Try.prog 35 28 := ⟨by kernel_rfl⟩
instance : TyS Try.prog 36 := mkTyS (by kernel_rfl) (by kernel_rfl)
instance : TyIface Try.prog 36 false := mkTyIface (by kernel_rfl)
instance : TySz Try.prog 36 1 := mkTySz (by kernel_rfl)
instance : TyBytes Try.prog 36 24 := mkTyBytes (by kernel_rfl)
instance : TyZero Try.prog 36 (.slice none 0 0) := mkTyZero (by kernel_rfl)
instance : TySlice Try.prog 36 134 := ⟨by kernel_rfl⟩
instance : TyA Try.prog 37 3 := mkTyA (by kernel_rfl) (by kernel_rfl)
instance : TyIface Try.prog 37 false := mkTyIface (by kernel_rfl)
instance : TySz Try.prog 37 3 := mkTySz (by kernel_rfl)
instance : TyBytes Try.prog 37 56 := mkTyBytes (by kernel_rfl)
instance : TyZero Try.prog 37 (.agg ⟨[.int .i64 0, .slice none 0 0, .slice none 0 0]⟩) := mkTyZero (by kernel_rfl)
instance : NoGuard Try.prog 37 := ⟨by kernel_rfl⟩
instance : Fld Try.prog 37 0 0 3 := mkFld (by kernel_rfl)
instance : Fld Try.prog 37 1 1 35 := mkFld (by kernel_rfl)
instance : Fld Try.prog 37 2 2 36 := mkFld (by kernel_rfl)
instance : TyPlaces Try.prog 37 (([(0, 1), (1, 1), (2, 1)] : List (Nat × Nat))[·]?) := mkTyPlaces (by kernel_rfl)
instance : TyA Try.prog 38 3 := mkTyA (by kernel_rfl) (by kernel_rfl)
instance : TyIface Try.prog 38 false := mkTyIface (by kernel_rfl)
instance : TySz Try.prog 38 3 := mkTySz (by kernel_rfl)
instance : TyBytes Try.prog 38 56 := mkTyBytes (by kernel_rfl)
instance : TyZero Try.prog 38 (.agg ⟨[.int .i64 0, .slice none 0 0, .slice none 0 0]⟩) := mkTyZero (by kernel_rfl)
instance : NoGuard Try.prog 38 := ⟨by kernel_rfl⟩
instance : TyFlds Try.prog 38 [(0, 3), (1, 35), (2, 36)] := mkTyFlds (by kernel_rfl)
instance : Fld Try.prog 38 0 0 3 := mkFld (by kernel_rfl)
instance : Fld Try.prog 38 1 1 35 := mkFld (by kernel_rfl)
instance : Fld Try.prog 38 2 2 36 := mkFld (by kernel_rfl)
instance : TyPlaces Try.prog 38 (([(0, 1), (1, 1), (2, 1)] : List (Nat × Nat))[·]?) := mkTyPlaces (by kernel_rfl)
instance : TyS Try.prog 40 := mkTyS (by kernel_rfl) (by kernel_rfl)
instance : TyIface Try.prog 40 false := mkTyIface (by kernel_rfl)
instance : TyFunc Try.prog 40 := mkTyFunc (by kernel_rfl)
instance : TySz Try.prog 40 1 := mkTySz (by kernel_rfl)
instance : TyBytes Try.prog 40 8 := mkTyBytes (by kernel_rfl)
instance : TyZero Try.prog 40 (.nilFunc) := mkTyZero (by kernel_rfl)
instance : TyS Try.prog 41 := mkTyS (by kernel_rfl) (by kernel_rfl)
instance : TyIface Try.prog 41 false := mkTyIface (by kernel_rfl)
instance : TyFunc Try.prog 41 := mkTyFunc (by kernel_rfl)
instance : TySz Try.prog 41 1 := mkTySz (by kernel_rfl)
instance : TyBytes Try.prog 41 8 := mkTyBytes (by kernel_rfl)
instance : TyZero Try.prog 41 (.nilFunc) := mkTyZero (by kernel_rfl)
instance : TyS Try.prog 42 := mkTyS (by kernel_rfl) (by kernel_rfl)
instance : TyIface Try.prog 42 false := mkTyIface (by kernel_rfl)
instance : TyFunc Try.prog 42 := mkTyFunc (by kernel_rfl)
instance : TySz Try.prog 42 1 := mkTySz (by kernel_rfl)
instance : TyBytes Try.prog 42 8 := mkTyBytes (by kernel_rfl)
instance : TyZero Try.prog 42 (.nilFunc) := mkTyZero (by kernel_rfl)
instance : TyS Try.prog 43 := mkTyS (by kernel_rfl) (by kernel_rfl)
instance : TyIface Try.prog 43 false := mkTyIface (by kernel_rfl)
instance : TySz Try.prog 43 1 := mkTySz (by kernel_rfl)
instance : TyBytes Try.prog 43 24 := mkTyBytes (by kernel_rfl)
instance : TyZero Try.prog 43 (.slice none 0 0) := mkTyZero (by kernel_rfl)
instance : TySlice Try.prog 43 22 := ⟨by kernel_rfl⟩
instance : TyS Try.prog 44 := mkTyS (by kernel_rfl) (by kernel_rfl)
instance : TyIface Try.prog 44 false := mkTyIface (by kernel_rfl)
instance : TySz Try.prog 44 1 := mkTySz (by kernel_rfl)
instance : TyBytes Try.prog 44 8 := mkTyBytes (by kernel_rfl)
instance : TyZero Try.prog 44 (.pointer none) := mkTyZero (by kernel_rfl)
instance : TyPtr Try.prog 44 146 := ⟨by kernel_rfl⟩
instance : TyS Try.prog 45 := mkTyS (by kernel_rfl) (by kernel_rfl)
instance : TyIface Try.prog 45 false := mkTyIface (by kernel_rfl)
instance : TySz Try.prog 45 1 := mkTySz (by kernel_rfl)
instance : TyBytes Try.prog 45 8 := mkTyBytes (by kernel_rfl)
instance : TyZero Try.prog 45 (.pointer none) := mkTyZero (by kernel_rfl)
instance : TyPtr Try.prog 45 169 := ⟨by kernel_rfl⟩
instance : TyS Try.prog 47 := mkTyS (by kernel_rfl) (by kernel_rfl)
instance : TyIface Try.prog 47 false := mkTyIface (by kernel_rfl)
instance : TyFunc Try.prog 47 := mkTyFunc (by kernel_rfl)
instance : TySz Try.prog 47 1 := mkTySz (by kernel_rfl)
instance : TyBytes Try.prog 47 8 := mkTyBytes (by kernel_rfl)
instance : TyZero Try.prog 47 (.nilFunc) := mkTyZero (by kernel_rfl)
instance : TyS Try.prog 48 := mkTyS (by kernel_rfl) (by kernel_rfl)
instance : TyIface Try.prog 48 false := mkTyIface (by kernel_rfl)
instance : TyFunc Try.prog 48 := mkTyFunc (by kernel_rfl)
instance : TySz Try.prog 48 1 := mkTySz (by kernel_rfl)
instance : TyBytes Try.prog 48 8 := mkTyBytes (by kernel_rfl)
instance : TyZero Try.prog 48 (.nilFunc) := mkTyZero (by kernel_rfl)
instance : TyS Try.prog 49 := mkTyS (by kernel_rfl) (by kernel_rfl)
instance : TyIface Try.prog 49 false := mkTyIface (by kernel_rfl)
instance : TyFunc Try.prog 49 := mkTyFunc (by kernel_rfl)
instance : TySz Try.prog 49 1 := mkTySz (by kernel_rfl)
instance : TyBytes Try.prog 49 8 := mkTyBytes (by kernel_rfl)
instance : TyZero Try.prog 49 (.nilFunc) := mkTyZero (by kernel_rfl)
instance : TyS Try.prog 50 := mkTyS (by kernel_rfl) (by kernel_rfl)
instance : TyIface Try.prog 50 false := mkTyIface (by kernel_rfl)
instance : TyFunc Try.prog 50 := mkTyFunc (by kernel_rfl)
instance : TySz Try.prog 50 1 := mkTySz (by kernel_rfl)
instance : TyBytes Try.prog 50 8 := mkTyBytes (by kernel_rfl)
instance : TyZero Try.prog 50 (.nilFunc) := mkTyZero (by kernel_rfl)
instance : TyS Try.prog 51 := mkTyS (by kernel_rfl) (by kernel_rfl)
instance : TyIface Try.prog 51 false := mkTyIface (by kernel_rfl)
instance : TyFunc Try.prog 51 := mkTyFunc (by kernel_rfl)
instance : TySz Try.prog 51 1 := mkTySz (by kernel_rfl)
instance : TyBytes Try.prog 51 8 := mkTyBytes (by kernel_rfl)
instance : TyZero Try.prog 51 (.nilFunc) := mkTyZero (by kernel_rfl)
instance : TyS Try.prog 52 := mkTyS (by kernel_rfl) (by kernel_rfl)
instance : TyIface Try.prog 52 false := mkTyIface (by kernel_rfl)
instance : TyFunc Try.prog 52 := mkTyFunc (by kernel_rfl)
instance : TySz Try.prog 52 1 := mkTySz (by kernel_rfl)
instance : TyBytes Try.prog 52 8 := mkTyBytes (by kernel_rfl)
instance : TyZero Try.prog 52 (.nilFunc) := mkTyZero (by kernel_rfl)
instance : TyS Try.prog 53 := mkTyS (by kernel_rfl) (by kernel_rfl)
instance : TyIface Try.prog 53 false := mkTyIface (by kernel_rfl)
instance : TySz Try.prog 53 1 := mkTySz (by kernel_rfl)
instance : TyBytes Try.prog 53 8 := mkTyBytes (by kernel_rfl)
instance : TyZero Try.prog 53 (.int .u64 0) := mkTyZero (by kernel_rfl)
instance : TyInt Try.prog 53 .u64 := ⟨by kernel_rfl⟩
instance : TyS Try.prog 54 := mkTyS (by kernel_rfl) (by kernel_rfl)
instance : TyIface Try.prog 54 false := mkTyIface (by kernel_rfl)
instance : TyFunc Try.prog 54 := mkTyFunc (by kernel_rfl)
instance : TySz Try.prog 54 1 := mkTySz (by kernel_rfl)
instance : TyBytes Try.prog 54 8 := mkTyBytes (by kernel_rfl)
instance : TyZero Try.prog 54 (.nilFunc) := mkTyZero (by kernel_rfl)
instance : TyS Try.prog 55 := mkTyS (by kernel_rfl) (by kernel_rfl)
instance : TyIface Try.prog 55 false := mkTyIface (by kernel_rfl)
instance : TyFunc Try.prog 55 := mkTyFunc (by kernel_rfl)
instance : TySz Try.prog 55 1 := mkTySz (by kernel_rfl)
instance : TyBytes Try.prog 55 8 := mkTyBytes (by kernel_rfl)
instance : TyZero Try.prog 55 (.nilFunc) := mkTyZero (by kernel_rfl)
instance : TyS Try.prog 56 := mkTyS (by kernel_rfl) (by kernel_rfl)
instance : TyIface Try.prog 56 false := mkTyIface (by kernel_rfl)
instance : TySz Try.prog 56 1 := mkTySz (by kernel_rfl)
instance : TyBytes Try.prog 56 24 := mkTyBytes (by kernel_rfl)
instance : TyZero Try.prog 56 (.slice none 0 0) := mkTyZero (by kernel_rfl)
instance : TySlice Try.prog 56 38 := ⟨by kernel_rfl⟩
instance : TyS Try.prog 57 := mkTyS (by kernel_rfl) (by kernel_rfl)
instance : TyIface Try.prog 57 false := mkTyIface (by kernel_rfl)
instance : TyFunc Try.prog 57 := mkTyFunc (by kernel_rfl)
instance : TySz Try.prog 57 1 := mkTySz (by kernel_rfl)
instance : TyBytes Try.prog 57 8 := mkTyBytes (by kernel_rfl)
instance : TyZero Try.prog 57 (.nilFunc) := mkTyZero (by kernel_rfl)
instance : TyS Try.prog 58 := mkTyS (by kernel_rfl) (by kernel_rfl)
instance : TyIface Try.prog 58 false := mkTyIface (by kernel_rfl)
instance : TyFunc Try.prog 58 := mkTyFunc (by kernel_rfl)
instance : TySz Try.prog 58 1 := mkTySz (by kernel_rfl)
instance : TyBytes Try.prog 58 8 := mkTyBytes (by kernel_rfl)
instance : TyZero Try.prog 58 (.nilFunc) := mkTyZero (by kernel_rfl)
instance : TyS Try.prog 59 := mkTyS (by kernel_rfl) (by kernel_rfl)
instance : TyIface Try.prog 59 false := mkTyIface (by kernel_rfl)
instance : TyFunc Try.prog 59 := mkTyFunc (by kernel_rfl)
instance : TySz Try.prog 59 1 := mkTySz (by kernel_rfl)
instance : TyBytes Try.prog 59 8 := mkTyBytes (by kernel_rfl)
instance : TyZero Try.prog 59 (.nilFunc) := mkTyZero (by kernel_rfl)
instance : TyS Try.prog 60 := mkTyS (by kernel_rfl) (by kernel_rfl)
instance : TyIface Try.prog 60 false := mkTyIface (by kernel_rfl)
instance : TyFunc Try.prog 60 := mkTyFunc (by kernel_rfl)
instance : TySz Try.prog 60 1 := mkTySz (by kernel_rfl)
instance : TyBytes Try.prog 60 8 := mkTyBytes (by kernel_rfl)
instance : TyZero Try.prog 60 (.nilFunc) := mkTyZero (by kernel_rfl)
instance : TyS Try.prog 61 := mkTyS (by kernel_rfl) (by kernel_rfl)
instance : TyIface Try.prog 61 false := mkTyIface (by kernel_rfl)
instance : TyFunc Try.prog 61 := mkTyFunc (by kernel_rfl)
instance : TySz Try.prog 61 1 := mkTySz (by kernel_rfl)
instance : TyBytes Try.prog 61 8 := mkTyBytes (by kernel_rfl)
instance : TyZero Try.prog 61 (.nilFunc) := mkTyZero (by kernel_rfl)
instance : TyS Try.prog 62 := mkTyS (by kernel_rfl) (by kernel_rfl)
instance : TyIface Try.prog 62 false := mkTyIface (by kernel_rfl)
instance : TyFunc Try.prog 62 := mkTyFunc (by kernel_rfl)
instance : TySz Try.prog 62 1 := mkTySz (by kernel_rfl)
instance : TyBytes Try.prog 62 8 := mkTyBytes (by kernel_rfl)
instance : TyZero Try.prog 62 (.nilFunc) := mkTyZero (by kernel_rfl)
instance : TyS Try.prog 63 := mkTyS (by kernel_rfl) (by kernel_rfl)
instance : TyIface Try.prog 63 false := mkTyIface (by kernel_rfl)
instance : TyFunc Try.prog 63 := mkTyFunc (by kernel_rfl)
instance : TySz Try.prog 63 1 := mkTySz (by kernel_rfl)
instance : TyBytes Try.prog 63 8 := mkTyBytes (by kernel_rfl)
instance : TyZero Try.prog 63 (.nilFunc) := mkTyZero (by kernel_rfl)
instance : TyS Try.prog 64 := mkTyS (by kernel_rfl) (by kernel_rfl)
instance : TyIface Try.prog 64 false := mkTyIface (by kernel_rfl)
instance : TyFunc Try.prog 64 := mkTyFunc (by kernel_rfl)
instance : TySz Try.prog 64 1 := mkTySz (by kernel_rfl)
instance : TyBytes Try.prog 64 8 := mkTyBytes (by kernel_rfl)
instance : TyZero Try.prog 64 (.nilFunc) := mkTyZero (by kernel_rfl)
instance : TyS Try.prog 65 := mkTyS (by kernel_rfl) (by kernel_rfl)
instance : TyIface Try.prog 65 false := mkTyIface (by kernel_rfl)
instance : TyFunc Try.prog 65 := mkTyFunc (by kernel_rfl)
instance : TySz Try.prog 65 1 := mkTySz (by kernel_rfl)
instance : TyBytes Try.prog 65 8 := mkTyBytes (by kernel_rfl)
instance : TyZero Try.prog 65 (.nilFunc) := mkTyZero (by kernel_rfl)
instance : TyS Try.prog 66 := mkTyS (by kernel_rfl) (by kernel_rfl)
instance : TyIface Try.prog 66 false := mkTyIface (by kernel_rfl)
instance : TyFunc Try.prog 66 := mkTyFunc (by kernel_rfl)
instance : TySz Try.prog 66 1 := mkTySz (by kernel_rfl)
instance : TyBytes Try.prog 66 8 := mkTyBytes (by kernel_rfl)
instance : TyZero Try.prog 66 (.nilFunc) := mkTyZero (by kernel_rfl)
instance : TyS Try.prog 67 := mkTyS (by kernel_rfl) (by kernel_rfl)
instance : TyIface Try.prog 67 false := mkTyIface (by kernel_rfl)
instance : TyFunc Try.prog 67 := mkTyFunc (by kernel_rfl)
instance : TySz Try.prog 67 1 := mkTySz (by kernel_rfl)
instance : TyBytes Try.prog 67 8 := mkTyBytes (by kernel_rfl)
instance : TyZero Try.prog 67 (.nilFunc) := mkTyZero (by kernel_rfl)
instance : TyS Try.prog 68 := mkTyS (by kernel_rfl) (by kernel_rfl)
instance : TyIface Try.prog 68 false := mkTyIface (by kernel_rfl)
instance : TySz Try.prog 68 1 := mkTySz (by kernel_rfl)
instance : TyBytes Try.prog 68 24 := mkTyBytes (by kernel_rfl)
instance : TyZero Try.prog 68 (.slice none 0 0) := mkTyZero (by kernel_rfl)
instance : TySlice Try.prog 68 4 := ⟨by kernel_rfl⟩
instance : TyA Try.prog 69 5 := mkTyA (by kernel_rfl) (by kernel_rfl)
instance : TyIface Try.prog 69 false := mkTyIface (by kernel_rfl)
instance : TySz Try.prog 69 5 := mkTySz (by kernel_rfl)
instance : TyBytes Try.prog 69 88 := mkTyBytes (by kernel_rfl)
instance : TyZero Try.prog 69 (.agg ⟨[.int .i64 0, .int .i64 0, .slice none 0 0, .slice none 0 0, .slice none 0 0]⟩) := mkTyZero (by kernel_rfl)
instance : NoGuard Try.prog 69 := ⟨by kernel_rfl⟩
instance : Fld Try.prog 69 0 0 3 := mkFld (by kernel_rfl)
instance : Fld Try.prog 69 1 1 3 := mkFld (by kernel_rfl)
instance : Fld Try.prog 69 2 2 22 := mkFld (by kernel_rfl)
instance : Fld Try.prog 69 3 3 22 := mkFld (by kernel_rfl)
instance : Fld Try.prog 69 4 4 68 := mkFld (by kernel_rfl)
instance : TyPlaces Try.prog 69 (([(0, 1), (1, 1), (2, 1), (3, 1), (4, 1)] : List (Nat × Nat))[·]?) := mkTyPlaces (by kernel_rfl)
instance : TyA Try.prog 70 5 := mkTyA (by kernel_rfl) (by kernel_rfl)
instance : TyIface Try.prog 70 false := mkTyIface (by kernel_rfl)
instance : TySz Try.prog 70 5 := mkTySz (by kernel_rfl)
instance : TyBytes Try.prog 70 88 := mkTyBytes (by kernel_rfl)
instance : TyZero Try.prog 70 (.agg ⟨[.int .i64 0, .int .i64 0, .slice none 0 0, .slice none 0 0, .slice none 0 0]⟩) := mkTyZero (by kernel_rfl)
instance : NoGuard Try.prog 70 := ⟨by kernel_rfl⟩
instance : TyFlds Try.prog 70 [(0, 3), (1, 3), (2, 22), (3, 22), (4, 68)] := mkTyFlds (by kernel_rfl)
instance : Fld Try.prog 70 0 0 3 := mkFld (by kernel_rfl)
instance : Fld Try.prog 70 1 1 3 := mkFld (by kernel_rfl)
instance : Fld Try.prog 70 2 2 22 := mkFld (by kernel_rfl)
instance : Fld Try.prog 70 3 3 22 := mkFld (by kernel_rfl)
instance : Fld Try.prog 70 4 4 68 := mkFld (by kernel_rfl)
instance : TyPlaces Try.prog 70 (([(0, 1), (1, 1), (2, 1), (3, 1), (4, 1)] : List (Nat × Nat))[·]?) := mkTyPlaces (by kernel_rfl)
instance : TyS Try.prog 71 := mkTyS (by kernel_rfl) (by kernel_rfl)
instance : TyIface Try.prog 71 false := mkTyIface (by kernel_rfl)
instance : TySz Try.prog 71 1 := mkTySz (by kernel_rfl)
instance : TyBytes Try.prog 71 24 := mkTyBytes (by kernel_rfl)
instance : TyZero Try.prog 71 (.slice none 0 0) := mkTyZero (by kernel_rfl)
instance : TySlice Try.prog 71 3 := ⟨by kernel_rfl⟩
instance : TyS Try.prog 73 := mkTyS (by kernel_rfl) (by kernel_rfl)
instance : TyIface Try.prog 73 false := mkTyIface (by kernel_rfl)
instance : TyFunc Try.prog 73 := mkTyFunc (by kernel_rfl)
instance : TySz Try.prog 73 1 := mkTySz (by kernel_rfl)
instance : TyBytes Try.prog 73 8 := mkTyBytes (by kernel_rfl)
instance : TyZero Try.prog 73 (.nilFunc) := mkTyZero (by kernel_rfl)
instance : TyS Try.prog 74 := mkTyS (by kernel_rfl) (by kernel_rfl)
instance : TyIface Try.prog 74 false := mkTyIface (by kernel_rfl)
instance : TyFunc Try.prog 74 := mkTyFunc (by kernel_rfl)
instance : TySz Try.prog 74 1 := mkTySz (by kernel_rfl)
instance : TyBytes Try.prog 74 8 := mkTyBytes (by kernel_rfl)
instance : TyZero Try.prog 74 (.nilFunc) := mkTyZero (by kernel_rfl)
instance : TyS Try.prog 75 := mkTyS (by kernel_rfl) (by kernel_rfl)
instance : TyIface Try.prog 75 false := mkTyIface (by kernel_rfl)
instance : TyFunc Try.prog 75 := mkTyFunc (by kernel_rfl)
instance : TySz Try.prog 75 1 := mkTySz (by kernel_rfl)
instance : TyBytes Try.prog 75 8 := mkTyBytes (by kernel_rfl)
instance : TyZero Try.prog 75 (.nilFunc) := mkTyZero (by kernel_rfl)
instance : TyS Try.prog 76 := mkTyS (by kernel_rfl) (by kernel_rfl)
instance : TyIface Try.prog 76 false := mkTyIface (by kernel_rfl)
instance : TyFunc Try.prog 76 := mkTyFunc (by kernel_rfl)
instance : TySz Try.prog 76 1 := mkTySz (by kernel_rfl)
instance : TyBytes Try.prog 76 8 := mkTyBytes (by kernel_rfl)
instance : TyZero Try.prog 76 (.nilFunc) := mkTyZero (by kernel_rfl)
instance : TyS Try.prog 77 := mkTyS (by kernel_rfl) (by kernel_rfl)
instance : TyIface Try.prog 77 false := mkTyIface (by kernel_rfl)
instance : TyFunc Try.prog 77 := mkTyFunc (by kernel_rfl)
instance : TySz Try.prog 77 1 := mkTySz (by kernel_rfl)
instance : TyBytes Try.prog 77 8 := mkTyBytes (by kernel_rfl)
instance : TyZero Try.prog 77 (.nilFunc) := mkTyZero (by kernel_rfl)
instance : TyS Try.prog 78 := mkTyS (by kernel_rfl) (by kernel_rfl)
instance : TyIface Try.prog 78 false := mkTyIface (by kernel_rfl)
instance : TySz Try.prog 78 1 := mkTySz (by kernel_rfl)
instance : TyBytes Try.prog 78 8 := mkTyBytes (by kernel_rfl)
instance : TyZero Try.prog 78 (.int .u64 0) := mkTyZero (by kernel_rfl)
instance : TyInt Try.prog 78 .u64 := ⟨by kernel_rfl⟩
instance : TyA Try.prog 79 3 := mkTyA (by kernel_rfl) (by kernel_rfl)
instance : TyIface Try.prog 79 false := mkTyIface (by kernel_rfl)
instance : TySz Try.prog 79 3 := mkTySz (by kernel_rfl)
instance : TyBytes Try.prog 79 56 := mkTyBytes (by kernel_rfl)
instance : TyZero Try.prog 79 (.agg ⟨[.int .u64 0, .slice none 0 0, .slice none 0 0]⟩) := mkTyZero (by kernel_rfl)
instance : NoGuard Try.prog 79 := ⟨by kernel_rfl⟩
instance : Fld Try.prog 79 0 0 53 := mkFld (by kernel_rfl)
instance : Fld Try.prog 79 1 1 43 := mkFld (by kernel_rfl)
instance : Fld Try.prog 79 2 2 22 := mkFld (by kernel_rfl)
instance : TyPlaces Try.prog 79 (([(0, 1), (1, 1), (2, 1)] : List (Nat × Nat))[·]?) := mkTyPlaces (by kernel_rfl)
instance : TyA Try.prog 80 3 := mkTyA (by kernel_rfl) (by kernel_rfl)
instance : TyIface Try.prog 80 false := mkTyIface (by kernel_rfl)
instance : TySz Try.prog 80 3 := mkTySz (by kernel_rfl)
instance : TyBytes Try.prog 80 56 := mkTyBytes (by kernel_rfl)
instance : TyZero Try.prog 80 (.agg ⟨[.int .u64 0, .slice none 0 0, .slice none 0 0]⟩) := mkTyZero (by kernel_rfl)
instance : NoGuard Try.prog 80 := ⟨by kernel_rfl⟩
instance : TyFlds Try.prog 80 [(0, 53), (1, 43), (2, 22)] := mkTyFlds (by kernel_rfl)
instance : Fld Try.prog 80 0 0 53 := mkFld (by kernel_rfl)
instance : Fld Try.prog 80 1 1 43 := mkFld (by kernel_rfl)
instance : Fld Try.prog 80 2 2 22 := mkFld (by kernel_rfl)
instance : TyPlaces Try.prog 80 (([(0, 1), (1, 1), (2, 1)] : List (Nat × Nat))[·]?) := mkTyPlaces (by kernel_rfl)
instance : TyS Try.prog 81 := mkTyS (by kernel_rfl) (by kernel_rfl)
instance : TyIface Try.prog 81 false := mkTyIface (by kernel_rfl)
instance : TyFunc Try.prog 81 := mkTyFunc (by kernel_rfl)
instance : TySz Try.prog 81 1 := mkTySz (by kernel_rfl)
instance : TyBytes Try.prog 81 8 := mkTyBytes (by kernel_rfl)
instance : TyZero Try.prog 81 (.nilFunc) := mkTyZero (by kernel_rfl)
instance : TyS Try.prog 82 := mkTyS (by kernel_rfl) (by kernel_rfl)
instance : TyIface Try.prog 82 false := mkTyIface (by kernel_rfl)
instance : TyFunc Try.prog 82 := mkTyFunc (by kernel_rfl)
instance : TySz Try.prog 82 1 := mkTySz (by kernel_rfl)
instance : TyBytes Try.prog 82 8 := mkTyBytes (by kernel_rfl)
instance : TyZero Try.prog 82 (.nilFunc) := mkTyZero (by kernel_rfl)
instance : TyS Try.prog 83 := mkTyS (by kernel_rfl) (by kernel_rfl)
instance : TyIface Try.prog 83 false := mkTyIface (by kernel_rfl)
instance : TySz Try.prog 83 1 := mkTySz (by kernel_rfl)
instance : TyBytes Try.prog 83 24 := mkTyBytes (by kernel_rfl)
instance : TyZero Try.prog 83 (.slice none 0 0) := mkTyZero (by kernel_rfl)
instance : TySlice Try.prog 83 70 := ⟨by kernel_rfl⟩
instance : TyS Try.prog 84 := mkTyS (by kernel_rfl) (by kernel_rfl)
instance : TyIface Try.prog 84 false := mkTyIface (by kernel_rfl)
instance : TyFunc Try.prog 84 := mkTyFunc (by kernel_rfl)
instance : TySz Try.prog 84 1 := mkTySz (by kernel_rfl)
instance : TyBytes Try.prog 84 8 := mkTyBytes (by kernel_rfl)
instance : TyZero Try.prog 84 (.nilFunc) := mkTyZero (by kernel_rfl)
instance : TyS Try.prog 86 := mkTyS (by kernel_rfl) (by kernel_rfl)
instance : TyIface Try.prog 86 false := mkTyIface (by kernel_rfl)
instance : TyFunc Try.prog 86 := mkTyFunc (by kernel_rfl)
instance : TySz Try.prog 86 1 := mkTySz (by kernel_rfl)
instance : TyBytes Try.prog 86 8 := mkTyBytes (by kernel_rfl)
instance : TyZero Try.prog 86 (.nilFunc) := mkTyZero (by kernel_rfl)
instance : TyS Try.prog 87 := mkTyS (by kernel_rfl) (by kernel_rfl)
instance : TyIface Try.prog 87 false := mkTyIface (by kernel_rfl)
instance : TyFunc Try.prog 87 := mkTyFunc (by kernel_rfl)
instance : TySz Try.prog 87 1 := mkTySz (by kernel_rfl)
instance : TyBytes Try.prog 87 8 := mkTyBytes (by kernel_rfl)
instance : TyZero Try.prog 87 (.nilFunc) := mkTyZero (by kernel_rfl)
instance : TyS Try.prog 88 := mkTyS (by kernel_rfl) (by kernel_rfl)
instance : TyIface Try.prog 88 false := mkTyIface (by kernel_rfl)
instance : TyFunc Try.prog 88 := mkTyFunc (by kernel_rfl)
instance : TySz Try.prog 88 1 := mkTySz (by kernel_rfl)
instance : TyBytes Try.prog 88 8 := mkTyBytes (by kernel_rfl)
instance : TyZero Try.prog 88 (.nilFunc) := mkTyZero (by kernel_rfl)
instance : TyS Try.prog 90 := mkTyS (by kernel_rfl) (by kernel_rfl)
instance : TyIface Try.prog 90 false := mkTyIface (by kernel_rfl)
instance : TyFunc Try.prog 90 := mkTyFunc (by kernel_rfl)
instance : TySz Try.prog 90 1 := mkTySz (by kernel_rfl)
instance : TyBytes Try.prog 90 8 := mkTyBytes (by kernel_rfl)
instance : TyZero Try.prog 90 (.nilFunc) := mkTyZero (by kernel_rfl)
instance : TyS Try.prog 91 := mkTyS (by kernel_rfl) (by kernel_rfl)
instance : TyIface Try.prog 91 false := mkTyIface (by kernel_rfl)
instance : TySz Try.prog 91 1 := mkTySz (by kernel_rfl)
instance : TyBytes Try.prog 91 8 := mkTyBytes (by kernel_rfl)
instance : TyZero Try.prog 91 (.pointer none) := mkTyZero (by kernel_rfl)
instance : TyPtr Try.prog 91 97 := ⟨by kernel_rfl⟩
instance : TyA Try.prog 92 5 := mkTyA (by kernel_rfl) (by kernel_rfl)
instance : TyIface Try.prog 92 false := mkTyIface (by kernel_rfl)
instance : TySz Try.prog 92 5 := mkTySz (by kernel_rfl)
instance : TyBytes Try.prog 92 56 := mkTyBytes (by kernel_rfl)
instance : TyZero Try.prog 92 (.agg ⟨[.int .u64 0, .int .i64 0, .int .u64 0, .int .i64 0, .slice none 0 0]⟩) := mkTyZero (by kernel_rfl)
instance : NoGuard Try.prog 92 := ⟨by kernel_rfl⟩
instance : Fld Try.prog 92 0 0 53 := mkFld (by kernel_rfl)
instance : Fld Try.prog 92 1 1 3 := mkFld (by kernel_rfl)
instance : Fld Try.prog 92 2 2 53 := mkFld (by kernel_rfl)
instance : Fld Try.prog 92 3 3 3 := mkFld (by kernel_rfl)
instance : Fld Try.prog 92 4 4 22 := mkFld (by kernel_rfl)
instance : TyPlaces Try.prog 92 (([(0, 1), (1, 1), (2, 1), (3, 1), (4, 1)] : List (Nat × Nat))[·]?) := mkTyPlaces (by kernel_rfl)
instance : TyA Try.prog 93 5 := mkTyA (by kernel_rfl) (by kernel_rfl)
instance : TyIface Try.prog 93 false := mkTyIface (by kernel_rfl)
instance : TySz Try.prog 93 5 := mkTySz (by kernel_rfl)
instance : TyBytes Try.prog 93 56 := mkTyBytes (by kernel_rfl)
instance : TyZero Try.prog 93 (.agg ⟨[.int .u64 0, .int .i64 0, .int .u64 0, .int .i64 0, .slice none 0 0]⟩) := mkTyZero (by kernel_rfl)
instance : NoGuard Try.prog 93 := ⟨by kernel_rfl⟩
instance : TyFlds Try.prog 93 [(0, 53), (1, 3), (2, 53), (3, 3), (4, 22)] := mkTyFlds (by kernel_rfl)
instance : Fld Try.prog 93 0 0 53 := mkFld (by kernel_rfl)
instance : Fld Try.prog 93 1 1 3 := mkFld (by kernel_rfl)
instance : Fld Try.prog 93 2 2 53 := mkFld (by kernel_rfl)
instance : Fld Try.prog 93 3 3 3 := mkFld (by kernel_rfl)
instance : Fld Try.prog 93 4 4 22 := mkFld (by kernel_rfl)
instance : TyPlaces Try.prog 93 (([(0, 1), (1, 1), (2, 1), (3, 1), (4, 1)] : List (Nat × Nat))[·]?) := mkTyPlaces (by kernel_rfl)
instance : TyA Try.prog 94 7 := mkTyA (by kernel_rfl) (by kernel_rfl)
instance : TyIface Try.prog 94 false := mkTyIface (by kernel_rfl)
instance : TySz Try.prog 94 7 := mkTySz (by kernel_rfl)
instance : TyBytes Try.prog 94 104 := mkTyBytes (by kernel_rfl)
instance : TyZero Try.prog 94 (.agg ⟨[.int .u64 0, .int .i64 0, .int .u64 0, .int .i64 0, .slice none 0 0, .slice none 0 0, .slice none 0 0]⟩) := mkTyZero (by kernel_rfl)
instance : NoGuard Try.prog 94 := ⟨by kernel_rfl⟩
instance : Fld Try.prog 94 0 0 93 := mkFld (by kernel_rfl)
instance : Fld Try.prog 94 1 5 43 := mkFld (by kernel_rfl)
instance : Fld Try.prog 94 2 6 71 := mkFld (by kernel_rfl)
instance : TyPlaces Try.prog 94 (([(0, 5), (5, 1), (6, 1)] : List (Nat × Nat))[·]?) := mkTyPlaces (by kernel_rfl)
instance : TyA Try.prog 95 7 := mkTyA (by kernel_rfl) (by kernel_rfl)
instance : TyIface Try.prog 95 false := mkTyIface (by kernel_rfl)
instance : TySz Try.prog 95 7 := mkTySz (by kernel_rfl)
instance : TyBytes Try.prog 95 104 := mkTyBytes (by kernel_rfl)
instance : TyZero Try.prog 95 (.agg ⟨[.int .u64 0, .int .i64 0, .int .u64 0, .int .i64 0, .slice none 0 0, .slice none 0 0, .slice none 0 0]⟩) := mkTyZero (by kernel_rfl)
instance : NoGuard Try.prog 95 := ⟨by kernel_rfl⟩
instance : TyFlds Try.prog 95 [(0, 93), (5, 43), (6, 71)] := mkTyFlds (by kernel_rfl)
instance : Fld Try.prog 95 0 0 93 := mkFld (by kernel_rfl)
instance : Fld Try.prog 95 1 5 43 := mkFld (by kernel_rfl)
instance : Fld Try.prog 95 2 6 71 := mkFld (by kernel_rfl)
instance : TyPlaces Try.prog 95 (([(0, 5), (5, 1), (6, 1)] : List (Nat × Nat))[·]?) := mkTyPlaces (by kernel_rfl)
instance : TyA Try.prog 96 10 := mkTyA (by kernel_rfl) (by kernel_rfl)
instance : TyIface Try.prog 96 false := mkTyIface (by kernel_rfl)
instance : TySz Try.prog 96 10 := mkTySz (by kernel_rfl)
instance : TyBytes Try.prog 96 120 := mkTyBytes (by kernel_rfl)
instance : TyZero Try.prog 96 (.agg ⟨[.pointer none, .int .u64 0, .int .i64 0, .int .u64 0, .int .i64 0, .slice none 0 0, .slice none 0 0, .slice none 0 0, .bool false, .bool false]⟩) := mkTyZero (by kernel_rfl)
instance : NoGuard Try.prog 96 := ⟨by kernel_rfl⟩
instance : Fld Try.prog 96 0 0 45 := mkFld (by kernel_rfl)
instance : Fld Try.prog 96 1 1 95 := mkFld (by kernel_rfl)
instance : Fld Try.prog 96 2 8 4 := mkFld (by kernel_rfl)
instance : Fld Try.prog 96 3 9 4 := mkFld (by kernel_rfl)
instance : TyPlaces Try.prog 96 (([(0, 1), (1, 7), (8, 1), (9, 1)] : List (Nat × Nat))[·]?) := mkTyPlaces (by kernel_rfl)
instance : TyA Try.prog 97 10 := mkTyA (by kernel_rfl) (by kernel_rfl)
instance : TyIface Try.prog 97 false := mkTyIface (by kernel_rfl)
instance : TySz Try.prog 97 10 := mkTySz (by kernel_rfl)
instance : TyBytes Try.prog 97 120 := mkTyBytes (by kernel_rfl)
instance : TyZero Try.prog 97 (.agg ⟨[.pointer none, .int .u64 0, .int .i64 0, .int .u64 0, .int .i64 0, .slice none 0 0, .slice none 0 0, .slice none 0 0, .bool false, .bool false]⟩) := mkTyZero (by kernel_rfl)
instance : NoGuard Try.prog 97 := ⟨by kernel_rfl⟩
instance : TyFlds Try.prog 97 [(0, 45), (1, 95), (8, 4), (9, 4)] := mkTyFlds (by kernel_rfl)
instance : Fld Try.prog 97 0 0 45 := mkFld (by kernel_rfl)
instance : Fld Try.prog 97 1 1 95 := mkFld (by kernel_rfl)
instance : Fld Try.prog 97 2 8 4 := mkFld (by kernel_rfl)
instance : Fld Try.prog 97 3 9 4 := mkFld (by kernel_rfl)
instance : TyPlaces Try.prog 97 (([(0, 1), (1, 7), (8, 1), (9, 1)] : List (Nat × Nat))[·]?) := mkTyPlaces (by kernel_rfl)
instance : TyS Try.prog 99 := mkTyS (by kernel_rfl) (by kernel_rfl)
instance : TyIface Try.prog 99 false := mkTyIface (by kernel_rfl)
instance : TyFunc Try.prog 99 := mkTyFunc (by kernel_rfl)
instance : TySz Try.prog 99 1 := mkTySz (by kernel_rfl)
instance : TyBytes Try.prog 99 8 := mkTyBytes (by kernel_rfl)
instance : TyZero Try.prog 99 (.nilFunc) := mkTyZero (by kernel_rfl)
instance : TyS Try.prog 100 := mkTyS (by kernel_rfl) (by kernel_rfl)
instance : TyIface Try.prog 100 false := mkTyIface (by kernel_rfl)
instance : TyFunc Try.prog 100 := mkTyFunc (by kernel_rfl)
instance : TySz Try.prog 100 1 := mkTySz (by kernel_rfl)
instance : TyBytes Try.prog 100 8 := mkTyBytes (by kernel_rfl)
instance : TyZero Try.prog 100 (.nilFunc) := mkTyZero (by kernel_rfl)
instance : TyA Try.prog 101 64 := mkTyA (by kernel_rfl) (by kernel_rfl)
instance : TyIface Try.prog 101 false := mkTyIface (by kernel_rfl)
instance : TySz Try.prog 101 64 := mkTySz (by kernel_rfl)
instance : TyBytes Try.prog 101 64 := mkTyBytes (by kernel_rfl)
instance : TyZero Try.prog 101 (.agg ⟨List.replicate 64 (.int .u8 0)⟩) := mkTyZero (by kernel_rfl)
instance : NoGuard Try.prog 101 := ⟨by kernel_rfl⟩
instance : TyArr Try.prog 101 64 5 := ⟨by kernel_rfl⟩
instance : TyPlaces Try.prog 101 (fun i => some (i * 1, 1)) := mkTyPlacesA (n := 64) (e := 5) (by kernel_rfl) (by kernel_rfl)
instance : TyA Try.prog 102 64 := mkTyA (by kernel_rfl) (by kernel_rfl)
instance : TyIface Try.prog 102 false := mkTyIface (by kernel_rfl)
instance : TySz Try.prog 102 64 := mkTySz (by kernel_rfl)
instance : TyBytes Try.prog 102 64 := mkTyBytes (by kernel_rfl)
instance : TyZero Try.prog 102 (.agg ⟨List.replicate 64 (.int .u8 0)⟩) := mkTyZero (by kernel_rfl)
instance : NoGuard Try.prog 102 := ⟨by kernel_rfl⟩
instance : TyArr Try.prog 102 64 5 := ⟨by kernel_rfl⟩
instance : TyPlaces Try.prog 102 (fun i => some (i * 1, 1)) := mkTyPlacesA (n := 64) (e := 5) (by kernel_rfl) (by kernel_rfl)
instance : TyS Try.prog 104 := mkTyS (by kernel_rfl) (by kernel_rfl)
instance : TyIface Try.prog 104 false := mkTyIface (by kernel_rfl)
instance : TyFunc Try.prog 104 := mkTyFunc (by kernel_rfl)
instance : TySz Try.prog 104 1 := mkTySz (by kernel_rfl)
instance : TyBytes Try.prog 104 8 := mkTyBytes (by kernel_rfl)
instance : TyZero Try.prog 104 (.nilFunc) := mkTyZero (by kernel_rfl)
instance : TyS Try.prog 105 := mkTyS (by kernel_rfl) (by kernel_rfl)
instance : TyIface Try.prog 105 false := mkTyIface (by kernel_rfl)
instance : TyFunc Try.prog 105 := mkTyFunc (by kernel_rfl)
instance : TySz Try.prog 105 1 := mkTySz (by kernel_rfl)
instance : TyBytes Try.prog 105 8 := mkTyBytes (by kernel_rfl)
instance : TyZero Try.prog 105 (.nilFunc) := mkTyZero (by kernel_rfl)
instance : TyS Try.prog 106 := mkTyS (by kernel_rfl) (by kernel_rfl)
instance : TyIface Try.prog 106 false := mkTyIface (by kernel_rfl)
instance : TySz Try.prog 106 1 := mkTySz (by kernel_rfl)
instance : TyBytes Try.prog 106 24 := mkTyBytes (by kernel_rfl)
instance : TyZero Try.prog 106 (.slice none 0 0) := mkTyZero (by kernel_rfl)
instance : TySlice Try.prog 106 180 := ⟨by kernel_rfl⟩
instance : TyS Try.prog 107 := mkTyS (by kernel_rfl) (by kernel_rfl)
instance : TyIface Try.prog 107 false := mkTyIface (by kernel_rfl)
instance : TySz Try.prog 107 1 := mkTySz (by kernel_rfl)
instance : TyBytes Try.prog 107 24 := mkTyBytes (by kernel_rfl)
instance : TyZero Try.prog 107 (.slice none 0 0) := mkTyZero (by kernel_rfl)
instance : TySlice Try.prog 107 113 := ⟨by kernel_rfl⟩
instance : TyS Try.prog 108 := mkTyS (by kernel_rfl) (by kernel_rfl)
instance : TyIface Try.prog 108 false := mkTyIface (by kernel_rfl)
instance : TyFunc Try.prog 108 := mkTyFunc (by kernel_rfl)
instance : TySz Try.prog 108 1 := mkTySz (by kernel_rfl)
instance : TyBytes Try.prog 108 8 := mkTyBytes (by kernel_rfl)
instance : TyZero Try.prog 108 (.nilFunc) := mkTyZero (by kernel_rfl)
instance : TyS Try.prog 109 := mkTyS (by kernel_rfl) (by kernel_rfl)
instance : TyIface Try.prog 109 false := mkTyIface (by kernel_rfl)
instance : TySz Try.prog 109 1 := mkTySz (by kernel_rfl)
instance : TyBytes Try.prog 109 24 := mkTyBytes (by kernel_rfl)
instance : TyZero Try.prog 109 (.slice none 0 0) := mkTyZero (by kernel_rfl)
instance : TySlice Try.prog 109 182 := ⟨by kernel_rfl⟩
instance : TyS Try.prog 110 := mkTyS (by kernel_rfl) (by kernel_rfl)
instance : TyIface Try.prog 110 false := mkTyIface (by kernel_rfl)
instance : TySz Try.prog 110 1 := mkTySz (by kernel_rfl)
instance : TyBytes Try.prog 110 24 := mkTyBytes (by kernel_rfl)
instance : TyZero Try.prog 110 (.slice none 0 0) := mkTyZero (by kernel_rfl)
instance : TySlice Try.prog 110 202 := ⟨by kernel_rfl⟩
instance : TyS Try.prog 111 := mkTyS (by kernel_rfl) (by kernel_rfl)
instance : TyIface Try.prog 111 false := mkTyIface (by kernel_rfl)
instance : TySz Try.prog 111 1 := mkTySz (by kernel_rfl)
instance : TyBytes Try.prog 111 24 := mkTyBytes (by kernel_rfl)
instance : TyZero Try.prog 111 (.slice none 0 0) := mkTyZero (by kernel_rfl)
instance : TySlice Try.prog 111 204 := ⟨by kernel_rfl⟩
instance : TyA Try.prog 112 10 := mkTyA (by kernel_rfl) (by kernel_rfl)
instance : TyIface Try.prog 112 false := mkTyIface (by kernel_rfl)
instance : TySz Try.prog 112 10 := mkTySz (by kernel_rfl)
instance : TyBytes Try.prog 112 144 := mkTyBytes (by kernel_rfl)
instance : TyZero Try.prog 112 (.agg ⟨[.int .i64 0, .int .u64 0, .int .i64 0, .int .u64 0, .int .u64 0, .slice none 0 0, .slice none 0 0, .int .i64 0, .slice none 0 0, .slice none 0 0]⟩) := mkTyZero (by kernel_rfl)
instance : NoGuard Try.prog 112 := ⟨by kernel_rfl⟩
instance : Fld Try.prog 112 0 0 3 := mkFld (by kernel_rfl)
instance : Fld Try.prog 112 1 1 53 := mkFld (by kernel_rfl)
instance : Fld Try.prog 112 2 2 3 := mkFld (by kernel_rfl)
instance : Fld Try.prog 112 3 3 53 := mkFld (by kernel_rfl)
instance : Fld Try.prog 112 4 4 53 := mkFld (by kernel_rfl)
instance : Fld Try.prog 112 5 5 109 := mkFld (by kernel_rfl)
instance : Fld Try.prog 112 6 6 110 := mkFld (by kernel_rfl)
instance : Fld Try.prog 112 7 7 3 := mkFld (by kernel_rfl)
instance : Fld Try.prog 112 8 8 111 := mkFld (by kernel_rfl)
instance : Fld Try.prog 112 9 9 106 := mkFld (by kernel_rfl)
instance : TyPlaces Try.prog 112 (([(0, 1), (1, 1), (2, 1), (3, 1), (4, 1), (5, 1), (6, 1), (7, 1), (8, 1), (9, 1)] : List (Nat × Nat))[·]?) := mkTyPlaces (by kernel_rfl)
instance : TyA Try.prog 113 10 := mkTyA (by kernel_rfl) (by kernel_rfl)
instance : TyIface Try.prog 113 false := mkTyIface (by kernel_rfl)
instance : TySz Try.prog 113 10 := mkTySz (by kernel_rfl)
instance : TyBytes Try.prog 113 144 := mkTyBytes (by kernel_rfl)
instance : TyZero Try.prog 113 (.agg ⟨[.int .i64 0, .int .u64 0, .int .i64 0, .int .u64 0, .int .u64 0, .slice none 0 0, .slice none 0 0, .int .i64 0, .slice none 0 0, .slice none 0 0]⟩) := mkTyZero (by kernel_rfl)
instance : NoGuard Try.prog 113 := ⟨by kernel_rfl⟩
instance : TyFlds Try.prog 113 [(0, 3), (1, 53), (2, 3), (3, 53), (4, 53), (5, 109), (6, 110), (7, 3), (8, 111), (9, 106)] := mkTyFlds (by kernel_rfl)
instance : Fld Try.prog 113 0 0 3 := mkFld (by kernel_rfl)
instance : Fld Try.prog 113 1 1 53 := mkFld (by kernel_rfl)
instance : Fld Try.prog 113 2 2 3 := mkFld (by kernel_rfl)
instance : Fld Try.prog 113 3 3 53 := mkFld (by kernel_rfl)
instance : Fld Try.prog 113 4 4 53 := mkFld (by kernel_rfl)
instance : Fld Try.prog 113 5 5 109 := mkFld (by kernel_rfl)
instance : Fld Try.prog 113 6 6 110 := mkFld (by kernel_rfl)
instance : Fld Try.prog 113 7 7 3 := mkFld (by kernel_rfl)
instance : Fld Try.prog 113 8 8 111 := mkFld (by kernel_rfl)
instance : Fld Try.prog 113 9 9 106 := mkFld (by kernel_rfl)
instance : TyPlaces Try.prog 113 (([(0, 1), (1, 1), (2, 1), (3, 1), (4, 1), (5, 1), (6, 1), (7, 1), (8, 1), (9, 1)] : List (Nat × Nat))[·]?) := mkTyPlaces (by kernel_rfl)
instance : TyS Try.prog 114 := mkTyS (by kernel_rfl) (by kernel_rfl)
instance : TyIface Try.prog 114 false := mkTyIface (by kernel_rfl)
instance : TyFunc Try.prog 114 := mkTyFunc (by kernel_rfl)
instance : TySz Try.prog 114 1 := mkTySz (by kernel_rfl)
instance : TyBytes Try.prog 114 8 := mkTyBytes (by kernel_rfl)
instance : TyZero Try.prog 114 (.nilFunc) := mkTyZero (by kernel_rfl)
instance : TyS Try.prog 115 := mkTyS (by kernel_rfl) (by kernel_rfl)
instance : TyIface Try.prog 115 false := mkTyIface (by kernel_rfl)
instance : TyFunc Try.prog 115 := mkTyFunc (by kernel_rfl)
instance : TySz Try.prog 115 1 := mkTySz (by kernel_rfl)
instance : TyBytes Try.prog 115 8 := mkTyBytes (by kernel_rfl)
instance : TyZero Try.prog 115 (.nilFunc) := mkTyZero (by kernel_rfl)
instance : TyS Try.prog 116 := mkTyS (by kernel_rfl) (by kernel_rfl)
instance : TyIface Try.prog 116 false := mkTyIface (by kernel_rfl)
instance : TyFunc Try.prog 116 := mkTyFunc (by kernel_rfl)
instance : TySz Try.prog 116 1 := mkTySz (by kernel_rfl)
instance : TyBytes Try.prog 116 8 := mkTyBytes (by kernel_rfl)
instance : TyZero Try.prog 116 (.nilFunc) := mkTyZero (by kernel_rfl)
instance : TyS Try.prog 118 := mkTyS (by kernel_rfl) (by kernel_rfl)
instance : TyIface Try.prog 118 false := mkTyIface (by kernel_rfl)
instance : TyFunc Try.prog 118 := mkTyFunc (by kernel_rfl)
instance : TySz Try.prog 118 1 := mkTySz (by kernel_rfl)
instance : TyBytes Try.prog 118 8 := mkTyBytes (by kernel_rfl)
instance : TyZero Try.prog 118 (.nilFunc) := mkTyZero (by kernel_rfl)
instance : TyS Try.prog 119 := mkTyS (by kernel_rfl) (by kernel_rfl)
instance : TyIface Try.prog 119 false := mkTyIface (by kernel_rfl)
instance : TyFunc Try.prog 119 := mkTyFunc (by kernel_rfl)
instance : TySz Try.prog 119 1 := mkTySz (by kernel_rfl)
instance : TyBytes Try.prog 119 8 := mkTyBytes (by kernel_rfl)
instance : TyZero Try.prog 119 (.nilFunc) := mkTyZero (by kernel_rfl)
instance : TyS Try.prog 120 := mkTyS (by kernel_rfl) (by kernel_rfl)
instance : TyIface Try.prog 120 false := mkTyIface (by kernel_rfl)
instance : TyFunc Try.prog 120 := mkTyFunc (by kernel_rfl)
instance : TySz Try.prog 120 1 := mkTySz (by kernel_rfl)
instance : TyBytes Try.prog 120 8 := mkTyBytes (by kernel_rfl)
instance : TyZero Try.prog 120 (.nilFunc) := mkTyZero (by kernel_rfl)
instance : TyS Try.prog 121 := mkTyS (by kernel_rfl) (by kernel_rfl)
instance : TyIface Try.prog 121 false := mkTyIface (by kernel_rfl)
instance : TyFunc Try.prog 121 := mkTyFunc (by kernel_rfl)
instance : TySz Try.prog 121 1 := mkTySz (by kernel_rfl)
instance : TyBytes Try.prog 121 8 := mkTyBytes (by kernel_rfl)
instance : TyZero Try.prog 121 (.nilFunc) := mkTyZero (by kernel_rfl)
instance : TyS Try.prog 122 := mkTyS (by kernel_rfl) (by kernel_rfl)
instance : TyIface Try.prog 122 false := mkTyIface (by kernel_rfl)
instance : TyFunc Try.prog 122 := mkTyFunc (by kernel_rfl)
instance : TySz Try.prog 122 1 := mkTySz (by kernel_rfl)
instance : TyBytes Try.prog 122 8 := mkTyBytes (by kernel_rfl)
instance : TyZero Try.prog 122 (.nilFunc) := mkTyZero (by kernel_rfl)
instance : TyS Try.prog 123 := mkTyS (by kernel_rfl) (by kernel_rfl)
instance : TyIface Try.prog 123 false := mkTyIface (by kernel_rfl)
instance : TyFunc Try.prog 123 := mkTyFunc (by kernel_rfl)
instance : TySz Try.prog 123 1 := mkTySz (by kernel_rfl)
instance : TyBytes Try.prog 123 8 := mkTyBytes (by kernel_rfl)
instance : TyZero Try.prog 123 (.nilFunc) := mkTyZero (by kernel_rfl)
instance : TyS Try.prog 124 := mkTyS (by kernel_rfl) (by kernel_rfl)
instance : TyIface Try.prog 124 false := mkTyIface (by kernel_rfl)
instance : TyFunc Try.prog 124 := mkTyFunc (by kernel_rfl)
instance : TySz Try.prog 124 1 := mkTySz (by kernel_rfl)
instance : TyBytes Try.prog 124 8 := mkTyBytes (by kernel_rfl)
instance : TyZero Try.prog 124 (.nilFunc) := mkTyZero (by kernel_rfl)
instance : TyS Try.prog 125 := mkTyS (by kernel_rfl) (by kernel_rfl)
instance : TyIface Try.prog 125 false := mkTyIface (by kernel_rfl)
instance : TySz Try.prog 125 1 := mkTySz (by kernel_rfl)
instance : TyBytes Try.prog 125 24 := mkTyBytes (by kernel_rfl)
instance : TyZero Try.prog 125 (.slice none 0 0) := mkTyZero (by kernel_rfl)
instance : TySlice Try.prog 125 257 := ⟨by kernel_rfl⟩
instance : TyA Try.prog 126 2 := mkTyA (by kernel_rfl) (by kernel_rfl)
instance : TyIface Try.prog 126 false := mkTyIface (by kernel_rfl)
instance : TySz Try.prog 126 2 := mkTySz (by kernel_rfl)
instance : TyBytes Try.prog 126 32 := mkTyBytes (by kernel_rfl)
instance : TyZero Try.prog 126 (.agg ⟨[.int .i64 0, .slice none 0 0]⟩) := mkTyZero (by kernel_rfl)
instance : NoGuard Try.prog 126 := ⟨by kernel_rfl⟩
instance : Fld Try.prog 126 0 0 3 := mkFld (by kernel_rfl)
instance : Fld Try.prog 126 1 1 125 := mkFld (by kernel_rfl)
instance : TyPlaces Try.prog 126 (([(0, 1), (1, 1)] : List (Nat × Nat))[·]?) := mkTyPlaces (by kernel_rfl)
instance : TyA Try.prog 127 2 := mkTyA (by kernel_rfl) (by kernel_rfl)
instance : TyIface Try.prog 127 false := mkTyIface (by kernel_rfl)
instance : TySz Try.prog 127 2 := mkTySz (by kernel_rfl)
instance : TyBytes Try.prog 127 32 := mkTyBytes (by kernel_rfl)
instance : TyZero Try.prog 127 (.agg ⟨[.int .i64 0, .slice none 0 0]⟩) := mkTyZero (by kernel_rfl)
instance : NoGuard Try.prog 127 := ⟨by kernel_rfl⟩
instance : TyFlds Try.prog 127 [(0, 3), (1, 125)] := mkTyFlds (by kernel_rfl)
instance : Fld Try.prog 127 0 0 3 := mkFld (by kernel_rfl)
instance : Fld Try.prog 127 1 1 125 := mkFld (by kernel_rfl)
instance : TyPlaces Try.prog 127 (([(0, 1), (1, 1)] : List (Nat × Nat))[·]?) := mkTyPlaces (by kernel_rfl)
instance : TyS Try.prog 128 := mkTyS (by kernel_rfl) (by kernel_rfl)
instance : TyIface Try.prog 128 false := mkTyIface (by kernel_rfl)
instance : TySz Try.prog 128 1 := mkTySz (by kernel_rfl)
instance : TyBytes Try.prog 128 24 := mkTyBytes (by kernel_rfl)
instance : TyZero Try.prog 128 (.slice none 0 0) := mkTyZero (by kernel_rfl)
instance : TySlice Try.prog 128 53 := ⟨by kernel_rfl⟩
instance : TyS Try.prog 130 := mkTyS (by kernel_rfl) (by kernel_rfl)
instance : TyIface Try.prog 130 false := mkTyIface (by kernel_rfl)
instance : TyFunc Try.prog 130 := mkTyFunc (by kernel_rfl)
instance : TySz Try.prog 130 1 := mkTySz (by kernel_rfl)
instance : TyBytes Try.prog 130 8 := mkTyBytes (by kernel_rfl)
instance : TyZero Try.prog 130 (.nilFunc) := mkTyZero (by kernel_rfl)
instance : TyS Try.prog 131 := mkTyS (by kernel_rfl) (by kernel_rfl)
instance : TyIface Try.prog 131 false := mkTyIface (by kernel_rfl)
instance : TyFunc Try.prog 131 := mkTyFunc (by kernel_rfl)
instance : TySz Try.prog 131 1 := mkTySz (by kernel_rfl)
instance : TyBytes Try.prog 131 8 := mkTyBytes (by kernel_rfl)
instance : TyZero Try.prog 131 (.nilFunc) := mkTyZero (by kernel_rfl)
instance : TyS Try.prog 132 := mkTyS (by kernel_rfl) (by kernel_rfl)
instance : TyIface Try.prog 132 false := mkTyIface (by kernel_rfl)
instance : TyFunc Try.prog 132 := mkTyFunc (by kernel_rfl)
instance : TySz Try.prog 132 1 := mkTySz (by kernel_rfl)
instance : TyBytes Try.prog 132 8 := mkTyBytes (by kernel_rfl)
instance : TyZero Try.prog 132 (.nilFunc) := mkTyZero (by kernel_rfl)
instance : TyA Try.prog 133 3 := mkTyA (by kernel_rfl) (by kernel_rfl)
instance : TyIface Try.prog 133 false := mkTyIface (by kernel_rfl)
instance : TySz Try.prog 133 3 := mkTySz (by kernel_rfl)
instance : TyBytes Try.prog 133 24 := mkTyBytes (by kernel_rfl)
instance : TyZero Try.prog 133 (.agg ⟨[.int .i64 0, .int .u16 0, .int .i64 0]⟩) := mkTyZero (by kernel_rfl)
instance : NoGuard Try.prog 133 := ⟨by kernel_rfl⟩
instance : Fld Try.prog 133 0 0 26 := mkFld (by kernel_rfl)
instance : Fld Try.prog 133 1 2 3 := mkFld (by kernel_rfl)
instance : TyPlaces Try.prog 133 (([(0, 2), (2, 1)] : List (Nat × Nat))[·]?) := mkTyPlaces (by kernel_rfl)
instance : TyA Try.prog 134 3 := mkTyA (by kernel_rfl) (by kernel_rfl)
instance : TyIface Try.prog 134 false := mkTyIface (by kernel_rfl)
instance : TySz Try.prog 134 3 := mkTySz (by kernel_rfl)
instance : TyBytes Try.prog 134 24 := mkTyBytes (by kernel_rfl)
instance : TyZero Try.prog 134 (.agg ⟨[.int .i64 0, .int .u16 0, .int .i64 0]⟩) := mkTyZero (by kernel_rfl)
instance : NoGuard Try.prog 134 := ⟨by kernel_rfl⟩
instance : TyFlds Try.prog 134 [(0, 26), (2, 3)] := mkTyFlds (by kernel_rfl)
instance : Fld Try.prog 134 0 0 26 := mkFld (by kernel_rfl)
instance : Fld Try.prog 134 1 2 3 := mkFld (by kernel_rfl)
instance : TyPlaces Try.prog 134 (([(0, 2), (2, 1)] : List (Nat × Nat))[·]?) := mkTyPlaces (by kernel_rfl)
instance : TyS Try.prog 135 := mkTyS (by kernel_rfl) (by kernel_rfl)
instance : TyIface Try.prog 135 false := mkTyIface (by kernel_rfl)
instance : TySz Try.prog 135 1 := mkTySz (by kernel_rfl)
instance : TyBytes Try.prog 135 8 := mkTyBytes (by kernel_rfl)
instance : TyZero Try.prog 135 (.pointer none) := mkTyZero (by kernel_rfl)
instance : TyPtr Try.prog 135 208 := ⟨by kernel_rfl⟩
instance : TyS Try.prog 136 := mkTyS (by kernel_rfl) (by kernel_rfl)
instance : TyIface Try.prog 136 false := mkTyIface (by kernel_rfl)
instance : TyFunc Try.prog 136 := mkTyFunc (by kernel_rfl)
instance : TySz Try.prog 136 1 := mkTySz (by kernel_rfl)
instance : TyBytes Try.prog 136 8 := mkTyBytes (by kernel_rfl)
instance : TyZero Try.prog 136 (.nilFunc) := mkTyZero (by kernel_rfl)
instance : TyS Try.prog 137 := mkTyS (by kernel_rfl) (by kernel_rfl)
instance : TyIface Try.prog 137 false := mkTyIface (by kernel_rfl)
instance : TyFunc Try.prog 137 := mkTyFunc (by kernel_rfl)
instance : TySz Try.prog 137 1 := mkTySz (by kernel_rfl)
instance : TyBytes Try.prog 137 8 := mkTyBytes (by kernel_rfl)
instance : TyZero Try.prog 137 (.nilFunc) := mkTyZero (by kernel_rfl)
instance : TyS Try.prog 138 := mkTyS (by kernel_rfl) (by kernel_rfl)
instance : TyIface Try.prog 138 false := mkTyIface (by kernel_rfl)
instance : TyFunc Try.prog 138 := mkTyFunc (by kernel_rfl)
instance : TySz Try.prog 138 1 := mkTySz (by kernel_rfl)
instance : TyBytes Try.prog 138 8 := mkTyBytes (by kernel_rfl)
instance : TyZero Try.prog 138 (.nilFunc) := mkTyZero (by kernel_rfl)
instance : TyS Try.prog 139 := mkTyS (by kernel_rfl) (by kernel_rfl)
instance : TyIface Try.prog 139 false := mkTyIface (by kernel_rfl)
instance : TyFunc Try.prog 139 := mkTyFunc (by kernel_rfl)
instance : TySz Try.prog 139 1 := mkTySz (by kernel_rfl)
instance : TyBytes Try.prog 139 8 := mkTyBytes (by kernel_rfl)
instance : TyZero Try.prog 139 (.nilFunc) := mkTyZero (by kernel_rfl)
instance : TyS Try.prog 140 := mkTyS (by kernel_rfl) (by kernel_rfl)
instance : TyIface Try.prog 140 false := mkTyIface (by kernel_rfl)
instance : TyFunc Try.prog 140 := mkTyFunc (by kernel_rfl)
instance : TySz Try.prog 140 1 := mkTySz (by kernel_rfl)
instance : TyBytes Try.prog 140 8 := mkTyBytes (by kernel_rfl)
instance : TyZero Try.prog 140 (.nilFunc) := mkTyZero (by kernel_rfl)
instance : TyS Try.prog 141 := mkTyS (by kernel_rfl) (by kernel_rfl)
instance : TyIface Try.prog 141 false := mkTyIface (by kernel_rfl)
instance : TyFunc Try.prog 141 := mkTyFunc (by kernel_rfl)
instance : TySz Try.prog 141 1 := mkTySz (by kernel_rfl)
instance : TyBytes Try.prog 141 8 := mkTyBytes (by kernel_rfl)
instance : TyZero Try.prog 141 (.nilFunc) := mkTyZero (by kernel_rfl)
instance : TyS Try.prog 142 := mkTyS (by kernel_rfl) (by kernel_rfl)
instance : TyIface Try.prog 142 false := mkTyIface (by kernel_rfl)
instance : TyFunc Try.prog 142 := mkTyFunc (by kernel_rfl)
instance : TySz Try.prog 142 1 := mkTySz (by kernel_rfl)
instance : TyBytes Try.prog 142 8 := mkTyBytes (by kernel_rfl)
instance : TyZero Try.prog 142 (.nilFunc) := mkTyZero (by kernel_rfl)
instance : TyA Try.prog 143 5 := mkTyA (by kernel_rfl) (by kernel_rfl)
instance : TyIface Try.prog 143 false := mkTyIface (by kernel_rfl)
instance : TySz Try.prog 143 5 := mkTySz (by kernel_rfl)
instance : TyBytes Try.prog 143 56 := mkTyBytes (by kernel_rfl)
instance : TyZero Try.prog 143 (.agg ⟨[.int .u64 0, .int .u64 0, .int .i64 0, .int .i64 0, .slice none 0 0]⟩) := mkTyZero (by kernel_rfl)
instance : NoGuard Try.prog 143 := ⟨by kernel_rfl⟩
instance : Fld Try.prog 143 0 0 53 := mkFld (by kernel_rfl)
instance : Fld Try.prog 143 1 1 53 := mkFld (by kernel_rfl)
instance : Fld Try.prog 143 2 2 3 := mkFld (by kernel_rfl)
instance : Fld Try.prog 143 3 3 3 := mkFld (by kernel_rfl)
instance : Fld Try.prog 143 4 4 22 := mkFld (by kernel_rfl)
instance : TyPlaces Try.prog 143 (([(0, 1), (1, 1), (2, 1), (3, 1), (4, 1)] : List (Nat × Nat))[·]?) := mkTyPlaces (by kernel_rfl)
instance : TyA Try.prog 144 5 := mkTyA (by kernel_rfl) (by kernel_rfl)
instance : TyIface Try.prog 144 false := mkTyIface (by kernel_rfl)
instance : TySz Try.prog 144 5 := mkTySz (by kernel_rfl)
instance : TyBytes Try.prog 144 56 := mkTyBytes (by kernel_rfl)
instance : TyZero Try.prog 144 (.agg ⟨[.int .u64 0, .int .u64 0, .int .i64 0, .int .i64 0, .slice none 0 0]⟩) := mkTyZero (by kernel_rfl)
instance : NoGuard Try.prog 144 := ⟨by kernel_rfl⟩
instance : TyFlds Try.prog 144 [(0, 53), (1, 53), (2, 3), (3, 3), (4, 22)] := mkTyFlds (by kernel_rfl)
instance : Fld Try.prog 144 0 0 53 := mkFld (by kernel_rfl)
instance : Fld Try.prog 144 1 1 53 := mkFld (by kernel_rfl)
instance : Fld Try.prog 144 2 2 3 := mkFld (by kernel_rfl)
instance : Fld Try.prog 144 3 3 3 := mkFld (by kernel_rfl)
instance : Fld Try.prog 144 4 4 22 := mkFld (by kernel_rfl)
instance : TyPlaces Try.prog 144 (([(0, 1), (1, 1), (2, 1), (3, 1), (4, 1)] : List (Nat × Nat))[·]?) := mkTyPlaces (by kernel_rfl)
instance : TyA Try.prog 145 9 := mkTyA (by kernel_rfl) (by kernel_rfl)
instance : TyIface Try.prog 145 false := mkTyIface (by kernel_rfl)
instance : TySz Try.prog 145 9 := mkTySz (by kernel_rfl)
instance : TyBytes Try.prog 145 104 := mkTyBytes (by kernel_rfl)
instance : TyZero Try.prog 145 (.agg ⟨[.int .u64 0, .int .u64 0, .int .i64 0, .int .i64 0, .slice none 0 0, .pointer none, .slice none 0 0, .int .i64 0, .bool false]⟩) := mkTyZero (by kernel_rfl)
instance : NoGuard Try.prog 145 := ⟨by kernel_rfl⟩
instance : Fld Try.prog 145 0 0 144 := mkFld (by kernel_rfl)
instance : Fld Try.prog 145 1 5 45 := mkFld (by kernel_rfl)
instance : Fld Try.prog 145 2 6 43 := mkFld (by kernel_rfl)
instance : Fld Try.prog 145 3 7 3 := mkFld (by kernel_rfl)
instance : Fld Try.prog 145 4 8 4 := mkFld (by kernel_rfl)
instance : TyPlaces Try.prog 145 (([(0, 5), (5, 1), (6, 1), (7, 1), (8, 1)] : List (Nat × Nat))[·]?) := mkTyPlaces (by kernel_rfl)
instance : TyA Try.prog 146 9 := mkTyA (by kernel_rfl) (by kernel_rfl)
instance : TyIface Try.prog 146 false := mkTyIface (by kernel_rfl)
instance : TySz Try.prog 146 9 := mkTySz (by kernel_rfl)
instance : TyBytes Try.prog 146 104 := mkTyBytes (by kernel_rfl)
instance : TyZero Try.prog 146 (.agg ⟨[.int .u64 0, .int .u64 0, .int .i64 0, .int .i64 0, .slice none 0 0, .pointer none, .slice none 0 0, .int .i64 0, .bool false]⟩) := mkTyZero (by kernel_rfl)
instance : NoGuard Try.prog 146 := ⟨by kernel_rfl⟩
instance : TyFlds Try.prog 146 [(0, 144), (5, 45), (6, 43), (7, 3), (8, 4)] := mkTyFlds (by kernel_rfl)
instance : Fld Try.prog 146 0 0 144 := mkFld (by kernel_rfl)
instance : Fld Try.prog 146 1 5 45 := mkFld (by kernel_rfl)
instance : Fld Try.prog 146 2 6 43 := mkFld (by kernel_rfl)
instance : Fld Try.prog 146 3 7 3 := mkFld (by kernel_rfl)
instance : Fld Try.prog 146 4 8 4 := mkFld (by kernel_rfl)
instance : TyPlaces Try.prog 146 (([(0, 5), (5, 1), (6, 1), (7, 1), (8, 1)] : List (Nat × Nat))[·]?) := mkTyPlaces (by kernel_rfl)
instance : TyS Try.prog 147 := mkTyS (by kernel_rfl) (by kernel_rfl)
instance : TyIface Try.prog 147 false := mkTyIface (by kernel_rfl)
instance : TyFunc Try.prog 147 := mkTyFunc (by kernel_rfl)
instance : TySz Try.prog 147 1 := mkTySz (by kernel_rfl)
instance : TyBytes Try.prog 147 8 := mkTyBytes (by kernel_rfl)
instance : TyZero Try.prog 147 (.nilFunc) := mkTyZero (by kernel_rfl)
instance : TyS Try.prog 148 := mkTyS (by kernel_rfl) (by kernel_rfl)
instance : TyIface Try.prog 148 false := mkTyIface (by kernel_rfl)
instance : TyFunc Try.prog 148 := mkTyFunc (by kernel_rfl)
instance : TySz Try.prog 148 1 := mkTySz (by kernel_rfl)
instance : TyBytes Try.prog 148 8 := mkTyBytes (by kernel_rfl)
instance : TyZero Try.prog 148 (.nilFunc) := mkTyZero (by kernel_rfl)
instance : TyS Try.prog 149 := mkTyS (by kernel_rfl) (by kernel_rfl)
instance : TyIface Try.prog 149 false := mkTyIface (by kernel_rfl)
instance : TyFunc Try.prog 149 := mkTyFunc (by kernel_rfl)
instance : TySz Try.prog 149 1 := mkTySz (by kernel_rfl)
instance : TyBytes Try.prog 149 8 := mkTyBytes (by kernel_rfl)
instance : TyZero Try.prog 149 (.nilFunc) := mkTyZero (by kernel_rfl)
instance : TyS Try.prog 150 := mkTyS (by kernel_rfl) (by kernel_rfl)
instance : TyIface Try.prog 150 false := mkTyIface (by kernel_rfl)
instance : TyFunc Try.prog 150 := mkTyFunc (by kernel_rfl)
instance : TySz Try.prog 150 1 := mkTySz (by kernel_rfl)
instance : TyBytes Try.prog 150 8 := mkTyBytes (by kernel_rfl)
instance : TyZero Try.prog 150 (.nilFunc) := mkTyZero (by kernel_rfl)
instance : TyS Try.prog 151 := mkTyS (by kernel_rfl) (by kernel_rfl)
instance : TyIface Try.prog 151 false := mkTyIface (by kernel_rfl)
instance : TyFunc Try.prog 151 := mkTyFunc (by kernel_rfl)
instance : TySz Try.prog 151 1 := mkTySz (by kernel_rfl)
instance : TyBytes Try.prog 151 8 := mkTyBytes (by kernel_rfl)
instance : TyZero Try.prog 151 (.nilFunc) := mkTyZero (by kernel_rfl)
instance : TyS Try.prog 152 := mkTyS (by kernel_rfl) (by kernel_rfl)
instance : TyIface Try.prog 152 false := mkTyIface (by kernel_rfl)
instance : TyFunc Try.prog 152 := mkTyFunc (by kernel_rfl)
instance : TySz Try.prog 152 1 := mkTySz (by kernel_rfl)
instance : TyBytes Try.prog 152 8 := mkTyBytes (by kernel_rfl)
instance : TyZero Try.prog 152 (.nilFunc) := mkTyZero (by kernel_rfl)
instance : TyS Try.prog 153 := mkTyS (by kernel_rfl) (by kernel_rfl)
instance : TyIface Try.prog 153 false := mkTyIface (by kernel_rfl)
instance : TyFunc Try.prog 153 := mkTyFunc (by kernel_rfl)
instance : TySz Try.prog 153 1 := mkTySz (by kernel_rfl)
instance : TyBytes Try.prog 153 8 := mkTyBytes (by kernel_rfl)
instance : TyZero Try.prog 153 (.nilFunc) := mkTyZero (by kernel_rfl)
instance : TyS Try.prog 154 := mkTyS (by kernel_rfl) (by kernel_rfl)
instance : TyIface Try.prog 154 false := mkTyIface (by kernel_rfl)
instance : TyFunc Try.prog 154 := mkTyFunc (by kernel_rfl)
instance : TySz Try.prog 154 1 := mkTySz (by kernel_rfl)
instance : TyBytes Try.prog 154 8 := mkTyBytes (by kernel_rfl)
instance : TyZero Try.prog 154 (.nilFunc) := mkTyZero (by kernel_rfl)
instance : TyS Try.prog 155 := mkTyS (by kernel_rfl) (by kernel_rfl)
instance : TyIface Try.prog 155 false := mkTyIface (by kernel_rfl)
instance : TyFunc Try.prog 155 := mkTyFunc (by kernel_rfl)
instance : TySz Try.prog 155 1 := mkTySz (by kernel_rfl)
instance : TyBytes Try.prog 155 8 := mkTyBytes (by kernel_rfl)
instance : TyZero Try.prog 155 (.nilFunc) := mkTyZero (by kernel_rfl)
instance : TyS Try.prog 156 := mkTyS (by kernel_rfl) (by kernel_rfl)
instance : TyIface Try.prog 156 false := mkTyIface (by kernel_rfl)
instance : TyFunc Try.prog 156 := mkTyFunc (by kernel_rfl)
instance : TySz Try.prog 156 1 := mkTySz (by kernel_rfl)
instance : TyBytes Try.prog 156 8 := mkTyBytes (by kernel_rfl)
instance : TyZero Try.prog 156 (.nilFunc) := mkTyZero (by kernel_rfl)
instance : TyS Try.prog 157 := mkTyS (by kernel_rfl) (by kernel_rfl)
instance : TyIface Try.prog 157 false := mkTyIface (by kernel_rfl)
instance : TyFunc Try.prog 157 := mkTyFunc (by kernel_rfl)
instance : TySz Try.prog 157 1 := mkTySz (by kernel_rfl)
instance : TyBytes Try.prog 157 8 := mkTyBytes (by kernel_rfl)
instance : TyZero Try.prog 157 (.nilFunc) := mkTyZero (by kernel_rfl)
instance : TyS Try.prog 158 := mkTyS (by kernel_rfl) (by kernel_rfl)
instance : TyIface Try.prog 158 false := mkTyIface (by kernel_rfl)
instance : TyFunc Try.prog 158 := mkTyFunc (by kernel_rfl)
instance : TySz Try.prog 158 1 := mkTySz (by kernel_rfl)
instance : TyBytes Try.prog 158 8 := mkTyBytes (by kernel_rfl)
instance : TyZero Try.prog 158 (.nilFunc) := mkTyZero (by kernel_rfl)
instance : TyS Try.prog 159 := mkTyS (by kernel_rfl) (by kernel_rfl)
instance : TyIface Try.prog 159 false := mkTyIface (by kernel_rfl)
instance : TyFunc Try.prog 159 := mkTyFunc (by kernel_rfl)
instance : TySz Try.prog 159 1 := mkTySz (by kernel_rfl)
instance : TyBytes Try.prog 159 8 := mkTyBytes (by kernel_rfl)
instance : TyZero Try.prog 159 (.nilFunc) := mkTyZero (by kernel_rfl)
instance : TyS Try.prog 160 := mkTyS (by kernel_rfl) (by kernel_rfl)
instance : TyIface Try.prog 160 false := mkTyIface (by kernel_rfl)
instance : TyFunc Try.prog 160 := mkTyFunc (by kernel_rfl)
instance : TySz Try.prog 160 1 := mkTySz (by kernel_rfl)
instance : TyBytes Try.prog 160 8 := mkTyBytes (by kernel_rfl)
instance : TyZero Try.prog 160 (.nilFunc) := mkTyZero (by kernel_rfl)
instance : TyS Try.prog 161 := mkTyS (by kernel_rfl) (by kernel_rfl)
instance : TyIface Try.prog 161 false := mkTyIface (by kernel_rfl)
instance : TyFunc Try.prog 161 := mkTyFunc (by kernel_rfl)
instance : TySz Try.prog 161 1 := mkTySz (by kernel_rfl)
instance : TyBytes Try.prog 161 8 := mkTyBytes (by kernel_rfl)
instance : TyZero Try.prog 161 (.nilFunc) := mkTyZero (by kernel_rfl)
instance : TyS Try.prog 162 := mkTyS (by kernel_rfl) (by kernel_rfl)
instance : TyIface Try.prog 162 false := mkTyIface (by kernel_rfl)
instance : TyFunc Try.prog 162 := mkTyFunc (by kernel_rfl)
instance : TySz Try.prog 162 1 := mkTySz (by kernel_rfl)
instance : TyBytes Try.prog 162 8 := mkTyBytes (by kernel_rfl)
instance : TyZero Try.prog 162 (.nilFunc) := mkTyZero (by kernel_rfl)
instance : TyA Try.prog 163 128 := mkTyA (by kernel_rfl) (by kernel_rfl)
instance : TyIface Try.prog 163 false := mkTyIface (by kernel_rfl)
instance : TySz Try.prog 163 128 := mkTySz (by kernel_rfl)
instance : TyBytes Try.prog 163 128 := mkTyBytes (by kernel_rfl)
instance : TyZero Try.prog 163 (.agg ⟨List.replicate 128 (.int .u8 0)⟩) := mkTyZero (by kernel_rfl)
instance : NoGuard Try.prog 163 := ⟨by kernel_rfl⟩
instance : TyArr Try.prog 163 2 102 := ⟨by kernel_rfl⟩
instance : TyPlaces Try.prog 163 (fun i => some (i * 64, 64)) := mkTyPlacesA (n := 2) (e := 102) (by kernel_rfl) (by kernel_rfl)
instance : TyS Try.prog 165 := mkTyS (by kernel_rfl) (by kernel_rfl)
instance : TyIface Try.prog 165 false := mkTyIface (by kernel_rfl)
instance : TyFunc Try.prog 165 := mkTyFunc (by kernel_rfl)
instance : TySz Try.prog 165 1 := mkTySz (by kernel_rfl)
instance : TyBytes Try.prog 165 8 := mkTyBytes (by kernel_rfl)
instance : TyZero Try.prog 165 (.nilFunc) := mkTyZero (by kernel_rfl)
instance : TyS Try.prog 166 := mkTyS (by kernel_rfl) (by kernel_rfl)
instance : TyIface Try.prog 166 false := mkTyIface (by kernel_rfl)
instance : TySz Try.prog 166 1 := mkTySz (by kernel_rfl)
instance : TyBytes Try.prog 166 24 := mkTyBytes (by kernel_rfl)
instance : TyZero Try.prog 166 (.slice none 0 0) := mkTyZero (by kernel_rfl)
instance : TySlice Try.prog 166 102 := ⟨by kernel_rfl⟩
instance : TyS Try.prog 167 := mkTyS (by kernel_rfl) (by kernel_rfl)
instance : TyIface Try.prog 167 false := mkTyIface (by kernel_rfl)
instance : TySz Try.prog 167 1 := mkTySz (by kernel_rfl)
instance : TyBytes Try.prog 167 8 := mkTyBytes (by kernel_rfl)
instance : TyZero Try.prog 167 (.map none) := mkTyZero (by kernel_rfl)
instance : TyMap Try.prog 167 3 102 := ⟨by kernel_rfl⟩
instance : TyA Try.prog 168 6 := mkTyA (by kernel_rfl) (by kernel_rfl)
instance : TyIface Try.prog 168 false := mkTyIface (by kernel_rfl)
instance : TySz Try.prog 168 6 := mkTySz (by kernel_rfl)
instance : TyBytes Try.prog 168 64 := mkTyBytes (by kernel_rfl)
instance : TyZero Try.prog 168 (.agg ⟨[.slice none 0 0, .map none, .int .i64 0, .int .i64 0, .int .i64 0, .bool false]⟩) := mkTyZero (by kernel_rfl)
instance : NoGuard Try.prog 168 := ⟨by kernel_rfl⟩
instance : Fld Try.prog 168 0 0 166 := mkFld (by kernel_rfl)
instance : Fld Try.prog 168 1 1 167 := mkFld (by kernel_rfl)
instance : Fld Try.prog 168 2 2 3 := mkFld (by kernel_rfl)
instance : Fld Try.prog 168 3 3 3 := mkFld (by kernel_rfl)
instance : Fld Try.prog 168 4 4 3 := mkFld (by kernel_rfl)
instance : Fld Try.prog 168 5 5 4 := mkFld (by kernel_rfl)
instance : TyPlaces Try.prog 168 (([(0, 1), (1, 1), (2, 1), (3, 1), (4, 1), (5, 1)] : List (Nat × Nat))[·]?) := mkTyPlaces (by kernel_rfl)
instance : TyA Try.prog 169 6 := mkTyA (by kernel_rfl) (by kernel_rfl)
instance : TyIface Try.prog 169 false := mkTyIface (by kernel_rfl)
instance : TySz Try.prog 169 6 := mkTySz (by kernel_rfl)
instance : TyBytes Try.prog 169 64 := mkTyBytes (by kernel_rfl)
instance : TyZero Try.prog 169 (.agg ⟨[.slice none 0 0, .map none, .int .i64 0, .int .i64 0, .int .i64 0, .bool false]⟩) := mkTyZero (by kernel_rfl)
instance : NoGuard Try.prog 169 := ⟨by kernel_rfl⟩
instance : TyFlds Try.prog 169 [(0, 166), (1, 167), (2, 3), (3, 3), (4, 3), (5, 4)] := mkTyFlds (by kernel_rfl)
instance : Fld Try.prog 169 0 0 166 := mkFld (by kernel_rfl)
instance : Fld Try.prog 169 1 1 167 := mkFld (by kernel_rfl)
instance : Fld Try.prog 169 2 2 3 := mkFld (by kernel_rfl)
instance : Fld Try.prog 169 3 3 3 := mkFld (by kernel_rfl)
instance : Fld Try.prog 169 4 4 3 := mkFld (by kernel_rfl)
instance : Fld Try.prog 169 5 5 4 := mkFld (by kernel_rfl)
instance : TyPlaces Try.prog 169 (([(0, 1), (1, 1), (2, 1), (3, 1), (4, 1), (5, 1)] : List (Nat × Nat))[·]?) := mkTyPlaces (by kernel_rfl)
instance : TyS Try.prog 170 := mkTyS (by kernel_rfl) (by kernel_rfl)
instance : TyIface Try.prog 170 false := mkTyIface (by kernel_rfl)
instance : TyFunc Try.prog 170 := mkTyFunc (by kernel_rfl)
instance : TySz Try.prog 170 1 := mkTySz (by kernel_rfl)
instance : TyBytes Try.prog 170 8 := mkTyBytes (by kernel_rfl)
instance : TyZero Try.prog 170 (.nilFunc) := mkTyZero (by kernel_rfl)
instance : TyS Try.prog 171 := mkTyS (by kernel_rfl) (by kernel_rfl)
instance : TyIface Try.prog 171 false := mkTyIface (by kernel_rfl)
instance : TyFunc Try.prog 171 := mkTyFunc (by kernel_rfl)
instance : TySz Try.prog 171 1 := mkTySz (by kernel_rfl)
instance : TyBytes Try.prog 171 8 := mkTyBytes (by kernel_rfl)
instance : TyZero Try.prog 171 (.nilFunc) := mkTyZero (by kernel_rfl)
instance : TyS Try.prog 172 := mkTyS (by kernel_rfl) (by kernel_rfl)
instance : TyIface Try.prog 172 false := mkTyIface (by kernel_rfl)
instance : TyFunc Try.prog 172 := mkTyFunc (by kernel_rfl)
instance : TySz Try.prog 172 1 := mkTySz (by kernel_rfl)
instance : TyBytes Try.prog 172 8 := mkTyBytes (by kernel_rfl)
instance : TyZero Try.prog 172 (.nilFunc) := mkTyZero (by kernel_rfl)
instance : TyS Try.prog 173 := mkTyS (by kernel_rfl) (by kernel_rfl)
instance : TyIface Try.prog 173 false := mkTyIface (by kernel_rfl)
instance : TyFunc Try.prog 173 := mkTyFunc (by kernel_rfl)
instance : TySz Try.prog 173 1 := mkTySz (by kernel_rfl)
instance : TyBytes Try.prog 173 8 := mkTyBytes (by kernel_rfl)
instance : TyZero Try.prog 173 (.nilFunc) := mkTyZero (by kernel_rfl)
instance : TyS Try.prog 174 := mkTyS (by kernel_rfl) (by kernel_rfl)
instance : TyIface Try.prog 174 false := mkTyIface (by kernel_rfl)
instance : TyFunc Try.prog 174 := mkTyFunc (by kernel_rfl)
instance : TySz Try.prog 174 1 := mkTySz (by kernel_rfl)
instance : TyBytes Try.prog 174 8 := mkTyBytes (by kernel_rfl)
instance : TyZero Try.prog 174 (.nilFunc) := mkTyZero (by kernel_rfl)
instance : TyS Try.prog 176 := mkTyS (by kernel_rfl) (by kernel_rfl)
instance : TyIface Try.prog 176 false := mkTyIface (by kernel_rfl)
instance : TyFunc Try.prog 176 := mkTyFunc (by kernel_rfl)
instance : TySz Try.prog 176 1 := mkTySz (by kernel_rfl)
instance : TyBytes Try.prog 176 8 := mkTyBytes (by kernel_rfl)
instance : TyZero Try.prog 176 (.nilFunc) := mkTyZero (by kernel_rfl)
instance : TyS Try.prog 178 := mkTyS (by kernel_rfl) (by kernel_rfl)
instance : TyIface Try.prog 178 false := mkTyIface (by kernel_rfl)
instance : TyFunc Try.prog 178 := mkTyFunc (by kernel_rfl)
instance : TySz Try.prog 178 1 := mkTySz (by kernel_rfl)
instance : TyBytes Try.prog 178 8 := mkTyBytes (by kernel_rfl)
instance : TyZero Try.prog 178 (.nilFunc) := mkTyZero (by kernel_rfl)
instance : TyA Try.prog 179 2 := mkTyA (by kernel_rfl) (by kernel_rfl)
instance : TyIface Try.prog 179 false := mkTyIface (by kernel_rfl)
instance : TySz Try.prog 179 2 := mkTySz (by kernel_rfl)
instance : TyBytes Try.prog 179 16 := mkTyBytes (by kernel_rfl)
instance : TyZero Try.prog 179 (.agg ⟨[.int .i64 0, .int .u64 0]⟩) := mkTyZero (by kernel_rfl)
instance : NoGuard Try.prog 179 := ⟨by kernel_rfl⟩
instance : Fld Try.prog 179 0 0 3 := mkFld (by kernel_rfl)
instance : Fld Try.prog 179 1 1 53 := mkFld (by kernel_rfl)
instance : TyPlaces Try.prog 179 (([(0, 1), (1, 1)] : List (Nat × Nat))[·]?) := mkTyPlaces (by kernel_rfl)
instance : TyA Try.prog 180 2 := mkTyA (by kernel_rfl) (by kernel_rfl)
instance : TyIface Try.prog 180 false := mkTyIface (by kernel_rfl)
instance : TySz Try.prog 180 2 := mkTySz (by kernel_rfl)
instance : TyBytes Try.prog 180 16 := mkTyBytes (by kernel_rfl)
instance : TyZero Try.prog 180 (.agg ⟨[.int .i64 0, .int .u64 0]⟩) := mkTyZero (by kernel_rfl)
instance : NoGuard Try.prog 180 := ⟨by kernel_rfl⟩
instance : TyFlds Try.prog 180 [(0, 3), (1, 53)] := mkTyFlds (by kernel_rfl)
instance : Fld Try.prog 180 0 0 3 := mkFld (by kernel_rfl)
instance : Fld Try.prog 180 1 1 53 := mkFld (by kernel_rfl)
instance : TyPlaces Try.prog 180 (([(0, 1), (1, 1)] : List (Nat × Nat))[·]?) := mkTyPlaces (by kernel_rfl)
instance : TyA Try.prog 181 7 := mkTyA (by kernel_rfl) (by kernel_rfl)
instance : TyIface Try.prog 181 false := mkTyIface (by kernel_rfl)
instance : TySz Try.prog 181 7 := mkTySz (by kernel_rfl)
instance : TyBytes Try.prog 181 120 := mkTyBytes (by kernel_rfl)
instance : TyZero Try.prog 181 (.agg ⟨[.int .i64 0, .int .i64 0, .slice none 0 0, .slice none 0 0, .int .i64 0, .slice none 0 0, .slice none 0 0]⟩) := mkTyZero (by kernel_rfl)
instance : NoGuard Try.prog 181 := ⟨by kernel_rfl⟩
instance : Fld Try.prog 181 0 0 3 := mkFld (by kernel_rfl)
instance : Fld Try.prog 181 1 1 38 := mkFld (by kernel_rfl)
instance : Fld Try.prog 181 2 4 38 := mkFld (by kernel_rfl)
instance : TyPlaces Try.prog 181 (([(0, 1), (1, 3), (4, 3)] : List (Nat × Nat))[·]?) := mkTyPlaces (by kernel_rfl)
instance : TyA Try.prog 182 7 := mkTyA (by kernel_rfl) (by kernel_rfl)
instance : TyIface Try.prog 182 false := mkTyIface (by kernel_rfl)
instance : TySz Try.prog 182 7 := mkTySz (by kernel_rfl)
instance : TyBytes Try.prog 182 120 := mkTyBytes (by kernel_rfl)
instance : TyZero Try.prog 182 (.agg ⟨[.int .i64 0, .int .i64 0, .slice none 0 0, .slice none 0 0, .int .i64 0, .slice none 0 0, .slice none 0 0]⟩) := mkTyZero (by kernel_rfl)
instance : NoGuard Try.prog 182 := ⟨by kernel_rfl⟩
instance : TyFlds Try.prog 182 [(0, 3), (1, 38), (4, 38)] := mkTyFlds (by kernel_rfl)
instance : Fld Try.prog 182 0 0 3 := mkFld (by kernel_rfl)
instance : Fld Try.prog 182 1 1 38 := mkFld (by kernel_rfl)
instance : Fld Try.prog 182 2 4 38 := mkFld (by kernel_rfl)
instance : TyPlaces Try.prog 182 (([(0, 1), (1, 3), (4, 3)] : List (Nat × Nat))[·]?) := mkTyPlaces (by kernel_rfl)
instance : TyS Try.prog 183 := mkTyS (by kernel_rfl) (by kernel_rfl)
instance : TyIface Try.prog 183 false := mkTyIface (by kernel_rfl)
instance : TyFunc Try.prog 183 := mkTyFunc (by kernel_rfl)
instance : TySz Try.prog 183 1 := mkTySz (by kernel_rfl)
instance : TyBytes Try.prog 183 8 := mkTyBytes (by kernel_rfl)
instance : TyZero Try.prog 183 (.nilFunc) := mkTyZero (by kernel_rfl)
instance : TyS Try.prog 184 := mkTyS (by kernel_rfl) (by kernel_rfl)
instance : TyIface Try.prog 184 false := mkTyIface (by kernel_rfl)
instance : TySz Try.prog 184 1 := mkTySz (by kernel_rfl)
instance : TyBytes Try.prog 184 8 := mkTyBytes (by kernel_rfl)
instance : TyZero Try.prog 184 (.pointer none) := mkTyZero (by kernel_rfl)
instance : TyPtr Try.prog 184 106 := ⟨by kernel_rfl⟩
instance : TyS Try.prog 185 := mkTyS (by kernel_rfl) (by kernel_rfl)
instance : TyIface Try.prog 185 false := mkTyIface (by kernel_rfl)
instance : TyFunc Try.prog 185 := mkTyFunc (by kernel_rfl)
instance : TySz Try.prog 185 1 := mkTySz (by kernel_rfl)
instance : TyBytes Try.prog 185 8 := mkTyBytes (by kernel_rfl)
instance : TyZero Try.prog 185 (.nilFunc) := mkTyZero (by kernel_rfl)
instance : TyS Try.prog 187 := mkTyS (by kernel_rfl) (by kernel_rfl)
instance : TyIface Try.prog 187 false := mkTyIface (by kernel_rfl)
instance : TyFunc Try.prog 187 := mkTyFunc (by kernel_rfl)
instance : TySz Try.prog 187 1 := mkTySz (by kernel_rfl)
instance : TyBytes Try.prog 187 8 := mkTyBytes (by kernel_rfl)
instance : TyZero Try.prog 187 (.nilFunc) := mkTyZero (by kernel_rfl)
instance : TyS Try.prog 188 := mkTyS (by kernel_rfl) (by kernel_rfl)
instance : TyIface Try.prog 188 false := mkTyIface (by kernel_rfl)
instance : TyFunc Try.prog 188 := mkTyFunc (by kernel_rfl)
instance : TySz Try.prog 188 1 := mkTySz (by kernel_rfl)
instance : TyBytes Try.prog 188 8 := mkTyBytes (by kernel_rfl)
instance : TyZero Try.prog 188 (.nilFunc) := mkTyZero (by kernel_rfl)
instance : TyS Try.prog 189 := mkTyS (by kernel_rfl) (by kernel_rfl)
instance : TyIface Try.prog 189 false := mkTyIface (by kernel_rfl)
instance : TyFunc Try.prog 189 := mkTyFunc (by kernel_rfl)
instance : TySz Try.prog 189 1 := mkTySz (by kernel_rfl)
instance : TyBytes Try.prog 189 8 := mkTyBytes (by kernel_rfl)
instance : TyZero Try.prog 189 (.nilFunc) := mkTyZero (by kernel_rfl)
instance : TyS Try.prog 190 := mkTyS (by kernel_rfl) (by kernel_rfl)
instance : TyIface Try.prog 190 false := mkTyIface (by kernel_rfl)
instance : TyFunc Try.prog 190 := mkTyFunc (by kernel_rfl)
instance : TySz Try.prog 190 1 := mkTySz (by kernel_rfl)
instance : TyBytes Try.prog 190 8 := mkTyBytes (by kernel_rfl)
instance : TyZero Try.prog 190 (.nilFunc) := mkTyZero (by kernel_rfl)
instance : TyS Try.prog 191 := mkTyS (by kernel_rfl) (by kernel_rfl)
instance : TyIface Try.prog 191 false := mkTyIface (by kernel_rfl)
instance : TyFunc Try.prog 191 := mkTyFunc (by kernel_rfl)
instance : TySz Try.prog 191 1 := mkTySz (by kernel_rfl)
instance : TyBytes Try.prog 191 8 := mkTyBytes (by kernel_rfl)
instance : TyZero Try.prog 191 (.nilFunc) := mkTyZero (by kernel_rfl)
instance : TyS Try.prog 192 := mkTyS (by kernel_rfl) (by kernel_rfl)
instance : TyIface Try.prog 192 false := mkTyIface (by kernel_rfl)
instance : TyFunc Try.prog 192 := mkTyFunc (by kernel_rfl)
instance : TySz Try.prog 192 1 := mkTySz (by kernel_rfl)
instance : TyBytes Try.prog 192 8 := mkTyBytes (by kernel_rfl)
instance : TyZero Try.prog 192 (.nilFunc) := mkTyZero (by kernel_rfl)
instance : TyS Try.prog 193 := mkTyS (by kernel_rfl) (by kernel_rfl)
instance : TyIface Try.prog 193 false := mkTyIface (by kernel_rfl)
instance : TyFunc Try.prog 193 := mkTyFunc (by kernel_rfl)
instance : TySz Try.prog 193 1 := mkTySz (by kernel_rfl)
instance : TyBytes Try.prog 193 8 := mkTyBytes (by kernel_rfl)
instance : TyZero Try.prog 193 (.nilFunc) := mkTyZero (by kernel_rfl)
instance : TyS Try.prog 195 := mkTyS (by kernel_rfl) (by kernel_rfl)
instance : TyIface Try.prog 195 false := mkTyIface (by kernel_rfl)
instance : TyFunc Try.prog 195 := mkTyFunc (by kernel_rfl)
instance : TySz Try.prog 195 1 := mkTySz (by kernel_rfl)
instance : TyBytes Try.prog 195 8 := mkTyBytes (by kernel_rfl)
instance : TyZero Try.prog 195 (.nilFunc) := mkTyZero (by kernel_rfl)
instance : TyS Try.prog 196 := mkTyS (by kernel_rfl) (by kernel_rfl)
instance : TyIface Try.prog 196 false := mkTyIface (by kernel_rfl)
instance : TyFunc Try.prog 196 := mkTyFunc (by kernel_rfl)
instance : TySz Try.prog 196 1 := mkTySz (by kernel_rfl)
instance : TyBytes Try.prog 196 8 := mkTyBytes (by kernel_rfl)
instance : TyZero Try.prog 196 (.nilFunc) := mkTyZero (by kernel_rfl)
instance : TyS Try.prog 197 := mkTyS (by kernel_rfl) (by kernel_rfl)
instance : TyIface Try.prog 197 false := mkTyIface (by kernel_rfl)
instance : TyFunc Try.prog 197 := mkTyFunc (by kernel_rfl)
instance : TySz Try.prog 197 1 := mkTySz (by kernel_rfl)
instance : TyBytes Try.prog 197 8 := mkTyBytes (by kernel_rfl)
instance : TyZero Try.prog 197 (.nilFunc) := mkTyZero (by kernel_rfl)
instance : TyS Try.prog 198 := mkTyS (by kernel_rfl) (by kernel_rfl)
instance : TyIface Try.prog 198 false := mkTyIface (by kernel_rfl)
instance : TyFunc Try.prog 198 := mkTyFunc (by kernel_rfl)
instance : TySz Try.prog 198 1 := mkTySz (by kernel_rfl)
instance : TyBytes Try.prog 198 8 := mkTyBytes (by kernel_rfl)
instance : TyZero Try.prog 198 (.nilFunc) := mkTyZero (by kernel_rfl)
instance : TyS Try.prog 199 := mkTyS (by kernel_rfl) (by kernel_rfl)
instance : TyIface Try.prog 199 false := mkTyIface (by kernel_rfl)
instance : TyFunc Try.prog 199 := mkTyFunc (by kernel_rfl)
instance : TySz Try.prog 199 1 := mkTySz (by kernel_rfl)
instance : TyBytes Try.prog 199 8 := mkTyBytes (by kernel_rfl)
instance : TyZero Try.prog 199 (.nilFunc) := mkTyZero (by kernel_rfl)
instance : TyS Try.prog 200 := mkTyS (by kernel_rfl) (by kernel_rfl)
instance : TyIface Try.prog 200 false := mkTyIface (by kernel_rfl)
instance : TyFunc Try.prog 200 := mkTyFunc (by kernel_rfl)
instance : TySz Try.prog 200 1 := mkTySz (by kernel_rfl)
instance : TyBytes Try.prog 200 8 := mkTyBytes (by kernel_rfl)
instance : TyZero Try.prog 200 (.nilFunc) := mkTyZero (by kernel_rfl)
instance : TyA Try.prog 201 6 := mkTyA (by kernel_rfl) (by kernel_rfl)
instance : TyIface Try.prog 201 false := mkTyIface (by kernel_rfl)
instance : TySz Try.prog 201 6 := mkTySz (by kernel_rfl)
instance : TyBytes Try.prog 201 56 := mkTyBytes (by kernel_rfl)
instance : TyZero Try.prog 201 (.agg ⟨[.int .i64 0, .int .i64 0, .int .u16 0, .int .i64 0, .string ⟨⟨[]⟩⟩, .int .i64 0]⟩) := mkTyZero (by kernel_rfl)
instance : NoGuard Try.prog 201 := ⟨by kernel_rfl⟩
instance : Fld Try.prog 201 0 0 3 := mkFld (by kernel_rfl)
instance : Fld Try.prog 201 1 1 28 := mkFld (by kernel_rfl)
instance : Fld Try.prog 201 2 5 2 := mkFld (by kernel_rfl)
instance : TyPlaces Try.prog 201 (([(0, 1), (1, 4), (5, 1)] : List (Nat × Nat))[·]?) := mkTyPlaces (by kernel_rfl)
instance : TyA Try.prog 202 6 := mkTyA (by kernel_rfl) (by kernel_rfl)
instance : TyIface Try.prog 202 false := mkTyIface (by kernel_rfl)
instance : TySz Try.prog 202 6 := mkTySz (by kernel_rfl)
instance : TyBytes Try.prog 202 56 := mkTyBytes (by kernel_rfl)
instance : TyZero Try.prog 202 (.agg ⟨[.int .i64 0, .int .i64 0, .int .u16 0, .int .i64 0, .string ⟨⟨[]⟩⟩, .int .i64 0]⟩) := mkTyZero (by kernel_rfl)
instance : NoGuard Try.prog 202 := ⟨by kernel_rfl⟩
instance : TyFlds Try.prog 202 [(0, 3), (1, 28), (5, 2)] := mkTyFlds (by kernel_rfl)
instance : Fld Try.prog 202 0 0 3 := mkFld (by kernel_rfl)
instance : Fld Try.prog 202 1 1 28 := mkFld (by kernel_rfl)
instance : Fld Try.prog 202 2 5 2 := mkFld (by kernel_rfl)
instance : TyPlaces Try.prog 202 (([(0, 1), (1, 4), (5, 1)] : List (Nat × Nat))[·]?) := mkTyPlaces (by kernel_rfl)
instance : TyA Try.prog 203 5 := mkTyA (by kernel_rfl) (by kernel_rfl)
instance : TyIface Try.prog 203 false := mkTyIface (by kernel_rfl)
instance : TySz Try.prog 203 5 := mkTySz (by kernel_rfl)
instance : TyBytes Try.prog 203 40 := mkTyBytes (by kernel_rfl)
instance : TyZero Try.prog 203 (.agg ⟨[.int .i64 0, .int .u64 0, .int .u64 0, .int .u64 0, .int .i64 0]⟩) := mkTyZero (by kernel_rfl)
instance : NoGuard Try.prog 203 := ⟨by kernel_rfl⟩
instance : Fld Try.prog 203 0 0 3 := mkFld (by kernel_rfl)
instance : Fld Try.prog 203 1 1 53 := mkFld (by kernel_rfl)
instance : Fld Try.prog 203 2 2 53 := mkFld (by kernel_rfl)
instance : Fld Try.prog 203 3 3 53 := mkFld (by kernel_rfl)
instance : Fld Try.prog 203 4 4 3 := mkFld (by kernel_rfl)
instance : TyPlaces Try.prog 203 (([(0, 1), (1, 1), (2, 1), (3, 1), (4, 1)] : List (Nat × Nat))[·]?) := mkTyPlaces (by kernel_rfl)
instance : TyA Try.prog 204 5 := mkTyA (by kernel_rfl) (by kernel_rfl)
instance : TyIface Try.prog 204 false := mkTyIface (by kernel_rfl)
instance : TySz Try.prog 204 5 := mkTySz (by kernel_rfl)
instance : TyBytes Try.prog 204 40 := mkTyBytes (by kernel_rfl)
instance : TyZero Try.prog 204 (.agg ⟨[.int .i64 0, .int .u64 0, .int .u64 0, .int .u64 0, .int .i64 0]⟩) := mkTyZero (by kernel_rfl)
instance : NoGuard Try.prog 204 := ⟨by kernel_rfl⟩
instance : TyFlds Try.prog 204 [(0, 3), (1, 53), (2, 53), (3, 53), (4, 3)] := mkTyFlds (by kernel_rfl)
instance : Fld Try.prog 204 0 0 3 := mkFld (by kernel_rfl)
instance : Fld Try.prog 204 1 1 53 := mkFld (by kernel_rfl)
instance : Fld Try.prog 204 2 2 53 := mkFld (by kernel_rfl)
instance : Fld Try.prog 204 3 3 53 := mkFld (by kernel_rfl)
instance : Fld Try.prog 204 4 4 3 := mkFld (by kernel_rfl)
instance : TyPlaces Try.prog 204 (([(0, 1), (1, 1), (2, 1), (3, 1), (4, 1)] : List (Nat × Nat))[·]?) := mkTyPlaces (by kernel_rfl)
instance : TyS Try.prog 205 := mkTyS (by kernel_rfl) (by kernel_rfl)
instance : TyIface Try.prog 205 false := mkTyIface (by kernel_rfl)
instance : TySz Try.prog 205 1 := mkTySz (by kernel_rfl)
instance : TyBytes Try.prog 205 8 := mkTyBytes (by kernel_rfl)
instance : TyZero Try.prog 205 (.pointer none) := mkTyZero (by kernel_rfl)
instance : TyPtr Try.prog 205 261 := ⟨by kernel_rfl⟩
instance : TyS Try.prog 206 := mkTyS (by kernel_rfl) (by kernel_rfl)
instance : TyIface Try.prog 206 false := mkTyIface (by kernel_rfl)
instance : TyFunc Try.prog 206 := mkTyFunc (by kernel_rfl)
instance : TySz Try.prog 206 1 := mkTySz (by kernel_rfl)
instance : TyBytes Try.prog 206 8 := mkTyBytes (by kernel_rfl)
instance : TyZero Try.prog 206 (.nilFunc) := mkTyZero (by kernel_rfl)
instance : TyA Try.prog 207 6 := mkTyA (by kernel_rfl) (by kernel_rfl)
instance : TyIface Try.prog 207 false := mkTyIface (by kernel_rfl)
instance : TySz Try.prog 207 6 := mkTySz (by kernel_rfl)
instance : TyBytes Try.prog 207 80 := mkTyBytes (by kernel_rfl)
instance : TyZero Try.prog 207 (.agg ⟨[.pointer none, .int .i64 0, .bool false, .int .i64 0, .slice none 0 0, .slice none 0 0]⟩) := mkTyZero (by kernel_rfl)
instance : NoGuard Try.prog 207 := ⟨by kernel_rfl⟩
instance : Fld Try.prog 207 0 0 205 := mkFld (by kernel_rfl)
instance : Fld Try.prog 207 1 1 3 := mkFld (by kernel_rfl)
instance : Fld Try.prog 207 2 2 4 := mkFld (by kernel_rfl)
instance : Fld Try.prog 207 3 3 38 := mkFld (by kernel_rfl)
instance : TyPlaces Try.prog 207 (([(0, 1), (1, 1), (2, 1), (3, 3)] : List (Nat × Nat))[·]?) := mkTyPlaces (by kernel_rfl)
instance : TyA Try.prog 208 6 := mkTyA (by kernel_rfl) (by kernel_rfl)
instance : TyIface Try.prog 208 false := mkTyIface (by kernel_rfl)
instance : TySz Try.prog 208 6 := mkTySz (by kernel_rfl)
instance : TyBytes Try.prog 208 80 := mkTyBytes (by kernel_rfl)
instance : TyZero Try.prog 208 (.agg ⟨[.pointer none, .int .i64 0, .bool false, .int .i64 0, .slice none 0 0, .slice none 0 0]⟩) := mkTyZero (by kernel_rfl)
instance : NoGuard Try.prog 208 := ⟨by kernel_rfl⟩
instance : TyFlds Try.prog 208 [(0, 205), (1, 3), (2, 4), (3, 38)] := mkTyFlds (by kernel_rfl)
instance : Fld Try.prog 208 0 0 205 := mkFld (by kernel_rfl)
instance : Fld Try.prog 208 1 1 3 := mkFld (by kernel_rfl)
instance : Fld Try.prog 208 2 2 4 := mkFld (by kernel_rfl)
instance : Fld Try.prog 208 3 3 38 := mkFld (by kernel_rfl)
instance : TyPlaces Try.prog 208 (([(0, 1), (1, 1), (2, 1), (3, 3)] : List (Nat × Nat))[·]?) := mkTyPlaces (by kernel_rfl)
instance : TyS Try.prog 209 := mkTyS (by kernel_rfl) (by kernel_rfl)
instance : TyIface Try.prog 209 false := mkTyIface (by kernel_rfl)
instance : TyFunc Try.prog 209 := mkTyFunc (by kernel_rfl)
instance : TySz Try.prog 209 1 := mkTySz (by kernel_rfl)
instance : TyBytes Try.prog 209 8 := mkTyBytes (by kernel_rfl)
instance : TyZero Try.prog 209 (.nilFunc) := mkTyZero (by kernel_rfl)
instance : TyS Try.prog 210 := mkTyS (by kernel_rfl) (by kernel_rfl)
instance : TyIface Try.prog 210 false := mkTyIface (by kernel_rfl)
instance : TyFunc Try.prog 210 := mkTyFunc (by kernel_rfl)
instance : TySz Try.prog 210 1 := mkTySz (by kernel_rfl)
instance : TyBytes Try.prog 210 8 := mkTyBytes (by kernel_rfl)
instance : TyZero Try.prog 210 (.nilFunc) := mkTyZero (by kernel_rfl)
instance : TyS Try.prog 211 := mkTyS (by kernel_rfl) (by kernel_rfl)
instance : TyIface Try.prog 211 false := mkTyIface (by kernel_rfl)
instance : TyFunc Try.prog 211 := mkTyFunc (by kernel_rfl)
instance : TySz Try.prog 211 1 := mkTySz (by kernel_rfl)
instance : TyBytes Try.prog 211 8 := mkTyBytes (by kernel_rfl)
instance : TyZero Try.prog 211 (.nilFunc) := mkTyZero (by kernel_rfl)
instance : TyS Try.prog 212 := mkTyS (by kernel_rfl) (by kernel_rfl)
instance : TyIface Try.prog 212 false := mkTyIface (by kernel_rfl)
instance : TyFunc Try.prog 212 := mkTyFunc (by kernel_rfl)
instance : TySz Try.prog 212 1 := mkTySz (by kernel_rfl)
instance : TyBytes Try.prog 212 8 := mkTyBytes (by kernel_rfl)
instance : TyZero Try.prog 212 (.nilFunc) := mkTyZero (by kernel_rfl)
instance : TyS Try.prog 213 := mkTyS (by kernel_rfl) (by kernel_rfl)
instance : TyIface Try.prog 213 false := mkTyIface (by kernel_rfl)
instance : TyFunc Try.prog 213 := mkTyFunc (by kernel_rfl)
instance : TySz Try.prog 213 1 := mkTySz (by kernel_rfl)
instance : TyBytes Try.prog 213 8 := mkTyBytes (by kernel_rfl)
instance : TyZero Try.prog 213 (.nilFunc) := mkTyZero (by kernel_rfl)
instance : TyS Try.prog 214 := mkTyS (by kernel_rfl) (by kernel_rfl)
instance : TyIface Try.prog 214 false := mkTyIface (by kernel_rfl)
instance : TySz Try.prog 214 1 := mkTySz (by kernel_rfl)
instance : TyBytes Try.prog 214 8 := mkTyBytes (by kernel_rfl)
instance : TyZero Try.prog 214 (.map none) := mkTyZero (by kernel_rfl)
instance : TyMap Try.prog 214 3 1 := ⟨by kernel_rfl⟩
instance : TyS Try.prog 215 := mkTyS (by kernel_rfl) (by kernel_rfl)
instance : TyIface Try.prog 215 false := mkTyIface (by kernel_rfl)
instance : TyFunc Try.prog 215 := mkTyFunc (by kernel_rfl)
instance : TySz Try.prog 215 1 := mkTySz (by kernel_rfl)
instance : TyBytes Try.prog 215 8 := mkTyBytes (by kernel_rfl)
instance : TyZero Try.prog 215 (.nilFunc) := mkTyZero (by kernel_rfl)
instance : TyS Try.prog 216 := mkTyS (by kernel_rfl) (by kernel_rfl)
instance : TyIface Try.prog 216 false := mkTyIface (by kernel_rfl)
instance : TyFunc Try.prog 216 := mkTyFunc (by kernel_rfl)
instance : TySz Try.prog 216 1 := mkTySz (by kernel_rfl)
instance : TyBytes Try.prog 216 8 := mkTyBytes (by kernel_rfl)
instance : TyZero Try.prog 216 (.nilFunc) := mkTyZero (by kernel_rfl)
instance : TyS Try.prog 217 := mkTyS (by kernel_rfl) (by kernel_rfl)
instance : TyIface Try.prog 217 false := mkTyIface (by kernel_rfl)
instance : TyFunc Try.prog 217 := mkTyFunc (by kernel_rfl)
instance : TySz Try.prog 217 1 := mkTySz (by kernel_rfl)
instance : TyBytes Try.prog 217 8 := mkTyBytes (by kernel_rfl)
instance : TyZero Try.prog 217 (.nilFunc) := mkTyZero (by kernel_rfl)
instance : TyS Try.prog 218 := mkTyS (by kernel_rfl) (by kernel_rfl)
instance : TyIface Try.prog 218 false := mkTyIface (by kernel_rfl)
instance : TyFunc Try.prog 218 := mkTyFunc (by kernel_rfl)
instance : TySz Try.prog 218 1 := mkTySz (by kernel_rfl)
instance : TyBytes Try.prog 218 8 := mkTyBytes (by kernel_rfl)
instance : TyZero Try.prog 218 (.nilFunc) := mkTyZero (by kernel_rfl)
instance : TyS Try.prog 219 := mkTyS (by kernel_rfl) (by kernel_rfl)
instance : TyIface Try.prog 219 false := mkTyIface (by kernel_rfl)
instance : TyFunc Try.prog 219 := mkTyFunc (by kernel_rfl)
instance : TySz Try.prog 219 1 := mkTySz (by kernel_rfl)
instance : TyBytes Try.prog 219 8 := mkTyBytes (by kernel_rfl)
instance : TyZero Try.prog 219 (.nilFunc) := mkTyZero (by kernel_rfl)
instance : TyS Try.prog 220 := mkTyS (by kernel_rfl) (by kernel_rfl)
instance : TyIface Try.prog 220 false := mkTyIface (by kernel_rfl)
instance : TyFunc Try.prog 220 := mkTyFunc (by kernel_rfl)
instance : TySz Try.prog 220 1 := mkTySz (by kernel_rfl)
instance : TyBytes Try.prog 220 8 := mkTyBytes (by kernel_rfl)
instance : TyZero Try.prog 220 (.nilFunc) := mkTyZero (by kernel_rfl)
instance : TyS Try.prog 221 := mkTyS (by kernel_rfl) (by kernel_rfl)
instance : TyIface Try.prog 221 false := mkTyIface (by kernel_rfl)
instance : TyFunc Try.prog 221 := mkTyFunc (by kernel_rfl)
instance : TySz Try.prog 221 1 := mkTySz (by kernel_rfl)
instance : TyBytes Try.prog 221 8 := mkTyBytes (by kernel_rfl)
instance : TyZero Try.prog 221 (.nilFunc) := mkTyZero (by kernel_rfl)
instance : TyS Try.prog 222 := mkTyS (by kernel_rfl) (by kernel_rfl)
instance : TyIface Try.prog 222 false := mkTyIface (by kernel_rfl)
instance : TyFunc Try.prog 222 := mkTyFunc (by kernel_rfl)
instance : TySz Try.prog 222 1 := mkTySz (by kernel_rfl)
instance : TyBytes Try.prog 222 8 := mkTyBytes (by kernel_rfl)
instance : TyZero Try.prog 222 (.nilFunc) := mkTyZero (by kernel_rfl)
instance : TyS Try.prog 223 := mkTyS (by kernel_rfl) (by kernel_rfl)
instance : TyIface Try.prog 223 false := mkTyIface (by kernel_rfl)
instance : TySz Try.prog 223 1 := mkTySz (by kernel_rfl)
instance : TyBytes Try.prog 223 8 := mkTyBytes (by kernel_rfl)
instance : TyZero Try.prog 223 (.map none) := mkTyZero (by kernel_rfl)
instance : TyMap Try.prog 223 3 4 := ⟨by kernel_rfl⟩
instance : TyS Try.prog 224 := mkTyS (by kernel_rfl) (by kernel_rfl)
instance : TyIface Try.prog 224 false := mkTyIface (by kernel_rfl)
instance : TyFunc Try.prog 224 := mkTyFunc (by kernel_rfl)
instance : TySz Try.prog 224 1 := mkTySz (by kernel_rfl)
instance : TyBytes Try.prog 224 8 := mkTyBytes (by kernel_rfl)
instance : TyZero Try.prog 224 (.nilFunc) := mkTyZero (by kernel_rfl)
instance : TyS Try.prog 225 := mkTyS (by kernel_rfl) (by kernel_rfl)
instance : TyIface Try.prog 225 false := mkTyIface (by kernel_rfl)
instance : TyFunc Try.prog 225 := mkTyFunc (by kernel_rfl)
instance : TySz Try.prog 225 1 := mkTySz (by kernel_rfl)
instance : TyBytes Try.prog 225 8 := mkTyBytes (by kernel_rfl)
instance : TyZero Try.prog 225 (.nilFunc) := mkTyZero (by kernel_rfl)
instance : TyS Try.prog 226 := mkTyS (by kernel_rfl) (by kernel_rfl)
instance : TyIface Try.prog 226 false := mkTyIface (by kernel_rfl)
instance : TyFunc Try.prog 226 := mkTyFunc (by kernel_rfl)
instance : TySz Try.prog 226 1 := mkTySz (by kernel_rfl)
instance : TyBytes Try.prog 226 8 := mkTyBytes (by kernel_rfl)
instance : TyZero Try.prog 226 (.nilFunc) := mkTyZero (by kernel_rfl)
instance : TyS Try.prog 227 := mkTyS (by kernel_rfl) (by kernel_rfl)
instance : TyIface Try.prog 227 false := mkTyIface (by kernel_rfl)
instance : TyFunc Try.prog 227 := mkTyFunc (by kernel_rfl)
instance : TySz Try.prog 227 1 := mkTySz (by kernel_rfl)
instance : TyBytes Try.prog 227 8 := mkTyBytes (by kernel_rfl)
instance : TyZero Try.prog 227 (.nilFunc) := mkTyZero (by kernel_rfl)
instance : TyS Try.prog 229 := mkTyS (by kernel_rfl) (by kernel_rfl)
instance : TyIface Try.prog 229 false := mkTyIface (by kernel_rfl)
instance : TyFunc Try.prog 229 := mkTyFunc (by kernel_rfl)
instance : TySz Try.prog 229 1 := mkTySz (by kernel_rfl)
instance : TyBytes Try.prog 229 8 := mkTyBytes (by kernel_rfl)
instance : TyZero Try.prog 229 (.nilFunc) := mkTyZero (by kernel_rfl)
instance : TyS Try.prog 230 := mkTyS (by kernel_rfl) (by kernel_rfl)
instance : TyIface Try.prog 230 false := mkTyIface (by kernel_rfl)
instance : TyFunc Try.prog 230 := mkTyFunc (by kernel_rfl)
instance : TySz Try.prog 230 1 := mkTySz (by kernel_rfl)
instance : TyBytes Try.prog 230 8 := mkTyBytes (by kernel_rfl)
instance : TyZero Try.prog 230 (.nilFunc) := mkTyZero (by kernel_rfl)
instance : TyS Try.prog 231 := mkTyS (by kernel_rfl) (by kernel_rfl)
instance : TyIface Try.prog 231 false := mkTyIface (by kernel_rfl)
instance : TyFunc Try.prog 231 := mkTyFunc (by kernel_rfl)
instance : TySz Try.prog 231 1 := mkTySz (by kernel_rfl)
instance : TyBytes Try.prog 231 8 := mkTyBytes (by kernel_rfl)
instance : TyZero Try.prog 231 (.nilFunc) := mkTyZero (by kernel_rfl)
instance : TyS Try.prog 232 := mkTyS (by kernel_rfl) (by kernel_rfl)
instance : TyIface Try.prog 232 false := mkTyIface (by kernel_rfl)
instance : TyFunc Try.prog 232 := mkTyFunc (by kernel_rfl)
instance : TySz Try.prog 232 1 := mkTySz (by kernel_rfl)
instance : TyBytes Try.prog 232 8 := mkTyBytes (by kernel_rfl)
instance : TyZero Try.prog 232 (.nilFunc) := mkTyZero (by kernel_rfl)
instance : TyS Try.prog 234 := mkTyS (by kernel_rfl) (by kernel_rfl)
instance : TyIface Try.prog 234 false := mkTyIface (by kernel_rfl)
instance : TyFunc Try.prog 234 := mkTyFunc (by kernel_rfl)
instance : TySz Try.prog 234 1 := mkTySz (by kernel_rfl)
instance : TyBytes Try.prog 234 8 := mkTyBytes (by kernel_rfl)
instance : TyZero Try.prog 234 (.nilFunc) := mkTyZero (by kernel_rfl)
instance : TyS Try.prog 235 := mkTyS (by kernel_rfl) (by kernel_rfl)
instance : TyIface Try.prog 235 false := mkTyIface (by kernel_rfl)
instance : TyFunc Try.prog 235 := mkTyFunc (by kernel_rfl)
instance : TySz Try.prog 235 1 := mkTySz (by kernel_rfl)
instance : TyBytes Try.prog 235 8 := mkTyBytes (by kernel_rfl)
instance : TyZero Try.prog 235 (.nilFunc) := mkTyZero (by kernel_rfl)
instance : TyS Try.prog 236 := mkTyS (by kernel_rfl) (by kernel_rfl)
instance : TyIface Try.prog 236 false := mkTyIface (by kernel_rfl)
instance : TyFunc Try.prog 236 := mkTyFunc (by kernel_rfl)
instance : TySz Try.prog 236 1 := mkTySz (by kernel_rfl)
instance : TyBytes Try.prog 236 8 := mkTyBytes (by kernel_rfl)
instance : TyZero Try.prog 236 (.nilFunc) := mkTyZero (by kernel_rfl)
instance : TyS Try.prog 237 := mkTyS (by kernel_rfl) (by kernel_rfl)
instance : TyIface Try.prog 237 false := mkTyIface (by kernel_rfl)
instance : TyFunc Try.prog 237 := mkTyFunc (by kernel_rfl)
instance : TySz Try.prog 237 1 := mkTySz (by kernel_rfl)
instance : TyBytes Try.prog 237 8 := mkTyBytes (by kernel_rfl)
instance : TyZero Try.prog 237 (.nilFunc) := mkTyZero (by kernel_rfl)
instance : TyS Try.prog 238 := mkTyS (by kernel_rfl) (by kernel_rfl)
instance : TyIface Try.prog 238 false := mkTyIface (by kernel_rfl)
instance : TyFunc Try.prog 238 := mkTyFunc (by kernel_rfl)
instance : TySz Try.prog 238 1 := mkTySz (by kernel_rfl)
instance : TyBytes Try.prog 238 8 := mkTyBytes (by kernel_rfl)
instance : TyZero Try.prog 238 (.nilFunc) := mkTyZero (by kernel_rfl)
instance : TyS Try.prog 239 := mkTyS (by kernel_rfl) (by kernel_rfl)
instance : TyIface Try.prog 239 false := mkTyIface (by kernel_rfl)
instance : TySz Try.prog 239 1 := mkTySz (by kernel_rfl)
instance : TyBytes Try.prog 239 8 := mkTyBytes (by kernel_rfl)
instance : TyZero Try.prog 239 (.pointer none) := mkTyZero (by kernel_rfl)
instance : TyPtr Try.prog 239 3 := ⟨by kernel_rfl⟩
instance : TyS Try.prog 240 := mkTyS (by kernel_rfl) (by kernel_rfl)
instance : TyIface Try.prog 240 false := mkTyIface (by kernel_rfl)
instance : TyFunc Try.prog 240 := mkTyFunc (by kernel_rfl)
instance : TySz Try.prog 240 1 := mkTySz (by kernel_rfl)
instance : TyBytes Try.prog 240 8 := mkTyBytes (by kernel_rfl)
instance : TyZero Try.prog 240 (.nilFunc) := mkTyZero (by kernel_rfl)
instance : TyS Try.prog 241 := mkTyS (by kernel_rfl) (by kernel_rfl)
instance : TyIface Try.prog 241 false := mkTyIface (by kernel_rfl)
instance : TyFunc Try.prog 241 := mkTyFunc (by kernel_rfl)
instance : TySz Try.prog 241 1 := mkTySz (by kernel_rfl)
instance : TyBytes Try.prog 241 8 := mkTyBytes (by kernel_rfl)
instance : TyZero Try.prog 241 (.nilFunc) := mkTyZero (by kernel_rfl)
instance : TyS Try.prog 242 := mkTyS (by kernel_rfl) (by kernel_rfl)
instance : TyIface Try.prog 242 false := mkTyIface (by kernel_rfl)
instance : TyFunc Try.prog 242 := mkTyFunc (by kernel_rfl)
instance : TySz Try.prog 242 1 := mkTySz (by kernel_rfl)
instance : TyBytes Try.prog 242 8 := mkTyBytes (by kernel_rfl)
instance : TyZero Try.prog 242 (.nilFunc) := mkTyZero (by kernel_rfl)
instance : TyS Try.prog 243 := mkTyS (by kernel_rfl) (by kernel_rfl)
instance : TyIface Try.prog 243 false := mkTyIface (by kernel_rfl)
instance : TyFunc Try.prog 243 := mkTyFunc (by kernel_rfl)
instance : TySz Try.prog 243 1 := mkTySz (by kernel_rfl)
instance : TyBytes Try.prog 243 8 := mkTyBytes (by kernel_rfl)
instance : TyZero Try.prog 243 (.nilFunc) := mkTyZero (by kernel_rfl)
instance : TyS Try.prog 244 := mkTyS (by kernel_rfl) (by kernel_rfl)
instance : TyIface Try.prog 244 false := mkTyIface (by kernel_rfl)
instance : TySz Try.prog 244 1 := mkTySz (by kernel_rfl)
instance : TyBytes Try.prog 244 8 := mkTyBytes (by kernel_rfl)
instance : TyZero Try.prog 244 (.pointer none) := mkTyZero (by kernel_rfl)
instance : TyPtr Try.prog 244 246 := ⟨by kernel_rfl⟩
instance : TyA Try.prog 245 10 := mkTyA (by kernel_rfl) (by kernel_rfl)
instance : TyIface Try.prog 245 false := mkTyIface (by kernel_rfl)
instance : TySz Try.prog 245 10 := mkTySz (by kernel_rfl)
instance : TyBytes Try.prog 245 144 := mkTyBytes (by kernel_rfl)
instance : TyZero Try.prog 245 (.agg ⟨[.int .i64 0, .int .u64 0, .int .i64 0, .int .u64 0, .int .u64 0, .slice none 0 0, .slice none 0 0, .int .i64 0, .slice none 0 0, .slice none 0 0]⟩) := mkTyZero (by kernel_rfl)
instance : NoGuard Try.prog 245 := ⟨by kernel_rfl⟩
instance : Fld Try.prog 245 0 0 113 := mkFld (by kernel_rfl)
instance : TyPlaces Try.prog 245 (([(0, 10)] : List (Nat × Nat))[·]?) := mkTyPlaces (by kernel_rfl)
instance : TyA Try.prog 246 10 := mkTyA (by kernel_rfl) (by kernel_rfl)
instance : TyIface Try.prog 246 false := mkTyIface (by kernel_rfl)
instance : TySz Try.prog 246 10 := mkTySz (by kernel_rfl)
instance : TyBytes Try.prog 246 144 := mkTyBytes (by kernel_rfl)
instance : TyZero Try.prog 246 (.agg ⟨[.int .i64 0, .int .u64 0, .int .i64 0, .int .u64 0, .int .u64 0, .slice none 0 0, .slice none 0 0, .int .i64 0, .slice none 0 0, .slice none 0 0]⟩) := mkTyZero (by kernel_rfl)
instance : NoGuard Try.prog 246 := ⟨by kernel_rfl⟩
instance : TyFlds Try.prog 246 [(0, 113)] := mkTyFlds (by kernel_rfl)
instance : Fld Try.prog 246 0 0 113 := mkFld (by kernel_rfl)
instance : TyPlaces Try.prog 246 (([(0, 10)] : List (Nat × Nat))[·]?) := mkTyPlaces (by kernel_rfl)
instance : TyS Try.prog 247 := mkTyS (by kernel_rfl) (by kernel_rfl)
instance : TyIface Try.prog 247 false := mkTyIface (by kernel_rfl)
instance : TySz Try.prog 247 1 := mkTySz (by kernel_rfl)
instance : TyBytes Try.prog 247 8 := mkTyBytes (by kernel_rfl)
instance : TyZero Try.prog 247 (.map none) := mkTyZero (by kernel_rfl)
instance : TyMap Try.prog 247 3 23 := ⟨by kernel_rfl⟩
instance : TyS Try.prog 248 := mkTyS (by kernel_rfl) (by kernel_rfl)
instance : TyIface Try.prog 248 false := mkTyIface (by kernel_rfl)
instance : TyFunc Try.prog 248 := mkTyFunc (by kernel_rfl)
instance : TySz Try.prog 248 1 := mkTySz (by kernel_rfl)
instance : TyBytes Try.prog 248 8 := mkTyBytes (by kernel_rfl)
instance : TyZero Try.prog 248 (.nilFunc) := mkTyZero (by kernel_rfl)
instance : TyS Try.prog 249 := mkTyS (by kernel_rfl) (by kernel_rfl)
instance : TyIface Try.prog 249 false := mkTyIface (by kernel_rfl)
instance : TyFunc Try.prog 249 := mkTyFunc (by kernel_rfl)
instance : TySz Try.prog 249 1 := mkTySz (by kernel_rfl)
instance : TyBytes Try.prog 249 8 := mkTyBytes (by kernel_rfl)
instance : TyZero Try.prog 249 (.nilFunc) := mkTyZero (by kernel_rfl)
instance : TyS Try.prog 250 := mkTyS (by kernel_rfl) (by kernel_rfl)
instance : TyIface Try.prog 250 false := mkTyIface (by kernel_rfl)
instance : TyFunc Try.prog 250 := mkTyFunc (by kernel_rfl)
instance : TySz Try.prog 250 1 := mkTySz (by kernel_rfl)
instance : TyBytes Try.prog 250 8 := mkTyBytes (by kernel_rfl)
instance : TyZero Try.prog 250 (.nilFunc) := mkTyZero (by kernel_rfl)
instance : TyS Try.prog 251 := mkTyS (by kernel_rfl) (by kernel_rfl)
instance : TyIface Try.prog 251 false := mkTyIface (by kernel_rfl)
instance : TyFunc Try.prog 251 := mkTyFunc (by kernel_rfl)
instance : TySz Try.prog 251 1 := mkTySz (by kernel_rfl)
instance : TyBytes Try.prog 251 8 := mkTyBytes (by kernel_rfl)
instance : TyZero Try.prog 251 (.nilFunc) := mkTyZero (by kernel_rfl)
instance : TyS Try.prog 252 := mkTyS (by kernel_rfl) (by kernel_rfl)
instance : TyIface Try.prog 252 false := mkTyIface (by kernel_rfl)
instance : TyFunc Try.prog 252 := mkTyFunc (by kernel_rfl)
instance : TySz Try.prog 252 1 := mkTySz (by kernel_rfl)
instance : TyBytes Try.prog 252 8 := mkTyBytes (by kernel_rfl)
instance : TyZero Try.prog 252 (.nilFunc) := mkTyZero (by kernel_rfl)
instance : TyS Try.prog 253 := mkTyS (by kernel_rfl) (by kernel_rfl)
instance : TyIface Try.prog 253 false := mkTyIface (by kernel_rfl)
instance : TyFunc Try.prog 253 := mkTyFunc (by kernel_rfl)
instance : TySz Try.prog 253 1 := mkTySz (by kernel_rfl)
instance : TyBytes Try.prog 253 8 := mkTyBytes (by kernel_rfl)
instance : TyZero Try.prog 253 (.nilFunc) := mkTyZero (by kernel_rfl)
instance : TyS Try.prog 254 := mkTyS (by kernel_rfl) (by kernel_rfl)
instance : TyIface Try.prog 254 false := mkTyIface (by kernel_rfl)
instance : TyFunc Try.prog 254 := mkTyFunc (by kernel_rfl)
instance : TySz Try.prog 254 1 := mkTySz (by kernel_rfl)
instance : TyBytes Try.prog 254 8 := mkTyBytes (by kernel_rfl)
instance : TyZero Try.prog 254 (.nilFunc) := mkTyZero (by kernel_rfl)
instance : TyS Try.prog 255 := mkTyS (by kernel_rfl) (by kernel_rfl)
instance : TyIface Try.prog 255 false := mkTyIface (by kernel_rfl)
instance : TySz Try.prog 255 1 := mkTySz (by kernel_rfl)
instance : TyBytes Try.prog 255 24 := mkTyBytes (by kernel_rfl)
instance : TyZero Try.prog 255 (.slice none 0 0) := mkTyZero (by kernel_rfl)
instance : TySlice Try.prog 255 286 := ⟨by kernel_rfl⟩
instance : TyA Try.prog 256 7 := mkTyA (by kernel_rfl) (by kernel_rfl)
instance : TyIface Try.prog 256 false := mkTyIface (by kernel_rfl)
instance : TySz Try.prog 256 7 := mkTySz (by kernel_rfl)
instance : TyBytes Try.prog 256 88 := mkTyBytes (by kernel_rfl)
instance : TyZero Try.prog 256 (.agg ⟨[.int .i64 0, .int .i64 0, .int .u64 0, .int .u64 0, .int .u64 0, .slice none 0 0, .slice none 0 0]⟩) := mkTyZero (by kernel_rfl)
instance : NoGuard Try.prog 256 := ⟨by kernel_rfl⟩
instance : Fld Try.prog 256 0 0 3 := mkFld (by kernel_rfl)
instance : Fld Try.prog 256 1 1 3 := mkFld (by kernel_rfl)
instance : Fld Try.prog 256 2 2 53 := mkFld (by kernel_rfl)
instance : Fld Try.prog 256 3 3 53 := mkFld (by kernel_rfl)
instance : Fld Try.prog 256 4 4 53 := mkFld (by kernel_rfl)
instance : Fld Try.prog 256 5 5 255 := mkFld (by kernel_rfl)
instance : Fld Try.prog 256 6 6 128 := mkFld (by kernel_rfl)
instance : TyPlaces Try.prog 256 (([(0, 1), (1, 1), (2, 1), (3, 1), (4, 1), (5, 1), (6, 1)] : List (Nat × Nat))[·]?) := mkTyPlaces (by kernel_rfl)
instance : TyA Try.prog 257 7 := mkTyA (by kernel_rfl) (by kernel_rfl)
instance : TyIface Try.prog 257 false := mkTyIface (by kernel_rfl)
instance : TySz Try.prog 257 7 := mkTySz (by kernel_rfl)
instance : TyBytes Try.prog 257 88 := mkTyBytes (by kernel_rfl)
instance : TyZero Try.prog 257 (.agg ⟨[.int .i64 0, .int .i64 0, .int .u64 0, .int .u64 0, .int .u64 0, .slice none 0 0, .slice none 0 0]⟩) := mkTyZero (by kernel_rfl)
instance : NoGuard Try.prog 257 := ⟨by kernel_rfl⟩
instance : TyFlds Try.prog 257 [(0, 3), (1, 3), (2, 53), (3, 53), (4, 53), (5, 255), (6, 128)] := mkTyFlds (by kernel_rfl)
instance : Fld Try.prog 257 0 0 3 := mkFld (by kernel_rfl)
instance : Fld Try.prog 257 1 1 3 := mkFld (by kernel_rfl)
instance : Fld Try.prog 257 2 2 53 := mkFld (by kernel_rfl)
instance : Fld Try.prog 257 3 3 53 := mkFld (by kernel_rfl)
instance : Fld Try.prog 257 4 4 53 := mkFld (by kernel_rfl)
instance : Fld Try.prog 257 5 5 255 := mkFld (by kernel_rfl)
instance : Fld Try.prog 257 6 6 128 := mkFld (by kernel_rfl)
instance : TyPlaces Try.prog 257 (([(0, 1), (1, 1), (2, 1), (3, 1), (4, 1), (5, 1), (6, 1)] : List (Nat × Nat))[·]?) := mkTyPlaces (by kernel_rfl)
instance : TyS Try.prog 258 := mkTyS (by kernel_rfl) (by kernel_rfl)
instance : TyIface Try.prog 258 false := mkTyIface (by kernel_rfl)
instance : TyFunc Try.prog 258 := mkTyFunc (by kernel_rfl)
instance : TySz Try.prog 258 1 := mkTySz (by kernel_rfl)
instance : TyBytes Try.prog 258 8 := mkTyBytes (by kernel_rfl)
instance : TyZero Try.prog 258 (.nilFunc) := mkTyZero (by kernel_rfl)
instance : TyS Try.prog 259 := mkTyS (by kernel_rfl) (by kernel_rfl)
instance : TyIface Try.prog 259 false := mkTyIface (by kernel_rfl)
instance : TySz Try.prog 259 1 := mkTySz (by kernel_rfl)
instance : TyBytes Try.prog 259 24 := mkTyBytes (by kernel_rfl)
instance : TyZero Try.prog 259 (.slice none 0 0) := mkTyZero (by kernel_rfl)
instance : TySlice Try.prog 259 5 := ⟨by kernel_rfl⟩
instance : TyA Try.prog 260 2 := mkTyA (by kernel_rfl) (by kernel_rfl)
instance : TyIface Try.prog 260 false := mkTyIface (by kernel_rfl)
instance : TySz Try.prog 260 2 := mkTySz (by kernel_rfl)
instance : TyBytes Try.prog 260 32 := mkTyBytes (by kernel_rfl)
instance : TyZero Try.prog 260 (.agg ⟨[.slice none 0 0, .int .i64 0]⟩) := mkTyZero (by kernel_rfl)
instance : NoGuard Try.prog 260 := ⟨by kernel_rfl⟩
instance : Fld Try.prog 260 0 0 259 := mkFld (by kernel_rfl)
instance : Fld Try.prog 260 1 1 29 := mkFld (by kernel_rfl)
instance : TyPlaces Try.prog 260 (([(0, 1), (1, 1)] : List (Nat × Nat))[·]?) := mkTyPlaces (by kernel_rfl)
instance : TyA Try.prog 261 2 := mkTyA (by kernel_rfl) (by kernel_rfl)
instance : TyIface Try.prog 261 false := mkTyIface (by kernel_rfl)
instance : TySz Try.prog 261 2 := mkTySz (by kernel_rfl)
instance : TyBytes Try.prog 261 32 := mkTyBytes (by kernel_rfl)
instance : TyZero Try.prog 261 (.agg ⟨[.slice none 0 0, .int .i64 0]⟩) := mkTyZero (by kernel_rfl)
instance : NoGuard Try.prog 261 := ⟨by kernel_rfl⟩
instance : TyFlds Try.prog 261 [(0, 259), (1, 29)] := mkTyFlds (by kernel_rfl)
instance : Fld Try.prog 261 0 0 259 := mkFld (by kernel_rfl)
instance : Fld Try.prog 261 1 1 29 := mkFld (by kernel_rfl)
instance : TyPlaces Try.prog 261 (([(0, 1), (1, 1)] : List (Nat × Nat))[·]?) := mkTyPlaces (by kernel_rfl)
instance : TyS Try.prog 262 := mkTyS (by kernel_rfl) (by kernel_rfl)
instance : TyIface Try.prog 262 false := mkTyIface (by kernel_rfl)
instance : TyFunc Try.prog 262 := mkTyFunc (by kernel_rfl)
instance : TySz Try.prog 262 1 := mkTySz (by kernel_rfl)
instance : TyBytes Try.prog 262 8 := mkTyBytes (by kernel_rfl)
instance : TyZero Try.prog 262 (.nilFunc) := mkTyZero (by kernel_rfl)
instance : TyS Try.prog 263 := mkTyS (by kernel_rfl) (by kernel_rfl)
instance : TyIface Try.prog 263 false := mkTyIface (by kernel_rfl)
instance : TyFunc Try.prog 263 := mkTyFunc (by kernel_rfl)
instance : TySz Try.prog 263 1 := mkTySz (by kernel_rfl)
instance : TyBytes Try.prog 263 8 := mkTyBytes (by kernel_rfl)
instance : TyZero Try.prog 263 (.nilFunc) := mkTyZero (by kernel_rfl)
instance : TyS Try.prog 264 := mkTyS (by kernel_rfl) (by kernel_rfl)
instance : TyIface Try.prog 264 false := mkTyIface (by kernel_rfl)
instance : TyFunc Try.prog 264 := mkTyFunc (by kernel_rfl)
instance : TySz Try.prog 264 1 := mkTySz (by kernel_rfl)
instance : TyBytes Try.prog 264 8 := mkTyBytes (by kernel_rfl)
instance : TyZero Try.prog 264 (.nilFunc) := mkTyZero (by kernel_rfl)
instance : TyS Try.prog 265 := mkTyS (by kernel_rfl) (by kernel_rfl)
instance : TyIface Try.prog 265 false := mkTyIface (by kernel_rfl)
instance : TyFunc Try.prog 265 := mkTyFunc (by kernel_rfl)
instance : TySz Try.prog 265 1 := mkTySz (by kernel_rfl)
instance : TyBytes Try.prog 265 8 := mkTyBytes (by kernel_rfl)
instance : TyZero Try.prog 265 (.nilFunc) := mkTyZero (by kernel_rfl)
instance : TyS Try.prog 266 := mkTyS (by kernel_rfl) (by kernel_rfl)
instance : TyIface Try.prog 266 false := mkTyIface (by kernel_rfl)
instance : TyFunc Try.prog 266 := mkTyFunc (by kernel_rfl)
instance : TySz Try.prog 266 1 := mkTySz (by kernel_rfl)
instance : TyBytes Try.prog 266 8 := mkTyBytes (by kernel_rfl)
instance : TyZero Try.prog 266 (.nilFunc) := mkTyZero (by kernel_rfl)
instance : TyS Try.prog 267 := mkTyS (by kernel_rfl) (by kernel_rfl)
instance : TyIface Try.prog 267 false := mkTyIface (by kernel_rfl)
instance : TyFunc Try.prog 267 := mkTyFunc (by kernel_rfl)
instance : TySz Try.prog 267 1 := mkTySz (by kernel_rfl)
instance : TyBytes Try.prog 267 8 := mkTyBytes (by kernel_rfl)
instance : TyZero Try.prog 267 (.nilFunc) := mkTyZero (by kernel_rfl)
instance : TyS Try.prog 268 := mkTyS (by kernel_rfl) (by kernel_rfl)
instance : TyIface Try.prog 268 false := mkTyIface (by kernel_rfl)
instance : TyFunc Try.prog 268 := mkTyFunc (by kernel_rfl)
instance : TySz Try.prog 268 1 := mkTySz (by kernel_rfl)
instance : TyBytes Try.prog 268 8 := mkTyBytes (by kernel_rfl)
instance : TyZero Try.prog 268 (.nilFunc) := mkTyZero (by kernel_rfl)
instance : TyS Try.prog 269 := mkTyS (by kernel_rfl) (by kernel_rfl)
instance : TyIface Try.prog 269 false := mkTyIface (by kernel_rfl)
instance : TyFunc Try.prog 269 := mkTyFunc (by kernel_rfl)
instance : TySz Try.prog 269 1 := mkTySz (by kernel_rfl)
instance : TyBytes Try.prog 269 8 := mkTyBytes (by kernel_rfl)
instance : TyZero Try.prog 269 (.nilFunc) := mkTyZero (by kernel_rfl)
instance : TyS Try.prog 270 := mkTyS (by kernel_rfl) (by kernel_rfl)
instance : TyIface Try.prog 270 false := mkTyIface (by kernel_rfl)
instance : TyFunc Try.prog 270 := mkTyFunc (by kernel_rfl)
instance : TySz Try.prog 270 1 := mkTySz (by kernel_rfl)
instance : TyBytes Try.prog 270 8 := mkTyBytes (by kernel_rfl)
instance : TyZero Try.prog 270 (.nilFunc) := mkTyZero (by kernel_rfl)
instance : TyS Try.prog 271 := mkTyS (by kernel_rfl) (by kernel_rfl)
instance : TyIface Try.prog 271 false := mkTyIface (by kernel_rfl)
instance : TyFunc Try.prog 271 := mkTyFunc (by kernel_rfl)
instance : TySz Try.prog 271 1 := mkTySz (by kernel_rfl)
instance : TyBytes Try.prog 271 8 := mkTyBytes (by kernel_rfl)
instance : TyZero Try.prog 271 (.nilFunc) := mkTyZero (by kernel_rfl)
instance : TyS Try.prog 272 := mkTyS (by kernel_rfl) (by kernel_rfl)
instance : TyIface Try.prog 272 false := mkTyIface (by kernel_rfl)
instance : TyFunc Try.prog 272 := mkTyFunc (by kernel_rfl)
instance : TySz Try.prog 272 1 := mkTySz (by kernel_rfl)
instance : TyBytes Try.prog 272 8 := mkTyBytes (by kernel_rfl)
instance : TyZero Try.prog 272 (.nilFunc) := mkTyZero (by kernel_rfl)
instance : TyS Try.prog 274 := mkTyS (by kernel_rfl) (by kernel_rfl)
instance : TyIface Try.prog 274 false := mkTyIface (by kernel_rfl)
instance : TyFunc Try.prog 274 := mkTyFunc (by kernel_rfl)
instance : TySz Try.prog 274 1 := mkTySz (by kernel_rfl)
instance : TyBytes Try.prog 274 8 := mkTyBytes (by kernel_rfl)
instance : TyZero Try.prog 274 (.nilFunc) := mkTyZero (by kernel_rfl)
instance : TyS Try.prog 275 := mkTyS (by kernel_rfl) (by kernel_rfl)
instance : TyIface Try.prog 275 false := mkTyIface (by kernel_rfl)
instance : TyFunc Try.prog 275 := mkTyFunc (by kernel_rfl)
instance : TySz Try.prog 275 1 := mkTySz (by kernel_rfl)
instance : TyBytes Try.prog 275 8 := mkTyBytes (by kernel_rfl)
instance : TyZero Try.prog 275 (.nilFunc) := mkTyZero (by kernel_rfl)
instance : TyS Try.prog 276 := mkTyS (by kernel_rfl) (by kernel_rfl)
instance : TyIface Try.prog 276 false := mkTyIface (by kernel_rfl)
instance : TyFunc Try.prog 276 := mkTyFunc (by kernel_rfl)
instance : TySz Try.prog 276 1 := mkTySz (by kernel_rfl)
instance : TyBytes Try.prog 276 8 := mkTyBytes (by kernel_rfl)
instance : TyZero Try.prog 276 (.nilFunc) := mkTyZero (by kernel_rfl)
instance : TyS Try.prog 277 := mkTyS (by kernel_rfl) (by kernel_rfl)
instance : TyIface Try.prog 277 false := mkTyIface (by kernel_rfl)
instance : TyFunc Try.prog 277 := mkTyFunc (by kernel_rfl)
instance : TySz Try.prog 277 1 := mkTySz (by kernel_rfl)
instance : TyBytes Try.prog 277 8 := mkTyBytes (by kernel_rfl)
instance : TyZero Try.prog 277 (.nilFunc) := mkTyZero (by kernel_rfl)
instance : TyS Try.prog 278 := mkTyS (by kernel_rfl) (by kernel_rfl)
instance : TyIface Try.prog 278 false := mkTyIface (by kernel_rfl)
instance : TyFunc Try.prog 278 := mkTyFunc (by kernel_rfl)
instance : TySz Try.prog 278 1 := mkTySz (by kernel_rfl)
instance : TyBytes Try.prog 278 8 := mkTyBytes (by kernel_rfl)
instance : TyZero Try.prog 278 (.nilFunc) := mkTyZero (by kernel_rfl)
instance : TyS Try.prog 279 := mkTyS (by kernel_rfl) (by kernel_rfl)
instance : TyIface Try.prog 279 false := mkTyIface (by kernel_rfl)
instance : TyFunc Try.prog 279 := mkTyFunc (by kernel_rfl)
instance : TySz Try.prog 279 1 := mkTySz (by kernel_rfl)
instance : TyBytes Try.prog 279 8 := mkTyBytes (by kernel_rfl)
instance : TyZero Try.prog 279 (.nilFunc) := mkTyZero (by kernel_rfl)
instance : TyS Try.prog 280 := mkTyS (by kernel_rfl) (by kernel_rfl)
instance : TyIface Try.prog 280 false := mkTyIface (by kernel_rfl)
instance : TyFunc Try.prog 280 := mkTyFunc (by kernel_rfl)
instance : TySz Try.prog 280 1 := mkTySz (by kernel_rfl)
instance : TyBytes Try.prog 280 8 := mkTyBytes (by kernel_rfl)
instance : TyZero Try.prog 280 (.nilFunc) := mkTyZero (by kernel_rfl)
instance : TyS Try.prog 281 := mkTyS (by kernel_rfl) (by kernel_rfl)
instance : TyIface Try.prog 281 false := mkTyIface (by kernel_rfl)
instance : TyFunc Try.prog 281 := mkTyFunc (by kernel_rfl)
instance : TySz Try.prog 281 1 := mkTySz (by kernel_rfl)
instance : TyBytes Try.prog 281 8 := mkTyBytes (by kernel_rfl)
instance : TyZero Try.prog 281 (.nilFunc) := mkTyZero (by kernel_rfl)
instance : TyS Try.prog 282 := mkTyS (by kernel_rfl) (by kernel_rfl)
instance : TyIface Try.prog 282 false := mkTyIface (by kernel_rfl)
instance : TyFunc Try.prog 282 := mkTyFunc (by kernel_rfl)
instance : TySz Try.prog 282 1 := mkTySz (by kernel_rfl)
instance : TyBytes Try.prog 282 8 := mkTyBytes (by kernel_rfl)
instance : TyZero Try.prog 282 (.nilFunc) := mkTyZero (by kernel_rfl)
instance : TyS Try.prog 283 := mkTyS (by kernel_rfl) (by kernel_rfl)
instance : TyIface Try.prog 283 false := mkTyIface (by kernel_rfl)
instance : TyFunc Try.prog 283 := mkTyFunc (by kernel_rfl)
instance : TySz Try.prog 283 1 := mkTySz (by kernel_rfl)
instance : TyBytes Try.prog 283 8 := mkTyBytes (by kernel_rfl)
instance : TyZero Try.prog 283 (.nilFunc) := mkTyZero (by kernel_rfl)
instance : TyS Try.prog 284 := mkTyS (by kernel_rfl) (by kernel_rfl)
instance : TyIface Try.prog 284 false := mkTyIface (by kernel_rfl)
instance : TyFunc Try.prog 284 := mkTyFunc (by kernel_rfl)
instance : TySz Try.prog 284 1 := mkTySz (by kernel_rfl)
instance : TyBytes Try.prog 284 8 := mkTyBytes (by kernel_rfl)
instance : TyZero Try.prog 284 (.nilFunc) := mkTyZero (by kernel_rfl)
instance : TyA Try.prog 285 2 := mkTyA (by kernel_rfl) (by kernel_rfl)
instance : TyIface Try.prog 285 false := mkTyIface (by kernel_rfl)
instance : TySz Try.prog 285 2 := mkTySz (by kernel_rfl)
instance : TyBytes Try.prog 285 16 := mkTyBytes (by kernel_rfl)
instance : TyZero Try.prog 285 (.agg ⟨[.int .u64 0, .int .i64 0]⟩) := mkTyZero (by kernel_rfl)
instance : NoGuard Try.prog 285 := ⟨by kernel_rfl⟩
instance : Fld Try.prog 285 0 0 53 := mkFld (by kernel_rfl)
instance : Fld Try.prog 285 1 1 3 := mkFld (by kernel_rfl)
instance : TyPlaces Try.prog 285 (([(0, 1), (1, 1)] : List (Nat × Nat))[·]?) := mkTyPlaces (by kernel_rfl)
instance : TyA Try.prog 286 2 := mkTyA (by kernel_rfl) (by kernel_rfl)
instance : TyIface Try.prog 286 false := mkTyIface (by kernel_rfl)
instance : TySz Try.prog 286 2 := mkTySz (by kernel_rfl)
instance : TyBytes Try.prog 286 16 := mkTyBytes (by kernel_rfl)
instance : TyZero Try.prog 286 (.agg ⟨[.int .u64 0, .int .i64 0]⟩) := mkTyZero (by kernel_rfl)
instance : NoGuard Try.prog 286 := ⟨by kernel_rfl⟩
instance : TyFlds Try.prog 286 [(0, 53), (1, 3)] := mkTyFlds (by kernel_rfl)
instance : Fld Try.prog 286 0 0 53 := mkFld (by kernel_rfl)
instance : Fld Try.prog 286 1 1 3 := mkFld (by kernel_rfl)
instance : TyPlaces Try.prog 286 (([(0, 1), (1, 1)] : List (Nat × Nat))[·]?) := mkTyPlaces (by kernel_rfl)
instance : TyS Try.prog 287 := mkTyS (by kernel_rfl) (by kernel_rfl)
instance : TyIface Try.prog 287 false := mkTyIface (by kernel_rfl)
instance : TyFunc Try.prog 287 := mkTyFunc (by kernel_rfl)
instance : TySz Try.prog 287 1 := mkTySz (by kernel_rfl)
instance : TyBytes Try.prog 287 8 := mkTyBytes (by kernel_rfl)
instance : TyZero Try.prog 287 (.nilFunc) := mkTyZero (by kernel_rfl)
instance : TyS Try.prog 288 := mkTyS (by kernel_rfl) (by kernel_rfl)
instance : TyIface Try.prog 288 false := mkTyIface (by kernel_rfl)
instance : TyFunc Try.prog 288 := mkTyFunc (by kernel_rfl)
instance : TySz Try.prog 288 1 := mkTySz (by kernel_rfl)
instance : TyBytes Try.prog 288 8 := mkTyBytes (by kernel_rfl)
instance : TyZero Try.prog 288 (.nilFunc) := mkTyZero (by kernel_rfl)
instance : TyS Try.prog 289 := mkTyS (by kernel_rfl) (by kernel_rfl)
instance : TyIface Try.prog 289 false := mkTyIface (by kernel_rfl)
instance : TyFunc Try.prog 289 := mkTyFunc (by kernel_rfl)
instance : TySz Try.prog 289 1 := mkTySz (by kernel_rfl)
instance : TyBytes Try.prog 289 8 := mkTyBytes (by kernel_rfl)
instance : TyZero Try.prog 289 (.nilFunc) := mkTyZero (by kernel_rfl)
instance : TyS Try.prog 290 := mkTyS (by kernel_rfl) (by kernel_rfl)
instance : TyIface Try.prog 290 false := mkTyIface (by kernel_rfl)
instance : TyFunc Try.prog 290 := mkTyFunc (by kernel_rfl)
instance : TySz Try.prog 290 1 := mkTySz (by kernel_rfl)
instance : TyBytes Try.prog 290 8 := mkTyBytes (by kernel_rfl)
instance : TyZero Try.prog 290 (.nilFunc) := mkTyZero (by kernel_rfl)
instance : TyS Try.prog 291 := mkTyS (by kernel_rfl) (by kernel_rfl)
instance : TyIface Try.prog 291 false := mkTyIface (by kernel_rfl)
instance : TyFunc Try.prog 291 := mkTyFunc (by kernel_rfl)
instance : TySz Try.prog 291 1 := mkTySz (by kernel_rfl)
instance : TyBytes Try.prog 291 8 := mkTyBytes (by kernel_rfl)
instance : TyZero Try.prog 291 (.nilFunc) := mkTyZero (by kernel_rfl)
instance : TyS Try.prog 292 := mkTyS (by kernel_rfl) (by kernel_rfl)
instance : TyIface Try.prog 292 false := mkTyIface (by kernel_rfl)
instance : TyFunc Try.prog 292 := mkTyFunc (by kernel_rfl)
instance : TySz Try.prog 292 1 := mkTySz (by kernel_rfl)
instance : TyBytes Try.prog 292 8 := mkTyBytes (by kernel_rfl)
instance : TyZero Try.prog 292 (.nilFunc) := mkTyZero (by kernel_rfl)
instance : TyS Try.prog 293 := mkTyS (by kernel_rfl) (by kernel_rfl)
instance : TyIface Try.prog 293 false := mkTyIface (by kernel_rfl)
instance : TyFunc Try.prog 293 := mkTyFunc (by kernel_rfl)
instance : TySz Try.prog 293 1 := mkTySz (by kernel_rfl)
instance : TyBytes Try.prog 293 8 := mkTyBytes (by kernel_rfl)
instance : TyZero Try.prog 293 (.nilFunc) := mkTyZero (by kernel_rfl)
instance : TyS Try.prog 294 := mkTyS (by kernel_rfl) (by kernel_rfl)
instance : TyIface Try.prog 294 false := mkTyIface (by kernel_rfl)
instance : TyFunc Try.prog 294 := mkTyFunc (by kernel_rfl)
instance : TySz Try.prog 294 1 := mkTySz (by kernel_rfl)
instance : TyBytes Try.prog 294 8 := mkTyBytes (by kernel_rfl)
instance : TyZero Try.prog 294 (.nilFunc) := mkTyZero (by kernel_rfl)
instance : TyS Try.prog 295 := mkTyS (by kernel_rfl) (by kernel_rfl)
instance : TyIface Try.prog 295 false := mkTyIface (by kernel_rfl)
instance : TyFunc Try.prog 295 := mkTyFunc (by kernel_rfl)
instance : TySz Try.prog 295 1 := mkTySz (by kernel_rfl)
instance : TyBytes Try.prog 295 8 := mkTyBytes (by kernel_rfl)
instance : TyZero Try.prog 295 (.nilFunc) := mkTyZero (by kernel_rfl)
instance : TyS Try.prog 296 := mkTyS (by kernel_rfl) (by kernel_rfl)
instance : TyIface Try.prog 296 false := mkTyIface (by kernel_rfl)
instance : TyFunc Try.prog 296 := mkTyFunc (by kernel_rfl)
instance : TySz Try.prog 296 1 := mkTySz (by kernel_rfl)
instance : TyBytes Try.prog 296 8 := mkTyBytes (by kernel_rfl)
instance : TyZero Try.prog 296 (.nilFunc) := mkTyZero (by kernel_rfl)
instance : TyS Try.prog 297 := mkTyS (by kernel_rfl) (by kernel_rfl)
instance : TyIface Try.prog 297 false := mkTyIface (by kernel_rfl)
instance : TyFunc Try.prog 297 := mkTyFunc (by kernel_rfl)
instance : TySz Try.prog 297 1 := mkTySz (by kernel_rfl)
instance : TyBytes Try.prog 297 8 := mkTyBytes (by kernel_rfl)
instance : TyZero Try.prog 297 (.nilFunc) := mkTyZero (by kernel_rfl)
instance : TyS Try.prog 298 := mkTyS (by kernel_rfl) (by kernel_rfl)
instance : TyIface Try.prog 298 false := mkTyIface (by kernel_rfl)
instance : TyFunc Try.prog 298 := mkTyFunc (by kernel_rfl)
instance : TySz Try.prog 298 1 := mkTySz (by kernel_rfl)
instance : TyBytes Try.prog 298 8 := mkTyBytes (by kernel_rfl)
instance : TyZero Try.prog 298 (.nilFunc) := mkTyZero (by kernel_rfl)
instance : TyS Try.prog 299 := mkTyS (by kernel_rfl) (by kernel_rfl)
instance : TyIface Try.prog 299 false := mkTyIface (by kernel_rfl)
instance : TyFunc Try.prog 299 := mkTyFunc (by kernel_rfl)
instance : TySz Try.prog 299 1 := mkTySz (by kernel_rfl)
instance : TyBytes Try.prog 299 8 := mkTyBytes (by kernel_rfl)
instance : TyZero Try.prog 299 (.nilFunc) := mkTyZero (by kernel_rfl)
instance : TyA Try.prog 300 4 := mkTyA (by kernel_rfl) (by kernel_rfl)
instance : TyIface Try.prog 300 false := mkTyIface (by kernel_rfl)
instance : TySz Try.prog 300 4 := mkTySz (by kernel_rfl)
instance : TyBytes Try.prog 300 40 := mkTyBytes (by kernel_rfl)
instance : TyZero Try.prog 300 (.agg ⟨[.pointer none, .pointer none, .pointer none, .string ⟨⟨[]⟩⟩]⟩) := mkTyZero (by kernel_rfl)
instance : NoGuard Try.prog 300 := ⟨by kernel_rfl⟩
instance : Fld Try.prog 300 0 0 17 := mkFld (by kernel_rfl)
instance : Fld Try.prog 300 1 1 17 := mkFld (by kernel_rfl)
instance : Fld Try.prog 300 2 2 17 := mkFld (by kernel_rfl)
instance : Fld Try.prog 300 3 3 9 := mkFld (by kernel_rfl)
instance : TyPlaces Try.prog 300 (([(0, 1), (1, 1), (2, 1), (3, 1)] : List (Nat × Nat))[·]?) := mkTyPlaces (by kernel_rfl)
instance : TyS Try.prog 305 := mkTyS (by kernel_rfl) (by kernel_rfl)
instance : TyIface Try.prog 305 false := mkTyIface (by kernel_rfl)
instance : TySz Try.prog 305 1 := mkTySz (by kernel_rfl)
instance : TyBytes Try.prog 305 4 := mkTyBytes (by kernel_rfl)
instance : TyZero Try.prog 305 (.int .u32 0) := mkTyZero (by kernel_rfl)
instance : TyInt Try.prog 305 .u32 := ⟨by kernel_rfl⟩
instance : TyS Try.prog 308 := mkTyS (by kernel_rfl) (by kernel_rfl)
instance : TyIface Try.prog 308 false := mkTyIface (by kernel_rfl)
instance : TyFunc Try.prog 308 := mkTyFunc (by kernel_rfl)
instance : TySz Try.prog 308 1 := mkTySz (by kernel_rfl)
instance : TyBytes Try.prog 308 8 := mkTyBytes (by kernel_rfl)
instance : TyZero Try.prog 308 (.nilFunc) := mkTyZero (by kernel_rfl)
instance : TyS Try.prog 309 := mkTyS (by kernel_rfl) (by kernel_rfl)
instance : TyIface Try.prog 309 false := mkTyIface (by kernel_rfl)
instance : TySz Try.prog 309 1 := mkTySz (by kernel_rfl)
instance : TyBytes Try.prog 309 8 := mkTyBytes (by kernel_rfl)
instance : TyZero Try.prog 309 (.pointer none) := mkTyZero (by kernel_rfl)
instance : TyPtr Try.prog 309 5 := ⟨by kernel_rfl⟩
instance : TyA Try.prog 312 11 := mkTyA (by kernel_rfl) (by kernel_rfl)
instance : TyIface Try.prog 312 false := mkTyIface (by kernel_rfl)
instance : TySz Try.prog 312 11 := mkTySz (by kernel_rfl)
instance : TyBytes Try.prog 312 48 := mkTyBytes (by kernel_rfl)
instance : TyZero Try.prog 312 (.agg ⟨[.int .u64 0, .int .u64 0, .int .u32 0, .int .u8 0, .int .u8 0, .int .u8 0, .int .u8 0, .nilFunc, .pointer none, .int .i32 0, .int .i32 0]⟩) := mkTyZero (by kernel_rfl)
instance : NoGuard Try.prog 312 := ⟨by kernel_rfl⟩
instance : Fld Try.prog 312 0 0 12 := mkFld (by kernel_rfl)
instance : Fld Try.prog 312 1 1 12 := mkFld (by kernel_rfl)
instance : Fld Try.prog 312 2 2 305 := mkFld (by kernel_rfl)
instance : Fld Try.prog 312 3 3 306 := mkFld (by kernel_rfl)
instance : Fld Try.prog 312 4 4 5 := mkFld (by kernel_rfl)
instance : Fld Try.prog 312 5 5 5 := mkFld (by kernel_rfl)
instance : Fld Try.prog 312 6 6 307 := mkFld (by kernel_rfl)
instance : Fld Try.prog 312 7 7 308 := mkFld (by kernel_rfl)
instance : Fld Try.prog 312 8 8 309 := mkFld (by kernel_rfl)
instance : Fld Try.prog 312 9 9 310 := mkFld (by kernel_rfl)
instance : Fld Try.prog 312 10 10 311 := mkFld (by kernel_rfl)
instance : TyPlaces Try.prog 312 (([(0, 1), (1, 1), (2, 1), (3, 1), (4, 1), (5, 1), (6, 1), (7, 1), (8, 1), (9, 1), (10, 1)] : List (Nat × Nat))[·]?) := mkTyPlaces (by kernel_rfl)
instance : Fun Try.prog 3 := mkFun (by kernel_rfl)
instance : Fun Try.prog 4 := mkFun (by kernel_rfl)
instance : Fun Try.prog 5 := mkFun (by kernel_rfl)
instance : Fun Try.prog 6 := mkFun (by kernel_rfl)
instance : Fun Try.prog 7 := mkFun (by kernel_rfl)
instance : Fun Try.prog 8 := mkFun (by kernel_rfl)
instance : Fun Try.prog 9 := mkFun (by kernel_rfl)
instance : Fun Try.prog 10 := mkFun (by kernel_rfl)
instance : Fun Try.prog 11 := mkFun (by kernel_rfl)
instance : Fun Try.prog 12 := mkFun (by kernel_rfl)
instance : Fun Try.prog 13 := mkFun (by kernel_rfl)
instance : Fun Try.prog 14 := mkFun (by kernel_rfl)
instance : Fun Try.prog 15 := mkFun (by kernel_rfl)
instance : Fun Try.prog 16 := mkFun (by kernel_rfl)
instance : Fun Try.prog 17 := mkFun (by kernel_rfl)
instance : Fun Try.prog 18 := mkFun (by kernel_rfl)
instance : Fun Try.prog 19 := mkFun (by kernel_rfl)
instance : Fun Try.prog 20 := mkFun (by kernel_rfl)
instance : Fun Try.prog 21 := mkFun (by kernel_rfl)
instance : Fun Try.prog 22 := mkFun (by kernel_rfl)
instance : Fun Try.prog 23 := mkFun (by kernel_rfl)
instance : Fun Try.prog 24 := mkFun (by kernel_rfl)
instance : Fun Try.prog 25 := mkFun (by kernel_rfl)
instance : Fun Try.prog 26 := mkFun (by kernel_rfl)
instance : Fun Try.prog 27 := mkFun (by kernel_rfl)
instance : Fun Try.prog 28 := mkFun (by kernel_rfl)
instance : Fun Try.prog 29 := mkFun (by kernel_rfl)
instance : Fun Try.prog 30 := mkFun (by kernel_rfl)
instance : Fun Try.prog 31 := mkFun (by kernel_rfl)
instance : Fun Try.prog 32 := mkFun (by kernel_rfl)
instance : Fun Try.prog 33 := mkFun (by kernel_rfl)
instance : Fun Try.prog 34 := mkFun (by kernel_rfl)
instance : Fun Try.prog 35 := mkFun (by kernel_rfl)
instance : Fun Try.prog 36 := mkFun (by kernel_rfl)
instance : Fun Try.prog 37 := mkFun (by kernel_rfl)
instance : Fun Try.prog 38 := mkFun (by kernel_rfl)
instance : Fun Try.prog 39 := mkFun (by kernel_rfl)
instance : Fun Try.prog 40 := mkFun (by kernel_rfl)
instance : Fun Try.prog 41 := mkFun (by kernel_rfl)
instance : Fun Try.prog 42 := mkFun (by kernel_rfl)
instance : Fun Try.prog 43 := mkFun (by kernel_rfl)
instance : Fun Try.prog 44 := mkFun (by kernel_rfl)
instance : Fun Try.prog 45 := mkFun (by kernel_rfl)
instance : Fun Try.prog 46 := mkFun (by kernel_rfl)
instance : Fun Try.prog 47 := mkFun (by kernel_rfl)
instance : Fun Try.prog 48 := mkFun (by kernel_rfl)
instance : Fun Try.prog 49 := mkFun (by kernel_rfl)
instance : Fun Try.prog 50 := mkFun (by kernel_rfl)
instance : Fun Try.prog 51 := mkFun (by kernel_rfl)
instance : Fun Try.prog 52 := mkFun (by kernel_rfl)
instance : Fun Try.prog 53 := mkFun (by kernel_rfl)
instance : Fun Try.prog 54 := mkFun (by kernel_rfl)
instance : Fun Try.prog 55 := mkFun (by kernel_rfl)
instance : Fun Try.prog 56 := mkFun (by kernel_rfl)
instance : Fun Try.prog 57 := mkFun (by kernel_rfl)
instance : Fun Try.prog 58 := mkFun (by kernel_rfl)
instance : Fun Try.prog 59 := mkFun (by kernel_rfl)
instance : Fun Try.prog 60 := mkFun (by kernel_rfl)
instance : Fun Try.prog 61 := mkFun (by kernel_rfl)
instance : Fun Try.prog 62 := mkFun (by kernel_rfl)
instance : Fun Try.prog 63 := mkFun (by kernel_rfl)
instance : Fun Try.prog 64 := mkFun (by kernel_rfl)
instance : Fun Try.prog 65 := mkFun (by kernel_rfl)
instance : Fun Try.prog 66 := mkFun (by kernel_rfl)
instance : Fun Try.prog 67 := mkFun (by kernel_rfl)
instance : Fun Try.prog 68 := mkFun (by kernel_rfl)
instance : Fun Try.prog 69 := mkFun (by kernel_rfl)
instance : Fun Try.prog 70 := mkFun (by kernel_rfl)
instance : Fun Try.prog 71 := mkFun (by kernel_rfl)
instance : Fun Try.prog 72 := mkFun (by kernel_rfl)
instance : Fun Try.prog 73 := mkFun (by kernel_rfl)
instance : Fun Try.prog 74 := mkFun (by kernel_rfl)
instance : Fun Try.prog 75 := mkFun (by kernel_rfl)
instance : Fun Try.prog 76 := mkFun (by kernel_rfl)
instance : Fun Try.prog 77 := mkFun (by kernel_rfl)
instance : Fun Try.prog 78 := mkFun (by kernel_rfl)
instance : Fun Try.prog 79 := mkFun (by kernel_rfl)
instance : Fun Try.prog 80 := mkFun (by kernel_rfl)
instance : Fun Try.prog 81 := mkFun (by kernel_rfl)
instance : Fun Try.prog 82 := mkFun (by kernel_rfl)
instance : Fun Try.prog 83 := mkFun (by kernel_rfl)
instance : Fun Try.prog 84 := mkFun (by kernel_rfl)
instance : Fun Try.prog 85 := mkFun (by kernel_rfl)
instance : Fun Try.prog 86 := mkFun (by kernel_rfl)
instance : Fun Try.prog 87 := mkFun (by kernel_rfl)
instance : Fun Try.prog 88 := mkFun (by kernel_rfl)
instance : Fun Try.prog 89 := mkFun (by kernel_rfl)
instance : Fun Try.prog 90 := mkFun (by kernel_rfl)
instance : Fun Try.prog 91 := mkFun (by kernel_rfl)
instance : Fun Try.prog 92 := mkFun (by kernel_rfl)
instance : Fun Try.prog 93 := mkFun (by kernel_rfl)
instance : Fun Try.prog 94 := mkFun (by kernel_rfl)
instance : Fun Try.prog 95 := mkFun (by kernel_rfl)
instance : Fun Try.prog 96 := mkFun (by kernel_rfl)
instance : Fun Try.prog 97 := mkFun (by kernel_rfl)
instance : Fun Try.prog 98 := mkFun (by kernel_rfl)
instance : Fun Try.prog 99 := mkFun (by kernel_rfl)
instance : Fun Try.prog 100 := mkFun (by kernel_rfl)
instance : Fun Try.prog 101 := mkFun (by kernel_rfl)
instance : Fun Try.prog 102 := mkFun (by kernel_rfl)
instance : Fun Try.prog 103 := mkFun (by kernel_rfl)
instance : Fun Try.prog 104 := mkFun (by kernel_rfl)
instance : Fun Try.prog 105 := mkFun (by kernel_rfl)
instance : Fun Try.prog 106 := mkFun (by kernel_rfl)
instance : Fun Try.prog 107 := mkFun (by kernel_rfl)
instance : Fun Try.prog 108 := mkFun (by kernel_rfl)
instance : Fun Try.prog 109 := mkFun (by kernel_rfl)
instance : Fun Try.prog 110 := mkFun (by kernel_rfl)
instance : Fun Try.prog 111 := mkFun (by kernel_rfl)
instance : Fun Try.prog 112 := mkFun (by kernel_rfl)
instance : Fun Try.prog 113 := mkFun (by kernel_rfl)
instance : Fun Try.prog 114 := mkFun (by kernel_rfl)
instance : Fun Try.prog 115 := mkFun (by kernel_rfl)
instance : Fun Try.prog 116 := mkFun (by kernel_rfl)
instance : Fun Try.prog 117 := mkFun (by kernel_rfl)
instance : Fun Try.prog 118 := mkFun (by kernel_rfl)
instance : Fun Try.prog 119 := mkFun (by kernel_rfl)
instance : Fun Try.prog 120 := mkFun (by kernel_rfl)
instance : Fun Try.prog 121 := mkFun (by kernel_rfl)
instance : Fun Try.prog 122 := mkFun (by kernel_rfl)
instance : Fun Try.prog 123 := mkFun (by kernel_rfl)
instance : Fun Try.prog 124 := mkFun (by kernel_rfl)
instance : Fun Try.prog 125 := mkFun (by kernel_rfl)
instance : Fun Try.prog 126 := mkFun (by kernel_rfl)
instance : Fun Try.prog 127 := mkFun (by kernel_rfl)
instance : Fun Try.prog 128 := mkFun (by kernel_rfl)
instance : Fun Try.prog 129 := mkFun (by kernel_rfl)
instance : Fun Try.prog 130 := mkFun (by kernel_rfl)
instance : Fun Try.prog 131 := mkFun (by kernel_rfl)
instance : Fun Try.prog 132 := mkFun (by kernel_rfl)
instance : Fun Try.prog 133 := mkFun (by kernel_rfl)
instance : Fun Try.prog 134 := mkFun (by kernel_rfl)
instance : Fun Try.prog 135 := mkFun (by kernel_rfl)
instance : Fun Try.prog 136 := mkFun (by kernel_rfl)
instance : Fun Try.prog 137 := mkFun (by kernel_rfl)
instance : Fun Try.prog 138 := mkFun (by kernel_rfl)
instance : Fun Try.prog 139 := mkFun (by kernel_rfl)
instance : Fun Try.prog 140 := mkFun (by kernel_rfl)
instance : Fun Try.prog 141 := mkFun (by kernel_rfl)
instance : Fun Try.prog 142 := mkFun (by kernel_rfl)
instance : Fun Try.prog 143 := mkFun (by kernel_rfl)
instance : Fun Try.prog 144 := mkFun (by kernel_rfl)
instance : Fun Try.prog 145 := mkFun (by kernel_rfl)
instance : Fun Try.prog 146 := mkFun (by kernel_rfl)
instance : Fun Try.prog 147 := mkFun (by kernel_rfl)
instance : Fun Try.prog 148 := mkFun (by kernel_rfl)
instance : Fun Try.prog 149 := mkFun (by kernel_rfl)
instance : Fun Try.prog 150 := mkFun (by kernel_rfl)
instance : Fun Try.prog 151 := mkFun (by kernel_rfl)
instance : Fun Try.prog 152 := mkFun (by kernel_rfl)
instance : Fun Try.prog 153 := mkFun (by kernel_rfl)
instance : Fun Try.prog 154 := mkFun (by kernel_rfl)
instance : Fun Try.prog 155 := mkFun (by kernel_rfl)
instance : Fun Try.prog 156 := mkFun (by kernel_rfl)
instance : Fun Try.prog 157 := mkFun (by kernel_rfl)
instance : Fun Try.prog 158 := mkFun (by kernel_rfl)
instance : Fun Try.prog 159 := mkFun (by kernel_rfl)
instance : Fun Try.prog 160 := mkFun (by kernel_rfl)
instance : Fun Try.prog 161 := mkFun (by kernel_rfl)
instance : Fun Try.prog 162 := mkFun (by kernel_rfl)
instance : Fun Try.prog 163 := mkFun (by kernel_rfl)
instance : Fun Try.prog 164 := mkFun (by kernel_rfl)
instance : Fun Try.prog 165 := mkFun (by kernel_rfl)
instance : Fun Try.prog 166 := mkFun (by kernel_rfl)
instance : Fun Try.prog 167 := mkFun (by kernel_rfl)
instance : Fun Try.prog 168 := mkFun (by kernel_rfl)
instance : Fun Try.prog 169 := mkFun (by kernel_rfl)
instance : Fun Try.prog 170 := mkFun (by kernel_rfl)
instance : Fun Try.prog 171 := mkFun (by kernel_rfl)
instance : Fun Try.prog 172 := mkFun (by kernel_rfl)
instance : Fun Try.prog 173 := mkFun (by kernel_rfl)
instance : Fun Try.prog 174 := mkFun (by kernel_rfl)
instance : Fun Try.prog 175 := mkFun (by kernel_rfl)
instance : Fun Try.prog 176 := mkFun (by kernel_rfl)
instance : Fun Try.prog 177 := mkFun (by kernel_rfl)
instance : Fun Try.prog 178 := mkFun (by kernel_rfl)
instance : Fun Try.prog 179 := mkFun (by kernel_rfl)
instance : Fun Try.prog 180 := mkFun (by kernel_rfl)
instance : Fun Try.prog 181 := mkFun (by kernel_rfl)
instance : Fun Try.prog 182 := mkFun (by kernel_rfl)
instance : Fun Try.prog 183 := mkFun (by kernel_rfl)
instance : Fun Try.prog 184 := mkFun (by kernel_rfl)
instance : Fun Try.prog 185 := mkFun (by kernel_rfl)
instance : Fun Try.prog 187 := mkFun (by kernel_rfl)
instance : Fun Try.prog 188 := mkFun (by kernel_rfl)
instance : Fun Try.prog 189 := mkFun (by kernel_rfl)
instance : Fun Try.prog 190 := mkFun (by kernel_rfl)
instance : Fun Try.prog 191 := mkFun (by kernel_rfl)
instance : Fun Try.prog 192 := mkFun (by kernel_rfl)
instance : Fun Try.prog 193 := mkFun (by kernel_rfl)
instance : Fun Try.prog 194 := mkFun (by kernel_rfl)
instance : Fun Try.prog 195 := mkFun (by kernel_rfl)
instance : Fun Try.prog 196 := mkFun (by kernel_rfl)
instance : Fun Try.prog 197 := mkFun (by kernel_rfl)
instance : Fun Try.prog 198 := mkFun (by kernel_rfl)
instance : Fun Try.prog 199 := mkFun (by kernel_rfl)
instance : Fun Try.prog 200 := mkFun (by kernel_rfl)
instance : Fun Try.prog 201 := mkFun (by kernel_rfl)
instance : Fun Try.prog 202 := mkFun (by kernel_rfl)
instance : Fun Try.prog 203 := mkFun (by kernel_rfl)
instance : Fun Try.prog 204 := mkFun (by kernel_rfl)
instance : Fun Try.prog 205 := mkFun (by kernel_rfl)
instance : Fun Try.prog 206 := mkFun (by kernel_rfl)
instance : Fun Try.prog 207 := mkFun (by kernel_rfl)
instance : Fun Try.prog 208 := mkFun (by kernel_rfl)
instance : Fun Try.prog 209 := mkFun (by kernel_rfl)
instance : Fun Try.prog 210 := mkFun (by kernel_rfl)
instance : Fun Try.prog 211 := mkFun (by kernel_rfl)
instance : Fun Try.prog 212 := mkFun (by kernel_rfl)
instance : Fun Try.prog 213 := mkFun (by kernel_rfl)
instance : Fun Try.prog 214 := mkFun (by kernel_rfl)
instance : Fun Try.prog 215 := mkFun (by kernel_rfl)
instance : Fun Try.prog 216 := mkFun (by kernel_rfl)
instance : Fun Try.prog 217 := mkFun (by kernel_rfl)
instance : Fun Try.prog 218 := mkFun (by kernel_rfl)
instance : Fun Try.prog 219 := mkFun (by kernel_rfl)
instance : Fun Try.prog 220 := mkFun (by kernel_rfl)
instance : Fun Try.prog 221 := mkFun (by kernel_rfl)
instance : Fun Try.prog 222 := mkFun (by kernel_rfl)
instance : Fun Try.prog 223 := mkFun (by kernel_rfl)
instance : Fun Try.prog 224 := mkFun (by kernel_rfl)
instance : Fun Try.prog 225 := mkFun (by kernel_rfl)
instance : Fun Try.prog 226 := mkFun (by kernel_rfl)
instance : Fun Try.prog 227 := mkFun (by kernel_rfl)
instance : Fun Try.prog 228 := mkFun (by kernel_rfl)
instance : Fun Try.prog 229 := mkFun (by kernel_rfl)
instance : Fun Try.prog 230 := mkFun (by kernel_rfl)
instance : Fun Try.prog 231 := mkFun (by kernel_rfl)
instance : Fun Try.prog 232 := mkFun (by kernel_rfl)
instance : Fun Try.prog 233 := mkFun (by kernel_rfl)
instance : Fun Try.prog 234 := mkFun (by kernel_rfl)
instance : Fun Try.prog 235 := mkFun (by kernel_rfl)
instance : Fun Try.prog 236 := mkFun (by kernel_rfl)
instance : Fun Try.prog 237 := mkFun (by kernel_rfl)
instance : Fun Try.prog 238 := mkFun (by kernel_rfl)
instance : Fun Try.prog 239 := mkFun (by kernel_rfl)
instance : Fun Try.prog 240 := mkFun (by kernel_rfl)
instance : Fun Try.prog 241 := mkFun (by kernel_rfl)
instance : Fun Try.prog 242 := mkFun (by kernel_rfl)
instance : Fun Try.prog 243 := mkFun (by kernel_rfl)
instance : Fun Try.prog 244 := mkFun (by kernel_rfl)
instance : Fun Try.prog 245 := mkFun (by kernel_rfl)
instance : Fun Try.prog 247 := mkFun (by kernel_rfl)
instance : Mixed Try.prog := ⟨by kernel_rfl⟩
end Go.Proofs.E

namespace Go.Proofs.E
open Go
set_option linter.unusedVariables false
set_option linter.unusedSimpArgs false
set_option linter.unusedSectionVars false
set_option maxRecDepth 4000
set_option maxHeartbeats 1000000
attribute [local irreducible] Yl TL TC TE Spec YSpec R1 Hp.le EnvLe TS TR YS Stays
/-! ## octet: numbers are laid -/
def z8 (n : Nat) : List UInt8 := List.replicate n 0
theorem stc_mid (A B vs ws : List Value) (h : ws.length = vs.length) : stc (A ++ (vs ++ B)) A.length ws = A ++ (ws ++ B) := by
  unfold stc
  rw [List.take_left, h, ← List.drop_drop, List.drop_left, List.drop_left, List.append_assoc]
theorem u8_wrap (y : Nat) : Value.int .u8 (IntKind.u8.wrap (y : Int)) = u8c (UInt8.ofNat y) := by
  simp only [u8c, UInt8.toNat_ofNat', IntKind.wrap, IntKind.bits, IntKind.signed, Bool.false_and, Bool.false_eq_true, if_false]
  congr 1
theorem made_z8 (m : Nat) : madeCells (Value.int .u8 0).cells m = ⟨(z8 m).map u8c⟩ := by
  have hz : (Value.int IntKind.u8 0).cells = ⟨[u8c 0]⟩ := rfl
  rw [hz]
  apply Array.ext'
  apply List.ext_getElem?
  intro i
  by_cases hi : i < m
  · simp [madeCells, z8, hi, Nat.mod_one]
  · rw [List.getElem?_eq_none (by simp [madeCells]; omega), List.getElem?_eq_none (by simp [z8]; omega)]
theorem own_chunk (b n c : Nat) {xs : List Value} {T : TypeId} : [(b, Obj.cells ⟨xs⟩ T (0, 0))] = ownC (.slice (some ⟨b, 0, none⟩) n c) xs [] T := by simp [ownC]
theorem stand_spec (ρ : Hp) (a : Option Addr) (n c : Nat) (l : List UInt8) (h : SIn ρ u8c a n l) (x p : Nat) (hx : x < 18446744073709551616) (hp : p ≤ 8) (hp1 : 1 ≤ p) (hn : n ≤ 1000000) :
    Spec Try.prog 199 [.slice a n c, .int .u64 x, .int .i64 p] ρ [] (fun v ρ' L' => ρ' = ρ ∧ ∃ sp, OwnS v (n + p) ((l ++ be p x).map u8c) sp 1 ∧ L' = [ownC v ((l ++ be p x).map u8c) sp 5]) := by
  have hl := h.len
  refine spec_enter Try.func199 rfl rfl rfl fun u R => ?_
  simp only [argsE, List.cons_append, List.nil_append]
  repeat' (first | (refine tl_makeSlice rfl rfl (by omega) (by omega) (by omega) (by omega) rfl (fun hbn => ?_)) | (refine i_op ?_; first | (refine i_qq ?_; refine qQ ?_) | refine qEf ?_) | refine tl_nil ?_ | (refine i_tc ?_; refine qTc ?_) | (refine i_te ?_; refine qTe ?_) | intro _)
  simp only [show ((n : Int) + (p : Int)).toNat = n + p by omega, Nat.mul_one, made_z8]
  have hinit : stc ((z8 (n + p)).map u8c) 0 ((l.map u8c).take (n + p)) = (l ++ (z8 (p - 0) ++ be 0 x)).map u8c := by
    rw [List.take_of_length_le (by simp; omega)]
    unfold stc
    have e : z8 (n + p) = z8 n ++ z8 p := by simp [z8, List.replicate_append_replicate]
    rw [e]
    simp [be, hl, z8]
  refine tl_copy (ys := l.map u8c) rfl rfl (SIn.srcV h) (by simpa using hl) (u8c_one l) (by simp [z8]) rfl ?_
  simp only [hinit]
  repeat' (first | (refine i_op ?_; first | (refine i_qq ?_; refine qQ ?_) | refine qEf ?_) | refine tl_nil ?_ | (refine i_tc ?_; refine qTc ?_) | (refine i_te ?_; refine qTe ?_) | intro _)
  refine tc_loop_g [(6, _), (7, _), (17, _)] (fun (ζ : (Nat) × (Nat)) => [(18, .int .i64 ζ.1), (1, .int .u64 (ζ.2 : Nat))]) (fun (ζ : (Nat) × (Nat)) => ρ) (fun (ζ : (Nat) × (Nat)) => [[(hbn, .cells ⟨(l ++ (z8 (p - ζ.1) ++ be ζ.1 x)).map u8c⟩ 5 (0, 0))]]) (fun (ζ : (Nat) × (Nat)) => ζ.1 ≤ p ∧ ζ.2 = x / 256 ^ ζ.1) (fun (ζ : (Nat) × (Nat)) => p - ζ.1) ((0, x)) (⟨Nat.zero_le _, by simp⟩) ev_le ev_le rfl tk ?_
  rintro ⟨k, y⟩ hI
  try simp only [List.cons_append, List.nil_append, List.append_assoc, List.append_eq] at hI ⊢
  try dsimp only at hI ⊢
  obtain ⟨hk, hy⟩ := hI
  by_cases hlt : k < p
  · have hlen : ((l ++ (z8 (p - k) ++ be k x)).map u8c).length = n + p := by simp [z8, be_length, hl]; omega
    have hst : stc ((l ++ (z8 (p - k) ++ be k x)).map u8c) (0 + ((n : Int) + (p : Int) - 1 - k).toNat * 1) [u8c (UInt8.ofNat y)] = (l ++ (z8 (p - (k + 1)) ++ be (k + 1) x)).map u8c := by
      have e1 : z8 (p - k) = z8 (p - (k + 1)) ++ [0] := by
        rw [show p - k = (p - (k + 1)) + 1 by omega]; simp [z8, List.replicate_succ']
      have e2 : 0 + ((n : Int) + (p : Int) - 1 - k).toNat * 1 = ((l ++ z8 (p - (k + 1))).map u8c).length := by simp [z8, hl]; omega
      have e3 : (l ++ (z8 (p - k) ++ be k x)).map u8c = (l ++ z8 (p - (k + 1))).map u8c ++ ([u8c 0] ++ (be k x).map u8c) := by rw [e1]; simp
      rw [e2, e3, stc_mid _ _ [u8c 0] [u8c (UInt8.ofNat y)] rfl, be, ← hy]
      simp
    have hyy : y / 256 = x / 256 ^ (k + 1) := by rw [hy, Nat.div_div_eq_div_mul, Nat.pow_succ]
    repeat' (first | (refine i_op ?_; first | (refine i_qq ?_; refine qQ ?_) | refine qEf ?_) | refine tl_nil ?_ | (refine i_tc ?_; refine qTc ?_) | (refine i_te ?_; refine qTe ?_) | intro _)
    have e8 : (y : Int) / 2 ^ 8 = ((x / 256 ^ (k + 1) : Nat) : Int) := by
      rw [← hyy]
      have : (2 : Int) ^ 8 = 256 := by decide
      omega
    rw [e8, u8_wrap, Int.natCast_add, hst]
    refine te_round_g (k + 1, x / 256 ^ (k + 1)) (⟨hlt, rfl⟩) ev_le ev_le rfl tk inferInstance (by first | omega | (dsimp only; omega))
  · have hk2 : k = p := by omega
    subst hk2
    simp only [Nat.sub_self, z8, List.replicate_zero, List.nil_append]
    repeat' (first | (refine i_op ?_; first | (refine i_qq ?_; refine qQ ?_) | refine qEf ?_) | refine tl_nil ?_ | (refine i_tc ?_; refine qTc ?_) | (refine i_te ?_; refine qTe ?_) | intro _)
    rw [own_chunk hbn (n + k) (n + k)]
    exact qE ⟨rfl, [], ⟨.inr ⟨hbn, n + k, rfl, by simp [be_length, hl], by simp [be_length, hl], Nat.le_refl _⟩⟩, rfl⟩
theorem put16_spec (ρ : Hp) (a : Option Addr) (n c : Nat) (l : List UInt8) (h : SIn ρ u8c a n l) (x : Nat) (hx : x < 65536) (hn : n ≤ 1000000) :
    Spec Try.prog 147 [.slice a n c, .int .u16 x] ρ [] (fun v ρ' L' => ρ' = ρ ∧ ∃ sp, OwnS v (n + 2) ((l ++ be 2 x).map u8c) sp 1 ∧ L' = [ownC v ((l ++ be 2 x).map u8c) sp 5]) := by
  have hw : IntKind.u64.wrap (x : Int) = x := wrap_id (by simp only [lo, hi]; omega)
  have hs := stand_spec ρ a n c l h x 2 (by omega) (by omega) (by omega) hn
  refine spec_enter Try.func147 rfl rfl rfl fun u R => ?_
  simp only [argsE, List.cons_append, List.nil_append]
  repeat' (first | (refine iCv ?_; refine tl_y (y_conv rfl) rfl rfl ?_; rw [hw]) | (refine tl_is (.func 199) ?_; refine qC rfl rfl (hs) ?_; rintro v ρ' L' hle ⟨rfl, sp, hown, rfl⟩ <;> (try simp only [List.cons_append, List.nil_append, List.append_eq])) | (refine i_op ?_; first | (refine i_qq ?_; refine qQ ?_) | refine qEf ?_) | refine tl_nil ?_ | (refine i_tc ?_; refine qTc ?_) | (refine i_te ?_; refine qTe ?_) | intro _)
  exact qE ⟨rfl, sp, hown, rfl⟩
theorem put64_spec (ρ : Hp) (a : Option Addr) (n c : Nat) (l : List UInt8) (h : SIn ρ u8c a n l) (x : Nat) (hx : x < 18446744073709551616) (hn : n ≤ 1000000) :
    Spec Try.prog 144 [.slice a n c, .int .u64 x] ρ [] (fun v ρ' L' => ρ' = ρ ∧ ∃ sp, OwnS v (n + 8) ((l ++ be 8 x).map u8c) sp 1 ∧ L' = [ownC v ((l ++ be 8 x).map u8c) sp 5]) := by
  have hs := stand_spec ρ a n c l h x 8 (by omega) (by omega) (by omega) hn
  refine spec_enter Try.func144 rfl rfl rfl fun u R => ?_
  simp only [argsE, List.cons_append, List.nil_append]
  repeat' (first | (refine tl_is (.func 199) ?_; refine qC rfl rfl (hs) ?_; rintro v ρ' L' hle ⟨rfl, sp, hown, rfl⟩ <;> (try simp only [List.cons_append, List.nil_append, List.append_eq])) | (refine i_op ?_; first | (refine i_qq ?_; refine qQ ?_) | refine qEf ?_) | refine tl_nil ?_ | (refine i_tc ?_; refine qTc ?_) | (refine i_te ?_; refine qTe ?_) | intro _)
  exact qE ⟨rfl, sp, hown, rfl⟩
end Go.Proofs.E

namespace Go.Proofs.E
open Go
set_option linter.unusedVariables false
set_option linter.unusedSimpArgs false
set_option linter.unusedSectionVars false
set_option maxRecDepth 4000
set_option maxHeartbeats 1000000
attribute [local irreducible] Yl TL TC TE Spec YSpec R1 Hp.le EnvLe TS TR YS Stays
/-! ## octet: the reader -/
theorem OwnS.zero (b sz : Nat) : OwnS (.slice (some ⟨b, 0, none⟩) 0 0) 0 [] [] sz := ⟨.inr ⟨b, 0, rfl, by simp, by simp, Nat.le_refl _⟩⟩
abbrev rdC (br : Nat) (a : Option Addr) (n c : Nat) (st : Int) : List (Nat × Obj) := [(br, .cells ⟨[.slice a n c, .int .i64 st]⟩ 261 (0, 0))]
theorem bclone_spec (ρ : Hp) (a : Option Addr) (n c : Nat) (l : List UInt8) (h : SIn ρ u8c a n l) (hn : n ≤ 1000000) :
    Spec Try.prog 195 [.slice a n c] ρ [] (fun v ρ' L' => ρ.le ρ' ∧ ∃ a' c', v = .slice a' n c' ∧ n ≤ c' ∧ SIn ρ' u8c a' n l ∧ L' = []) := by
  refine spec_enter Try.func195 rfl rfl rfl fun u R => ?_
  simp only [argsE, List.cons_append, List.nil_append]
  cases a with
  | none =>
    have hn0 : n = 0 := by
      rcases h.out with h0 | ⟨b, off, C, T, fr, h1, _⟩
      · exact h0
      · cases h1
    subst hn0
    repeat' (first | (refine i_op ?_; first | (refine i_qq ?_; refine qQ ?_) | refine qEf ?_) | refine tl_nil ?_ | (refine i_tc ?_; refine qTc ?_) | (refine i_te ?_; refine qTe ?_) | intro _)
    exact qE ⟨Hp.le_refl _, none, 0, rfl, Nat.le_refl _, ⟨h.len, .inl rfl⟩, rfl⟩
  | some a =>
    repeat' (first | (refine i_op ?_; first | (refine i_qq ?_; refine qQ ?_) | refine qEf ?_) | refine tl_nil ?_ | (refine i_tc ?_; refine qTc ?_) | (refine i_te ?_; refine qTe ?_) | intro _)
    refine tl_app (n := 0) (xs := []) (sp := []) (ys := l.map u8c) (sz := 1) rfl rfl (OwnS.zero _ 1) (hR := rem_here') (SIn.srcV h) (by simpa using h.len) (u8c_one l) (by decide) rfl (by omega) (by omega) rfl (fun v' sp' hown' => ?_)
    simp only [Nat.zero_add, List.nil_append] at hown' ⊢
    repeat' (first | (refine i_op ?_; first | (refine i_qq ?_; refine qQ ?_) | refine qEf ?_) | refine tl_nil ?_ | (refine i_tc ?_; refine qTc ?_) | (refine i_te ?_; refine qTe ?_) | intro _)
    refine te_freeze _ (h := Rem.here) (fun ρ' hle hfz => ?_)
    obtain ⟨a', c', rfl, hc, hs⟩ := hown'.sIn hfz
    exact qE ⟨hle, a', c', rfl, hc, hs, rfl⟩
theorem read_spec (ρ : Hp) (a : Option Addr) (n c : Nat) (l : List UInt8) (h : SIn ρ u8c a n l) (hn : n ≤ 1000000) :
    Spec Try.prog 135 [.slice a n c] ρ [] (fun v ρ' L' => ρ.le ρ' ∧ ∃ br a' c', v = .pointer (some ⟨br, 0, none⟩) ∧ n ≤ c' ∧ SIn ρ' u8c a' n l ∧ L' = [rdC br a' n c' 0]) := by
  have hc := bclone_spec ρ a n c l h hn
  refine spec_enter Try.func135 rfl rfl rfl fun u R => ?_
  simp only [argsE, List.cons_append, List.nil_append]
  repeat' (first | (refine tl_is (.func 195) ?_; refine qC rfl rfl (hc) ?_; rintro v ρ' L' hle ⟨hle, a', c', rfl, hc', hs, rfl⟩ <;> (try simp only [List.cons_append, List.nil_append, List.append_eq])) | (refine i_op ?_; first | (refine i_qq ?_; refine qQ ?_) | refine qEf ?_) | refine tl_nil ?_ | (refine i_tc ?_; refine qTc ?_) | (refine i_te ?_; refine qTe ?_) | intro _)
  exact qE ⟨hle, _, a', c', rfl, hc', hs, rfl⟩
theorem err_spec (ρ : Hp) (br : Nat) (a : Option Addr) (n c : Nat) (st : Int) :
    Spec Try.prog 136 [.pointer (some ⟨br, 0, none⟩)] ρ [rdC br a n c st] (fun v ρ' L' => v = .int .i64 st ∧ ρ' = ρ ∧ L' = [rdC br a n c st]) := by
  refine spec_enter Try.func136 rfl rfl rfl fun u R => ?_
  simp only [argsE, List.cons_append, List.nil_append]
  repeat' (first | (refine i_op ?_; first | (refine i_qq ?_; refine qQ ?_) | refine qEf ?_) | refine tl_nil ?_ | (refine i_tc ?_; refine qTc ?_) | (refine i_te ?_; refine qTe ?_) | intro _)
  exact qE ⟨rfl, rfl, rfl⟩
theorem left_spec (ρ : Hp) (br : Nat) (a : Option Addr) (n c : Nat) (st : Int) :
    Spec Try.prog 137 [.pointer (some ⟨br, 0, none⟩)] ρ [rdC br a n c st] (fun v ρ' L' => v = .int .i64 n ∧ ρ' = ρ ∧ L' = [rdC br a n c st]) := by
  refine spec_enter Try.func137 rfl rfl rfl fun u R => ?_
  simp only [argsE, List.cons_append, List.nil_append]
  repeat' (first | (refine i_op ?_; first | (refine i_qq ?_; refine qQ ?_) | refine qEf ?_) | refine tl_nil ?_ | (refine i_tc ?_; refine qTc ?_) | (refine i_te ?_; refine qTe ?_) | intro _)
  exact qE ⟨rfl, rfl, rfl⟩
theorem gives_stuck (ρ : Hp) (br : Nat) (a : Option Addr) (n c : Nat) (st : Int) (hst : st ≠ 0) (k : Int) (f : Value) :
    Spec Try.prog 197 [.pointer (some ⟨br, 0, none⟩), .int .i64 k, f] ρ [rdC br a n c st] (fun v ρ' L' => v = .tuple ⟨[]⟩ ∧ ρ' = ρ ∧ L' = [rdC br a n c st]) := by
  refine spec_enter Try.func197 rfl rfl rfl fun u R => ?_
  simp only [argsE, List.cons_append, List.nil_append]
  repeat' (first | (refine tl_is (.func 136) ?_; refine qC rfl rfl (err_spec _ br a n c st) ?_; rintro v ρ' L' hle ⟨rfl, rfl, rfl⟩ <;> (try simp only [List.cons_append, List.nil_append, List.append_eq])) | (refine i_op ?_; first | (refine i_qq ?_; refine qQ ?_) | refine qEf ?_) | refine tl_nil ?_ | (refine i_tc ?_; refine qTc ?_) | (refine i_te ?_; refine qTe ?_) | intro _)
  exact qE ⟨rfl, rfl, rfl⟩
theorem gives_short (ρ : Hp) (br : Nat) (a : Option Addr) (n c : Nat) (k : Int) (hk : (n : Int) < k) (f : Value) :
    Spec Try.prog 197 [.pointer (some ⟨br, 0, none⟩), .int .i64 k, f] ρ [rdC br a n c 0] (fun v ρ' L' => v = .tuple ⟨[]⟩ ∧ ρ' = ρ ∧ L' = [rdC br a n c 7]) := by
  refine spec_enter Try.func197 rfl rfl rfl fun u R => ?_
  simp only [argsE, List.cons_append, List.nil_append]
  repeat' (first | (refine tl_is (.func 136) ?_; refine qC rfl rfl (err_spec _ br a n c 0) ?_; rintro v ρ' L' hle ⟨rfl, rfl, rfl⟩ <;> (try simp only [List.cons_append, List.nil_append, List.append_eq])) | (refine i_op ?_; first | (refine i_qq ?_; refine qQ ?_) | refine qEf ?_) | refine tl_nil ?_ | (refine i_tc ?_; refine qTc ?_) | (refine i_te ?_; refine qTe ?_) | intro _)
  exact qE ⟨rfl, rfl, rfl⟩
theorem gives_ok (ρ : Hp) (br : Nat) (a : Option Addr) (n c : Nat) (l : List UInt8) (h : SIn ρ u8c a n l) (hc : n ≤ c) (k : Nat) (hk : k ≤ n) (g : Nat) (cs : List Value) (X X' : SH) [Fun Try.prog g]
    (hS : SIn ρ u8c a k (l.take k) → Spec Try.prog g ([.slice a k c] ++ cs) ρ X (fun v ρ' L' => v = .tuple ⟨[]⟩ ∧ ρ' = ρ ∧ L' = X')) :
    Spec Try.prog 197 [.pointer (some ⟨br, 0, none⟩), .int .i64 k, .func (.func g) ⟨[]⟩ ⟨cs⟩] ρ (rdC br a n c 0 :: X)
      (fun v ρ' L' => v = .tuple ⟨[]⟩ ∧ ρ' = ρ ∧ ∃ a' c', SIn ρ u8c a' (n - k) (l.drop k) ∧ n - k ≤ c' ∧ L' = rdC br a' (n - k) c' 0 :: X') := by
  replace hS := hS (h.take hk)
  have hl := h.len
  have hsub := h.sub (lo' := k) (hi' := n) (cap := c) hk (Nat.le_refl _) hc
  rw [List.take_of_length_le (by simp; omega)] at hsub
  refine spec_enter Try.func197 rfl rfl rfl fun u R => ?_
  simp only [argsE, List.cons_append, List.nil_append] at hS ⊢
  repeat' (first | (refine tl_is (.func 136) ?_; refine qC rfl rfl (err_spec _ br a n c 0) ?_; rintro v ρ' L' hle ⟨rfl, rfl, rfl⟩ <;> (try simp only [List.cons_append, List.nil_append, List.append_eq])) | (refine tl_is (.tmp 9) ?_; refine qC rfl rfl (hS) ?_; rintro v ρ' L' hle ⟨rfl, rfl, rfl⟩ <;> (try simp only [List.cons_append, List.nil_append, List.append_eq])) | (refine i_op ?_; first | (refine i_qq ?_; refine qQ ?_) | refine qEf ?_) | refine tl_nil ?_ | (refine i_tc ?_; refine qTc ?_) | (refine i_te ?_; refine qTe ?_) | intro _)
  exact qE ⟨rfl, rfl, _, c - k, hsub, by omega, rfl⟩
end Go.Proofs.E

namespace Go.Proofs.E
open Go
set_option linter.unusedVariables false
set_option linter.unusedSimpArgs false
set_option linter.unusedSectionVars false
set_option maxRecDepth 4000
set_option maxHeartbeats 1000000
attribute [local irreducible] Yl TL TC TE Spec YSpec R1 Hp.le EnvLe TS TR YS Stays
theorem take_succ_unbe (l : List UInt8) (k : Nat) (h : k < l.length) : unbe (l.take (k + 1)) = unbe (l.take k) * 256 + l[k].toNat := by
  rw [List.take_succ_eq_append_getElem h, unbe_snoc]
theorem unbe_take_lt (l : List UInt8) (k : Nat) (h : k < l.length) (h8 : l.length ≤ 8) : unbe (l.take k) < 72057594037927936 := by
  have h1 := unbe_lt (l.take k)
  have h2 : (l.take k).length ≤ 7 := by simp; omega
  have h3 : 256 ^ (l.take k).length ≤ 256 ^ 7 := Nat.pow_le_pow_right (by decide) h2
  have h4 : 256 ^ 7 = 72057594037927936 := by decide
  omega
theorem number1_spec (ρ : Hp) (bx : Nat) (a : Option Addr) (n c : Nat) (l : List UInt8) (h : SIn ρ u8c a n l) (hn : n ≤ 8) :
    Spec Try.prog 233 [.slice a n c, .pointer (some ⟨bx, 0, none⟩)] ρ [[(bx, .cells ⟨[.int .u64 0]⟩ 53 (0, 0))]]
      (fun v ρ' L' => v = .tuple ⟨[]⟩ ∧ ρ' = ρ ∧ L' = [[(bx, .cells ⟨[.int .u64 (unbe l : Nat)]⟩ 53 (0, 0))]]) := by
  have hl := h.len
  refine spec_enter Try.func233 rfl rfl rfl fun u R => ?_
  simp only [argsE, List.cons_append, List.nil_append]
  repeat' (first | (refine i_op ?_; first | (refine i_qq ?_; refine qQ ?_) | refine qEf ?_) | refine tl_nil ?_ | (refine i_tc ?_; refine qTc ?_) | (refine i_te ?_; refine qTe ?_) | intro _)
  refine tc_loop_g [(0, _), (1, _), (5, _)] (fun (ζ : (Nat) × (Nat)) => [(6, .int .i64 ζ.1)]) (fun (ζ : (Nat) × (Nat)) => ρ) (fun (ζ : (Nat) × (Nat)) => [[(bx, .cells ⟨[.int .u64 (ζ.2 : Nat)]⟩ 53 (0, 0))]]) (fun (ζ : (Nat) × (Nat)) => ζ.1 ≤ n ∧ ζ.2 = unbe (l.take ζ.1)) (fun (ζ : (Nat) × (Nat)) => n - ζ.1) ((0, 0)) (⟨Nat.zero_le _, rfl⟩) ev_le ev_le rfl tk ?_
  rintro ⟨k, z⟩ hI
  try simp only [List.cons_append, List.nil_append, List.append_assoc, List.append_eq] at hI ⊢
  try dsimp only at hI ⊢
  obtain ⟨hk, hz⟩ := hI
  by_cases hlt : k < n
  · obtain ⟨b, off, C, T, fr, rfl, hb, hc⟩ := h.get (show k < l.length by omega)
    have hzl := unbe_take_lt l k (by omega) (by omega)
    rw [← hz] at hzl
    have hs := take_succ_unbe l k (by omega)
    have hbt : l[k].toNat < 256 := l[k].toNat_lt
    generalize l[k] = b8 at *
    simp only [u8c] at hc
    repeat' (first | (refine i_op ?_; first | (refine i_qq ?_; refine qQ ?_) | refine qEf ?_) | refine tl_nil ?_ | (refine i_tc ?_; refine qTc ?_) | (refine i_te ?_; refine qTe ?_) | intro _)
    refine tc_any (Stays _ _ ([])) (stays_of (Hp.le_refl _)) ?_
    all_goals refine rMv 2 ?_
    all_goals refine rMv 3 ?_
    all_goals refine rIa 4 ?_
    all_goals refine rLd 5 ?_
    all_goals refine rCv 6 ?_
    all_goals (refine rStep (i := 0) ?_; ((try refine qWant ?_); (first | (refine i_qq ?_; refine qQ ?_) | (refine qEf ?_; try intro _)) <;> ((try simp only [List.cons_append, List.nil_append, List.append_eq]); refine tl_nil ?_; refine rNext ?_)))
    all_goals refine rMl 1 ?_
    all_goals refine rAd 7 ?_
    all_goals (refine rStep (i := 8) ?_; ((try refine qWant ?_); (first | (refine i_qq ?_; refine qQ ?_) | (refine qEf ?_; try intro _)) <;> ((try simp only [List.cons_append, List.nil_append, List.append_eq]); refine tl_nil ?_; refine rNext ?_)))
    all_goals refine rDone ?_
    have e : 256 * (z : Int) + (b8.toNat : Int) = ((z * 256 + b8.toNat : Nat) : Int) := by omega
    rw [e]
    repeat' (first | (refine i_op ?_; first | (refine i_qq ?_; refine qQ ?_) | refine qEf ?_) | refine tl_nil ?_ | (refine i_tc ?_; refine qTc ?_) | (refine i_te ?_; refine qTe ?_) | intro _)
    refine te_round_g (k + 1, z * 256 + b8.toNat) (⟨hlt, by dsimp only; rw [hs, hz]⟩) ev_le ev_le rfl tk inferInstance (by first | omega | (dsimp only; omega))
  · have hk2 : k = n := by omega
    subst hk2
    rw [List.take_of_length_le (by omega)] at hz
    subst hz
    repeat' (first | (refine i_op ?_; first | (refine i_qq ?_; refine qQ ?_) | refine qEf ?_) | refine tl_nil ?_ | (refine i_tc ?_; refine qTc ?_) | (refine i_te ?_; refine qTe ?_) | intro _)
    exact qE ⟨rfl, rfl, rfl⟩
/-- the number that stands next, of so many bytes -/
def numR (k : Nat) (l : List UInt8) (st : Int) : Nat × List UInt8 × Int := if st ≠ 0 then (0, l, st) else if l.length < k then (0, l, 7) else (unbe (l.take k), l.drop k, 0)
theorem numR_lt (k : Nat) (l : List UInt8) (st : Int) : (numR k l st).1 < 256 ^ k := by
  unfold numR
  have h0 : 0 < 256 ^ k := Nat.pow_pos (by decide)
  split
  · exact h0
  · split
    · exact h0
    · have := unbe_lt (l.take k)
      have e : (l.take k).length = k := by simp; omega
      rwa [e] at this
theorem number_spec (ρ : Hp) (br : Nat) (a : Option Addr) (n c : Nat) (l : List UInt8) (h : SIn ρ u8c a n l) (hc : n ≤ c) (st : Int) (k : Nat) (hk : k ≤ 8) :
    Spec Try.prog 196 [.pointer (some ⟨br, 0, none⟩), .int .i64 k] ρ [rdC br a n c st]
      (fun v ρ' L' => v = .int .u64 ((numR k l st).1 : Nat) ∧ ρ' = ρ ∧ ∃ a' n' c', SIn ρ u8c a' n' (numR k l st).2.1 ∧ n' ≤ c' ∧ L' = [rdC br a' n' c' (numR k l st).2.2]) := by
  have hl := h.len
  by_cases hst : st = 0
  · subst hst
    by_cases hs : n < k
    · have e : numR k l 0 = (0, l, 7) := by simp [numR, hl, hs]
      rw [e]
      refine spec_enter Try.func196 rfl rfl rfl fun u R => ?_
      simp only [argsE, List.cons_append, List.nil_append]
      repeat' (first | (refine tl_is (.func 197) ?_; refine qC rfl rfl (gives_short _ br a n c k (by omega) _) ?_; rintro v ρ' L' hle ⟨rfl, rfl, rfl⟩ <;> (try simp only [List.cons_append, List.nil_append, List.append_eq])) | (refine i_op ?_; first | (refine i_qq ?_; refine qQ ?_) | refine qEf ?_) | refine tl_nil ?_ | (refine i_tc ?_; refine qTc ?_) | (refine i_te ?_; refine qTe ?_) | intro _)
      exact qE ⟨rfl, rfl, a, n, c, h, hc, rfl⟩
    · have e : numR k l 0 = (unbe (l.take k), l.drop k, 0) := by simp [numR, hl, hs]
      rw [e]
      refine spec_enter Try.func196 rfl rfl rfl fun u R => ?_
      simp only [argsE, List.cons_append, List.nil_append]
      repeat' (first | (refine i_op ?_; first | (refine i_qq ?_; refine qQ ?_) | refine qEf ?_) | refine tl_nil ?_ | (refine i_tc ?_; refine qTc ?_) | (refine i_te ?_; refine qTe ?_) | intro _)
      rename_i bx
      have hg := gives_ok ρ br a n c l h hc k (by omega) 233 [.pointer (some ⟨bx, 0, none⟩)] [[(bx, .cells ⟨[.int .u64 0]⟩ 53 (0, 0))]] [[(bx, .cells ⟨[.int .u64 (unbe (l.take k) : Nat)]⟩ 53 (0, 0))]] (fun hs => number1_spec ρ bx a k c (l.take k) hs hk)
      repeat' (first | (refine tl_is (.func 197) ?_; refine qC rfl rfl (hg) ?_; rintro v ρ' L' hle ⟨rfl, rfl, a', c', hs', hc', rfl⟩ <;> (try simp only [List.cons_append, List.nil_append, List.append_eq])) | (refine i_op ?_; first | (refine i_qq ?_; refine qQ ?_) | refine qEf ?_) | refine tl_nil ?_ | (refine i_tc ?_; refine qTc ?_) | (refine i_te ?_; refine qTe ?_) | intro _)
      exact qE ⟨rfl, rfl, a', n - k, c', hs', hc', rfl⟩
  · have e : numR k l st = (0, l, st) := by simp [numR, hst]
    rw [e]
    refine spec_enter Try.func196 rfl rfl rfl fun u R => ?_
    simp only [argsE, List.cons_append, List.nil_append]
    repeat' (first | (refine tl_is (.func 197) ?_; refine qC rfl rfl (gives_stuck _ br a n c st hst k _) ?_; rintro v ρ' L' hle ⟨rfl, rfl, rfl⟩ <;> (try simp only [List.cons_append, List.nil_append, List.append_eq])) | (refine i_op ?_; first | (refine i_qq ?_; refine qQ ?_) | refine qEf ?_) | refine tl_nil ?_ | (refine i_tc ?_; refine qTc ?_) | (refine i_te ?_; refine qTe ?_) | intro _)
    exact qE ⟨rfl, rfl, a, n, c, h, hc, rfl⟩
theorem u8_spec (ρ : Hp) (br : Nat) (a : Option Addr) (n c : Nat) (l : List UInt8) (h : SIn ρ u8c a n l) (hc : n ≤ c) (st : Int) :
    Spec Try.prog 138 [.pointer (some ⟨br, 0, none⟩)] ρ [rdC br a n c st]
      (fun v ρ' L' => v = .int .u8 ((numR 1 l st).1 : Nat) ∧ ρ' = ρ ∧ ∃ a' n' c', SIn ρ u8c a' n' (numR 1 l st).2.1 ∧ n' ≤ c' ∧ L' = [rdC br a' n' c' (numR 1 l st).2.2]) := by
  have hb := numR_lt 1 l st
  have hn := number_spec ρ br a n c l h hc st 1 (by omega)
  generalize numR 1 l st = r at *
  refine spec_enter Try.func138 rfl rfl rfl fun u R => ?_
  simp only [argsE, List.cons_append, List.nil_append]
  repeat' (first | (refine tl_is (.func 196) ?_; refine qC rfl rfl (hn) ?_; rintro v ρ' L' hle ⟨rfl, rfl, a', n', c', hs', hc', rfl⟩ <;> (try simp only [List.cons_append, List.nil_append, List.append_eq])) | (refine i_op ?_; first | (refine i_qq ?_; refine qQ ?_) | refine qEf ?_) | refine tl_nil ?_ | (refine i_tc ?_; refine qTc ?_) | (refine i_te ?_; refine qTe ?_) | intro _)
  exact qE ⟨rfl, rfl, a', n', c', hs', hc', rfl⟩
theorem u16_spec (ρ : Hp) (br : Nat) (a : Option Addr) (n c : Nat) (l : List UInt8) (h : SIn ρ u8c a n l) (hc : n ≤ c) (st : Int) :
    Spec Try.prog 141 [.pointer (some ⟨br, 0, none⟩)] ρ [rdC br a n c st]
      (fun v ρ' L' => v = .int .u16 ((numR 2 l st).1 : Nat) ∧ ρ' = ρ ∧ ∃ a' n' c', SIn ρ u8c a' n' (numR 2 l st).2.1 ∧ n' ≤ c' ∧ L' = [rdC br a' n' c' (numR 2 l st).2.2]) := by
  have hb := numR_lt 2 l st
  have hn := number_spec ρ br a n c l h hc st 2 (by omega)
  generalize numR 2 l st = r at *
  refine spec_enter Try.func141 rfl rfl rfl fun u R => ?_
  simp only [argsE, List.cons_append, List.nil_append]
  repeat' (first | (refine tl_is (.func 196) ?_; refine qC rfl rfl (hn) ?_; rintro v ρ' L' hle ⟨rfl, rfl, a', n', c', hs', hc', rfl⟩ <;> (try simp only [List.cons_append, List.nil_append, List.append_eq])) | (refine i_op ?_; first | (refine i_qq ?_; refine qQ ?_) | refine qEf ?_) | refine tl_nil ?_ | (refine i_tc ?_; refine qTc ?_) | (refine i_te ?_; refine qTe ?_) | intro _)
  exact qE ⟨rfl, rfl, a', n', c', hs', hc', rfl⟩
theorem u64_spec (ρ : Hp) (br : Nat) (a : Option Addr) (n c : Nat) (l : List UInt8) (h : SIn ρ u8c a n l) (hc : n ≤ c) (st : Int) :
    Spec Try.prog 142 [.pointer (some ⟨br, 0, none⟩)] ρ [rdC br a n c st]
      (fun v ρ' L' => v = .int .u64 ((numR 8 l st).1 : Nat) ∧ ρ' = ρ ∧ ∃ a' n' c', SIn ρ u8c a' n' (numR 8 l st).2.1 ∧ n' ≤ c' ∧ L' = [rdC br a' n' c' (numR 8 l st).2.2]) := by
  have hn := number_spec ρ br a n c l h hc st 8 (by omega)
  refine spec_enter Try.func142 rfl rfl rfl fun u R => ?_
  simp only [argsE, List.cons_append, List.nil_append]
  repeat' (first | (refine tl_is (.func 196) ?_; refine qC rfl rfl (hn) ?_; rintro v ρ' L' hle ⟨rfl, rfl, a', n', c', hs', hc', rfl⟩ <;> (try simp only [List.cons_append, List.nil_append, List.append_eq])) | (refine i_op ?_; first | (refine i_qq ?_; refine qQ ?_) | refine qEf ?_) | refine tl_nil ?_ | (refine i_tc ?_; refine qTc ?_) | (refine i_te ?_; refine qTe ?_) | intro _)
  exact qE ⟨rfl, rfl, a', n', c', hs', hc', rfl⟩
/-- the next bytes -/
def rawR (k : Nat) (l : List UInt8) (st : Int) : List UInt8 × List UInt8 × Int := if st ≠ 0 then ([], l, st) else if l.length < k then ([], l, 7) else (l.take k, l.drop k, 0)
theorem raw1_spec (ρ : Hp) (bx : Nat) (a : Option Addr) (n c : Nat) (l : List UInt8) (h : SIn ρ u8c a n l) (hn : n ≤ 1000000) :
    Spec Try.prog 198 [.slice a n c, .pointer (some ⟨bx, 0, none⟩)] ρ [[(bx, .cells ⟨[.slice none 0 0]⟩ 22 (0, 0))]]
      (fun v ρ' L' => v = .tuple ⟨[]⟩ ∧ ρ.le ρ' ∧ ∃ a' c', SIn ρ' u8c a' n l ∧ n ≤ c' ∧ L' = [[(bx, .cells ⟨[.slice a' n c']⟩ 22 (0, 0))]]) := by
  refine spec_enter Try.func198 rfl rfl rfl fun u R => ?_
  simp only [argsE, List.cons_append, List.nil_append]
  repeat' (first | (refine i_op ?_; first | (refine i_qq ?_; refine qQ ?_) | refine qEf ?_) | refine tl_nil ?_ | (refine i_tc ?_; refine qTc ?_) | (refine i_te ?_; refine qTe ?_) | intro _)
  refine tl_app (n := 0) (xs := []) (sp := []) (ys := l.map u8c) (sz := 1) rfl rfl (OwnS.nil 1) (hR := rem_nil') (SIn.srcV h) (by simpa using h.len) (u8c_one l) (by decide) rfl (by omega) (by omega) rfl (fun v' sp' hown' => ?_)
  simp only [Nat.zero_add, List.nil_append] at hown' ⊢
  refine tl_freeze _ (h := Rem.here) (fun ρ' hle hfz => ?_)
  obtain ⟨a', c', rfl, hc, hs⟩ := hown'.sIn hfz
  repeat' (first | (refine i_op ?_; first | (refine i_qq ?_; refine qQ ?_) | refine qEf ?_) | refine tl_nil ?_ | (refine i_tc ?_; refine qTc ?_) | (refine i_te ?_; refine qTe ?_) | intro _)
  exact qE ⟨rfl, hle, a', c', hs, hc, rfl⟩
end Go.Proofs.E

namespace Go.Proofs.E
open Go
set_option linter.unusedVariables false
set_option linter.unusedSimpArgs false
set_option linter.unusedSectionVars false
set_option maxRecDepth 4000
set_option maxHeartbeats 1000000
attribute [local irreducible] Yl TL TC TE Spec YSpec R1 Hp.le EnvLe TS TR YS Stays
/-! ## layer 2: the disk -/
abbrev Blk := List UInt8
abbrev Secs := List (Blk × Option Blk)
def heldC (s : Secs) : List Value := (s.map fun p => p.1.map u8c).flatten
structure SecsOk (s : Secs) : Prop where
  len : s.length ≤ 2048
  pos : 0 < s.length
  held : ∀ p ∈ s, p.1.length = 64
  cached : ∀ p ∈ s, ∀ c, p.2 = some c → c.length = 64
def bv (b : Blk) : Value := .agg ⟨b.map u8c⟩
structure MapOk (s : Secs) (es : List MapEntry) : Prop where
  keys : IntKeys .i64 es
  get : ∀ j : Int, mget es j = if 0 ≤ j then ((s[j.toNat]?).bind (·.2)).map bv else none
/-- where the held blocks lie: the block's number, the slice's capacity, what lies behind the blocks -/
structure HB where
  b : Nat
  cap : Nat
  sp : List Value
def dO (hb : HB) (mb n : Nat) (ops armed failing : Int) (dead : Bool) : Obj := .cells ⟨[.slice (some ⟨hb.b, 0, none⟩) n hb.cap, .map (some mb), .int .i64 ops, .int .i64 armed, .int .i64 failing, .bool dead]⟩ 169 (0, 0)

set_option maxHeartbeats 400000 in
theorem lives_nil (ρ : Hp) : Spec Try.prog 99 [.pointer none] ρ [] (fun v ρ' L' => v = .int .i64 1 ∧ ρ' = ρ ∧ L' = []) := by
  refine spec_enter Try.func99 rfl rfl rfl fun u R => ?_
  simp only [argsE, List.cons_append, List.nil_append]
  repeat' (first | (refine i_op ?_; first | (refine i_qq ?_; refine qQ ?_) | refine qEf ?_) | refine tl_nil ?_ | (refine i_tc ?_; refine qTc ?_) | (refine i_te ?_; refine qTe ?_) | intro _)
  exact te_end rfl rfl rfl (by exact res1 rfl (r1_tmp rfl)) (Hp.le_refl _) (by infer_instance) (by infer_instance) ⟨rfl, rfl, rfl⟩
set_option maxHeartbeats 400000 in
theorem lives_dead (ρ : Hp) (b : Nat) (hb : HB) (mb n : Nat) (ops armed failing : Int) : Spec Try.prog 99 [.pointer (some ⟨b, 0, none⟩)] ρ [[(b, dO hb mb n ops armed failing true)]] (fun v ρ' L' => v = .int .i64 9 ∧ ρ' = ρ ∧ L' = [[(b, dO hb mb n ops armed failing true)]]) := by
  refine spec_enter Try.func99 rfl rfl rfl fun u R => ?_
  simp only [argsE, List.cons_append, List.nil_append, dO]
  repeat' (first | (refine i_op ?_; first | (refine i_qq ?_; refine qQ ?_) | refine qEf ?_) | refine tl_nil ?_ | (refine i_tc ?_; refine qTc ?_) | (refine i_te ?_; refine qTe ?_) | intro _)
  exact te_end rfl rfl rfl (by exact res1 rfl (r1_tmp rfl)) (Hp.le_refl _) (by infer_instance) (by infer_instance) ⟨rfl, rfl, rfl⟩
set_option maxHeartbeats 400000 in
theorem lives_ok (ρ : Hp) (b : Nat) (hb : HB) (mb n : Nat) (ops armed failing : Int) : Spec Try.prog 99 [.pointer (some ⟨b, 0, none⟩)] ρ [[(b, dO hb mb n ops armed failing false)]] (fun v ρ' L' => v = .int .i64 0 ∧ ρ' = ρ ∧ L' = [[(b, dO hb mb n ops armed failing false)]]) := by
  refine spec_enter Try.func99 rfl rfl rfl fun u R => ?_
  simp only [argsE, List.cons_append, List.nil_append, dO]
  repeat' (first | (refine i_op ?_; first | (refine i_qq ?_; refine qQ ?_) | refine qEf ?_) | refine tl_nil ?_ | (refine i_tc ?_; refine qTc ?_) | (refine i_te ?_; refine qTe ?_) | intro _)
  exact te_end rfl rfl rfl (by exact res1 rfl (r1_tmp rfl)) (Hp.le_refl _) (by infer_instance) (by infer_instance) ⟨rfl, rfl, rfl⟩
theorem counts_dO4 (ρ : Hp) (b : Nat) (hb : HB) (mb n : Nat) (ops armed failing : Int) (dead : Bool) (h1 : -1 ≤ failing) (h2 : failing ≤ 9223372036854775807) :
    Spec Try.prog 171 [.pointer (some ⟨b, 4, none⟩)] ρ [[(b, dO hb mb n ops armed failing dead)]] (fun v ρ' L' => v = .bool (failing == 0) ∧ ρ' = ρ ∧ L' = [[(b, dO hb mb n ops armed (max (failing-1) (-1)) dead)]]) := by
  refine spec_enter Try.func171 rfl rfl rfl fun u R => ?_
  simp only [argsE, List.cons_append, List.nil_append, dO]
  repeat' (first | (refine i_op ?_; first | (refine i_qq ?_; refine qQ ?_) | refine qEf ?_) | refine tl_nil ?_ | (refine i_tc ?_; refine qTc ?_) | (refine i_te ?_; refine qTe ?_) | intro _)
  exact qE ⟨rfl, rfl, rfl⟩
theorem counts_dO3 (ρ : Hp) (b : Nat) (hb : HB) (mb n : Nat) (ops armed failing : Int) (dead : Bool) (h1 : -1 ≤ armed) (h2 : armed ≤ 9223372036854775807) :
    Spec Try.prog 171 [.pointer (some ⟨b, 3, none⟩)] ρ [[(b, dO hb mb n ops armed failing dead)]] (fun v ρ' L' => v = .bool (armed == 0) ∧ ρ' = ρ ∧ L' = [[(b, dO hb mb n ops (max (armed-1) (-1)) failing dead)]]) := by
  refine spec_enter Try.func171 rfl rfl rfl fun u R => ?_
  simp only [argsE, List.cons_append, List.nil_append, dO]
  repeat' (first | (refine i_op ?_; first | (refine i_qq ?_; refine qQ ?_) | refine qEf ?_) | refine tl_nil ?_ | (refine i_tc ?_; refine qTc ?_) | (refine i_te ?_; refine qTe ?_) | intro _)
  exact qE ⟨rfl, rfl, rfl⟩

/-! ### does -/
theorem does_dead (ρ : Hp) (b : Nat) (hb : HB) (mb n : Nat) (ops armed failing i : Int) (d l : Value) : Spec Try.prog 112 [.pointer (some ⟨b, 0, none⟩), .int .i64 i, d, l] ρ [[(b, dO hb mb n ops armed failing true)]]
    (fun v ρ' L' => v = .int .i64 9 ∧ ρ' = ρ ∧ L' = [[(b, dO hb mb n ops armed failing true)]]) := by
  refine spec_enter Try.func112 rfl rfl rfl fun u R => ?_
  simp only [argsE, List.cons_append, List.nil_append]
  repeat' (first | (refine tl_is (.func 99) ?_; refine qC rfl rfl (lives_dead _ _ _ _ _ _ _ _) ?_; rintro v ρ' L' hle ⟨rfl, rfl, rfl⟩ <;> (try simp only [List.cons_append, List.nil_append, List.append_eq])) | (refine i_op ?_; first | (refine i_qq ?_; refine qQ ?_) | refine qEf ?_) | refine tl_nil ?_ | (refine i_tc ?_; refine qTc ?_) | (refine i_te ?_; refine qTe ?_) | intro _)
  exact qE ⟨rfl, rfl, rfl⟩
theorem does_nil (ρ : Hp) (i : Int) (d l : Value) : Spec Try.prog 112 [.pointer none, .int .i64 i, d, l] ρ [] (fun v ρ' L' => v = .int .i64 1 ∧ ρ' = ρ ∧ L' = []) := by
  refine spec_enter Try.func112 rfl rfl rfl fun u R => ?_
  simp only [argsE, List.cons_append, List.nil_append]
  repeat' (first | (refine tl_is (.func 99) ?_; refine qC rfl rfl (lives_nil _) ?_; rintro v ρ' L' hle ⟨rfl, rfl, rfl⟩ <;> (try simp only [List.cons_append, List.nil_append, List.append_eq])) | (refine i_op ?_; first | (refine i_qq ?_; refine qQ ?_) | refine qEf ?_) | refine tl_nil ?_ | (refine i_tc ?_; refine qTc ?_) | (refine i_te ?_; refine qTe ?_) | intro _)
  exact qE ⟨rfl, rfl, rfl⟩
theorem does_arg (ρ : Hp) (b : Nat) (hb : HB) (mb n : Nat) (ops armed failing i : Int) (d l : Value) (hi : i < 0 ∨ (n : Int) ≤ i) : Spec Try.prog 112 [.pointer (some ⟨b, 0, none⟩), .int .i64 i, d, l] ρ [[(b, dO hb mb n ops armed failing false)]]
    (fun v ρ' L' => v = .int .i64 2 ∧ ρ' = ρ ∧ L' = [[(b, dO hb mb n ops armed failing false)]]) := by
  refine spec_enter Try.func112 rfl rfl rfl fun u R => ?_
  simp only [argsE, List.cons_append, List.nil_append]
  by_cases h0 : i < 0
  · repeat' (first | (refine tl_is (.func 99) ?_; refine qC rfl rfl (lives_ok _ _ _ _ _ _ _ _) ?_; rintro v ρ' L' hle ⟨rfl, rfl, rfl⟩ <;> (try simp only [List.cons_append, List.nil_append, List.append_eq, dO])) | (refine i_op ?_; first | (refine i_qq ?_; refine qQ ?_) | refine qEf ?_) | refine tl_nil ?_ | (refine i_tc ?_; refine qTc ?_) | (refine i_te ?_; refine qTe ?_) | intro _)
    exact qE ⟨rfl, rfl, rfl⟩
  · repeat' (first | (refine tl_is (.func 99) ?_; refine qC rfl rfl (lives_ok _ _ _ _ _ _ _ _) ?_; rintro v ρ' L' hle ⟨rfl, rfl, rfl⟩ <;> (try simp only [List.cons_append, List.nil_append, List.append_eq, dO])) | (refine i_op ?_; first | (refine i_qq ?_; refine qQ ?_) | refine qEf ?_) | refine tl_nil ?_ | (refine i_tc ?_; refine qTc ?_) | (refine i_te ?_; refine qTe ?_) | intro _)
    exact qE ⟨rfl, rfl, rfl⟩
theorem does_ok_r (ρ : Hp) (b : Nat) (hb : HB) (mb n : Nat) (ops armed failing i : Int) (kd : Nat) (cd : List Value) (X : SH) (Post : Value → Hp → SH → Prop) (h0 : 0 ≤ i) (h1 : i < n) (hf : failing ≠ 0) (hf1 : -1 ≤ failing) (hf2 : failing ≤ 9223372036854775807) [hF : Fun Try.prog kd]
    (hd : Spec Try.prog kd cd ρ ([(b, dO hb mb n (IntKind.i64.wrap (ops + 1)) armed (max (failing - 1) (-1)) false)] :: X) Post) :
    Spec Try.prog 112 [.pointer (some ⟨b, 0, none⟩), .int .i64 i, .func (.func kd) ⟨[]⟩ ⟨cd⟩, .nilFunc] ρ ([(b, dO hb mb n ops armed failing false)] :: X) (fun v ρ' L' => v = .int .i64 0 ∧ ∃ v0, Post v0 ρ' L') := by
  refine spec_enter Try.func112 rfl rfl rfl fun u R => ?_
  simp only [argsE, List.cons_append, List.nil_append]
  repeat' (first | (refine tl_is (.func 99) ?_; refine qC rfl rfl (lives_ok _ _ _ _ _ _ _ _) ?_; rintro v ρ' L' hle ⟨rfl, rfl, rfl⟩ <;> (try simp only [List.cons_append, List.nil_append, List.append_eq, dO])) | (refine i_op ?_; first | (refine i_qq ?_; refine qQ ?_) | refine qEf ?_) | refine tl_nil ?_ | (refine i_tc ?_; refine qTc ?_) | (refine i_te ?_; refine qTe ?_) | intro _)
  have hfb : (failing == 0) = false := by simpa using hf
  refine tc_any (Stays _ _ ([])) (stays_of (Hp.le_refl _)) ?_
  all_goals refine rMv 0 ?_
  all_goals refine rNc 1 ?_
  all_goals refine rFa 2 ?_
  all_goals refine rMv 4 ?_
  all_goals refine rCm 5 ?_
  all_goals (refine rStep (i := 3) ?_; ((try refine qWant ?_); (first | (refine tl_is (.func 171) ?_; refine qC rfl rfl (counts_dO4 _ _ _ _ _ _ _ _ _ hf1 hf2) ?_; rintro v ρ' L' hle ⟨rfl, rfl, rfl⟩ <;> (try simp only [List.cons_append, List.nil_append, List.append_eq, dO, hfb])) | (refine qEf ?_; try intro _)) <;> ((try simp only [List.cons_append, List.nil_append, List.append_eq]); refine tl_nil ?_; refine rNext ?_)))
  all_goals refine rFull ?_
  all_goals refine rMv 6 ?_
  all_goals (first | refine wSkip 7 ?_ | refine wSkipU 7 ?_ | refine wMv 7 ?_ | (refine tr_guard (t := 41) rfl (fun hb => ?_) (fun hb => ?_) <;> (try simp only [decide_eq_true_eq, decide_eq_false_iff_not, Bool.not_eq_true, Bool.not_eq_false, beq_iff_eq, bne_iff_ne, ne_eq, Bool.not_eq_eq_eq_not, Bool.not_true, Bool.not_false, beq_eq_false_iff_ne, bne_eq_false_iff_eq] at hb) <;> first | refine wSkip 7 ?_ | refine wSkipU 7 ?_ | refine wMv 7 ?_))
  all_goals (first | refine wSkip 8 ?_ | refine wSkipU 8 ?_ | refine wNc 8 ?_ | (refine tr_guard (t := 41) rfl (fun hb => ?_) (fun hb => ?_) <;> (try simp only [decide_eq_true_eq, decide_eq_false_iff_not, Bool.not_eq_true, Bool.not_eq_false, beq_iff_eq, bne_iff_ne, ne_eq, Bool.not_eq_eq_eq_not, Bool.not_true, Bool.not_false, beq_eq_false_iff_ne, bne_eq_false_iff_eq] at hb) <;> first | refine wSkip 8 ?_ | refine wSkipU 8 ?_ | refine wNc 8 ?_))
  all_goals (first | refine wSkip 9 ?_ | refine wSkipU 9 ?_ | refine wFa 9 ?_ | (refine tr_guard (t := 41) rfl (fun hb => ?_) (fun hb => ?_) <;> (try simp only [decide_eq_true_eq, decide_eq_false_iff_not, Bool.not_eq_true, Bool.not_eq_false, beq_iff_eq, bne_iff_ne, ne_eq, Bool.not_eq_eq_eq_not, Bool.not_true, Bool.not_false, beq_eq_false_iff_ne, bne_eq_false_iff_eq] at hb) <;> first | refine wSkip 9 ?_ | refine wSkipU 9 ?_ | refine wFa 9 ?_))
  all_goals (first | refine wSkip 10 ?_ | refine wSkipU 10 ?_ | refine wLd 10 ?_ | (refine tr_guard (t := 41) rfl (fun hb => ?_) (fun hb => ?_) <;> (try simp only [decide_eq_true_eq, decide_eq_false_iff_not, Bool.not_eq_true, Bool.not_eq_false, beq_iff_eq, bne_iff_ne, ne_eq, Bool.not_eq_eq_eq_not, Bool.not_true, Bool.not_false, beq_eq_false_iff_ne, bne_eq_false_iff_eq] at hb) <;> first | refine wSkip 10 ?_ | refine wSkipU 10 ?_ | refine wLd 10 ?_))
  all_goals (first | refine wSkip 11 ?_ | refine wSkipU 11 ?_ | refine wCm 11 ?_ | (refine tr_guard (t := 41) rfl (fun hb => ?_) (fun hb => ?_) <;> (try simp only [decide_eq_true_eq, decide_eq_false_iff_not, Bool.not_eq_true, Bool.not_eq_false, beq_iff_eq, bne_iff_ne, ne_eq, Bool.not_eq_eq_eq_not, Bool.not_true, Bool.not_false, beq_eq_false_iff_ne, bne_eq_false_iff_eq] at hb) <;> first | refine wSkip 11 ?_ | refine wSkipU 11 ?_ | refine wCm 11 ?_))
  all_goals refine rPk 12 ?_
  all_goals refine rAs 13 ?_
  all_goals refine rAs 14 ?_
  all_goals refine rDone ?_
  unfold dO at hd
  repeat' (first | (refine tl_is (.tmp 65) ?_; refine tl_call rfl rfl hd tk rfl ?_; rintro v ρ' L' hle hp) | (refine i_op ?_; first | (refine i_qq ?_; refine qQ ?_) | refine qEf ?_) | refine tl_nil ?_ | (refine i_tc ?_; refine qTc ?_) | (refine i_te ?_; refine qTe ?_) | intro _)
  exact qE ⟨rfl, _, hp⟩
theorem does_ok_w (ρ : Hp) (b : Nat) (hb : HB) (mb n : Nat) (ops armed failing i : Int) (kd kl : Nat) (cd cl : List Value) (X : SH) (Post : Value → Hp → SH → Prop) (h0 : 0 ≤ i) (h1 : i < n) (hf : failing ≠ 0) (hf1 : -1 ≤ failing) (hf2 : failing ≤ 9223372036854775807)
    (ha : armed ≠ 0) (ha1 : -1 ≤ armed) (ha2 : armed ≤ 9223372036854775807) [hF : Fun Try.prog kd]
    (hd : Spec Try.prog kd cd ρ ([(b, dO hb mb n (IntKind.i64.wrap (ops + 1)) (max (armed - 1) (-1)) (max (failing - 1) (-1)) false)] :: X) Post) :
    Spec Try.prog 112 [.pointer (some ⟨b, 0, none⟩), .int .i64 i, .func (.func kd) ⟨[]⟩ ⟨cd⟩, .func (.func kl) ⟨[]⟩ ⟨cl⟩] ρ ([(b, dO hb mb n ops armed failing false)] :: X) (fun v ρ' L' => v = .int .i64 0 ∧ ∃ v0, Post v0 ρ' L') := by
  refine spec_enter Try.func112 rfl rfl rfl fun u R => ?_
  simp only [argsE, List.cons_append, List.nil_append]
  repeat' (first | (refine tl_is (.func 99) ?_; refine qC rfl rfl (lives_ok _ _ _ _ _ _ _ _) ?_; rintro v ρ' L' hle ⟨rfl, rfl, rfl⟩ <;> (try simp only [List.cons_append, List.nil_append, List.append_eq, dO])) | (refine i_op ?_; first | (refine i_qq ?_; refine qQ ?_) | refine qEf ?_) | refine tl_nil ?_ | (refine i_tc ?_; refine qTc ?_) | (refine i_te ?_; refine qTe ?_) | intro _)
  have hfb : (failing == 0) = false := by simpa using hf
  refine tc_any (Stays _ _ ([])) (stays_of (Hp.le_refl _)) ?_
  all_goals refine rMv 0 ?_
  all_goals refine rNc 1 ?_
  all_goals refine rFa 2 ?_
  all_goals refine rMv 4 ?_
  all_goals refine rCm 5 ?_
  all_goals (refine rStep (i := 3) ?_; ((try refine qWant ?_); (first | (refine tl_is (.func 171) ?_; refine qC rfl rfl (counts_dO4 _ _ _ _ _ _ _ _ _ hf1 hf2) ?_; rintro v ρ' L' hle ⟨rfl, rfl, rfl⟩ <;> (try simp only [List.cons_append, List.nil_append, List.append_eq, dO, hfb])) | (refine qEf ?_; try intro _)) <;> ((try simp only [List.cons_append, List.nil_append, List.append_eq]); refine tl_nil ?_; refine rNext ?_)))
  all_goals refine rFull ?_
  all_goals refine rMv 6 ?_
  all_goals (first | refine wSkip 7 ?_ | refine wSkipU 7 ?_ | refine wMv 7 ?_ | (refine tr_guard (t := 41) rfl (fun hb => ?_) (fun hb => ?_) <;> (try simp only [decide_eq_true_eq, decide_eq_false_iff_not, Bool.not_eq_true, Bool.not_eq_false, beq_iff_eq, bne_iff_ne, ne_eq, Bool.not_eq_eq_eq_not, Bool.not_true, Bool.not_false, beq_eq_false_iff_ne, bne_eq_false_iff_eq] at hb) <;> first | refine wSkip 7 ?_ | refine wSkipU 7 ?_ | refine wMv 7 ?_))
  all_goals (first | refine wSkip 8 ?_ | refine wSkipU 8 ?_ | refine wNc 8 ?_ | (refine tr_guard (t := 41) rfl (fun hb => ?_) (fun hb => ?_) <;> (try simp only [decide_eq_true_eq, decide_eq_false_iff_not, Bool.not_eq_true, Bool.not_eq_false, beq_iff_eq, bne_iff_ne, ne_eq, Bool.not_eq_eq_eq_not, Bool.not_true, Bool.not_false, beq_eq_false_iff_ne, bne_eq_false_iff_eq] at hb) <;> first | refine wSkip 8 ?_ | refine wSkipU 8 ?_ | refine wNc 8 ?_))
  all_goals (first | refine wSkip 9 ?_ | refine wSkipU 9 ?_ | refine wFa 9 ?_ | (refine tr_guard (t := 41) rfl (fun hb => ?_) (fun hb => ?_) <;> (try simp only [decide_eq_true_eq, decide_eq_false_iff_not, Bool.not_eq_true, Bool.not_eq_false, beq_iff_eq, bne_iff_ne, ne_eq, Bool.not_eq_eq_eq_not, Bool.not_true, Bool.not_false, beq_eq_false_iff_ne, bne_eq_false_iff_eq] at hb) <;> first | refine wSkip 9 ?_ | refine wSkipU 9 ?_ | refine wFa 9 ?_))
  all_goals (first | refine wSkip 10 ?_ | refine wSkipU 10 ?_ | refine wLd 10 ?_ | (refine tr_guard (t := 41) rfl (fun hb => ?_) (fun hb => ?_) <;> (try simp only [decide_eq_true_eq, decide_eq_false_iff_not, Bool.not_eq_true, Bool.not_eq_false, beq_iff_eq, bne_iff_ne, ne_eq, Bool.not_eq_eq_eq_not, Bool.not_true, Bool.not_false, beq_eq_false_iff_ne, bne_eq_false_iff_eq] at hb) <;> first | refine wSkip 10 ?_ | refine wSkipU 10 ?_ | refine wLd 10 ?_))
  all_goals (first | refine wSkip 11 ?_ | refine wSkipU 11 ?_ | refine wCm 11 ?_ | (refine tr_guard (t := 41) rfl (fun hb => ?_) (fun hb => ?_) <;> (try simp only [decide_eq_true_eq, decide_eq_false_iff_not, Bool.not_eq_true, Bool.not_eq_false, beq_iff_eq, bne_iff_ne, ne_eq, Bool.not_eq_eq_eq_not, Bool.not_true, Bool.not_false, beq_eq_false_iff_ne, bne_eq_false_iff_eq] at hb) <;> first | refine wSkip 11 ?_ | refine wSkipU 11 ?_ | refine wCm 11 ?_))
  all_goals refine rPk 12 ?_
  all_goals refine rAs 13 ?_
  all_goals refine rAs 14 ?_
  all_goals refine rDone ?_
  unfold dO at hd
  repeat' (first | (refine tl_is (.func 171) ?_; refine qC rfl rfl (counts_dO3 _ _ _ _ _ _ _ _ _ ha1 ha2) ?_; rintro v ρ' L' hle ⟨rfl, rfl, rfl⟩ <;> (try simp only [List.cons_append, List.nil_append, List.append_eq, dO])) | (refine tl_is (.tmp 65) ?_; refine tl_call rfl rfl hd tk rfl ?_; rintro v ρ' L' hle hp) | (refine i_op ?_; first | (refine i_qq ?_; refine qQ ?_) | refine qEf ?_) | refine tl_nil ?_ | (refine i_tc ?_; refine qTc ?_) | (refine i_te ?_; refine qTe ?_) | intro _)
  exact qE ⟨rfl, _, hp⟩
theorem does_fail_r (ρ : Hp) (b : Nat) (hb : HB) (mb n : Nat) (ops armed i : Int) (d : Value) (h0 : 0 ≤ i) (h1 : i < n) :
    Spec Try.prog 112 [.pointer (some ⟨b, 0, none⟩), .int .i64 i, d, .nilFunc] ρ [[(b, dO hb mb n ops armed 0 false)]] (fun v ρ' L' => v = .int .i64 8 ∧ ρ' = ρ ∧ L' = [[(b, dO hb mb n (IntKind.i64.wrap (ops + 1)) armed (-1) false)]]) := by
  refine spec_enter Try.func112 rfl rfl rfl fun u R => ?_
  simp only [argsE, List.cons_append, List.nil_append]
  repeat' (first | (refine tl_is (.func 99) ?_; refine qC rfl rfl (lives_ok _ _ _ _ _ _ _ _) ?_; rintro v ρ' L' hle ⟨rfl, rfl, rfl⟩ <;> (try simp only [List.cons_append, List.nil_append, List.append_eq, dO])) | (refine i_op ?_; first | (refine i_qq ?_; refine qQ ?_) | refine qEf ?_) | refine tl_nil ?_ | (refine i_tc ?_; refine qTc ?_) | (refine i_te ?_; refine qTe ?_) | intro _)
  refine tc_any (Stays _ _ ([])) (stays_of (Hp.le_refl _)) ?_
  all_goals refine rMv 0 ?_
  all_goals refine rNc 1 ?_
  all_goals refine rFa 2 ?_
  all_goals refine rMv 4 ?_
  all_goals refine rCm 5 ?_
  all_goals (refine rStep (i := 3) ?_; ((try refine qWant ?_); (first | (refine tl_is (.func 171) ?_; refine qC rfl rfl (counts_dO4 _ _ _ _ _ _ _ 0 _ (by decide) (by decide)) ?_; rintro v ρ' L' hle ⟨rfl, rfl, rfl⟩ <;> (try simp only [List.cons_append, List.nil_append, List.append_eq, dO])) | (refine qEf ?_; try intro _)) <;> ((try simp only [List.cons_append, List.nil_append, List.append_eq]); refine tl_nil ?_; refine rNext ?_)))
  all_goals refine rFull ?_
  all_goals refine rMv 6 ?_
  all_goals (first | refine wSkip 7 ?_ | refine wSkipU 7 ?_ | refine wMv 7 ?_ | (refine tr_guard (t := 41) rfl (fun hb => ?_) (fun hb => ?_) <;> (try simp only [decide_eq_true_eq, decide_eq_false_iff_not, Bool.not_eq_true, Bool.not_eq_false, beq_iff_eq, bne_iff_ne, ne_eq, Bool.not_eq_eq_eq_not, Bool.not_true, Bool.not_false, beq_eq_false_iff_ne, bne_eq_false_iff_eq] at hb) <;> first | refine wSkip 7 ?_ | refine wSkipU 7 ?_ | refine wMv 7 ?_))
  all_goals (first | refine wSkip 8 ?_ | refine wSkipU 8 ?_ | refine wNc 8 ?_ | (refine tr_guard (t := 41) rfl (fun hb => ?_) (fun hb => ?_) <;> (try simp only [decide_eq_true_eq, decide_eq_false_iff_not, Bool.not_eq_true, Bool.not_eq_false, beq_iff_eq, bne_iff_ne, ne_eq, Bool.not_eq_eq_eq_not, Bool.not_true, Bool.not_false, beq_eq_false_iff_ne, bne_eq_false_iff_eq] at hb) <;> first | refine wSkip 8 ?_ | refine wSkipU 8 ?_ | refine wNc 8 ?_))
  all_goals (first | refine wSkip 9 ?_ | refine wSkipU 9 ?_ | refine wFa 9 ?_ | (refine tr_guard (t := 41) rfl (fun hb => ?_) (fun hb => ?_) <;> (try simp only [decide_eq_true_eq, decide_eq_false_iff_not, Bool.not_eq_true, Bool.not_eq_false, beq_iff_eq, bne_iff_ne, ne_eq, Bool.not_eq_eq_eq_not, Bool.not_true, Bool.not_false, beq_eq_false_iff_ne, bne_eq_false_iff_eq] at hb) <;> first | refine wSkip 9 ?_ | refine wSkipU 9 ?_ | refine wFa 9 ?_))
  all_goals (first | refine wSkip 10 ?_ | refine wSkipU 10 ?_ | refine wLd 10 ?_ | (refine tr_guard (t := 41) rfl (fun hb => ?_) (fun hb => ?_) <;> (try simp only [decide_eq_true_eq, decide_eq_false_iff_not, Bool.not_eq_true, Bool.not_eq_false, beq_iff_eq, bne_iff_ne, ne_eq, Bool.not_eq_eq_eq_not, Bool.not_true, Bool.not_false, beq_eq_false_iff_ne, bne_eq_false_iff_eq] at hb) <;> first | refine wSkip 10 ?_ | refine wSkipU 10 ?_ | refine wLd 10 ?_))
  all_goals (first | refine wSkip 11 ?_ | refine wSkipU 11 ?_ | refine wCm 11 ?_ | (refine tr_guard (t := 41) rfl (fun hb => ?_) (fun hb => ?_) <;> (try simp only [decide_eq_true_eq, decide_eq_false_iff_not, Bool.not_eq_true, Bool.not_eq_false, beq_iff_eq, bne_iff_ne, ne_eq, Bool.not_eq_eq_eq_not, Bool.not_true, Bool.not_false, beq_eq_false_iff_ne, bne_eq_false_iff_eq] at hb) <;> first | refine wSkip 11 ?_ | refine wSkipU 11 ?_ | refine wCm 11 ?_))
  all_goals refine rPk 12 ?_
  all_goals refine rAs 13 ?_
  all_goals refine rAs 14 ?_
  all_goals refine rDone ?_
  repeat' (first | (refine i_op ?_; first | (refine i_qq ?_; refine qQ ?_) | refine qEf ?_) | refine tl_nil ?_ | (refine i_tc ?_; refine qTc ?_) | (refine i_te ?_; refine qTe ?_) | intro _)
  exact qE ⟨rfl, rfl, rfl⟩
theorem does_fail_w (ρ : Hp) (b : Nat) (hb : HB) (mb n : Nat) (ops armed i : Int) (d : Value) (kl : Nat) (cl : List Value) (h0 : 0 ≤ i) (h1 : i < n) (ha : armed ≠ 0) :
    Spec Try.prog 112 [.pointer (some ⟨b, 0, none⟩), .int .i64 i, d, .func (.func kl) ⟨[]⟩ ⟨cl⟩] ρ [[(b, dO hb mb n ops armed 0 false)]] (fun v ρ' L' => v = .int .i64 8 ∧ ρ' = ρ ∧ L' = [[(b, dO hb mb n (IntKind.i64.wrap (ops + 1)) armed (-1) false)]]) := by
  refine spec_enter Try.func112 rfl rfl rfl fun u R => ?_
  simp only [argsE, List.cons_append, List.nil_append]
  repeat' (first | (refine tl_is (.func 99) ?_; refine qC rfl rfl (lives_ok _ _ _ _ _ _ _ _) ?_; rintro v ρ' L' hle ⟨rfl, rfl, rfl⟩ <;> (try simp only [List.cons_append, List.nil_append, List.append_eq, dO])) | (refine i_op ?_; first | (refine i_qq ?_; refine qQ ?_) | refine qEf ?_) | refine tl_nil ?_ | (refine i_tc ?_; refine qTc ?_) | (refine i_te ?_; refine qTe ?_) | intro _)
  refine tc_any (Stays _ _ ([])) (stays_of (Hp.le_refl _)) ?_
  all_goals refine rMv 0 ?_
  all_goals refine rNc 1 ?_
  all_goals refine rFa 2 ?_
  all_goals refine rMv 4 ?_
  all_goals refine rCm 5 ?_
  all_goals (refine rStep (i := 3) ?_; ((try refine qWant ?_); (first | (refine tl_is (.func 171) ?_; refine qC rfl rfl (counts_dO4 _ _ _ _ _ _ _ 0 _ (by decide) (by decide)) ?_; rintro v ρ' L' hle ⟨rfl, rfl, rfl⟩ <;> (try simp only [List.cons_append, List.nil_append, List.append_eq, dO])) | (refine qEf ?_; try intro _)) <;> ((try simp only [List.cons_append, List.nil_append, List.append_eq]); refine tl_nil ?_; refine rNext ?_)))
  all_goals refine rFull ?_
  all_goals refine rMv 6 ?_
  all_goals (first | refine wSkip 7 ?_ | refine wSkipU 7 ?_ | refine wMv 7 ?_ | (refine tr_guard (t := 41) rfl (fun hb => ?_) (fun hb => ?_) <;> (try simp only [decide_eq_true_eq, decide_eq_false_iff_not, Bool.not_eq_true, Bool.not_eq_false, beq_iff_eq, bne_iff_ne, ne_eq, Bool.not_eq_eq_eq_not, Bool.not_true, Bool.not_false, beq_eq_false_iff_ne, bne_eq_false_iff_eq] at hb) <;> first | refine wSkip 7 ?_ | refine wSkipU 7 ?_ | refine wMv 7 ?_))
  all_goals (first | refine wSkip 8 ?_ | refine wSkipU 8 ?_ | refine wNc 8 ?_ | (refine tr_guard (t := 41) rfl (fun hb => ?_) (fun hb => ?_) <;> (try simp only [decide_eq_true_eq, decide_eq_false_iff_not, Bool.not_eq_true, Bool.not_eq_false, beq_iff_eq, bne_iff_ne, ne_eq, Bool.not_eq_eq_eq_not, Bool.not_true, Bool.not_false, beq_eq_false_iff_ne, bne_eq_false_iff_eq] at hb) <;> first | refine wSkip 8 ?_ | refine wSkipU 8 ?_ | refine wNc 8 ?_))
  all_goals (first | refine wSkip 9 ?_ | refine wSkipU 9 ?_ | refine wFa 9 ?_ | (refine tr_guard (t := 41) rfl (fun hb => ?_) (fun hb => ?_) <;> (try simp only [decide_eq_true_eq, decide_eq_false_iff_not, Bool.not_eq_true, Bool.not_eq_false, beq_iff_eq, bne_iff_ne, ne_eq, Bool.not_eq_eq_eq_not, Bool.not_true, Bool.not_false, beq_eq_false_iff_ne, bne_eq_false_iff_eq] at hb) <;> first | refine wSkip 9 ?_ | refine wSkipU 9 ?_ | refine wFa 9 ?_))
  all_goals (first | refine wSkip 10 ?_ | refine wSkipU 10 ?_ | refine wLd 10 ?_ | (refine tr_guard (t := 41) rfl (fun hb => ?_) (fun hb => ?_) <;> (try simp only [decide_eq_true_eq, decide_eq_false_iff_not, Bool.not_eq_true, Bool.not_eq_false, beq_iff_eq, bne_iff_ne, ne_eq, Bool.not_eq_eq_eq_not, Bool.not_true, Bool.not_false, beq_eq_false_iff_ne, bne_eq_false_iff_eq] at hb) <;> first | refine wSkip 10 ?_ | refine wSkipU 10 ?_ | refine wLd 10 ?_))
  all_goals (first | refine wSkip 11 ?_ | refine wSkipU 11 ?_ | refine wCm 11 ?_ | (refine tr_guard (t := 41) rfl (fun hb => ?_) (fun hb => ?_) <;> (try simp only [decide_eq_true_eq, decide_eq_false_iff_not, Bool.not_eq_true, Bool.not_eq_false, beq_iff_eq, bne_iff_ne, ne_eq, Bool.not_eq_eq_eq_not, Bool.not_true, Bool.not_false, beq_eq_false_iff_ne, bne_eq_false_iff_eq] at hb) <;> first | refine wSkip 11 ?_ | refine wSkipU 11 ?_ | refine wCm 11 ?_))
  all_goals refine rPk 12 ?_
  all_goals refine rAs 13 ?_
  all_goals refine rAs 14 ?_
  all_goals refine rDone ?_
  repeat' (first | (refine i_op ?_; first | (refine i_qq ?_; refine qQ ?_) | refine qEf ?_) | refine tl_nil ?_ | (refine i_tc ?_; refine qTc ?_) | (refine i_te ?_; refine qTe ?_) | intro _)
  exact qE ⟨rfl, rfl, rfl⟩
theorem does_dies (ρ : Hp) (b : Nat) (hb : HB) (mb n : Nat) (ops failing i : Int) (d : Value) (kl : Nat) (cl : List Value) (X : SH) (Post : Value → Hp → SH → Prop) (h0 : 0 ≤ i) (h1 : i < n) (hf1 : -1 ≤ failing) (hf2 : failing ≤ 9223372036854775807) [hF : Fun Try.prog kl]
    (hd : Spec Try.prog kl cl ρ ([(b, dO hb mb n (IntKind.i64.wrap (ops + 1)) 0 (max (failing - 1) (-1)) true)] :: X) Post) :
    Spec Try.prog 112 [.pointer (some ⟨b, 0, none⟩), .int .i64 i, d, .func (.func kl) ⟨[]⟩ ⟨cl⟩] ρ ([(b, dO hb mb n ops 0 failing false)] :: X) (fun v ρ' L' => v = .int .i64 9 ∧ ∃ v0, Post v0 ρ' L') := by
  refine spec_enter Try.func112 rfl rfl rfl fun u R => ?_
  simp only [argsE, List.cons_append, List.nil_append]
  repeat' (first | (refine tl_is (.func 99) ?_; refine qC rfl rfl (lives_ok _ _ _ _ _ _ _ _) ?_; rintro v ρ' L' hle ⟨rfl, rfl, rfl⟩ <;> (try simp only [List.cons_append, List.nil_append, List.append_eq, dO])) | (refine i_op ?_; first | (refine i_qq ?_; refine qQ ?_) | refine qEf ?_) | refine tl_nil ?_ | (refine i_tc ?_; refine qTc ?_) | (refine i_te ?_; refine qTe ?_) | intro _)
  refine tc_any (Stays _ _ ([])) (stays_of (Hp.le_refl _)) ?_
  all_goals refine rMv 0 ?_
  all_goals refine rNc 1 ?_
  all_goals refine rFa 2 ?_
  all_goals refine rMv 4 ?_
  all_goals refine rCm 5 ?_
  all_goals (refine rStep (i := 3) ?_; ((try refine qWant ?_); (first | (refine tl_is (.func 171) ?_; refine qC rfl rfl (counts_dO4 _ _ _ _ _ _ _ _ _ hf1 hf2) ?_; rintro v ρ' L' hle ⟨rfl, rfl, rfl⟩ <;> (try simp only [List.cons_append, List.nil_append, List.append_eq, dO])) | (refine qEf ?_; try intro _)) <;> ((try simp only [List.cons_append, List.nil_append, List.append_eq]); refine tl_nil ?_; refine rNext ?_)))
  all_goals refine rFull ?_
  all_goals refine rMv 6 ?_
  all_goals (first | refine wSkip 7 ?_ | refine wSkipU 7 ?_ | refine wMv 7 ?_ | (refine tr_guard (t := 41) rfl (fun hb => ?_) (fun hb => ?_) <;> (try simp only [decide_eq_true_eq, decide_eq_false_iff_not, Bool.not_eq_true, Bool.not_eq_false, beq_iff_eq, bne_iff_ne, ne_eq, Bool.not_eq_eq_eq_not, Bool.not_true, Bool.not_false, beq_eq_false_iff_ne, bne_eq_false_iff_eq] at hb) <;> first | refine wSkip 7 ?_ | refine wSkipU 7 ?_ | refine wMv 7 ?_))
  all_goals (first | refine wSkip 8 ?_ | refine wSkipU 8 ?_ | refine wNc 8 ?_ | (refine tr_guard (t := 41) rfl (fun hb => ?_) (fun hb => ?_) <;> (try simp only [decide_eq_true_eq, decide_eq_false_iff_not, Bool.not_eq_true, Bool.not_eq_false, beq_iff_eq, bne_iff_ne, ne_eq, Bool.not_eq_eq_eq_not, Bool.not_true, Bool.not_false, beq_eq_false_iff_ne, bne_eq_false_iff_eq] at hb) <;> first | refine wSkip 8 ?_ | refine wSkipU 8 ?_ | refine wNc 8 ?_))
  all_goals (first | refine wSkip 9 ?_ | refine wSkipU 9 ?_ | refine wFa 9 ?_ | (refine tr_guard (t := 41) rfl (fun hb => ?_) (fun hb => ?_) <;> (try simp only [decide_eq_true_eq, decide_eq_false_iff_not, Bool.not_eq_true, Bool.not_eq_false, beq_iff_eq, bne_iff_ne, ne_eq, Bool.not_eq_eq_eq_not, Bool.not_true, Bool.not_false, beq_eq_false_iff_ne, bne_eq_false_iff_eq] at hb) <;> first | refine wSkip 9 ?_ | refine wSkipU 9 ?_ | refine wFa 9 ?_))
  all_goals (first | refine wSkip 10 ?_ | refine wSkipU 10 ?_ | refine wLd 10 ?_ | (refine tr_guard (t := 41) rfl (fun hb => ?_) (fun hb => ?_) <;> (try simp only [decide_eq_true_eq, decide_eq_false_iff_not, Bool.not_eq_true, Bool.not_eq_false, beq_iff_eq, bne_iff_ne, ne_eq, Bool.not_eq_eq_eq_not, Bool.not_true, Bool.not_false, beq_eq_false_iff_ne, bne_eq_false_iff_eq] at hb) <;> first | refine wSkip 10 ?_ | refine wSkipU 10 ?_ | refine wLd 10 ?_))
  all_goals (first | refine wSkip 11 ?_ | refine wSkipU 11 ?_ | refine wCm 11 ?_ | (refine tr_guard (t := 41) rfl (fun hb => ?_) (fun hb => ?_) <;> (try simp only [decide_eq_true_eq, decide_eq_false_iff_not, Bool.not_eq_true, Bool.not_eq_false, beq_iff_eq, bne_iff_ne, ne_eq, Bool.not_eq_eq_eq_not, Bool.not_true, Bool.not_false, beq_eq_false_iff_ne, bne_eq_false_iff_eq] at hb) <;> first | refine wSkip 11 ?_ | refine wSkipU 11 ?_ | refine wCm 11 ?_))
  all_goals refine rPk 12 ?_
  all_goals refine rAs 13 ?_
  all_goals refine rAs 14 ?_
  all_goals refine rDone ?_
  unfold dO at hd
  repeat' (first | (refine tl_is (.tmp 55) ?_; refine tl_call rfl rfl hd tk rfl ?_; rintro v ρ' L' hle hp) | (refine i_op ?_; first | (refine i_qq ?_; refine qQ ?_) | refine qEf ?_) | refine tl_nil ?_ | (refine i_tc ?_; refine qTc ?_) | (refine i_te ?_; refine qTe ?_) | intro _)
  exact qE ⟨rfl, _, hp⟩
end Go.Proofs.E

namespace Go.Proofs.E
open Go
set_option linter.unusedVariables false
set_option linter.unusedSimpArgs false
set_option linter.unusedSectionVars false
set_option maxRecDepth 4000
set_option maxHeartbeats 1000000
attribute [local irreducible] Yl TL TC TE Spec YSpec R1 Hp.le EnvLe TS TR YS Stays
/-! ## sectors, as lists -/
theorem heldC_length {s : Secs} (h : ∀ p ∈ s, p.1.length = 64) : (heldC s).length = s.length * 64 := by
  induction s with
  | nil => rfl
  | cons p r ih =>
    have h1 := h p (by simp)
    have h2 := ih (fun q hq => h q (by simp [hq]))
    simp only [heldC, List.map_cons, List.flatten_cons, List.length_append, List.length_map, List.length_cons] at *
    omega
theorem heldC_take : ∀ {s : Secs} {i : Nat} (h : ∀ p ∈ s, p.1.length = 64) (hi : i < s.length), ((heldC s).drop (i * 64)).take 64 = (s[i].1).map u8c
  | [], i, h, hi => by simp at hi
  | p :: r, 0, h, hi => by
    have h1 := h p (by simp)
    simp only [heldC, List.map_cons, List.flatten_cons, Nat.zero_mul, List.drop_zero, List.getElem_cons_zero]
    rw [List.take_append_of_le_length (by simp [h1]), List.take_of_length_le (by simp [h1])]
  | p :: r, i + 1, h, hi => by
    have h1 := h p (by simp)
    have ih := heldC_take (s := r) (i := i) (fun q hq => h q (by simp [hq])) (by simpa using hi)
    simp only [heldC, List.map_cons, List.flatten_cons, List.getElem_cons_succ] at ih ⊢
    have e : (i + 1) * 64 = (p.1.map u8c).length + i * 64 := by simp [h1]; omega
    rw [e, ← List.drop_drop, List.drop_left]
    exact ih
theorem stc_heldC : ∀ {s : Secs} {i : Nat} {b : Blk} (x : Option Blk) (h : ∀ p ∈ s, p.1.length = 64) (hb : b.length = 64) (hi : i < s.length), stc (heldC s) (i * 64) (b.map u8c) = heldC (s.set i (b, x))
  | [], i, b, x, h, hb, hi => by simp at hi
  | p :: r, 0, b, x, h, hb, hi => by
    have h1 := h p (by simp)
    simp only [stc, heldC, List.map_cons, List.flatten_cons, Nat.zero_mul, List.take_zero, List.nil_append, Nat.zero_add, List.set_cons_zero]
    congr 1
    have e : (b.map u8c).length = (p.1.map u8c).length := by simp [hb, h1]
    rw [e, List.drop_left]
  | p :: r, i + 1, b, x, h, hb, hi => by
    have h1 := h p (by simp)
    have ih := stc_heldC (s := r) (i := i) (b := b) x (fun q hq => h q (by simp [hq])) hb (by simpa using hi)
    simp only [stc, heldC, List.map_cons, List.flatten_cons, List.set_cons_succ] at ih ⊢
    have e : (i + 1) * 64 = (p.1.map u8c).length + i * 64 := by simp [h1]; omega
    rw [e, List.take_length_add_append, Nat.add_assoc, ← List.drop_drop, List.drop_left, ← ih]
    simp
theorem heldC_take' {s : Secs} {i : Nat} (sp : List Value) (h : ∀ p ∈ s, p.1.length = 64) (hi : i < s.length) : ((heldC s ++ sp).drop (i * 64)).take 64 = (s[i].1).map u8c := by
  have hl := heldC_length h
  rw [List.drop_append_of_le_length (by omega), List.take_append_of_le_length (by simp; omega)]
  exact heldC_take h hi
theorem stc_heldC' {s : Secs} {i : Nat} {b : Blk} (sp : List Value) (x : Option Blk) (h : ∀ p ∈ s, p.1.length = 64) (hb : b.length = 64) (hi : i < s.length) : stc (heldC s ++ sp) (i * 64) (b.map u8c) = heldC (s.set i (b, x)) ++ sp := by
  have hl := heldC_length h
  rw [← stc_heldC x h hb hi]
  unfold stc
  rw [List.take_append_of_le_length (by omega), List.drop_append_of_le_length (by simp; omega)]
  simp
theorem heldC_length' {s : Secs} (sp : List Value) (h : ∀ p ∈ s, p.1.length = 64) : (heldC s ++ sp).length = s.length * 64 + sp.length := by
  rw [List.length_append, heldC_length h]
def putC (s : Secs) (i : Nat) (b : Blk) : Secs := s.set i ((s[i]?.getD ([], none)).1, some b)
theorem putC_length {s : Secs} {i b} : (putC s i b).length = s.length := by simp [putC]
theorem heldC_putC {s : Secs} {i : Nat} {b : Blk} (hi : i < s.length) : heldC (putC s i b) = heldC s := by
  unfold heldC putC
  rw [List.map_set]
  congr 1
  apply List.ext_getElem? ; intro j
  rw [List.getElem?_set]
  by_cases e : i = j
  · subst e; simp [hi]
  · simp [e]
theorem SecsOk.putC {s : Secs} {i : Nat} {b : Blk} (h : SecsOk s) (hb : b.length = 64) (hi : i < s.length) : SecsOk (putC s i b) := by
  have hm : ∀ p ∈ E.putC s i b, p ∈ s ∨ p = (s[i].1, some b) := fun p hp => by
    unfold E.putC at hp
    rcases List.mem_or_eq_of_mem_set hp with h1 | h1
    · exact .inl h1
    · right; rw [h1]; simp [hi]
  refine ⟨by rw [putC_length]; exact h.len, by rw [putC_length]; exact h.pos, fun p hp => ?_, fun p hp c hc => ?_⟩
  · rcases hm p hp with h1 | rfl
    · exact h.held p h1
    · exact h.held s[i] (List.getElem_mem hi)
  · rcases hm p hp with h1 | rfl
    · exact h.cached p h1 c hc
    · simp only [Option.some.injEq] at hc; subst hc; exact hb
theorem MapOk.put {s : Secs} {es es' : List MapEntry} {i : Int} {b : Blk} (h : MapOk s es) (h0 : 0 ≤ i) (hi : i < s.length) (hk : IntKeys .i64 es') (hg : ∀ j, mget es' j = if j = i then some (bv b) else mget es j) : MapOk (putC s i.toNat b) es' := by
  refine ⟨hk, fun j => ?_⟩
  rw [hg]
  by_cases e : j = i
  · subst e
    have : j.toNat < s.length := by omega
    simp [putC, h0, this]
  · rw [if_neg e, h.get]
    by_cases h1 : 0 ≤ j
    · have hne : i.toNat ≠ j.toNat := by omega
      simp only [h1, if_true, putC]
      rw [List.getElem?_set_ne hne]
    · simp [h1]
/-- what a sector says -/
def says1 (p : Blk × Option Blk) : Blk := p.2.getD p.1
theorem MapOk.at {s : Secs} {es : List MapEntry} (h : MapOk s es) {i : Nat} (hi : i < s.length) : mget es i = (s[i].2).map bv := by
  rw [h.get]; simp [hi]
def emptyC (s : Secs) : Prop := ∀ p ∈ s, p.2 = none
theorem MapOk.empty {s : Secs} (h : emptyC s) : MapOk s [] := by
  refine ⟨fun e he => by simp at he, fun j => ?_⟩
  by_cases h1 : 0 ≤ j
  · simp only [h1, if_true, mget, List.find?_nil, Option.map_none]
    cases hs : s[j.toNat]? with
    | none => simp
    | some p => simp [h p (List.mem_of_getElem? hs)]
  · simp [mget, h1]
end Go.Proofs.E

namespace Go.Proofs.E
open Go
set_option linter.unusedVariables false
set_option linter.unusedSimpArgs false
set_option linter.unusedSectionVars false
set_option maxRecDepth 4000
set_option maxHeartbeats 1000000
attribute [local irreducible] Yl TL TC TE Spec YSpec R1 Hp.le EnvLe TS TR YS Stays
structure DS where
  secs : Secs
  ops : Int
  armed : Int
  failing : Int
  dead : Bool
structure DS.Ok (D : DS) : Prop where
  secs : SecsOk D.secs
  a1 : -1 ≤ D.armed
  a2 : D.armed ≤ 9223372036854775807
  f1 : -1 ≤ D.failing
  f2 : D.failing ≤ 9223372036854775807
def diskL (b : Nat) (hb : HB) (mb : Nat) (es : List MapEntry) (ck : Nat) (D : DS) : SH := [[(b, dO hb mb D.secs.length D.ops D.armed D.failing D.dead)], [(hb.b, .cells ⟨heldC D.secs ++ hb.sp⟩ 102 (0, 0))], [(mb, .map ⟨es⟩ ck)]]
def cnt (n : Int) : Int := max (n - 1) (-1)
/-- an operation that has begun -/
def DS.tick (D : DS) : DS := { D with ops := IntKind.i64.wrap (D.ops + 1), failing := cnt D.failing }

theorem write1 (ρ : Hp) (b : Nat) (hb : HB) (mb xb pb ib n : Nat) (ops armed failing i : Int) (dead : Bool) (es : List MapEntry) (ck : Nat) (blk : Blk) (hb64 : blk.length = 64) (hk : IntKeys .i64 es) :
    Spec Try.prog 203 [.pointer (some ⟨xb, 0, none⟩), .pointer (some ⟨pb, 0, none⟩), .pointer (some ⟨ib, 0, none⟩)] ρ
      [[(b, dO hb mb n ops armed failing dead)], [(mb, .map ⟨es⟩ ck)], [(xb, .cells ⟨blk.map u8c⟩ 102 (0, 0))], [(pb, .cells ⟨[.pointer (some ⟨b, 0, none⟩)]⟩ 45 (0, 0))], [(ib, .cells ⟨[.int .i64 i]⟩ 3 (0, 0))]]
      (fun v ρ' L' => v = .tuple ⟨[]⟩ ∧ ρ' = ρ ∧ ∃ es' ck', IntKeys .i64 es' ∧ (∀ j, mget es' j = if j = i then some (bv blk) else mget es j) ∧
        L' = [[(b, dO hb mb n ops armed failing dead)], [(mb, .map ⟨es'⟩ ck')], [(xb, .cells ⟨blk.map u8c⟩ 102 (0, 0))], [(pb, .cells ⟨[.pointer (some ⟨b, 0, none⟩)]⟩ 45 (0, 0))], [(ib, .cells ⟨[.int .i64 i]⟩ 3 (0, 0))]]) := by
  refine spec_enter Try.func203 rfl rfl rfl fun u R => ?_
  simp only [argsE, List.cons_append, List.nil_append, dO]
  have hl : (blk.map u8c).length = 64 := by simpa using hb64
  repeat' (first | (refine i_op ?_; first | (refine i_qq ?_; refine qQ ?_) | refine qEf ?_) | refine tl_nil ?_ | (refine i_tc ?_; refine qTc ?_) | (refine i_te ?_; refine qTe ?_) | intro _)
  refine tc_draw 6 (by decide +kernel) (by decide +kernel) ?_
  repeat' (first | (refine jLd ?_; refine sLd ?_) | (refine jFa ?_; refine sFa ?_) | (refine jNc ?_; refine sNc ?_) | (refine j_gd ?_; first | refine sWant ?_ | refine sSkip ?_ | refine sSkipU ?_))
  all_goals refine ts_nil ?_
  refine tl_mapUpdate rfl rfl rfl hk (fun es' ck' h1 h2 => ?_)
  repeat' (first | (refine i_op ?_; first | (refine i_qq ?_; refine qQ ?_) | refine qEf ?_) | refine tl_nil ?_ | (refine i_tc ?_; refine qTc ?_) | (refine i_te ?_; refine qTe ?_) | intro _)
  exact qE ⟨rfl, rfl, es', ck', h1, h2, rfl⟩

/-- what a Write comes to -/
def DS.write (D : DS) (i : Int) (blk : Blk) : DS × Int :=
  if D.dead then (D, 9) else if i < 0 ∨ (D.secs.length : Int) ≤ i then (D, 2)
  else if D.armed = 0 then ({ D.tick with dead := true, secs := putC D.secs i.toNat blk }, 9)
  else if D.failing = 0 then (D.tick, 8)
  else ({ D.tick with armed := cnt D.armed, secs := putC D.secs i.toNat blk }, 0)
theorem dwrite_spec (ρ : Hp) (b : Nat) (hb : HB) (mb : Nat) (es : List MapEntry) (ck : Nat) (D : DS) (i : Int) (blk : Blk) (hb64 : blk.length = 64) (hD : D.Ok) (hm : MapOk D.secs es) :
    Spec Try.prog 148 [.pointer (some ⟨b, 0, none⟩), .int .i64 i, bv blk] ρ (diskL b hb mb es ck D)
      (fun v ρ' L' => v = .int .i64 (D.write i blk).2 ∧ ρ' = ρ ∧ ∃ es' ck', MapOk (D.write i blk).1.secs es' ∧ L' = diskL b hb mb es' ck' (D.write i blk).1) := by
  obtain ⟨s, ops, armed, failing, dead⟩ := D
  obtain ⟨hs, a1, a2, f1, f2⟩ := hD
  dsimp only at hs a1 a2 f1 f2 hm
  have hl : (blk.map u8c).length = 64 := by simpa using hb64
  have hk := hm.keys
  cases dead with
  | true =>
    have he : DS.write ⟨s, ops, armed, failing, true⟩ i blk = (⟨s, ops, armed, failing, true⟩, 9) := by simp [DS.write]
    simp only [he]
    refine spec_enter Try.func148 rfl rfl rfl fun u R => ?_
    simp only [argsE, List.cons_append, List.nil_append, diskL, bv]
    repeat' (first | (refine tl_is (.func 112) ?_; refine qC rfl rfl (does_dead _ _ _ _ _ _ _ _ _ _ _) ?_; rintro v ρ' L' hle ⟨rfl, rfl, rfl⟩ <;> (try simp only [List.cons_append, List.nil_append, List.append_eq])) | (refine i_op ?_; first | (refine i_qq ?_; refine qQ ?_) | refine qEf ?_) | refine tl_nil ?_ | (refine i_tc ?_; refine qTc ?_) | (refine i_te ?_; refine qTe ?_) | intro _)
    exact qE ⟨rfl, rfl, es, ck, hm, rfl⟩
  | false =>
    by_cases hi : i < 0 ∨ (s.length : Int) ≤ i
    · have he : DS.write ⟨s, ops, armed, failing, false⟩ i blk = (⟨s, ops, armed, failing, false⟩, 2) := by simp [DS.write, hi]
      simp only [he]
      refine spec_enter Try.func148 rfl rfl rfl fun u R => ?_
      simp only [argsE, List.cons_append, List.nil_append, diskL, bv]
      repeat' (first | (refine tl_is (.func 112) ?_; refine qC rfl rfl (does_arg _ _ _ _ _ _ _ _ _ _ _ hi) ?_; rintro v ρ' L' hle ⟨rfl, rfl, rfl⟩ <;> (try simp only [List.cons_append, List.nil_append, List.append_eq])) | (refine i_op ?_; first | (refine i_qq ?_; refine qQ ?_) | refine qEf ?_) | refine tl_nil ?_ | (refine i_tc ?_; refine qTc ?_) | (refine i_te ?_; refine qTe ?_) | intro _)
      exact qE ⟨rfl, rfl, es, ck, hm, rfl⟩
    · have hi0 : 0 ≤ i := by omega
      have hi1 : i < s.length := by omega
      have hlen : (putC s i.toNat blk).length = s.length := putC_length
      have hheld : heldC (putC s i.toNat blk) = heldC s := heldC_putC (by omega)
      by_cases ha : armed = 0
      · subst ha
        have he : DS.write ⟨s, ops, 0, failing, false⟩ i blk = (⟨putC s i.toNat blk, IntKind.i64.wrap (ops + 1), 0, cnt failing, true⟩, 9) := by simp [DS.write, hi, DS.tick]
        simp only [he]
        refine spec_enter Try.func148 rfl rfl rfl fun u R => ?_
        simp only [argsE, List.cons_append, List.nil_append, diskL, bv, hlen, hheld]
        repeat' (first | (refine tl_is (.func 112) ?_; refine qC rfl rfl (does_dies _ _ _ _ _ _ _ _ _ _ _ _ _ hi0 hi1 f1 f2 (write1 _ _ _ _ _ _ _ _ _ _ _ _ _ _ _ blk hb64 hk)) ?_; rintro v ρ' L' hle ⟨rfl, v0, h0, rfl, es', ck', h1, h2, rfl⟩ <;> (try simp only [List.cons_append, List.nil_append, List.append_eq])) | (refine i_op ?_; first | (refine i_qq ?_; refine qQ ?_) | refine qEf ?_) | refine tl_nil ?_ | (refine i_tc ?_; refine qTc ?_) | (refine i_te ?_; refine qTe ?_) | intro _)
        exact qE ⟨rfl, rfl, es', ck', hm.put hi0 hi1 h1 h2, rfl⟩
      · by_cases hf : failing = 0
        · subst hf
          have he : DS.write ⟨s, ops, armed, 0, false⟩ i blk = (⟨s, IntKind.i64.wrap (ops + 1), armed, -1, false⟩, 8) := by simp [DS.write, hi, DS.tick, ha, cnt]
          simp only [he]
          refine spec_enter Try.func148 rfl rfl rfl fun u R => ?_
          simp only [argsE, List.cons_append, List.nil_append, diskL, bv]
          repeat' (first | (refine tl_is (.func 112) ?_; refine qC rfl rfl (does_fail_w _ _ _ _ _ _ _ _ _ _ _ hi0 hi1 ha) ?_; rintro v ρ' L' hle ⟨rfl, rfl, rfl⟩ <;> (try simp only [List.cons_append, List.nil_append, List.append_eq])) | (refine i_op ?_; first | (refine i_qq ?_; refine qQ ?_) | refine qEf ?_) | refine tl_nil ?_ | (refine i_tc ?_; refine qTc ?_) | (refine i_te ?_; refine qTe ?_) | intro _)
          exact qE ⟨rfl, rfl, es, ck, hm, rfl⟩
        · have he : DS.write ⟨s, ops, armed, failing, false⟩ i blk = (⟨putC s i.toNat blk, IntKind.i64.wrap (ops + 1), cnt armed, cnt failing, false⟩, 0) := by simp [DS.write, hi, DS.tick, ha, hf]
          simp only [he]
          refine spec_enter Try.func148 rfl rfl rfl fun u R => ?_
          simp only [argsE, List.cons_append, List.nil_append, diskL, bv, hlen, hheld]
          repeat' (first | (refine tl_is (.func 112) ?_; refine qC rfl rfl (does_ok_w _ _ _ _ _ _ _ _ _ _ _ _ _ _ _ hi0 hi1 hf f1 f2 ha a1 a2 (write1 _ _ _ _ _ _ _ _ _ _ _ _ _ _ _ blk hb64 hk)) ?_; rintro v ρ' L' hle ⟨rfl, v0, h0, rfl, es', ck', h1, h2, rfl⟩ <;> (try simp only [List.cons_append, List.nil_append, List.append_eq])) | (refine i_op ?_; first | (refine i_qq ?_; refine qQ ?_) | refine qEf ?_) | refine tl_nil ?_ | (refine i_tc ?_; refine qTc ?_) | (refine i_te ?_; refine qTe ?_) | intro _)
          exact qE ⟨rfl, rfl, es', ck', hm.put hi0 hi1 h1 h2, rfl⟩
end Go.Proofs.E

namespace Go.Proofs.E
open Go
set_option linter.unusedVariables false
set_option linter.unusedSimpArgs false
set_option linter.unusedSectionVars false
set_option maxRecDepth 4000
set_option maxHeartbeats 1000000
attribute [local irreducible] Yl TL TC TE Spec YSpec R1 Hp.le EnvLe TS TR YS Stays
theorem read1 (ρ : Hp) (b : Nat) (hb : HB) (mb pb ib rb : Nat) (s : Secs) (ops armed failing : Int) (i : Nat) (dead : Bool) (es : List MapEntry) (ck : Nat) (r : List Value) (hr : r.length = 64) (hs : SecsOk s) (hm : MapOk s es) (hi : i < s.length) :
    Spec Try.prog 113 [.pointer (some ⟨pb, 0, none⟩), .pointer (some ⟨ib, 0, none⟩), .pointer (some ⟨rb, 0, none⟩)] ρ
      [[(b, dO hb mb s.length ops armed failing dead)], [(hb.b, .cells ⟨heldC s ++ hb.sp⟩ 102 (0, 0))], [(mb, .map ⟨es⟩ ck)], [(pb, .cells ⟨[.pointer (some ⟨b, 0, none⟩)]⟩ 45 (0, 0))], [(ib, .cells ⟨[.int .i64 i]⟩ 3 (0, 0))], [(rb, .cells ⟨r⟩ 102 (0, 0))]]
      (fun v ρ' L' => v = .tuple ⟨[]⟩ ∧ ρ' = ρ ∧ L' = [[(b, dO hb mb s.length ops armed failing dead)], [(hb.b, .cells ⟨heldC s ++ hb.sp⟩ 102 (0, 0))], [(mb, .map ⟨es⟩ ck)], [(pb, .cells ⟨[.pointer (some ⟨b, 0, none⟩)]⟩ 45 (0, 0))], [(ib, .cells ⟨[.int .i64 i]⟩ 3 (0, 0))], [(rb, .cells ⟨(says1 s[i]).map u8c⟩ 102 (0, 0))]]) := by
  have hk := hm.keys
  have hat := hm.at hi
  have hh : (s[i].1.map u8c).length = 64 := by simpa using hs.held s[i] (List.getElem_mem hi)
  have ht : ((heldC s ++ hb.sp).drop (0 + i * 64)).take 64 = (s[i].1).map u8c := by rw [Nat.zero_add]; exact heldC_take' hb.sp hs.held hi
  have hlen := heldC_length' hb.sp hs.held
  have o1 := u8c_one
  cases hc : s[i].2 with
  | none =>
    have hsay : says1 s[i] = s[i].1 := by simp [says1, hc]
    rw [hc] at hat
    simp only [Option.map_none] at hat
    have hone := u8c_one s[i].1
    refine spec_enter Try.func113 rfl rfl rfl fun u R => ?_
    simp only [argsE, List.cons_append, List.nil_append, dO, hsay]
    repeat' (first | (refine i_op ?_; first | (refine i_qq ?_; refine qQ ?_) | refine qEf ?_) | refine tl_nil ?_ | (refine i_tc ?_; refine qTc ?_) | (refine i_te ?_; refine qTe ?_) | intro _)
    refine tc_any (Stays _ _ _) stays_refl ?_
    all_goals refine rLd 0 ?_
    all_goals refine rNc 1 ?_
    all_goals refine rFa 2 ?_
    all_goals refine rLd 3 ?_
    all_goals refine rLd 4 ?_
    all_goals refine rLu 5 ?_
    all_goals refine rMv 6 ?_
    all_goals refine rEx 7 ?_
    all_goals refine rEx 8 ?_
    all_goals (refine rStep (i := 9) ?_; ((try refine qWant ?_); (first | (refine qEf ?_; try intro _)) <;> ((try simp only [List.cons_append, List.nil_append, List.append_eq]); refine tl_nil ?_; refine rNext ?_)))
    all_goals (refine rStep (i := 10) ?_; ((try refine qWant ?_); (first | (refine qEf ?_; try intro _)) <;> ((try simp only [List.cons_append, List.nil_append, List.append_eq]); refine tl_nil ?_; refine rNext ?_)))
    all_goals refine rFull ?_
    all_goals refine rAs 11 ?_
    all_goals refine rDone ?_
    repeat' (first | (refine i_op ?_; first | (refine i_qq ?_; refine qQ ?_) | refine qEf ?_) | refine tl_nil ?_ | (refine i_tc ?_; refine qTc ?_) | (refine i_te ?_; refine qTe ?_) | intro _)
    refine tc_draw 7 (by decide +kernel) (by decide +kernel) ?_
    repeat' (first | (refine jLd ?_; refine sLd ?_) | (refine jFa ?_; refine sFa ?_) | (refine jNc ?_; refine sNc ?_) | (refine jIa ?_; refine sIa ?_) | (refine j_gd ?_; first | refine sWant ?_ | refine sSkip ?_ | refine sSkipU ?_))
    all_goals refine ts_nil ?_
    repeat' (first | (refine i_op ?_; first | (refine i_qq ?_; refine qQ ?_) | refine qEf ?_) | refine tl_nil ?_ | (refine i_tc ?_; refine qTc ?_) | (refine i_te ?_; refine qTe ?_) | intro _)
    exact qE ⟨rfl, rfl, rfl⟩
  | some c =>
    have hsay : says1 s[i] = c := by simp [says1, hc]
    have hcl : (c.map u8c).length = 64 := by simpa using hs.cached s[i] (List.getElem_mem hi) c hc
    rw [hc] at hat
    simp only [Option.map_some] at hat
    have hone := u8c_one c
    refine spec_enter Try.func113 rfl rfl rfl fun u R => ?_
    simp only [argsE, List.cons_append, List.nil_append, dO, hsay]
    repeat' (first | (refine i_op ?_; first | (refine i_qq ?_; refine qQ ?_) | refine qEf ?_) | refine tl_nil ?_ | (refine i_tc ?_; refine qTc ?_) | (refine i_te ?_; refine qTe ?_) | intro _)
    refine tc_any (Stays _ _ _) stays_refl ?_
    all_goals refine rLd 0 ?_
    all_goals refine rNc 1 ?_
    all_goals refine rFa 2 ?_
    all_goals refine rLd 3 ?_
    all_goals refine rLd 4 ?_
    all_goals refine rLu 5 ?_
    all_goals refine rMv 6 ?_
    all_goals refine rEx 7 ?_
    all_goals refine rEx 8 ?_
    all_goals (refine rStep (i := 9) ?_; ((try refine qWant ?_); (first | (refine qEf ?_; try intro _)) <;> ((try simp only [List.cons_append, List.nil_append, List.append_eq]); refine tl_nil ?_; refine rNext ?_)))
    all_goals (refine rStep (i := 10) ?_; ((try refine qWant ?_); (first | (refine qEf ?_; try intro _)) <;> ((try simp only [List.cons_append, List.nil_append, List.append_eq]); refine tl_nil ?_; refine rNext ?_)))
    all_goals refine rFull ?_
    all_goals refine rAs 11 ?_
    all_goals refine rDone ?_
    repeat' (first | (refine i_op ?_; first | (refine i_qq ?_; refine qQ ?_) | refine qEf ?_) | refine tl_nil ?_ | (refine i_tc ?_; refine qTc ?_) | (refine i_te ?_; refine qTe ?_) | intro _)
    exact qE ⟨rfl, rfl, rfl⟩
def zblk : Blk := List.replicate 64 0
theorem zblk_cells : List.replicate 64 (Value.int .u8 0) = zblk.map u8c := by rfl
def DS.read (D : DS) (i : Int) : DS × Blk × Int :=
  if D.dead then (D, zblk, 9) else if i < 0 ∨ (D.secs.length : Int) ≤ i then (D, zblk, 2)
  else if D.failing = 0 then (D.tick, zblk, 8)
  else (D.tick, says1 (D.secs[i.toNat]?.getD (zblk, none)), 0)
theorem dread_spec (ρ : Hp) (b : Nat) (hb : HB) (mb : Nat) (es : List MapEntry) (ck : Nat) (D : DS) (i : Int) (hD : D.Ok) (hm : MapOk D.secs es) :
    Spec Try.prog 54 [.pointer (some ⟨b, 0, none⟩), .int .i64 i] ρ (diskL b hb mb es ck D)
      (fun v ρ' L' => v = .tuple ⟨[bv (D.read i).2.1, .int .i64 (D.read i).2.2]⟩ ∧ ρ' = ρ ∧ L' = diskL b hb mb es ck (D.read i).1) := by
  obtain ⟨s, ops, armed, failing, dead⟩ := D
  obtain ⟨hs, a1, a2, f1, f2⟩ := hD
  dsimp only at hs a1 a2 f1 f2 hm
  have hz0 : (List.replicate 64 (Value.int .u8 0)).length = 64 := by rfl
  have hz64 : (List.replicate 64 (Value.int .u8 0)).all (·.oneCell') = true := by rfl
  cases dead with
  | true =>
    have he : DS.read ⟨s, ops, armed, failing, true⟩ i = (⟨s, ops, armed, failing, true⟩, zblk, 9) := by simp [DS.read]
    simp only [he]
    refine spec_enter Try.func54 rfl rfl rfl fun u R => ?_
    simp only [argsE, List.cons_append, List.nil_append, diskL, bv, ← zblk_cells]
    repeat' (first | (refine tl_is (.func 112) ?_; refine qC rfl rfl (does_dead _ _ _ _ _ _ _ _ _ _ _) ?_; rintro v ρ' L' hle ⟨rfl, rfl, rfl⟩ <;> (try simp only [List.cons_append, List.nil_append, List.append_eq])) | (refine i_op ?_; first | (refine i_qq ?_; refine qQ ?_) | refine qEf ?_) | refine tl_nil ?_ | (refine i_tc ?_; refine qTc ?_) | (refine i_te ?_; refine qTe ?_) | intro _)
    exact qE ⟨rfl, rfl, rfl⟩
  | false =>
    by_cases hi : i < 0 ∨ (s.length : Int) ≤ i
    · have he : DS.read ⟨s, ops, armed, failing, false⟩ i = (⟨s, ops, armed, failing, false⟩, zblk, 2) := by simp [DS.read, hi]
      simp only [he]
      refine spec_enter Try.func54 rfl rfl rfl fun u R => ?_
      simp only [argsE, List.cons_append, List.nil_append, diskL, bv, ← zblk_cells]
      repeat' (first | (refine tl_is (.func 112) ?_; refine qC rfl rfl (does_arg _ _ _ _ _ _ _ _ _ _ _ hi) ?_; rintro v ρ' L' hle ⟨rfl, rfl, rfl⟩ <;> (try simp only [List.cons_append, List.nil_append, List.append_eq])) | (refine i_op ?_; first | (refine i_qq ?_; refine qQ ?_) | refine qEf ?_) | refine tl_nil ?_ | (refine i_tc ?_; refine qTc ?_) | (refine i_te ?_; refine qTe ?_) | intro _)
      exact qE ⟨rfl, rfl, rfl⟩
    · have hi0 : 0 ≤ i := by omega
      have hi1 : i < s.length := by omega
      by_cases hf : failing = 0
      · subst hf
        have he : DS.read ⟨s, ops, armed, 0, false⟩ i = (⟨s, IntKind.i64.wrap (ops + 1), armed, -1, false⟩, zblk, 8) := by simp [DS.read, hi, DS.tick, cnt]
        simp only [he]
        refine spec_enter Try.func54 rfl rfl rfl fun u R => ?_
        simp only [argsE, List.cons_append, List.nil_append, diskL, bv, ← zblk_cells]
        repeat' (first | (refine tl_is (.func 112) ?_; refine qC rfl rfl (does_fail_r _ _ _ _ _ _ _ _ _ hi0 hi1) ?_; rintro v ρ' L' hle ⟨rfl, rfl, rfl⟩ <;> (try simp only [List.cons_append, List.nil_append, List.append_eq])) | (refine i_op ?_; first | (refine i_qq ?_; refine qQ ?_) | refine qEf ?_) | refine tl_nil ?_ | (refine i_tc ?_; refine qTc ?_) | (refine i_te ?_; refine qTe ?_) | intro _)
        exact qE ⟨rfl, rfl, rfl⟩
      · obtain ⟨k, rfl⟩ : ∃ k : Nat, i = k := ⟨i.toNat, by omega⟩
        have hk : k < s.length := by omega
        have hsay : (says1 s[k]).length = 64 := by
          unfold says1
          cases hc : s[k].2 with
          | none => exact hs.held s[k] (List.getElem_mem hk)
          | some c => exact hs.cached s[k] (List.getElem_mem hk) c hc
        have hsl : ((says1 s[k]).map u8c).length = 64 := by simpa using hsay
        have hone := u8c_one (says1 s[k])
        have he : DS.read ⟨s, ops, armed, failing, false⟩ (k : Int) = (⟨s, IntKind.i64.wrap (ops + 1), armed, cnt failing, false⟩, says1 s[k], 0) := by simp [DS.read, hi, DS.tick, hf, hk]
        simp only [he]
        refine spec_enter Try.func54 rfl rfl rfl fun u R => ?_
        simp only [argsE, List.cons_append, List.nil_append, diskL, bv]
        repeat' (first | (refine tl_is (.func 112) ?_; refine qC rfl rfl (does_ok_r _ _ _ _ _ _ _ _ _ _ _ _ _ hi0 hi1 hf f1 f2 (read1 _ _ _ _ _ _ _ _ _ _ _ _ _ _ _ _ hz0 hs hm hk)) ?_; rintro v ρ' L' hle ⟨rfl, v0, h0, rfl, rfl⟩ <;> (try simp only [List.cons_append, List.nil_append, List.append_eq])) | (refine i_op ?_; first | (refine i_qq ?_; refine qQ ?_) | refine qEf ?_) | refine tl_nil ?_ | (refine i_tc ?_; refine qTc ?_) | (refine i_te ?_; refine qTe ?_) | intro _)
        exact qE ⟨rfl, rfl, rfl⟩
end Go.Proofs.E

namespace Go.Proofs.E
open Go
set_option linter.unusedVariables false
set_option linter.unusedSimpArgs false
set_option linter.unusedSectionVars false
set_option maxRecDepth 4000
set_option maxHeartbeats 1000000
attribute [local irreducible] Yl TL TC TE Spec YSpec R1 Hp.le EnvLe TS TR YS Stays
def isP (s : Secs) (i : Nat) : Bool := ((s[i]?).bind (·.2)).isSome
def pendTo (s : Secs) (k : Nat) : List Nat := (List.range k).filter (isP s)
def pend (s : Secs) : List Nat := pendTo s s.length
theorem pendTo_succ_t {s : Secs} {k : Nat} (h : isP s k = true) : pendTo s (k + 1) = pendTo s k ++ [k] := by simp [pendTo, List.range_succ, h]
theorem pendTo_succ_f {s : Secs} {k : Nat} (h : isP s k = false) : pendTo s (k + 1) = pendTo s k := by simp [pendTo, List.range_succ, h]
theorem pendTo_pre {s : Secs} {k m : Nat} (h : k ≤ m) : pendTo s k <+: pendTo s m := by
  induction m with
  | zero => have : k = 0 := by omega
            subst this; exact List.prefix_refl _
  | succ m ih =>
    by_cases e : k = m + 1
    · subst e; exact List.prefix_refl _
    · refine (ih (by omega)).trans ?_
      cases hp : isP s m
      · rw [pendTo_succ_f hp]; exact List.prefix_refl _
      · rw [pendTo_succ_t hp]; exact List.prefix_append _ _
def natE (i : Nat) : List Value := [.int .i64 i]

theorem pending1_iter (ρ0 : Hp) (b : Nat) (hb : HB) (mb bx : Nat) (s : Secs) (ops armed failing : Int) (dead : Bool) (es : List MapEntry) (ck : Nat) (hm : MapOk s es) (hs : SecsOk s) :
    Iter Try.prog 211 [] [.pointer (some ⟨bx, 0, none⟩)] natE ρ0
      [[(bx, .cells ⟨[.pointer (some ⟨b, 0, none⟩)]⟩ 45 (0, 0))], [(b, dO hb mb s.length ops armed failing dead)], [(mb, .map ⟨es⟩ ck)]] (pend s) := by
  intro l J Jx hY ρ Lj hle hJ
  refine spec_enter Try.func211 rfl rfl rfl fun u R => ?_
  simp only [argsE, List.cons_append, List.nil_append, dO]
  have hk := hm.keys
  have hlen := hs.len
  repeat' (first | (refine i_op ?_; first | (refine i_qq ?_; refine qQ ?_) | refine qEf ?_) | refine tl_nil ?_ | (refine i_tc ?_; refine qTc ?_) | (refine i_te ?_; refine qTe ?_) | intro _)
  refine tc_loop_e (fun (y : Nat × Hp × SH) => ⟨[(0, .func (.yield l) ⟨[]⟩ ⟨[]⟩), (1, .pointer (some ⟨bx, 0, none⟩)), (10, .int .i64 s.length), (11, .int .i64 y.1)], y.2.1,
      [[(bx, .cells ⟨[.pointer (some ⟨b, 0, none⟩)]⟩ 45 (0, 0))], [(b, dO hb mb s.length ops armed failing dead)], [(mb, .map ⟨es⟩ ck)]] ++ y.2.2 ++ R⟩)
    (fun y => y.1 ≤ s.length ∧ ρ.le y.2.1 ∧ J (pendTo s y.1) y.2.1 y.2.2) (fun y => s.length - y.1) (0, ρ, Lj) rfl ⟨by simp, Hp.le_refl _, hJ⟩
    ev_le rfl tk inferInstance ?_
  rintro ⟨k, ρ1, L1⟩ ⟨h1, h2, h3⟩
  dsimp only at h1 h2 h3 ⊢
  simp only [List.cons_append, List.nil_append, dO]
  by_cases hlt : k < s.length
  · have hat := hm.at hlt
    cases hc : s[k].2 with
    | none =>
      rw [hc] at hat
      simp only [Option.map_none] at hat
      have hp : isP s k = false := by simp [isP, hlt, hc]
      repeat' (first | (refine i_op ?_; first | (refine i_qq ?_; refine qQ ?_) | refine qEf ?_) | refine tl_nil ?_ | (refine i_tc ?_; refine qTc ?_) | (refine i_te ?_; refine qTe ?_) | intro _)
      refine te_round_e (Lm := [_, _, _] ++ L1) (R := R) (k + 1, ρ1, L1) rfl ⟨by omega, h2, by dsimp only; rw [pendTo_succ_f hp]; exact h3⟩ ev_le rfl tk inferInstance (by dsimp only; omega)
    | some c =>
      rw [hc] at hat
      simp only [Option.map_some] at hat
      have hp : isP s k = true := by simp [isP, hlt, hc]
      have hsub := pendTo_succ_t hp
      have hpre : pendTo s k ++ [k] <+: pend s := by rw [← hsub]; exact pendTo_pre (by omega)
      have hone := u8c_one c
      have hcl : (c.map u8c).length = 64 := by simpa using hs.cached s[k] (List.getElem_mem hlt) c hc
      have hy := hY (pendTo s k) k ρ1 L1 hpre (Hp.le_trans hle h2) h3
      unfold dO at hy
      repeat' (first | (refine tl_is (.tmp 25) ?_; refine qY rfl rfl (hy) ?_; rintro v ρ' L' hle ⟨Lj', rfl, ⟨rfl, hj⟩ | ⟨rfl, hj⟩⟩ <;> (try simp only [List.cons_append, List.nil_append, List.append_eq])) | (refine i_op ?_; first | (refine i_qq ?_; refine qQ ?_) | refine qEf ?_) | refine tl_nil ?_ | (refine i_tc ?_; refine qTc ?_) | (refine i_te ?_; refine qTe ?_) | intro _)
      · refine te_round_e (Lm := [_, _, _] ++ Lj') (R := R) (k + 1, ρ', Lj') rfl ⟨by omega, Hp.le_trans h2 hle, by dsimp only; rw [hsub]; exact hj⟩ ev_le rfl tk inferInstance (by dsimp only; omega)
      · exact te_end rfl rfl rfl (res0 rfl) (Hp.le_trans h2 hle) tk (by infer_instance) ⟨Lj', rfl, .inr hj⟩
  · have hk2 : k = s.length := by omega
    subst hk2
    repeat' (first | (refine i_op ?_; first | (refine i_qq ?_; refine qQ ?_) | refine qEf ?_) | refine tl_nil ?_ | (refine i_tc ?_; refine qTc ?_) | (refine i_te ?_; refine qTe ?_) | intro _)
    exact te_end rfl rfl rfl (res0 rfl) h2 tk (by infer_instance) ⟨L1, rfl, .inl h3⟩
theorem pending_spec (ρ : Hp) (b : Nat) : Spec Try.prog 164 [.pointer (some ⟨b, 0, none⟩)] ρ [] (fun v ρ' L' => ∃ bx, v = .func (.func 211) ⟨[]⟩ ⟨[.pointer (some ⟨bx, 0, none⟩)]⟩ ∧ ρ' = ρ ∧ L' = [[(bx, .cells ⟨[.pointer (some ⟨b, 0, none⟩)]⟩ 45 (0, 0))]]) := by
  refine spec_enter Try.func164 rfl rfl rfl fun u R => ?_
  simp only [argsE, List.cons_append, List.nil_append]
  repeat' (first | (refine i_op ?_; first | (refine i_qq ?_; refine qQ ?_) | refine qEf ?_) | refine tl_nil ?_ | (refine i_tc ?_; refine qTc ?_) | (refine i_te ?_; refine qTe ?_) | intro _)
  exact qE ⟨_, rfl, rfl, rfl⟩
theorem pendTo_length (s : Secs) (k : Nat) : (pendTo s k).length ≤ k := by
  unfold pendTo
  refine Nat.le_trans (List.length_filter_le _ _) (by simp)
theorem pend_length {s : Secs} (h : SecsOk s) : (pend s).length ≤ 2048 := Nat.le_trans (pendTo_length s _) h.len
end Go.Proofs.E

namespace Go.Proofs.E
open Go
set_option linter.unusedVariables false
set_option linter.unusedSimpArgs false
set_option linter.unusedSectionVars false
set_option maxRecDepth 4000
set_option maxHeartbeats 1000000
attribute [local irreducible] Yl TL TC TE Spec YSpec R1 Hp.le EnvLe TS TR YS Stays
theorem filter_range_pre (p : Nat → Bool) : ∀ (n : Nat) (pre : List Nat) (y : Nat), (pre ++ [y]) <+: (List.range n).filter p → pre = (List.range y).filter p ∧ p y = true ∧ y < n
  | 0, pre, y, h => by simp at h
  | n + 1, pre, y, h => by
    rw [List.range_succ, List.filter_append] at h
    cases hp : p n with
    | false =>
      have h' : (pre ++ [y]) <+: (List.range n).filter p := by simpa [hp] using h
      obtain ⟨h1, h2, h3⟩ := filter_range_pre p n pre y h'
      exact ⟨h1, h2, by omega⟩
    | true =>
      have h' : (pre ++ [y]) <+: (List.range n).filter p ++ [n] := by simpa [hp] using h
      by_cases hl : (pre ++ [y]).length ≤ ((List.range n).filter p).length
      · have h2 : (pre ++ [y]) <+: (List.range n).filter p := List.prefix_of_prefix_length_le h' (List.prefix_append _ _) hl
        obtain ⟨h1, h2, h3⟩ := filter_range_pre p n pre y h2
        exact ⟨h1, h2, by omega⟩
      · have hlen := h'.length_le
        have he : pre ++ [y] = (List.range n).filter p ++ [n] := h'.eq_of_length (by simp at hl hlen ⊢; omega)
        obtain ⟨h1, h2⟩ := List.append_inj' he rfl
        simp only [List.cons.injEq, and_true] at h2
        subst h2
        exact ⟨h1, hp, by omega⟩
/-- behind so many settled sectors: what is held -/
def setAfter (keep : Nat → Bool) (s : Secs) (m : Nat) : Secs := s.mapIdx fun i p => if isP s i && decide ((pendTo s i).length < m) && keep (pendTo s i).length then (p.2.getD p.1, p.2) else p
def settled (keep : Nat → Bool) (s : Secs) : Secs := (setAfter keep s (pend s).length).map fun p => (p.1, none)
theorem setAfter_length {keep s m} : (setAfter keep s m).length = s.length := by simp [setAfter]
theorem settled_length {keep s} : (settled keep s).length = s.length := by simp [settled, setAfter_length]
theorem setAfter_zero {keep : Nat → Bool} {s : Secs} : setAfter keep s 0 = s := by
  unfold setAfter
  apply List.ext_getElem (by simp)
  intro i h1 h2
  simp
theorem heldC_settled {keep s} : heldC (settled keep s) = heldC (setAfter keep s (pend s).length) := by simp [heldC, settled, Function.comp_def]
theorem pendTo_lt {s : Secs} {i j : Nat} (h : i < j) (hp : isP s i = true) : (pendTo s i).length < (pendTo s j).length := by
  have := (pendTo_pre (s := s) (k := i + 1) (m := j) (by omega)).length_le
  rw [pendTo_succ_t hp] at this
  simp at this; omega
theorem pendTo_le {s : Secs} {i j : Nat} (h : i ≤ j) : (pendTo s i).length ≤ (pendTo s j).length := (pendTo_pre h).length_le
theorem setAfter_succ {keep : Nat → Bool} {s : Secs} {y : Nat} {h c : Blk} (hy : s[y]? = some (h, some c)) :
    setAfter keep s ((pendTo s y).length + 1) = if keep (pendTo s y).length then (setAfter keep s (pendTo s y).length).set y (c, some c) else setAfter keep s (pendTo s y).length := by
  have hlt : y < s.length := (List.getElem?_eq_some_iff.1 hy).1
  have hyv : s[y] = (h, some c) := (List.getElem?_eq_some_iff.1 hy).2
  have hpy : isP s y = true := by simp [isP, hy]
  have key : ∀ i, i < s.length → i ≠ y → isP s i = true → ((pendTo s i).length < (pendTo s y).length + 1 ↔ (pendTo s i).length < (pendTo s y).length) := by
    intro i hi hne hp
    rcases Nat.lt_trichotomy i y with h1 | h1 | h1
    · have := pendTo_lt h1 hp; omega
    · exact absurd h1 hne
    · have := pendTo_lt h1 hpy; omega
  apply List.ext_getElem
  · split <;> simp [setAfter]
  · intro i h1 h2
    have hi : i < s.length := by simpa [setAfter] using h1
    by_cases e : i = y
    · subst e
      split
      · rename_i hk
        simp [setAfter, hpy, hk, hyv]
      · rename_i hk
        simp [setAfter, hpy, hk]
    · have hne : y ≠ i := fun h => e h.symm
      have : ∀ (q : Secs) (hq : i < q.length) (v : Blk × Option Blk) (hq2 : i < (q.set y v).length), (q.set y v)[i] = q[i] := fun q hq v hq2 => by rw [List.getElem_set_ne hne]
      cases hp : isP s i with
      | false => split <;> simp [setAfter, hp, List.getElem_set_ne hne]
      | true =>
        have hk := key i hi e hp
        split <;> simp [setAfter, hp, List.getElem_set_ne hne, hk]
theorem SecsOk.setAfter {keep : Nat → Bool} {s : Secs} {m : Nat} (h : SecsOk s) : SecsOk (setAfter keep s m) := by
  have hm : ∀ p ∈ E.setAfter keep s m, ∃ q ∈ s, p.2 = q.2 ∧ (p.1 = q.1 ∨ q.2 = some p.1) := by
    intro p hp
    obtain ⟨i, hi, rfl⟩ := List.mem_iff_getElem.1 hp
    have hi' : i < s.length := by simpa [E.setAfter] using hi
    refine ⟨s[i], List.getElem_mem hi', ?_⟩
    simp only [E.setAfter, List.getElem_mapIdx]
    split
    · refine ⟨rfl, ?_⟩
      cases hc : s[i].2 with
      | none => exact .inl rfl
      | some c => exact .inr rfl
    · exact ⟨rfl, .inl rfl⟩
  refine ⟨by rw [setAfter_length]; exact h.len, by rw [setAfter_length]; exact h.pos, fun p hp => ?_, fun p hp c hc => ?_⟩
  · obtain ⟨q, hq, h1, h2 | h2⟩ := hm p hp
    · rw [h2]; exact h.held q hq
    · exact h.cached q hq _ h2
  · obtain ⟨q, hq, h1, h2⟩ := hm p hp
    exact h.cached q hq c (by rw [← h1]; exact hc)
theorem SecsOk.settled {keep : Nat → Bool} {s : Secs} (h : SecsOk s) : SecsOk (settled keep s) := by
  have h1 := h.setAfter (keep := keep) (m := (pend s).length)
  refine ⟨by rw [settled_length]; exact h.len, by rw [settled_length]; exact h.pos, fun p hp => ?_, fun p hp c hc => ?_⟩
  · obtain ⟨q, hq, rfl⟩ := List.mem_map.1 hp
    exact h1.held q hq
  · obtain ⟨q, hq, rfl⟩ := List.mem_map.1 hp
    cases hc
theorem emptyC_settled {keep s} : emptyC (settled keep s) := fun p hp => by
  obtain ⟨q, hq, rfl⟩ := List.mem_map.1 hp
  rfl
end Go.Proofs.E

namespace Go.Proofs.E
open Go
set_option linter.unusedVariables false
set_option linter.unusedSimpArgs false
set_option linter.unusedSectionVars false
set_option maxRecDepth 4000
set_option maxHeartbeats 1000000
attribute [local irreducible] Yl TL TC TE Spec YSpec R1 Hp.le EnvLe TS TR YS Stays
theorem settle_spec (ρ : Hp) (b : Nat) (hb : HB) (mb : Nat) (es : List MapEntry) (ck : Nat) (s : Secs) (ops armed failing : Int) (dead : Bool) (kf : Nat) (kc : List Value) (Xk : SH) (keep : Nat → Bool) [hkF : Fun Try.prog kf]
    (hK : ∀ nth, nth < 2048 → Spec Try.prog kf ([.int .i64 (nth : Nat)] ++ kc) ρ Xk (fun v ρ' L' => v = .bool (keep nth) ∧ ρ' = ρ ∧ L' = Xk)) (hs : SecsOk s) (hm : MapOk s es) :
    Spec Try.prog 100 [.pointer (some ⟨b, 0, none⟩), .func (.func kf) ⟨[]⟩ ⟨kc⟩] ρ ([[(b, dO hb mb s.length ops armed failing dead)], [(hb.b, .cells ⟨heldC s ++ hb.sp⟩ 102 (0, 0))], [(mb, .map ⟨es⟩ ck)]] ++ Xk)
      (fun v ρ' L' => v = .tuple ⟨[]⟩ ∧ ρ.le ρ' ∧ ∃ mb' ck', L' = [[(b, dO hb mb' s.length ops armed failing dead)], [(hb.b, .cells ⟨heldC (settled keep s) ++ hb.sp⟩ 102 (0, 0))], [(mb', .map ⟨[]⟩ ck')]] ++ Xk) := by
  rw [heldC_settled]
  have hpl := pend_length hs
  have hk := hm.keys
  refine spec_enter Try.func100 rfl rfl rfl fun u R => ?_
  simp only [argsE, List.cons_append, List.nil_append, dO]
  repeat' (first | (refine tl_is (.func 164) ?_; refine qC rfl rfl (pending_spec _ _) ?_; rintro v ρ' L' hle ⟨bx, rfl, rfl, rfl⟩ <;> (try simp only [List.cons_append, List.nil_append, List.append_eq])) | (refine i_op ?_; first | (refine i_qq ?_; refine qQ ?_) | refine qEf ?_) | refine tl_nil ?_ | (refine i_tc ?_; refine qTc ?_) | (refine i_te ?_; refine qTe ?_) | intro _)
  rename_i bd bk bn
  refine tc_rangeFunc (S := [[(bx, .cells ⟨[.pointer (some ⟨b, 0, none⟩)]⟩ 45 (0, 0))], [(b, dO hb mb s.length ops armed failing dead)], [(mb, .map ⟨es⟩ ck)]])
    (L0 := [[(bd, .cells ⟨[.pointer (some ⟨b, 0, none⟩)]⟩ 45 (0, 0))], [(bk, .cells ⟨[.func (.func kf) ⟨[]⟩ ⟨kc⟩]⟩ 161 (0, 0))], [(bn, .cells ⟨[.int .i64 (0 : Nat)]⟩ 3 (0, 0))], [(hb.b, .cells ⟨heldC (setAfter keep s 0) ++ hb.sp⟩ 102 (0, 0))]] ++ Xk) (R := R) (R0 := ?r0) rfl rfl (pending1_iter ρ' b hb mb bx s ops armed failing dead es ck hm hs) (Hp.le_refl _) (fun _ => rfl) rfl
    (fun pre ρ1 Lu => ρ1 = ρ' ∧ Lu = [[(bd, .cells ⟨[.pointer (some ⟨b, 0, none⟩)]⟩ 45 (0, 0))], [(bk, .cells ⟨[.func (.func kf) ⟨[]⟩ ⟨kc⟩]⟩ 161 (0, 0))], [(bn, .cells ⟨[.int .i64 (pre.length : Nat)]⟩ 3 (0, 0))], [(hb.b, .cells ⟨heldC (setAfter keep s pre.length) ++ hb.sp⟩ 102 (0, 0))]] ++ Xk) (fun _ _ _ => False) ?k1 ?k2 ⟨rfl, rfl⟩ ?round ?done ?stop
  case k1 => unfold dO; exact tk
  case k2 => rw [setAfter_zero]; exact tk
  case stop => rintro D0 c ρ' Lu _ hf; exact hf.elim
  case round =>
    rintro l tm r pre y ρ1 Lu u R' hpre hle' ⟨rfl, rfl⟩ hr hrec
    simp only [envP, natE, List.cons_append, List.nil_append]
    have hlen := hpre.length_le
    simp only [List.length_append, List.length_singleton] at hlen
    obtain ⟨hpe, hpy, hy⟩ := filter_range_pre _ _ _ _ hpre
    repeat' (first | (refine i_op ?_; first | (refine i_qq ?_; refine qQ ?_) | refine qEf ?_) | refine tl_nil ?_ | (refine i_tc ?_; refine qTc ?_) | (refine i_te ?_; refine qTe ?_) | intro _)
    refine te_begin rfl hr (fun r' hbz hrec' => ?_)
    have hpl2 : (pendTo s y).length = pre.length := by rw [hpe]; rfl
    obtain ⟨hd0, c, hsy⟩ : ∃ h c, s[y]? = some (h, some c) := by
      simp only [isP, Option.isSome_iff_exists] at hpy
      obtain ⟨c, hc⟩ := hpy
      rw [List.getElem?_eq_getElem hy] at hc ⊢
      simp only [Option.bind_some] at hc
      exact ⟨s[y].1, c, by rw [← hc]⟩
    have hsv : s[y] = (hd0, some c) := (List.getElem?_eq_some_iff.1 hsy).2
    have hat := hm.at hy
    rw [hsv] at hat
    simp only [Option.map_some] at hat
    have hc64 : c.length = 64 := hs.cached s[y] (List.getElem_mem hy) c (by rw [hsv])
    have hcl : (c.map u8c).length = 64 := by simpa using hc64
    have hone := u8c_one c
    have hsa := hs.setAfter (keep := keep) (m := pre.length)
    have hhl : (heldC (setAfter keep s pre.length) ++ hb.sp).length = s.length * 64 + hb.sp.length := by rw [heldC_length' _ hsa.held, setAfter_length]
    have hnext := setAfter_succ (keep := keep) hsy
    rw [hpl2] at hnext
    have hst := stc_heldC' hb.sp (s := setAfter keep s pre.length) (i := y) (b := c) (some c) hsa.held hc64 (by rw [setAfter_length]; exact hy)
    repeat' (first | (refine tl_is (.tmp 9) ?_; refine qC rfl rfl (hK pre.length (by omega)) ?_; rintro v ρ' L' hle ⟨rfl, rfl, hx⟩ <;> (try simp only [List.cons_append, List.nil_append, List.append_eq, hx])) | (refine i_op ?_; first | (refine i_qq ?_; refine qQ ?_) | refine qEf ?_) | refine tl_nil ?_ | (refine i_tc ?_; refine qTc ?_) | (refine i_te ?_; refine qTe ?_) | intro _)
    cases hkp : keep pre.length with
    | false =>
      rw [hkp] at hnext
      simp only [Bool.false_eq_true, if_false] at hnext
      repeat' (first | (refine i_op ?_; first | (refine i_qq ?_; refine qQ ?_) | refine qEf ?_) | refine tl_nil ?_ | (refine i_tc ?_; refine qTc ?_) | (refine i_te ?_; refine qTe ?_) | intro _)
      refine te_front [(l, .loop r')] ?_
      refine te_next (Lu := [[(bd, .cells ⟨[.pointer (some ⟨b, 0, none⟩)]⟩ 45 (0, 0))], [(bk, .cells ⟨[.func (.func kf) ⟨[]⟩ ⟨kc⟩]⟩ 161 (0, 0))], [(bn, .cells ⟨[.int .i64 (pre.length + 1 : Nat)]⟩ 3 (0, 0))], [(hb.b, .cells ⟨heldC (setAfter keep s pre.length) ++ hb.sp⟩ 102 (0, 0))]] ++ Xk) rfl (Hp.le_refl _) ⟨hrec'.tmps.trans hrec.tmps, hrec'.params.trans hrec.params, hrec'.assign.trans hrec.assign, hrec'.body.trans hrec.body⟩ tk tk inferInstance ?_
      refine ⟨rfl, ?_⟩
      simp [hnext]
    | true =>
      rw [hkp] at hnext
      simp only [if_true] at hnext
      rw [← hnext] at hst
      repeat' (first | (refine i_op ?_; first | (refine i_qq ?_; refine qQ ?_) | refine qEf ?_) | refine tl_nil ?_ | (refine i_tc ?_; refine qTc ?_) | (refine i_te ?_; refine qTe ?_) | intro _)
      refine tc_draw 12 (by decide +kernel) (by decide +kernel) ?_
      repeat' (first | (refine jMv ?_; refine sMv ?_) | (refine jLd ?_; refine sLd ?_) | (refine jFa ?_; refine sFa ?_) | (refine jNc ?_; refine sNc ?_) | (refine jIa ?_; refine sIa ?_) | (refine jLu ?_; refine sLu ?_) | (refine j_gd ?_; first | refine sWant ?_ | refine sSkip ?_ | refine sSkipU ?_))
      all_goals refine ts_nil ?_
      repeat' (first | (refine i_op ?_; first | (refine i_qq ?_; refine qQ ?_) | refine qEf ?_) | refine tl_nil ?_ | (refine i_tc ?_; refine qTc ?_) | (refine i_te ?_; refine qTe ?_) | intro _)
      rw [Nat.zero_add, hst]
      refine te_front [(l, .loop r')] ?_
      refine te_next (Lu := [[(bd, .cells ⟨[.pointer (some ⟨b, 0, none⟩)]⟩ 45 (0, 0))], [(bk, .cells ⟨[.func (.func kf) ⟨[]⟩ ⟨kc⟩]⟩ 161 (0, 0))], [(bn, .cells ⟨[.int .i64 (pre.length + 1 : Nat)]⟩ 3 (0, 0))], [(hb.b, .cells ⟨heldC (setAfter keep s (pre.length + 1)) ++ hb.sp⟩ 102 (0, 0))]] ++ Xk) rfl (Hp.le_refl _) ⟨hrec'.tmps.trans hrec.tmps, hrec'.params.trans hrec.params, hrec'.assign.trans hrec.assign, hrec'.body.trans hrec.body⟩ tk tk inferInstance ?_
      refine ⟨rfl, ?_⟩
      simp
  case done =>
    rintro D0 ρ1 Lu hle' ⟨rfl, rfl⟩
    simp only [List.cons_append, List.nil_append, dO]
    repeat' (first | (refine i_op ?_; first | (refine i_qq ?_; refine qQ ?_) | refine qEf ?_) | refine tl_nil ?_ | (refine i_tc ?_; refine qTc ?_) | (refine i_te ?_; refine qTe ?_) | intro _)
    exact te_end_d rfl rfl rfl inferInstance (res0 rfl) (Hp.le_refl _) tk (by infer_instance) ⟨rfl, Hp.le_refl _, _, _, rfl⟩
end Go.Proofs.E

