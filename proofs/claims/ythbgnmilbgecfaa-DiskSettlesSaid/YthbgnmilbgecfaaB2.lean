/- The disk of layer 2 as a model, and what its functions come to. Part 2 of 3. -/
import Derived.Test.YthbgnmilbgecfaaB1
import Derived.Test.YthbgnmilbgecfaaChecked
import Derived.KernelRfl
namespace Go.Proofs.E
open Go Go.Proofs.E
set_option linter.unusedVariables false

instance : TyS Try.prog 1 := mkTyS (by kernel_rfl) (by kernel_rfl)
instance : TyIface Try.prog 1 false := mkTyIface (by kernel_rfl)
instance : TyFunc Try.prog 1 := mkTyFunc (by kernel_rfl)
instance : TySz Try.prog 1 1 := mkTySz (by kernel_rfl)
instance : TyBytes Try.prog 1 8 := mkTyBytes (by kernel_rfl)
instance : TyZero Try.prog 1 (.nilFunc) := mkTyZero (by kernel_rfl)
instance : TyS Try.prog 2 := mkTyS (by kernel_rfl) (by kernel_rfl)
instance : TyIface Try.prog 2 false := mkTyIface (by kernel_rfl)
instance : TySz Try.prog 2 1 := mkTySz (by kernel_rfl)
instance : TyBytes Try.prog 2 8 := mkTyBytes (by kernel_rfl)
instance : TyZero Try.prog 2 (.int .i64 0) := mkTyZero (by kernel_rfl)
instance : TyInt Try.prog 2 .i64 := ⟨by kernel_rfl⟩
instance : TyS Try.prog 3 := mkTyS (by kernel_rfl) (by kernel_rfl)
instance : TyIface Try.prog 3 false := mkTyIface (by kernel_rfl)
instance : TySz Try.prog 3 1 := mkTySz (by kernel_rfl)
instance : TyBytes Try.prog 3 8 := mkTyBytes (by kernel_rfl)
instance : TyZero Try.prog 3 (.int .i64 0) := mkTyZero (by kernel_rfl)
instance : TyInt Try.prog 3 .i64 := ⟨by kernel_rfl⟩
instance : TyS Try.prog 4 := mkTyS (by kernel_rfl) (by kernel_rfl)
instance : TyIface Try.prog 4 false := mkTyIface (by kernel_rfl)
instance : TySz Try.prog 4 1 := mkTySz (by kernel_rfl)
instance : TyBytes Try.prog 4 1 := mkTyBytes (by kernel_rfl)
instance : TyZero Try.prog 4 (.bool false) := mkTyZero (by kernel_rfl)
instance : TyS Try.prog 5 := mkTyS (by kernel_rfl) (by kernel_rfl)
instance : TyIface Try.prog 5 false := mkTyIface (by kernel_rfl)
instance : TySz Try.prog 5 1 := mkTySz (by kernel_rfl)
instance : TyBytes Try.prog 5 1 := mkTyBytes (by kernel_rfl)
instance : TyZero Try.prog 5 (.int .u8 0) := mkTyZero (by kernel_rfl)
instance : TyInt Try.prog 5 .u8 := ⟨by kernel_rfl⟩
instance : TyA Try.prog 7 4 := mkTyA (by kernel_rfl) (by kernel_rfl)
instance : TyIface Try.prog 7 false := mkTyIface (by kernel_rfl)
instance : TySz Try.prog 7 4 := mkTySz (by kernel_rfl)
instance : TyBytes Try.prog 7 24 := mkTyBytes (by kernel_rfl)
instance : TyZero Try.prog 7 (.agg ⟨[.int .i64 0, .int .i64 0, .bool false, .int .u8 0]⟩) := mkTyZero (by kernel_rfl)
instance : Fld Try.prog 7 0 0 2 := mkFld (by kernel_rfl)
instance : Fld Try.prog 7 1 1 3 := mkFld (by kernel_rfl)
instance : Fld Try.prog 7 2 2 4 := mkFld (by kernel_rfl)
instance : Fld Try.prog 7 3 3 6 := mkFld (by kernel_rfl)
instance : TyPlaces Try.prog 7 (([(0, 1), (1, 1), (2, 1), (3, 1)] : List (Nat × Nat))[·]?) := mkTyPlaces (by kernel_rfl)
instance : TyS Try.prog 9 := mkTyS (by kernel_rfl) (by kernel_rfl)
instance : TyIface Try.prog 9 false := mkTyIface (by kernel_rfl)
instance : TySz Try.prog 9 1 := mkTySz (by kernel_rfl)
instance : TyBytes Try.prog 9 16 := mkTyBytes (by kernel_rfl)
instance : TyZero Try.prog 9 (.string ⟨⟨[]⟩⟩) := mkTyZero (by kernel_rfl)
instance : TyStr Try.prog 9 := ⟨by kernel_rfl⟩
instance : TyS Try.prog 12 := mkTyS (by kernel_rfl) (by kernel_rfl)
instance : TyIface Try.prog 12 false := mkTyIface (by kernel_rfl)
instance : TySz Try.prog 12 1 := mkTySz (by kernel_rfl)
instance : TyBytes Try.prog 12 8 := mkTyBytes (by kernel_rfl)
instance : TyZero Try.prog 12 (.int .u64 0) := mkTyZero (by kernel_rfl)
instance : TyInt Try.prog 12 .u64 := ⟨by kernel_rfl⟩
instance : TyA Try.prog 13 2 := mkTyA (by kernel_rfl) (by kernel_rfl)
instance : TyIface Try.prog 13 false := mkTyIface (by kernel_rfl)
instance : TySz Try.prog 13 2 := mkTySz (by kernel_rfl)
instance : TyBytes Try.prog 13 24 := mkTyBytes (by kernel_rfl)
instance : TyZero Try.prog 13 (.agg ⟨[.string ⟨⟨[]⟩⟩, .int .u64 0]⟩) := mkTyZero (by kernel_rfl)
instance : Fld Try.prog 13 0 0 9 := mkFld (by kernel_rfl)
instance : Fld Try.prog 13 1 1 12 := mkFld (by kernel_rfl)
instance : TyPlaces Try.prog 13 (([(0, 1), (1, 1)] : List (Nat × Nat))[·]?) := mkTyPlaces (by kernel_rfl)
instance : TyS Try.prog 15 := mkTyS (by kernel_rfl) (by kernel_rfl)
instance : TyIface Try.prog 15 false := mkTyIface (by kernel_rfl)
instance : TySz Try.prog 15 1 := mkTySz (by kernel_rfl)
instance : TyBytes Try.prog 15 8 := mkTyBytes (by kernel_rfl)
instance : TyZero Try.prog 15 (.pointer none) := mkTyZero (by kernel_rfl)
instance : TyPtr Try.prog 15 101 := ⟨by kernel_rfl⟩
instance : TyS Try.prog 16 := mkTyS (by kernel_rfl) (by kernel_rfl)
instance : TyIface Try.prog 16 false := mkTyIface (by kernel_rfl)
instance : TySz Try.prog 16 1 := mkTySz (by kernel_rfl)
instance : TyBytes Try.prog 16 8 := mkTyBytes (by kernel_rfl)
instance : TyZero Try.prog 16 (.pointer none) := mkTyZero (by kernel_rfl)
instance : TyPtr Try.prog 16 104 := ⟨by kernel_rfl⟩
instance : TyS Try.prog 17 := mkTyS (by kernel_rfl) (by kernel_rfl)
instance : TyIface Try.prog 17 false := mkTyIface (by kernel_rfl)
instance : TySz Try.prog 17 1 := mkTySz (by kernel_rfl)
instance : TyBytes Try.prog 17 8 := mkTyBytes (by kernel_rfl)
instance : TyZero Try.prog 17 (.pointer none) := mkTyZero (by kernel_rfl)
instance : TyPtr Try.prog 17 113 := ⟨by kernel_rfl⟩
instance : TyA Try.prog 18 1 := mkTyA (by kernel_rfl) (by kernel_rfl)
instance : TyIface Try.prog 18 false := mkTyIface (by kernel_rfl)
instance : TySz Try.prog 18 1 := mkTySz (by kernel_rfl)
instance : TyBytes Try.prog 18 8 := mkTyBytes (by kernel_rfl)
instance : TyZero Try.prog 18 (.agg ⟨[.pointer none]⟩) := mkTyZero (by kernel_rfl)
instance : Fld Try.prog 18 0 0 17 := mkFld (by kernel_rfl)
instance : TyPlaces Try.prog 18 (([(0, 1)] : List (Nat × Nat))[·]?) := mkTyPlaces (by kernel_rfl)
instance : TyA Try.prog 19 1 := mkTyA (by kernel_rfl) (by kernel_rfl)
instance : TyIface Try.prog 19 false := mkTyIface (by kernel_rfl)
instance : TySz Try.prog 19 1 := mkTySz (by kernel_rfl)
instance : TyBytes Try.prog 19 8 := mkTyBytes (by kernel_rfl)
instance : TyZero Try.prog 19 (.agg ⟨[.pointer none]⟩) := mkTyZero (by kernel_rfl)
instance : Fld Try.prog 19 0 0 17 := mkFld (by kernel_rfl)
instance : TyPlaces Try.prog 19 (([(0, 1)] : List (Nat × Nat))[·]?) := mkTyPlaces (by kernel_rfl)
instance : TyS Try.prog 20 := mkTyS (by kernel_rfl) (by kernel_rfl)
instance : TyIface Try.prog 20 true := mkTyIface (by kernel_rfl)
instance : TySz Try.prog 20 1 := mkTySz (by kernel_rfl)
instance : TyBytes Try.prog 20 16 := mkTyBytes (by kernel_rfl)
instance : TyZero Try.prog 20 (.nilIface) := mkTyZero (by kernel_rfl)
instance : TyS Try.prog 21 := mkTyS (by kernel_rfl) (by kernel_rfl)
instance : TyIface Try.prog 21 false := mkTyIface (by kernel_rfl)
instance : TySz Try.prog 21 1 := mkTySz (by kernel_rfl)
instance : TyBytes Try.prog 21 4 := mkTyBytes (by kernel_rfl)
instance : TyZero Try.prog 21 (.int .i32 0) := mkTyZero (by kernel_rfl)
instance : TyInt Try.prog 21 .i32 := ⟨by kernel_rfl⟩
instance : TyS Try.prog 22 := mkTyS (by kernel_rfl) (by kernel_rfl)
instance : TyIface Try.prog 22 false := mkTyIface (by kernel_rfl)
instance : TySz Try.prog 22 1 := mkTySz (by kernel_rfl)
instance : TyBytes Try.prog 22 24 := mkTyBytes (by kernel_rfl)
instance : TyZero Try.prog 22 (.slice none 0 0) := mkTyZero (by kernel_rfl)
instance : TySlice Try.prog 22 25 := ⟨by kernel_rfl⟩
instance : TyS Try.prog 23 := mkTyS (by kernel_rfl) (by kernel_rfl)
instance : TyIface Try.prog 23 false := mkTyIface (by kernel_rfl)
instance : TySz Try.prog 23 1 := mkTySz (by kernel_rfl)
instance : TyBytes Try.prog 23 24 := mkTyBytes (by kernel_rfl)
instance : TyZero Try.prog 23 (.slice none 0 0) := mkTyZero (by kernel_rfl)
instance : TySlice Try.prog 23 4 := ⟨by kernel_rfl⟩
instance : TyA Try.prog 24 5 := mkTyA (by kernel_rfl) (by kernel_rfl)
instance : TyIface Try.prog 24 false := mkTyIface (by kernel_rfl)
instance : TySz Try.prog 24 5 := mkTySz (by kernel_rfl)
instance : TyBytes Try.prog 24 56 := mkTyBytes (by kernel_rfl)
instance : TyZero Try.prog 24 (.agg ⟨[.int .i64 0, .int .i64 0, .int .i64 0, .int .u8 0, .slice none 0 0]⟩) := mkTyZero (by kernel_rfl)
instance : Fld Try.prog 24 0 0 3 := mkFld (by kernel_rfl)
instance : Fld Try.prog 24 1 1 3 := mkFld (by kernel_rfl)
instance : Fld Try.prog 24 2 2 3 := mkFld (by kernel_rfl)
instance : Fld Try.prog 24 3 3 5 := mkFld (by kernel_rfl)
instance : Fld Try.prog 24 4 4 23 := mkFld (by kernel_rfl)
instance : TyPlaces Try.prog 24 (([(0, 1), (1, 1), (2, 1), (3, 1), (4, 1)] : List (Nat × Nat))[·]?) := mkTyPlaces (by kernel_rfl)
instance : TyA Try.prog 25 5 := mkTyA (by kernel_rfl) (by kernel_rfl)
instance : TyIface Try.prog 25 false := mkTyIface (by kernel_rfl)
instance : TySz Try.prog 25 5 := mkTySz (by kernel_rfl)
instance : TyBytes Try.prog 25 56 := mkTyBytes (by kernel_rfl)
instance : TyZero Try.prog 25 (.agg ⟨[.int .i64 0, .int .i64 0, .int .i64 0, .int .u8 0, .slice none 0 0]⟩) := mkTyZero (by kernel_rfl)
instance : Fld Try.prog 25 0 0 3 := mkFld (by kernel_rfl)
instance : Fld Try.prog 25 1 1 3 := mkFld (by kernel_rfl)
instance : Fld Try.prog 25 2 2 3 := mkFld (by kernel_rfl)
instance : Fld Try.prog 25 3 3 5 := mkFld (by kernel_rfl)
instance : Fld Try.prog 25 4 4 23 := mkFld (by kernel_rfl)
instance : TyPlaces Try.prog 25 (([(0, 1), (1, 1), (2, 1), (3, 1), (4, 1)] : List (Nat × Nat))[·]?) := mkTyPlaces (by kernel_rfl)
instance : TyS Try.prog 26 := mkTyS (by kernel_rfl) (by kernel_rfl)
instance : TyIface Try.prog 26 false := mkTyIface (by kernel_rfl)
instance : TyFunc Try.prog 26 := mkTyFunc (by kernel_rfl)
instance : TySz Try.prog 26 1 := mkTySz (by kernel_rfl)
instance : TyBytes Try.prog 26 8 := mkTyBytes (by kernel_rfl)
instance : TyZero Try.prog 26 (.nilFunc) := mkTyZero (by kernel_rfl)
instance : TyS Try.prog 27 := mkTyS (by kernel_rfl) (by kernel_rfl)
instance : TyIface Try.prog 27 false := mkTyIface (by kernel_rfl)
instance : TySz Try.prog 27 1 := mkTySz (by kernel_rfl)
instance : TyBytes Try.prog 27 8 := mkTyBytes (by kernel_rfl)
instance : TyZero Try.prog 27 (.pointer none) := mkTyZero (by kernel_rfl)
instance : TyPtr Try.prog 27 74 := ⟨by kernel_rfl⟩
instance : TyS Try.prog 29 := mkTyS (by kernel_rfl) (by kernel_rfl)
instance : TyIface Try.prog 29 false := mkTyIface (by kernel_rfl)
instance : TyFunc Try.prog 29 := mkTyFunc (by kernel_rfl)
instance : TySz Try.prog 29 1 := mkTySz (by kernel_rfl)
instance : TyBytes Try.prog 29 8 := mkTyBytes (by kernel_rfl)
instance : TyZero Try.prog 29 (.nilFunc) := mkTyZero (by kernel_rfl)
instance : TyS Try.prog 30 := mkTyS (by kernel_rfl) (by kernel_rfl)
instance : TyIface Try.prog 30 false := mkTyIface (by kernel_rfl)
instance : TyFunc Try.prog 30 := mkTyFunc (by kernel_rfl)
instance : TySz Try.prog 30 1 := mkTySz (by kernel_rfl)
instance : TyBytes Try.prog 30 8 := mkTyBytes (by kernel_rfl)
instance : TyZero Try.prog 30 (.nilFunc) := mkTyZero (by kernel_rfl)
instance : TyS Try.prog 31 := mkTyS (by kernel_rfl) (by kernel_rfl)
instance : TyIface Try.prog 31 false := mkTyIface (by kernel_rfl)
instance : TySz Try.prog 31 1 := mkTySz (by kernel_rfl)
instance : TyBytes Try.prog 31 8 := mkTyBytes (by kernel_rfl)
instance : TyZero Try.prog 31 (.int .i64 0) := mkTyZero (by kernel_rfl)
instance : TyInt Try.prog 31 .i64 := ⟨by kernel_rfl⟩
instance : TyS Try.prog 32 := mkTyS (by kernel_rfl) (by kernel_rfl)
instance : TyIface Try.prog 32 false := mkTyIface (by kernel_rfl)
instance : TyFunc Try.prog 32 := mkTyFunc (by kernel_rfl)
instance : TySz Try.prog 32 1 := mkTySz (by kernel_rfl)
instance : TyBytes Try.prog 32 8 := mkTyBytes (by kernel_rfl)
instance : TyZero Try.prog 32 (.nilFunc) := mkTyZero (by kernel_rfl)
instance : TyA Try.prog 33 64 := mkTyA (by kernel_rfl) (by kernel_rfl)
instance : TyIface Try.prog 33 false := mkTyIface (by kernel_rfl)
instance : TySz Try.prog 33 64 := mkTySz (by kernel_rfl)
instance : TyBytes Try.prog 33 64 := mkTyBytes (by kernel_rfl)
instance : TyZero Try.prog 33 (.agg ⟨List.replicate 64 (.int .u8 0)⟩) := mkTyZero (by kernel_rfl)
instance : NoGuard Try.prog 33 := ⟨by kernel_rfl⟩
instance : TyArr Try.prog 33 64 5 := ⟨by kernel_rfl⟩
instance : TyPlaces Try.prog 33 (fun i => some (i * 1, 1)) := mkTyPlacesA (n := 64) (e := 5) (by kernel_rfl) (by kernel_rfl)
instance : TyA Try.prog 34 64 := mkTyA (by kernel_rfl) (by kernel_rfl)
instance : TyIface Try.prog 34 false := mkTyIface (by kernel_rfl)
instance : TySz Try.prog 34 64 := mkTySz (by kernel_rfl)
instance : TyBytes Try.prog 34 64 := mkTyBytes (by kernel_rfl)
instance : TyZero Try.prog 34 (.agg ⟨List.replicate 64 (.int .u8 0)⟩) := mkTyZero (by kernel_rfl)
instance : NoGuard Try.prog 34 := ⟨by kernel_rfl⟩
instance : TyArr Try.prog 34 64 5 := ⟨by kernel_rfl⟩
instance : TyPlaces Try.prog 34 (fun i => some (i * 1, 1)) := mkTyPlacesA (n := 64) (e := 5) (by kernel_rfl) (by kernel_rfl)
instance : TyS Try.prog 36 := mkTyS (by kernel_rfl) (by kernel_rfl)
instance : TyIface Try.prog 36 false := mkTyIface (by kernel_rfl)
instance : TyFunc Try.prog 36 := mkTyFunc (by kernel_rfl)
instance : TySz Try.prog 36 1 := mkTySz (by kernel_rfl)
instance : TyBytes Try.prog 36 8 := mkTyBytes (by kernel_rfl)
instance : TyZero Try.prog 36 (.nilFunc) := mkTyZero (by kernel_rfl)
instance : TyS Try.prog 37 := mkTyS (by kernel_rfl) (by kernel_rfl)
instance : TyIface Try.prog 37 false := mkTyIface (by kernel_rfl)
instance : TyFunc Try.prog 37 := mkTyFunc (by kernel_rfl)
instance : TySz Try.prog 37 1 := mkTySz (by kernel_rfl)
instance : TyBytes Try.prog 37 8 := mkTyBytes (by kernel_rfl)
instance : TyZero Try.prog 37 (.nilFunc) := mkTyZero (by kernel_rfl)
instance : TyS Try.prog 38 := mkTyS (by kernel_rfl) (by kernel_rfl)
instance : TyIface Try.prog 38 false := mkTyIface (by kernel_rfl)
instance : TyFunc Try.prog 38 := mkTyFunc (by kernel_rfl)
instance : TySz Try.prog 38 1 := mkTySz (by kernel_rfl)
instance : TyBytes Try.prog 38 8 := mkTyBytes (by kernel_rfl)
instance : TyZero Try.prog 38 (.nilFunc) := mkTyZero (by kernel_rfl)
instance : TyS Try.prog 39 := mkTyS (by kernel_rfl) (by kernel_rfl)
instance : TyIface Try.prog 39 false := mkTyIface (by kernel_rfl)
instance : TyFunc Try.prog 39 := mkTyFunc (by kernel_rfl)
instance : TySz Try.prog 39 1 := mkTySz (by kernel_rfl)
instance : TyBytes Try.prog 39 8 := mkTyBytes (by kernel_rfl)
instance : TyZero Try.prog 39 (.nilFunc) := mkTyZero (by kernel_rfl)
instance : TyS Try.prog 40 := mkTyS (by kernel_rfl) (by kernel_rfl)
instance : TyIface Try.prog 40 false := mkTyIface (by kernel_rfl)
instance : TySz Try.prog 40 1 := mkTySz (by kernel_rfl)
instance : TyBytes Try.prog 40 24 := mkTyBytes (by kernel_rfl)
instance : TyZero Try.prog 40 (.slice none 0 0) := mkTyZero (by kernel_rfl)
instance : TySlice Try.prog 40 3 := ⟨by kernel_rfl⟩
instance : TyS Try.prog 41 := mkTyS (by kernel_rfl) (by kernel_rfl)
instance : TyIface Try.prog 41 false := mkTyIface (by kernel_rfl)
instance : TyFunc Try.prog 41 := mkTyFunc (by kernel_rfl)
instance : TySz Try.prog 41 1 := mkTySz (by kernel_rfl)
instance : TyBytes Try.prog 41 8 := mkTyBytes (by kernel_rfl)
instance : TyZero Try.prog 41 (.nilFunc) := mkTyZero (by kernel_rfl)
instance : TyS Try.prog 42 := mkTyS (by kernel_rfl) (by kernel_rfl)
instance : TyIface Try.prog 42 false := mkTyIface (by kernel_rfl)
instance : TyFunc Try.prog 42 := mkTyFunc (by kernel_rfl)
instance : TySz Try.prog 42 1 := mkTySz (by kernel_rfl)
instance : TyBytes Try.prog 42 8 := mkTyBytes (by kernel_rfl)
instance : TyZero Try.prog 42 (.nilFunc) := mkTyZero (by kernel_rfl)
instance : TyS Try.prog 43 := mkTyS (by kernel_rfl) (by kernel_rfl)
instance : TyIface Try.prog 43 false := mkTyIface (by kernel_rfl)
instance : TyFunc Try.prog 43 := mkTyFunc (by kernel_rfl)
instance : TySz Try.prog 43 1 := mkTySz (by kernel_rfl)
instance : TyBytes Try.prog 43 8 := mkTyBytes (by kernel_rfl)
instance : TyZero Try.prog 43 (.nilFunc) := mkTyZero (by kernel_rfl)
instance : TyS Try.prog 44 := mkTyS (by kernel_rfl) (by kernel_rfl)
instance : TyIface Try.prog 44 false := mkTyIface (by kernel_rfl)
instance : TyFunc Try.prog 44 := mkTyFunc (by kernel_rfl)
instance : TySz Try.prog 44 1 := mkTySz (by kernel_rfl)
instance : TyBytes Try.prog 44 8 := mkTyBytes (by kernel_rfl)
instance : TyZero Try.prog 44 (.nilFunc) := mkTyZero (by kernel_rfl)
instance : TyS Try.prog 45 := mkTyS (by kernel_rfl) (by kernel_rfl)
instance : TyIface Try.prog 45 false := mkTyIface (by kernel_rfl)
instance : TySz Try.prog 45 1 := mkTySz (by kernel_rfl)
instance : TyBytes Try.prog 45 8 := mkTyBytes (by kernel_rfl)
instance : TyZero Try.prog 45 (.int .u64 0) := mkTyZero (by kernel_rfl)
instance : TyInt Try.prog 45 .u64 := ⟨by kernel_rfl⟩
instance : TyS Try.prog 46 := mkTyS (by kernel_rfl) (by kernel_rfl)
instance : TyIface Try.prog 46 false := mkTyIface (by kernel_rfl)
instance : TyFunc Try.prog 46 := mkTyFunc (by kernel_rfl)
instance : TySz Try.prog 46 1 := mkTySz (by kernel_rfl)
instance : TyBytes Try.prog 46 8 := mkTyBytes (by kernel_rfl)
instance : TyZero Try.prog 46 (.nilFunc) := mkTyZero (by kernel_rfl)
instance : TyS Try.prog 47 := mkTyS (by kernel_rfl) (by kernel_rfl)
instance : TyIface Try.prog 47 false := mkTyIface (by kernel_rfl)
instance : TyFunc Try.prog 47 := mkTyFunc (by kernel_rfl)
instance : TySz Try.prog 47 1 := mkTySz (by kernel_rfl)
instance : TyBytes Try.prog 47 8 := mkTyBytes (by kernel_rfl)
instance : TyZero Try.prog 47 (.nilFunc) := mkTyZero (by kernel_rfl)
instance : TyS Try.prog 48 := mkTyS (by kernel_rfl) (by kernel_rfl)
instance : TyIface Try.prog 48 false := mkTyIface (by kernel_rfl)
instance : TyFunc Try.prog 48 := mkTyFunc (by kernel_rfl)
instance : TySz Try.prog 48 1 := mkTySz (by kernel_rfl)
instance : TyBytes Try.prog 48 8 := mkTyBytes (by kernel_rfl)
instance : TyZero Try.prog 48 (.nilFunc) := mkTyZero (by kernel_rfl)
instance : TyS Try.prog 49 := mkTyS (by kernel_rfl) (by kernel_rfl)
instance : TyIface Try.prog 49 false := mkTyIface (by kernel_rfl)
instance : TyFunc Try.prog 49 := mkTyFunc (by kernel_rfl)
instance : TySz Try.prog 49 1 := mkTySz (by kernel_rfl)
instance : TyBytes Try.prog 49 8 := mkTyBytes (by kernel_rfl)
instance : TyZero Try.prog 49 (.nilFunc) := mkTyZero (by kernel_rfl)
instance : TyS Try.prog 50 := mkTyS (by kernel_rfl) (by kernel_rfl)
instance : TyIface Try.prog 50 false := mkTyIface (by kernel_rfl)
instance : TySz Try.prog 50 1 := mkTySz (by kernel_rfl)
instance : TyBytes Try.prog 50 24 := mkTyBytes (by kernel_rfl)
instance : TyZero Try.prog 50 (.slice none 0 0) := mkTyZero (by kernel_rfl)
instance : TySlice Try.prog 50 34 := ⟨by kernel_rfl⟩
instance : TyS Try.prog 52 := mkTyS (by kernel_rfl) (by kernel_rfl)
instance : TyIface Try.prog 52 false := mkTyIface (by kernel_rfl)
instance : TyFunc Try.prog 52 := mkTyFunc (by kernel_rfl)
instance : TySz Try.prog 52 1 := mkTySz (by kernel_rfl)
instance : TyBytes Try.prog 52 8 := mkTyBytes (by kernel_rfl)
instance : TyZero Try.prog 52 (.nilFunc) := mkTyZero (by kernel_rfl)
instance : TyS Try.prog 53 := mkTyS (by kernel_rfl) (by kernel_rfl)
instance : TyIface Try.prog 53 false := mkTyIface (by kernel_rfl)
instance : TyFunc Try.prog 53 := mkTyFunc (by kernel_rfl)
instance : TySz Try.prog 53 1 := mkTySz (by kernel_rfl)
instance : TyBytes Try.prog 53 8 := mkTyBytes (by kernel_rfl)
instance : TyZero Try.prog 53 (.nilFunc) := mkTyZero (by kernel_rfl)
instance : TyS Try.prog 54 := mkTyS (by kernel_rfl) (by kernel_rfl)
instance : TyIface Try.prog 54 false := mkTyIface (by kernel_rfl)
instance : TyFunc Try.prog 54 := mkTyFunc (by kernel_rfl)
instance : TySz Try.prog 54 1 := mkTySz (by kernel_rfl)
instance : TyBytes Try.prog 54 8 := mkTyBytes (by kernel_rfl)
instance : TyZero Try.prog 54 (.nilFunc) := mkTyZero (by kernel_rfl)
instance : TyS Try.prog 56 := mkTyS (by kernel_rfl) (by kernel_rfl)
instance : TyIface Try.prog 56 false := mkTyIface (by kernel_rfl)
instance : TyFunc Try.prog 56 := mkTyFunc (by kernel_rfl)
instance : TySz Try.prog 56 1 := mkTySz (by kernel_rfl)
instance : TyBytes Try.prog 56 8 := mkTyBytes (by kernel_rfl)
instance : TyZero Try.prog 56 (.nilFunc) := mkTyZero (by kernel_rfl)
instance : TyS Try.prog 57 := mkTyS (by kernel_rfl) (by kernel_rfl)
instance : TyIface Try.prog 57 false := mkTyIface (by kernel_rfl)
instance : TyFunc Try.prog 57 := mkTyFunc (by kernel_rfl)
instance : TySz Try.prog 57 1 := mkTySz (by kernel_rfl)
instance : TyBytes Try.prog 57 8 := mkTyBytes (by kernel_rfl)
instance : TyZero Try.prog 57 (.nilFunc) := mkTyZero (by kernel_rfl)
instance : TyS Try.prog 58 := mkTyS (by kernel_rfl) (by kernel_rfl)
instance : TyIface Try.prog 58 false := mkTyIface (by kernel_rfl)
instance : TySz Try.prog 58 1 := mkTySz (by kernel_rfl)
instance : TyBytes Try.prog 58 24 := mkTyBytes (by kernel_rfl)
instance : TyZero Try.prog 58 (.slice none 0 0) := mkTyZero (by kernel_rfl)
instance : TySlice Try.prog 58 67 := ⟨by kernel_rfl⟩
instance : TyA Try.prog 59 5 := mkTyA (by kernel_rfl) (by kernel_rfl)
instance : TyIface Try.prog 59 false := mkTyIface (by kernel_rfl)
instance : TySz Try.prog 59 5 := mkTySz (by kernel_rfl)
instance : TyBytes Try.prog 59 56 := mkTyBytes (by kernel_rfl)
instance : TyZero Try.prog 59 (.agg ⟨[.slice none 0 0, .int .i64 0, .int .i64 0, .int .i64 0, .bool false]⟩) := mkTyZero (by kernel_rfl)
instance : Fld Try.prog 59 0 0 58 := mkFld (by kernel_rfl)
instance : Fld Try.prog 59 1 1 3 := mkFld (by kernel_rfl)
instance : Fld Try.prog 59 2 2 3 := mkFld (by kernel_rfl)
instance : Fld Try.prog 59 3 3 3 := mkFld (by kernel_rfl)
instance : Fld Try.prog 59 4 4 4 := mkFld (by kernel_rfl)
instance : TyPlaces Try.prog 59 (([(0, 1), (1, 1), (2, 1), (3, 1), (4, 1)] : List (Nat × Nat))[·]?) := mkTyPlaces (by kernel_rfl)
instance : TyA Try.prog 60 5 := mkTyA (by kernel_rfl) (by kernel_rfl)
instance : TyIface Try.prog 60 false := mkTyIface (by kernel_rfl)
instance : TySz Try.prog 60 5 := mkTySz (by kernel_rfl)
instance : TyBytes Try.prog 60 56 := mkTyBytes (by kernel_rfl)
instance : TyZero Try.prog 60 (.agg ⟨[.slice none 0 0, .int .i64 0, .int .i64 0, .int .i64 0, .bool false]⟩) := mkTyZero (by kernel_rfl)
instance : Fld Try.prog 60 0 0 58 := mkFld (by kernel_rfl)
instance : Fld Try.prog 60 1 1 3 := mkFld (by kernel_rfl)
instance : Fld Try.prog 60 2 2 3 := mkFld (by kernel_rfl)
instance : Fld Try.prog 60 3 3 3 := mkFld (by kernel_rfl)
instance : Fld Try.prog 60 4 4 4 := mkFld (by kernel_rfl)
instance : TyPlaces Try.prog 60 (([(0, 1), (1, 1), (2, 1), (3, 1), (4, 1)] : List (Nat × Nat))[·]?) := mkTyPlaces (by kernel_rfl)
instance : TyS Try.prog 61 := mkTyS (by kernel_rfl) (by kernel_rfl)
instance : TyIface Try.prog 61 false := mkTyIface (by kernel_rfl)
instance : TyFunc Try.prog 61 := mkTyFunc (by kernel_rfl)
instance : TySz Try.prog 61 1 := mkTySz (by kernel_rfl)
instance : TyBytes Try.prog 61 8 := mkTyBytes (by kernel_rfl)
instance : TyZero Try.prog 61 (.nilFunc) := mkTyZero (by kernel_rfl)
instance : TyS Try.prog 63 := mkTyS (by kernel_rfl) (by kernel_rfl)
instance : TyIface Try.prog 63 false := mkTyIface (by kernel_rfl)
instance : TyFunc Try.prog 63 := mkTyFunc (by kernel_rfl)
instance : TySz Try.prog 63 1 := mkTySz (by kernel_rfl)
instance : TyBytes Try.prog 63 8 := mkTyBytes (by kernel_rfl)
instance : TyZero Try.prog 63 (.nilFunc) := mkTyZero (by kernel_rfl)
instance : TyS Try.prog 64 := mkTyS (by kernel_rfl) (by kernel_rfl)
instance : TyIface Try.prog 64 false := mkTyIface (by kernel_rfl)
instance : TyFunc Try.prog 64 := mkTyFunc (by kernel_rfl)
instance : TySz Try.prog 64 1 := mkTySz (by kernel_rfl)
instance : TyBytes Try.prog 64 8 := mkTyBytes (by kernel_rfl)
instance : TyZero Try.prog 64 (.nilFunc) := mkTyZero (by kernel_rfl)
instance : TyS Try.prog 65 := mkTyS (by kernel_rfl) (by kernel_rfl)
instance : TyIface Try.prog 65 false := mkTyIface (by kernel_rfl)
instance : TyFunc Try.prog 65 := mkTyFunc (by kernel_rfl)
instance : TySz Try.prog 65 1 := mkTySz (by kernel_rfl)
instance : TyBytes Try.prog 65 8 := mkTyBytes (by kernel_rfl)
instance : TyZero Try.prog 65 (.nilFunc) := mkTyZero (by kernel_rfl)
instance : TyA Try.prog 66 129 := mkTyA (by kernel_rfl) (by kernel_rfl)
instance : TyIface Try.prog 66 false := mkTyIface (by kernel_rfl)
instance : TySz Try.prog 66 129 := mkTySz (by kernel_rfl)
instance : TyBytes Try.prog 66 129 := mkTyBytes (by kernel_rfl)
instance : TyZero Try.prog 66 (.agg ⟨List.replicate 128 (.int .u8 0) ++ [.bool false]⟩) := mkTyZero (by kernel_rfl)
instance : Fld Try.prog 66 0 0 34 := mkFld (by kernel_rfl)
instance : Fld Try.prog 66 1 64 34 := mkFld (by kernel_rfl)
instance : Fld Try.prog 66 2 128 4 := mkFld (by kernel_rfl)
instance : TyPlaces Try.prog 66 (([(0, 64), (64, 64), (128, 1)] : List (Nat × Nat))[·]?) := mkTyPlaces (by kernel_rfl)
instance : TyA Try.prog 67 129 := mkTyA (by kernel_rfl) (by kernel_rfl)
instance : TyIface Try.prog 67 false := mkTyIface (by kernel_rfl)
instance : TySz Try.prog 67 129 := mkTySz (by kernel_rfl)
instance : TyBytes Try.prog 67 129 := mkTyBytes (by kernel_rfl)
instance : TyZero Try.prog 67 (.agg ⟨List.replicate 128 (.int .u8 0) ++ [.bool false]⟩) := mkTyZero (by kernel_rfl)
instance : Fld Try.prog 67 0 0 34 := mkFld (by kernel_rfl)
instance : Fld Try.prog 67 1 64 34 := mkFld (by kernel_rfl)
instance : Fld Try.prog 67 2 128 4 := mkFld (by kernel_rfl)
instance : TyPlaces Try.prog 67 (([(0, 64), (64, 64), (128, 1)] : List (Nat × Nat))[·]?) := mkTyPlaces (by kernel_rfl)
instance : TyS Try.prog 68 := mkTyS (by kernel_rfl) (by kernel_rfl)
instance : TyIface Try.prog 68 false := mkTyIface (by kernel_rfl)
instance : TyFunc Try.prog 68 := mkTyFunc (by kernel_rfl)
instance : TySz Try.prog 68 1 := mkTySz (by kernel_rfl)
instance : TyBytes Try.prog 68 8 := mkTyBytes (by kernel_rfl)
instance : TyZero Try.prog 68 (.nilFunc) := mkTyZero (by kernel_rfl)
instance : TyS Try.prog 69 := mkTyS (by kernel_rfl) (by kernel_rfl)
instance : TyIface Try.prog 69 false := mkTyIface (by kernel_rfl)
instance : TyFunc Try.prog 69 := mkTyFunc (by kernel_rfl)
instance : TySz Try.prog 69 1 := mkTySz (by kernel_rfl)
instance : TyBytes Try.prog 69 8 := mkTyBytes (by kernel_rfl)
instance : TyZero Try.prog 69 (.nilFunc) := mkTyZero (by kernel_rfl)
instance : TyS Try.prog 71 := mkTyS (by kernel_rfl) (by kernel_rfl)
instance : TyIface Try.prog 71 false := mkTyIface (by kernel_rfl)
instance : TyFunc Try.prog 71 := mkTyFunc (by kernel_rfl)
instance : TySz Try.prog 71 1 := mkTySz (by kernel_rfl)
instance : TyBytes Try.prog 71 8 := mkTyBytes (by kernel_rfl)
instance : TyZero Try.prog 71 (.nilFunc) := mkTyZero (by kernel_rfl)
instance : TyS Try.prog 72 := mkTyS (by kernel_rfl) (by kernel_rfl)
instance : TyIface Try.prog 72 false := mkTyIface (by kernel_rfl)
instance : TySz Try.prog 72 1 := mkTySz (by kernel_rfl)
instance : TyBytes Try.prog 72 8 := mkTyBytes (by kernel_rfl)
instance : TyZero Try.prog 72 (.map none) := mkTyZero (by kernel_rfl)
instance : TyMap Try.prog 72 3 34 := ⟨by kernel_rfl⟩
instance : TyA Try.prog 73 6 := mkTyA (by kernel_rfl) (by kernel_rfl)
instance : TyIface Try.prog 73 false := mkTyIface (by kernel_rfl)
instance : TySz Try.prog 73 6 := mkTySz (by kernel_rfl)
instance : TyBytes Try.prog 73 64 := mkTyBytes (by kernel_rfl)
instance : TyZero Try.prog 73 (.agg ⟨[.slice none 0 0, .map none, .int .i64 0, .int .i64 0, .int .i64 0, .bool false]⟩) := mkTyZero (by kernel_rfl)
instance : Fld Try.prog 73 0 0 50 := mkFld (by kernel_rfl)
instance : Fld Try.prog 73 1 1 72 := mkFld (by kernel_rfl)
instance : Fld Try.prog 73 2 2 3 := mkFld (by kernel_rfl)
instance : Fld Try.prog 73 3 3 3 := mkFld (by kernel_rfl)
instance : Fld Try.prog 73 4 4 3 := mkFld (by kernel_rfl)
instance : Fld Try.prog 73 5 5 4 := mkFld (by kernel_rfl)
instance : TyPlaces Try.prog 73 (([(0, 1), (1, 1), (2, 1), (3, 1), (4, 1), (5, 1)] : List (Nat × Nat))[·]?) := mkTyPlaces (by kernel_rfl)
instance : TyA Try.prog 74 6 := mkTyA (by kernel_rfl) (by kernel_rfl)
instance : TyIface Try.prog 74 false := mkTyIface (by kernel_rfl)
instance : TySz Try.prog 74 6 := mkTySz (by kernel_rfl)
instance : TyBytes Try.prog 74 64 := mkTyBytes (by kernel_rfl)
instance : TyZero Try.prog 74 (.agg ⟨[.slice none 0 0, .map none, .int .i64 0, .int .i64 0, .int .i64 0, .bool false]⟩) := mkTyZero (by kernel_rfl)
instance : Fld Try.prog 74 0 0 50 := mkFld (by kernel_rfl)
instance : Fld Try.prog 74 1 1 72 := mkFld (by kernel_rfl)
instance : Fld Try.prog 74 2 2 3 := mkFld (by kernel_rfl)
instance : Fld Try.prog 74 3 3 3 := mkFld (by kernel_rfl)
instance : Fld Try.prog 74 4 4 3 := mkFld (by kernel_rfl)
instance : Fld Try.prog 74 5 5 4 := mkFld (by kernel_rfl)
instance : TyPlaces Try.prog 74 (([(0, 1), (1, 1), (2, 1), (3, 1), (4, 1), (5, 1)] : List (Nat × Nat))[·]?) := mkTyPlaces (by kernel_rfl)
instance : TyS Try.prog 75 := mkTyS (by kernel_rfl) (by kernel_rfl)
instance : TyIface Try.prog 75 false := mkTyIface (by kernel_rfl)
instance : TyFunc Try.prog 75 := mkTyFunc (by kernel_rfl)
instance : TySz Try.prog 75 1 := mkTySz (by kernel_rfl)
instance : TyBytes Try.prog 75 8 := mkTyBytes (by kernel_rfl)
instance : TyZero Try.prog 75 (.nilFunc) := mkTyZero (by kernel_rfl)
instance : TyS Try.prog 76 := mkTyS (by kernel_rfl) (by kernel_rfl)
instance : TyIface Try.prog 76 false := mkTyIface (by kernel_rfl)
instance : TyFunc Try.prog 76 := mkTyFunc (by kernel_rfl)
instance : TySz Try.prog 76 1 := mkTySz (by kernel_rfl)
instance : TyBytes Try.prog 76 8 := mkTyBytes (by kernel_rfl)
instance : TyZero Try.prog 76 (.nilFunc) := mkTyZero (by kernel_rfl)
instance : TyS Try.prog 77 := mkTyS (by kernel_rfl) (by kernel_rfl)
instance : TyIface Try.prog 77 false := mkTyIface (by kernel_rfl)
instance : TyFunc Try.prog 77 := mkTyFunc (by kernel_rfl)
instance : TySz Try.prog 77 1 := mkTySz (by kernel_rfl)
instance : TyBytes Try.prog 77 8 := mkTyBytes (by kernel_rfl)
instance : TyZero Try.prog 77 (.nilFunc) := mkTyZero (by kernel_rfl)
instance : TyS Try.prog 79 := mkTyS (by kernel_rfl) (by kernel_rfl)
instance : TyIface Try.prog 79 false := mkTyIface (by kernel_rfl)
instance : TyFunc Try.prog 79 := mkTyFunc (by kernel_rfl)
instance : TySz Try.prog 79 1 := mkTySz (by kernel_rfl)
instance : TyBytes Try.prog 79 8 := mkTyBytes (by kernel_rfl)
instance : TyZero Try.prog 79 (.nilFunc) := mkTyZero (by kernel_rfl)
instance : TyS Try.prog 80 := mkTyS (by kernel_rfl) (by kernel_rfl)
instance : TyIface Try.prog 80 false := mkTyIface (by kernel_rfl)
instance : TyFunc Try.prog 80 := mkTyFunc (by kernel_rfl)
instance : TySz Try.prog 80 1 := mkTySz (by kernel_rfl)
instance : TyBytes Try.prog 80 8 := mkTyBytes (by kernel_rfl)
instance : TyZero Try.prog 80 (.nilFunc) := mkTyZero (by kernel_rfl)
instance : TyS Try.prog 81 := mkTyS (by kernel_rfl) (by kernel_rfl)
instance : TyIface Try.prog 81 false := mkTyIface (by kernel_rfl)
instance : TyFunc Try.prog 81 := mkTyFunc (by kernel_rfl)
instance : TySz Try.prog 81 1 := mkTySz (by kernel_rfl)
instance : TyBytes Try.prog 81 8 := mkTyBytes (by kernel_rfl)
instance : TyZero Try.prog 81 (.nilFunc) := mkTyZero (by kernel_rfl)
instance : TyS Try.prog 82 := mkTyS (by kernel_rfl) (by kernel_rfl)
instance : TyIface Try.prog 82 false := mkTyIface (by kernel_rfl)
instance : TyFunc Try.prog 82 := mkTyFunc (by kernel_rfl)
instance : TySz Try.prog 82 1 := mkTySz (by kernel_rfl)
instance : TyBytes Try.prog 82 8 := mkTyBytes (by kernel_rfl)
instance : TyZero Try.prog 82 (.nilFunc) := mkTyZero (by kernel_rfl)
instance : TyS Try.prog 83 := mkTyS (by kernel_rfl) (by kernel_rfl)
instance : TyIface Try.prog 83 false := mkTyIface (by kernel_rfl)
instance : TyFunc Try.prog 83 := mkTyFunc (by kernel_rfl)
instance : TySz Try.prog 83 1 := mkTySz (by kernel_rfl)
instance : TyBytes Try.prog 83 8 := mkTyBytes (by kernel_rfl)
instance : TyZero Try.prog 83 (.nilFunc) := mkTyZero (by kernel_rfl)
instance : TyS Try.prog 84 := mkTyS (by kernel_rfl) (by kernel_rfl)
instance : TyIface Try.prog 84 false := mkTyIface (by kernel_rfl)
instance : TyFunc Try.prog 84 := mkTyFunc (by kernel_rfl)
instance : TySz Try.prog 84 1 := mkTySz (by kernel_rfl)
instance : TyBytes Try.prog 84 8 := mkTyBytes (by kernel_rfl)
instance : TyZero Try.prog 84 (.nilFunc) := mkTyZero (by kernel_rfl)
instance : TyS Try.prog 86 := mkTyS (by kernel_rfl) (by kernel_rfl)
instance : TyIface Try.prog 86 false := mkTyIface (by kernel_rfl)
instance : TyFunc Try.prog 86 := mkTyFunc (by kernel_rfl)
instance : TySz Try.prog 86 1 := mkTySz (by kernel_rfl)
instance : TyBytes Try.prog 86 8 := mkTyBytes (by kernel_rfl)
instance : TyZero Try.prog 86 (.nilFunc) := mkTyZero (by kernel_rfl)
instance : TyS Try.prog 87 := mkTyS (by kernel_rfl) (by kernel_rfl)
instance : TyIface Try.prog 87 false := mkTyIface (by kernel_rfl)
instance : TyFunc Try.prog 87 := mkTyFunc (by kernel_rfl)
instance : TySz Try.prog 87 1 := mkTySz (by kernel_rfl)
instance : TyBytes Try.prog 87 8 := mkTyBytes (by kernel_rfl)
instance : TyZero Try.prog 87 (.nilFunc) := mkTyZero (by kernel_rfl)
instance : TyS Try.prog 88 := mkTyS (by kernel_rfl) (by kernel_rfl)
instance : TyIface Try.prog 88 false := mkTyIface (by kernel_rfl)
instance : TyFunc Try.prog 88 := mkTyFunc (by kernel_rfl)
instance : TySz Try.prog 88 1 := mkTySz (by kernel_rfl)
instance : TyBytes Try.prog 88 8 := mkTyBytes (by kernel_rfl)
instance : TyZero Try.prog 88 (.nilFunc) := mkTyZero (by kernel_rfl)
instance : TyS Try.prog 89 := mkTyS (by kernel_rfl) (by kernel_rfl)
instance : TyIface Try.prog 89 false := mkTyIface (by kernel_rfl)
instance : TyFunc Try.prog 89 := mkTyFunc (by kernel_rfl)
instance : TySz Try.prog 89 1 := mkTySz (by kernel_rfl)
instance : TyBytes Try.prog 89 8 := mkTyBytes (by kernel_rfl)
instance : TyZero Try.prog 89 (.nilFunc) := mkTyZero (by kernel_rfl)
instance : TyS Try.prog 90 := mkTyS (by kernel_rfl) (by kernel_rfl)
instance : TyIface Try.prog 90 false := mkTyIface (by kernel_rfl)
instance : TyFunc Try.prog 90 := mkTyFunc (by kernel_rfl)
instance : TySz Try.prog 90 1 := mkTySz (by kernel_rfl)
instance : TyBytes Try.prog 90 8 := mkTyBytes (by kernel_rfl)
instance : TyZero Try.prog 90 (.nilFunc) := mkTyZero (by kernel_rfl)
instance : TyS Try.prog 91 := mkTyS (by kernel_rfl) (by kernel_rfl)
instance : TyIface Try.prog 91 false := mkTyIface (by kernel_rfl)
instance : TyFunc Try.prog 91 := mkTyFunc (by kernel_rfl)
instance : TySz Try.prog 91 1 := mkTySz (by kernel_rfl)
instance : TyBytes Try.prog 91 8 := mkTyBytes (by kernel_rfl)
instance : TyZero Try.prog 91 (.nilFunc) := mkTyZero (by kernel_rfl)
instance : TyS Try.prog 92 := mkTyS (by kernel_rfl) (by kernel_rfl)
instance : TyIface Try.prog 92 false := mkTyIface (by kernel_rfl)
instance : TySz Try.prog 92 1 := mkTySz (by kernel_rfl)
instance : TyBytes Try.prog 92 8 := mkTyBytes (by kernel_rfl)
instance : TyZero Try.prog 92 (.pointer none) := mkTyZero (by kernel_rfl)
instance : TyPtr Try.prog 92 3 := ⟨by kernel_rfl⟩
instance : TyS Try.prog 93 := mkTyS (by kernel_rfl) (by kernel_rfl)
instance : TyIface Try.prog 93 false := mkTyIface (by kernel_rfl)
instance : TyFunc Try.prog 93 := mkTyFunc (by kernel_rfl)
instance : TySz Try.prog 93 1 := mkTySz (by kernel_rfl)
instance : TyBytes Try.prog 93 8 := mkTyBytes (by kernel_rfl)
instance : TyZero Try.prog 93 (.nilFunc) := mkTyZero (by kernel_rfl)
instance : TyS Try.prog 94 := mkTyS (by kernel_rfl) (by kernel_rfl)
instance : TyIface Try.prog 94 false := mkTyIface (by kernel_rfl)
instance : TyFunc Try.prog 94 := mkTyFunc (by kernel_rfl)
instance : TySz Try.prog 94 1 := mkTySz (by kernel_rfl)
instance : TyBytes Try.prog 94 8 := mkTyBytes (by kernel_rfl)
instance : TyZero Try.prog 94 (.nilFunc) := mkTyZero (by kernel_rfl)
instance : TyS Try.prog 95 := mkTyS (by kernel_rfl) (by kernel_rfl)
instance : TyIface Try.prog 95 false := mkTyIface (by kernel_rfl)
instance : TyFunc Try.prog 95 := mkTyFunc (by kernel_rfl)
instance : TySz Try.prog 95 1 := mkTySz (by kernel_rfl)
instance : TyBytes Try.prog 95 8 := mkTyBytes (by kernel_rfl)
instance : TyZero Try.prog 95 (.nilFunc) := mkTyZero (by kernel_rfl)
instance : TyS Try.prog 96 := mkTyS (by kernel_rfl) (by kernel_rfl)
instance : TyIface Try.prog 96 false := mkTyIface (by kernel_rfl)
instance : TyFunc Try.prog 96 := mkTyFunc (by kernel_rfl)
instance : TySz Try.prog 96 1 := mkTySz (by kernel_rfl)
instance : TyBytes Try.prog 96 8 := mkTyBytes (by kernel_rfl)
instance : TyZero Try.prog 96 (.nilFunc) := mkTyZero (by kernel_rfl)
instance : TyS Try.prog 97 := mkTyS (by kernel_rfl) (by kernel_rfl)
instance : TyIface Try.prog 97 false := mkTyIface (by kernel_rfl)
instance : TyFunc Try.prog 97 := mkTyFunc (by kernel_rfl)
instance : TySz Try.prog 97 1 := mkTySz (by kernel_rfl)
instance : TyBytes Try.prog 97 8 := mkTyBytes (by kernel_rfl)
instance : TyZero Try.prog 97 (.nilFunc) := mkTyZero (by kernel_rfl)
instance : TyS Try.prog 98 := mkTyS (by kernel_rfl) (by kernel_rfl)
instance : TyIface Try.prog 98 false := mkTyIface (by kernel_rfl)
instance : TyFunc Try.prog 98 := mkTyFunc (by kernel_rfl)
instance : TySz Try.prog 98 1 := mkTySz (by kernel_rfl)
instance : TyBytes Try.prog 98 8 := mkTyBytes (by kernel_rfl)
instance : TyZero Try.prog 98 (.nilFunc) := mkTyZero (by kernel_rfl)
instance : TyS Try.prog 99 := mkTyS (by kernel_rfl) (by kernel_rfl)
instance : TyIface Try.prog 99 false := mkTyIface (by kernel_rfl)
instance : TyFunc Try.prog 99 := mkTyFunc (by kernel_rfl)
instance : TySz Try.prog 99 1 := mkTySz (by kernel_rfl)
instance : TyBytes Try.prog 99 8 := mkTyBytes (by kernel_rfl)
instance : TyZero Try.prog 99 (.nilFunc) := mkTyZero (by kernel_rfl)
instance : TyA Try.prog 100 4 := mkTyA (by kernel_rfl) (by kernel_rfl)
instance : TyIface Try.prog 100 false := mkTyIface (by kernel_rfl)
instance : TySz Try.prog 100 4 := mkTySz (by kernel_rfl)
instance : TyBytes Try.prog 100 40 := mkTyBytes (by kernel_rfl)
instance : TyZero Try.prog 100 (.agg ⟨[.pointer none, .pointer none, .pointer none, .string ⟨⟨[]⟩⟩]⟩) := mkTyZero (by kernel_rfl)
instance : Fld Try.prog 100 0 0 17 := mkFld (by kernel_rfl)
instance : Fld Try.prog 100 1 1 17 := mkFld (by kernel_rfl)
instance : Fld Try.prog 100 2 2 17 := mkFld (by kernel_rfl)
instance : Fld Try.prog 100 3 3 9 := mkFld (by kernel_rfl)
instance : TyPlaces Try.prog 100 (([(0, 1), (1, 1), (2, 1), (3, 1)] : List (Nat × Nat))[·]?) := mkTyPlaces (by kernel_rfl)
instance : TyS Try.prog 105 := mkTyS (by kernel_rfl) (by kernel_rfl)
instance : TyIface Try.prog 105 false := mkTyIface (by kernel_rfl)
instance : TySz Try.prog 105 1 := mkTySz (by kernel_rfl)
instance : TyBytes Try.prog 105 4 := mkTyBytes (by kernel_rfl)
instance : TyZero Try.prog 105 (.int .u32 0) := mkTyZero (by kernel_rfl)
instance : TyInt Try.prog 105 .u32 := ⟨by kernel_rfl⟩
instance : TyS Try.prog 108 := mkTyS (by kernel_rfl) (by kernel_rfl)
instance : TyIface Try.prog 108 false := mkTyIface (by kernel_rfl)
instance : TyFunc Try.prog 108 := mkTyFunc (by kernel_rfl)
instance : TySz Try.prog 108 1 := mkTySz (by kernel_rfl)
instance : TyBytes Try.prog 108 8 := mkTyBytes (by kernel_rfl)
instance : TyZero Try.prog 108 (.nilFunc) := mkTyZero (by kernel_rfl)
instance : TyS Try.prog 109 := mkTyS (by kernel_rfl) (by kernel_rfl)
instance : TyIface Try.prog 109 false := mkTyIface (by kernel_rfl)
instance : TySz Try.prog 109 1 := mkTySz (by kernel_rfl)
instance : TyBytes Try.prog 109 8 := mkTyBytes (by kernel_rfl)
instance : TyZero Try.prog 109 (.pointer none) := mkTyZero (by kernel_rfl)
instance : TyPtr Try.prog 109 5 := ⟨by kernel_rfl⟩
instance : TyA Try.prog 112 11 := mkTyA (by kernel_rfl) (by kernel_rfl)
instance : TyIface Try.prog 112 false := mkTyIface (by kernel_rfl)
instance : TySz Try.prog 112 11 := mkTySz (by kernel_rfl)
instance : TyBytes Try.prog 112 48 := mkTyBytes (by kernel_rfl)
instance : TyZero Try.prog 112 (.agg ⟨[.int .u64 0, .int .u64 0, .int .u32 0, .int .u8 0, .int .u8 0, .int .u8 0, .int .u8 0, .nilFunc, .pointer none, .int .i32 0, .int .i32 0]⟩) := mkTyZero (by kernel_rfl)
instance : Fld Try.prog 112 0 0 12 := mkFld (by kernel_rfl)
instance : Fld Try.prog 112 1 1 12 := mkFld (by kernel_rfl)
instance : Fld Try.prog 112 2 2 105 := mkFld (by kernel_rfl)
instance : Fld Try.prog 112 3 3 106 := mkFld (by kernel_rfl)
instance : Fld Try.prog 112 4 4 5 := mkFld (by kernel_rfl)
instance : Fld Try.prog 112 5 5 5 := mkFld (by kernel_rfl)
instance : Fld Try.prog 112 6 6 107 := mkFld (by kernel_rfl)
instance : Fld Try.prog 112 7 7 108 := mkFld (by kernel_rfl)
instance : Fld Try.prog 112 8 8 109 := mkFld (by kernel_rfl)
instance : Fld Try.prog 112 9 9 110 := mkFld (by kernel_rfl)
instance : Fld Try.prog 112 10 10 111 := mkFld (by kernel_rfl)
instance : TyPlaces Try.prog 112 (([(0, 1), (1, 1), (2, 1), (3, 1), (4, 1), (5, 1), (6, 1), (7, 1), (8, 1), (9, 1), (10, 1)] : List (Nat × Nat))[·]?) := mkTyPlaces (by kernel_rfl)
instance : Fun Try.prog 3 := mkFun (by kernel_rfl)
instance : Fun Try.prog 4 := mkFun (by kernel_rfl)
instance : Fun Try.prog 5 := mkFun (by kernel_rfl)
instance : Fun Try.prog 6 := mkFun (by kernel_rfl)
instance : Fun Try.prog 7 := mkFun (by kernel_rfl)
instance : Fun Try.prog 8 := mkFun (by kernel_rfl)
instance : Fun Try.prog 9 := mkFun (by kernel_rfl)
instance : Fun Try.prog 10 := mkFun (by kernel_rfl)
instance : Fun Try.prog 11 := mkFun (by kernel_rfl)
instance : Fun Try.prog 12 := mkFun (by kernel_rfl)
instance : Fun Try.prog 13 := mkFun (by kernel_rfl)
instance : Fun Try.prog 14 := mkFun (by kernel_rfl)
instance : Fun Try.prog 15 := mkFun (by kernel_rfl)
instance : Fun Try.prog 16 := mkFun (by kernel_rfl)
instance : Fun Try.prog 17 := mkFun (by kernel_rfl)
instance : Fun Try.prog 18 := mkFun (by kernel_rfl)
instance : Fun Try.prog 19 := mkFun (by kernel_rfl)
instance : Fun Try.prog 20 := mkFun (by kernel_rfl)
instance : Fun Try.prog 21 := mkFun (by kernel_rfl)
instance : Fun Try.prog 22 := mkFun (by kernel_rfl)
instance : Fun Try.prog 23 := mkFun (by kernel_rfl)
instance : Fun Try.prog 24 := mkFun (by kernel_rfl)
instance : Fun Try.prog 25 := mkFun (by kernel_rfl)
instance : Fun Try.prog 26 := mkFun (by kernel_rfl)
instance : Fun Try.prog 27 := mkFun (by kernel_rfl)
instance : Fun Try.prog 28 := mkFun (by kernel_rfl)
instance : Fun Try.prog 29 := mkFun (by kernel_rfl)
instance : Fun Try.prog 30 := mkFun (by kernel_rfl)
instance : Fun Try.prog 31 := mkFun (by kernel_rfl)
instance : Fun Try.prog 32 := mkFun (by kernel_rfl)
instance : Fun Try.prog 33 := mkFun (by kernel_rfl)
instance : Fun Try.prog 34 := mkFun (by kernel_rfl)
instance : Fun Try.prog 35 := mkFun (by kernel_rfl)
instance : Fun Try.prog 36 := mkFun (by kernel_rfl)
instance : Fun Try.prog 37 := mkFun (by kernel_rfl)
instance : Fun Try.prog 38 := mkFun (by kernel_rfl)
instance : Fun Try.prog 39 := mkFun (by kernel_rfl)
instance : Fun Try.prog 40 := mkFun (by kernel_rfl)
instance : Fun Try.prog 41 := mkFun (by kernel_rfl)
instance : Fun Try.prog 42 := mkFun (by kernel_rfl)
instance : Fun Try.prog 43 := mkFun (by kernel_rfl)
instance : Fun Try.prog 44 := mkFun (by kernel_rfl)
instance : Fun Try.prog 45 := mkFun (by kernel_rfl)
instance : Fun Try.prog 46 := mkFun (by kernel_rfl)
instance : Fun Try.prog 47 := mkFun (by kernel_rfl)
instance : Fun Try.prog 48 := mkFun (by kernel_rfl)
instance : Fun Try.prog 49 := mkFun (by kernel_rfl)
instance : Fun Try.prog 50 := mkFun (by kernel_rfl)
instance : Fun Try.prog 51 := mkFun (by kernel_rfl)
instance : Fun Try.prog 52 := mkFun (by kernel_rfl)
instance : Fun Try.prog 53 := mkFun (by kernel_rfl)
instance : Fun Try.prog 54 := mkFun (by kernel_rfl)
instance : Fun Try.prog 55 := mkFun (by kernel_rfl)
instance : Fun Try.prog 56 := mkFun (by kernel_rfl)
instance : Fun Try.prog 57 := mkFun (by kernel_rfl)
instance : Fun Try.prog 59 := mkFun (by kernel_rfl)
instance : Fun Try.prog 60 := mkFun (by kernel_rfl)
instance : Fun Try.prog 61 := mkFun (by kernel_rfl)
instance : Fun Try.prog 62 := mkFun (by kernel_rfl)
instance : Fun Try.prog 63 := mkFun (by kernel_rfl)
instance : Mixed Try.prog := ⟨by kernel_rfl⟩
end Go.Proofs.E

namespace Go.Proofs.E
open Go
set_option linter.unusedVariables false
set_option linter.unusedSimpArgs false
set_option maxRecDepth 4000
attribute [local irreducible] Yl TL TC TE Spec YSpec R1 Hp.le EnvLe TS TR YS Stays

/-! ## layer 2: the disk -/
abbrev Blk := List UInt8
abbrev Secs := List (Blk × Option Blk)
def heldC (s : Secs) : List Value := (s.map fun p => p.1.map u8c).flatten
structure SecsOk (s : Secs) : Prop where
  len : s.length ≤ 2048
  pos : 0 < s.length
  held : ∀ p ∈ s, p.1.length = 64
  cached : ∀ p ∈ s, ∀ c, p.2 = some c → c.length = 64
def bv (b : Blk) : Value := .agg ⟨b.map u8c⟩
structure MapOk (s : Secs) (es : List MapEntry) : Prop where
  keys : IntKeys .i64 es
  get : ∀ j : Int, mget es j = if 0 ≤ j then ((s[j.toNat]?).bind (·.2)).map bv else none
/-- where the held blocks lie: the block's number, the slice's capacity, what lies behind the blocks -/
structure HB where
  b : Nat
  cap : Nat
  sp : List Value
def dO (hb : HB) (mb n : Nat) (ops armed failing : Int) (dead : Bool) : Obj := .cells ⟨[.slice (some ⟨hb.b, 0, none⟩) n hb.cap, .map (some mb), .int .i64 ops, .int .i64 armed, .int .i64 failing, .bool dead]⟩ 74 (0, 0)

set_option maxHeartbeats 400000 in
theorem lives_nil (ρ : Hp) : Spec Try.prog 44 [.pointer none] ρ [] (fun v ρ' L' => v = .int .i64 1 ∧ ρ' = ρ ∧ L' = []) := by
  refine spec_enter Try.func44 rfl rfl rfl fun u R => ?_
  simp only [argsE, List.cons_append, List.nil_append]
  repeat' (first | (refine i_op ?_; first | (refine iMv ?_; refine qMv ?_) | (refine iLd ?_; refine qLd ?_) | (refine iFa ?_; refine qFa ?_) | (refine iAd ?_; refine qAd ?_) | (refine iSb ?_; refine qSb ?_) | (refine iMl ?_; refine qMl ?_) | (refine iRm ?_; refine qRm ?_) | (refine iQu ?_; refine qQu ?_) | (refine iSr ?_; refine qSr ?_) | (refine iSh ?_; refine qSh ?_) | (refine iCm ?_; refine qCm ?_) | (refine iEx ?_; refine qEx ?_) | (refine iAs ?_; refine qAs ?_) | (refine iPk ?_; refine qPk ?_) | (refine iNc ?_; refine qNc ?_) | (refine iIa ?_; refine qIa ?_) | (refine iCv ?_; refine qCv ?_) | (refine iBi ?_; refine qBi ?_) | (refine iUn ?_; refine qUn ?_) | (refine iFl ?_; refine qFl ?_) | (refine iLu ?_; refine qLu ?_) | (refine iBu ?_; refine qBu ?_) | (refine iSl ?_; refine qSl ?_) | (refine iMf ?_; refine qMf ?_) | (refine iMi ?_; refine qMi ?_) | (refine iTa ?_; refine qTa ?_) | (refine iSt ?_; refine qSt ?_) | (refine iAl ?_; first | refine qAlA (fun _ => ?_) | refine qAlS (fun _ => ?_)) | (refine iBx ?_; first | refine qBxA (fun _ => ?_) | refine qBxS (fun _ => ?_)) | (refine iMm ?_; refine qMm (fun _ => ?_)) | (refine iBs ?_; refine qBs (fun _ => ?_)) | (refine i_gd ?_; first | refine qWant ?_ | refine qSkip ?_ | refine qSkip0 ?_ | refine qSkipU ?_)) | refine tl_nil ?_ | refine tc_seq ?_ | refine tc_region ?_ | refine te_seq ?_ | (refine i_cond ?_; first | refine qCt ?_ | refine qCf ?_) | refine tc_block ?_ | refine te_block_normal ?_ | refine te_block_ret ?_ | refine te_then_ret ?_ | refine te_block_hit ?_ | (refine i_miss ?_; refine qMiss ?_) | refine te_then_exit ?_ | refine tc_exit ?_ | refine tc_ret ?_ | refine tc_skip ?_)
  exact te_end rfl rfl rfl (by exact res1 rfl (r1_tmp rfl)) (Hp.le_refl _) (by infer_instance) (by infer_instance) ⟨rfl, rfl, rfl⟩
set_option maxHeartbeats 400000 in
theorem lives_dead (ρ : Hp) (b : Nat) (hb : HB) (mb n : Nat) (ops armed failing : Int) : Spec Try.prog 44 [.pointer (some ⟨b, 0, none⟩)] ρ [[(b, dO hb mb n ops armed failing true)]] (fun v ρ' L' => v = .int .i64 9 ∧ ρ' = ρ ∧ L' = [[(b, dO hb mb n ops armed failing true)]]) := by
  refine spec_enter Try.func44 rfl rfl rfl fun u R => ?_
  simp only [argsE, List.cons_append, List.nil_append, dO]
  repeat' (first | (refine i_op ?_; first | (refine iMv ?_; refine qMv ?_) | (refine iLd ?_; refine qLd ?_) | (refine iFa ?_; refine qFa ?_) | (refine iAd ?_; refine qAd ?_) | (refine iSb ?_; refine qSb ?_) | (refine iMl ?_; refine qMl ?_) | (refine iRm ?_; refine qRm ?_) | (refine iQu ?_; refine qQu ?_) | (refine iSr ?_; refine qSr ?_) | (refine iSh ?_; refine qSh ?_) | (refine iCm ?_; refine qCm ?_) | (refine iEx ?_; refine qEx ?_) | (refine iAs ?_; refine qAs ?_) | (refine iPk ?_; refine qPk ?_) | (refine iNc ?_; refine qNc ?_) | (refine iIa ?_; refine qIa ?_) | (refine iCv ?_; refine qCv ?_) | (refine iBi ?_; refine qBi ?_) | (refine iUn ?_; refine qUn ?_) | (refine iFl ?_; refine qFl ?_) | (refine iLu ?_; refine qLu ?_) | (refine iBu ?_; refine qBu ?_) | (refine iSl ?_; refine qSl ?_) | (refine iMf ?_; refine qMf ?_) | (refine iMi ?_; refine qMi ?_) | (refine iTa ?_; refine qTa ?_) | (refine iSt ?_; refine qSt ?_) | (refine iAl ?_; first | refine qAlA (fun _ => ?_) | refine qAlS (fun _ => ?_)) | (refine iBx ?_; first | refine qBxA (fun _ => ?_) | refine qBxS (fun _ => ?_)) | (refine iMm ?_; refine qMm (fun _ => ?_)) | (refine iBs ?_; refine qBs (fun _ => ?_)) | (refine i_gd ?_; first | refine qWant ?_ | refine qSkip ?_ | refine qSkip0 ?_ | refine qSkipU ?_)) | refine tl_nil ?_ | refine tc_seq ?_ | refine tc_region ?_ | refine te_seq ?_ | (refine i_cond ?_; first | refine qCt ?_ | refine qCf ?_) | refine tc_block ?_ | refine te_block_normal ?_ | refine te_block_ret ?_ | refine te_then_ret ?_ | refine te_block_hit ?_ | (refine i_miss ?_; refine qMiss ?_) | refine te_then_exit ?_ | refine tc_exit ?_ | refine tc_ret ?_ | refine tc_skip ?_)
  exact te_end rfl rfl rfl (by exact res1 rfl (r1_tmp rfl)) (Hp.le_refl _) (by infer_instance) (by infer_instance) ⟨rfl, rfl, rfl⟩
set_option maxHeartbeats 400000 in
theorem lives_ok (ρ : Hp) (b : Nat) (hb : HB) (mb n : Nat) (ops armed failing : Int) : Spec Try.prog 44 [.pointer (some ⟨b, 0, none⟩)] ρ [[(b, dO hb mb n ops armed failing false)]] (fun v ρ' L' => v = .int .i64 0 ∧ ρ' = ρ ∧ L' = [[(b, dO hb mb n ops armed failing false)]]) := by
  refine spec_enter Try.func44 rfl rfl rfl fun u R => ?_
  simp only [argsE, List.cons_append, List.nil_append, dO]
  repeat' (first | (refine i_op ?_; first | (refine iMv ?_; refine qMv ?_) | (refine iLd ?_; refine qLd ?_) | (refine iFa ?_; refine qFa ?_) | (refine iAd ?_; refine qAd ?_) | (refine iSb ?_; refine qSb ?_) | (refine iMl ?_; refine qMl ?_) | (refine iRm ?_; refine qRm ?_) | (refine iQu ?_; refine qQu ?_) | (refine iSr ?_; refine qSr ?_) | (refine iSh ?_; refine qSh ?_) | (refine iCm ?_; refine qCm ?_) | (refine iEx ?_; refine qEx ?_) | (refine iAs ?_; refine qAs ?_) | (refine iPk ?_; refine qPk ?_) | (refine iNc ?_; refine qNc ?_) | (refine iIa ?_; refine qIa ?_) | (refine iCv ?_; refine qCv ?_) | (refine iBi ?_; refine qBi ?_) | (refine iUn ?_; refine qUn ?_) | (refine iFl ?_; refine qFl ?_) | (refine iLu ?_; refine qLu ?_) | (refine iBu ?_; refine qBu ?_) | (refine iSl ?_; refine qSl ?_) | (refine iMf ?_; refine qMf ?_) | (refine iMi ?_; refine qMi ?_) | (refine iTa ?_; refine qTa ?_) | (refine iSt ?_; refine qSt ?_) | (refine iAl ?_; first | refine qAlA (fun _ => ?_) | refine qAlS (fun _ => ?_)) | (refine iBx ?_; first | refine qBxA (fun _ => ?_) | refine qBxS (fun _ => ?_)) | (refine iMm ?_; refine qMm (fun _ => ?_)) | (refine iBs ?_; refine qBs (fun _ => ?_)) | (refine i_gd ?_; first | refine qWant ?_ | refine qSkip ?_ | refine qSkip0 ?_ | refine qSkipU ?_)) | refine tl_nil ?_ | refine tc_seq ?_ | refine tc_region ?_ | refine te_seq ?_ | (refine i_cond ?_; first | refine qCt ?_ | refine qCf ?_) | refine tc_block ?_ | refine te_block_normal ?_ | refine te_block_ret ?_ | refine te_then_ret ?_ | refine te_block_hit ?_ | (refine i_miss ?_; refine qMiss ?_) | refine te_then_exit ?_ | refine tc_exit ?_ | refine tc_ret ?_ | refine tc_skip ?_)
  exact te_end rfl rfl rfl (by exact res1 rfl (r1_tmp rfl)) (Hp.le_refl _) (by infer_instance) (by infer_instance) ⟨rfl, rfl, rfl⟩
end Go.Proofs.E

namespace Go.Proofs.E
open Go
set_option linter.unusedVariables false
set_option linter.unusedSimpArgs false
set_option maxRecDepth 4000
attribute [local irreducible] Yl TL TC TE Spec YSpec R1 Hp.le EnvLe TS TR YS Stays

theorem counts_dO4 (ρ : Hp) (b : Nat) (hb : HB) (mb n : Nat) (ops armed failing : Int) (dead : Bool) (h1 : -1 ≤ failing) (h2 : failing ≤ 9223372036854775807) :
    Spec Try.prog 55 [.pointer (some ⟨b, 4, none⟩)] ρ [[(b, dO hb mb n ops armed failing dead)]] (fun v ρ' L' => v = .bool (failing == 0) ∧ ρ' = ρ ∧ L' = [[(b, dO hb mb n ops armed (max (failing-1) (-1)) dead)]]) := by
  refine spec_enter Try.func55 rfl rfl rfl fun u R => ?_
  simp only [argsE, List.cons_append, List.nil_append, dO]
  repeat' (first | (refine i_op ?_; first | (refine iMv ?_; refine qMv ?_) | (refine iLd ?_; refine qLd ?_) | (refine iFa ?_; refine qFa ?_) | (refine iAd ?_; refine qAd ?_) | (refine iSb ?_; refine qSb ?_) | (refine iMl ?_; refine qMl ?_) | (refine iRm ?_; refine qRm ?_) | (refine iQu ?_; refine qQu ?_) | (refine iSr ?_; refine qSr ?_) | (refine iSh ?_; refine qSh ?_) | (refine iCm ?_; refine qCm ?_) | (refine iEx ?_; refine qEx ?_) | (refine iAs ?_; refine qAs ?_) | (refine iPk ?_; refine qPk ?_) | (refine iNc ?_; refine qNc ?_) | (refine iIa ?_; refine qIa ?_) | (refine iCv ?_; refine qCv ?_) | (refine iBi ?_; refine qBi ?_) | (refine iUn ?_; refine qUn ?_) | (refine iFl ?_; refine qFl ?_) | (refine iLu ?_; refine qLu ?_) | (refine iBu ?_; refine qBu ?_) | (refine iSl ?_; refine qSl ?_) | (refine iMf ?_; refine qMf ?_) | (refine iMi ?_; refine qMi ?_) | (refine iTa ?_; refine qTa ?_) | (refine iSt ?_; refine qSt ?_) | (refine iAl ?_; first | refine qAlA (fun _ => ?_) | refine qAlS (fun _ => ?_)) | (refine iBx ?_; first | refine qBxA (fun _ => ?_) | refine qBxS (fun _ => ?_)) | (refine iMm ?_; refine qMm (fun _ => ?_)) | (refine iBs ?_; refine qBs (fun _ => ?_)) | (refine i_gd ?_; first | refine qWant ?_ | refine qSkip ?_ | refine qSkip0 ?_ | refine qSkipU ?_)) | refine tl_nil ?_ | refine tc_seq ?_ | refine tc_region ?_ | refine te_seq ?_ | (refine i_cond ?_; first | refine qCt ?_ | refine qCf ?_) | refine tc_block ?_ | refine te_block_normal ?_ | refine te_block_ret ?_ | refine te_then_ret ?_ | refine te_block_hit ?_ | (refine i_miss ?_; refine qMiss ?_) | refine te_then_exit ?_ | refine tc_exit ?_ | refine tc_ret ?_ | refine tc_skip ?_)
  exact qE ⟨rfl, rfl, rfl⟩
theorem counts_dO3 (ρ : Hp) (b : Nat) (hb : HB) (mb n : Nat) (ops armed failing : Int) (dead : Bool) (h1 : -1 ≤ armed) (h2 : armed ≤ 9223372036854775807) :
    Spec Try.prog 55 [.pointer (some ⟨b, 3, none⟩)] ρ [[(b, dO hb mb n ops armed failing dead)]] (fun v ρ' L' => v = .bool (armed == 0) ∧ ρ' = ρ ∧ L' = [[(b, dO hb mb n ops (max (armed-1) (-1)) failing dead)]]) := by
  refine spec_enter Try.func55 rfl rfl rfl fun u R => ?_
  simp only [argsE, List.cons_append, List.nil_append, dO]
  repeat' (first | (refine i_op ?_; first | (refine iMv ?_; refine qMv ?_) | (refine iLd ?_; refine qLd ?_) | (refine iFa ?_; refine qFa ?_) | (refine iAd ?_; refine qAd ?_) | (refine iSb ?_; refine qSb ?_) | (refine iMl ?_; refine qMl ?_) | (refine iRm ?_; refine qRm ?_) | (refine iQu ?_; refine qQu ?_) | (refine iSr ?_; refine qSr ?_) | (refine iSh ?_; refine qSh ?_) | (refine iCm ?_; refine qCm ?_) | (refine iEx ?_; refine qEx ?_) | (refine iAs ?_; refine qAs ?_) | (refine iPk ?_; refine qPk ?_) | (refine iNc ?_; refine qNc ?_) | (refine iIa ?_; refine qIa ?_) | (refine iCv ?_; refine qCv ?_) | (refine iBi ?_; refine qBi ?_) | (refine iUn ?_; refine qUn ?_) | (refine iFl ?_; refine qFl ?_) | (refine iLu ?_; refine qLu ?_) | (refine iBu ?_; refine qBu ?_) | (refine iSl ?_; refine qSl ?_) | (refine iMf ?_; refine qMf ?_) | (refine iMi ?_; refine qMi ?_) | (refine iTa ?_; refine qTa ?_) | (refine iSt ?_; refine qSt ?_) | (refine iAl ?_; first | refine qAlA (fun _ => ?_) | refine qAlS (fun _ => ?_)) | (refine iBx ?_; first | refine qBxA (fun _ => ?_) | refine qBxS (fun _ => ?_)) | (refine iMm ?_; refine qMm (fun _ => ?_)) | (refine iBs ?_; refine qBs (fun _ => ?_)) | (refine i_gd ?_; first | refine qWant ?_ | refine qSkip ?_ | refine qSkip0 ?_ | refine qSkipU ?_)) | refine tl_nil ?_ | refine tc_seq ?_ | refine tc_region ?_ | refine te_seq ?_ | (refine i_cond ?_; first | refine qCt ?_ | refine qCf ?_) | refine tc_block ?_ | refine te_block_normal ?_ | refine te_block_ret ?_ | refine te_then_ret ?_ | refine te_block_hit ?_ | (refine i_miss ?_; refine qMiss ?_) | refine te_then_exit ?_ | refine tc_exit ?_ | refine tc_ret ?_ | refine tc_skip ?_)
  exact qE ⟨rfl, rfl, rfl⟩

/-! ### does -/
theorem does_dead (ρ : Hp) (b : Nat) (hb : HB) (mb n : Nat) (ops armed failing i : Int) (d l : Value) : Spec Try.prog 34 [.pointer (some ⟨b, 0, none⟩), .int .i64 i, d, l] ρ [[(b, dO hb mb n ops armed failing true)]]
    (fun v ρ' L' => v = .int .i64 9 ∧ ρ' = ρ ∧ L' = [[(b, dO hb mb n ops armed failing true)]]) := by
  refine spec_enter Try.func34 rfl rfl rfl fun u R => ?_
  simp only [argsE, List.cons_append, List.nil_append]
  repeat' (first | (refine tl_is (.func 44) ?_; refine qC rfl rfl (lives_dead _ _ _ _ _ _ _ _) ?_; rintro v ρ' L' hle ⟨rfl, rfl, rfl⟩ <;> (try simp only [List.cons_append, List.nil_append, List.append_eq])) | (refine i_op ?_; first | (refine iMv ?_; refine qMv ?_) | (refine iLd ?_; refine qLd ?_) | (refine iFa ?_; refine qFa ?_) | (refine iAd ?_; refine qAd ?_) | (refine iSb ?_; refine qSb ?_) | (refine iMl ?_; refine qMl ?_) | (refine iRm ?_; refine qRm ?_) | (refine iQu ?_; refine qQu ?_) | (refine iSr ?_; refine qSr ?_) | (refine iSh ?_; refine qSh ?_) | (refine iCm ?_; refine qCm ?_) | (refine iEx ?_; refine qEx ?_) | (refine iAs ?_; refine qAs ?_) | (refine iPk ?_; refine qPk ?_) | (refine iNc ?_; refine qNc ?_) | (refine iIa ?_; refine qIa ?_) | (refine iCv ?_; refine qCv ?_) | (refine iBi ?_; refine qBi ?_) | (refine iUn ?_; refine qUn ?_) | (refine iFl ?_; refine qFl ?_) | (refine iLu ?_; refine qLu ?_) | (refine iBu ?_; refine qBu ?_) | (refine iSl ?_; refine qSl ?_) | (refine iMf ?_; refine qMf ?_) | (refine iMi ?_; refine qMi ?_) | (refine iTa ?_; refine qTa ?_) | (refine iSt ?_; refine qSt ?_) | (refine iAl ?_; first | refine qAlA (fun _ => ?_) | refine qAlS (fun _ => ?_)) | (refine iBx ?_; first | refine qBxA (fun _ => ?_) | refine qBxS (fun _ => ?_)) | (refine iMm ?_; refine qMm (fun _ => ?_)) | (refine iBs ?_; refine qBs (fun _ => ?_)) | (refine i_gd ?_; first | refine qWant ?_ | refine qSkip ?_ | refine qSkip0 ?_ | refine qSkipU ?_)) | refine tl_nil ?_ | refine tc_seq ?_ | refine tc_region ?_ | refine te_seq ?_ | (refine i_cond ?_; first | refine qCt ?_ | refine qCf ?_) | refine tc_block ?_ | refine te_block_normal ?_ | refine te_block_ret ?_ | refine te_then_ret ?_ | refine te_block_hit ?_ | (refine i_miss ?_; refine qMiss ?_) | refine te_then_exit ?_ | refine tc_exit ?_ | refine tc_ret ?_ | refine tc_skip ?_)
  exact qE ⟨rfl, rfl, rfl⟩
theorem does_nil (ρ : Hp) (i : Int) (d l : Value) : Spec Try.prog 34 [.pointer none, .int .i64 i, d, l] ρ [] (fun v ρ' L' => v = .int .i64 1 ∧ ρ' = ρ ∧ L' = []) := by
  refine spec_enter Try.func34 rfl rfl rfl fun u R => ?_
  simp only [argsE, List.cons_append, List.nil_append]
  repeat' (first | (refine tl_is (.func 44) ?_; refine qC rfl rfl (lives_nil _) ?_; rintro v ρ' L' hle ⟨rfl, rfl, rfl⟩ <;> (try simp only [List.cons_append, List.nil_append, List.append_eq])) | (refine i_op ?_; first | (refine iMv ?_; refine qMv ?_) | (refine iLd ?_; refine qLd ?_) | (refine iFa ?_; refine qFa ?_) | (refine iAd ?_; refine qAd ?_) | (refine iSb ?_; refine qSb ?_) | (refine iMl ?_; refine qMl ?_) | (refine iRm ?_; refine qRm ?_) | (refine iQu ?_; refine qQu ?_) | (refine iSr ?_; refine qSr ?_) | (refine iSh ?_; refine qSh ?_) | (refine iCm ?_; refine qCm ?_) | (refine iEx ?_; refine qEx ?_) | (refine iAs ?_; refine qAs ?_) | (refine iPk ?_; refine qPk ?_) | (refine iNc ?_; refine qNc ?_) | (refine iIa ?_; refine qIa ?_) | (refine iCv ?_; refine qCv ?_) | (refine iBi ?_; refine qBi ?_) | (refine iUn ?_; refine qUn ?_) | (refine iFl ?_; refine qFl ?_) | (refine iLu ?_; refine qLu ?_) | (refine iBu ?_; refine qBu ?_) | (refine iSl ?_; refine qSl ?_) | (refine iMf ?_; refine qMf ?_) | (refine iMi ?_; refine qMi ?_) | (refine iTa ?_; refine qTa ?_) | (refine iSt ?_; refine qSt ?_) | (refine iAl ?_; first | refine qAlA (fun _ => ?_) | refine qAlS (fun _ => ?_)) | (refine iBx ?_; first | refine qBxA (fun _ => ?_) | refine qBxS (fun _ => ?_)) | (refine iMm ?_; refine qMm (fun _ => ?_)) | (refine iBs ?_; refine qBs (fun _ => ?_)) | (refine i_gd ?_; first | refine qWant ?_ | refine qSkip ?_ | refine qSkip0 ?_ | refine qSkipU ?_)) | refine tl_nil ?_ | refine tc_seq ?_ | refine tc_region ?_ | refine te_seq ?_ | (refine i_cond ?_; first | refine qCt ?_ | refine qCf ?_) | refine tc_block ?_ | refine te_block_normal ?_ | refine te_block_ret ?_ | refine te_then_ret ?_ | refine te_block_hit ?_ | (refine i_miss ?_; refine qMiss ?_) | refine te_then_exit ?_ | refine tc_exit ?_ | refine tc_ret ?_ | refine tc_skip ?_)
  exact qE ⟨rfl, rfl, rfl⟩
theorem does_arg (ρ : Hp) (b : Nat) (hb : HB) (mb n : Nat) (ops armed failing i : Int) (d l : Value) (hi : i < 0 ∨ (n : Int) ≤ i) : Spec Try.prog 34 [.pointer (some ⟨b, 0, none⟩), .int .i64 i, d, l] ρ [[(b, dO hb mb n ops armed failing false)]]
    (fun v ρ' L' => v = .int .i64 2 ∧ ρ' = ρ ∧ L' = [[(b, dO hb mb n ops armed failing false)]]) := by
  refine spec_enter Try.func34 rfl rfl rfl fun u R => ?_
  simp only [argsE, List.cons_append, List.nil_append]
  by_cases h0 : i < 0
  · repeat' (first | (refine tl_is (.func 44) ?_; refine qC rfl rfl (lives_ok _ _ _ _ _ _ _ _) ?_; rintro v ρ' L' hle ⟨rfl, rfl, rfl⟩ <;> (try simp only [List.cons_append, List.nil_append, List.append_eq, dO])) | (refine i_op ?_; first | (refine iMv ?_; refine qMv ?_) | (refine iLd ?_; refine qLd ?_) | (refine iFa ?_; refine qFa ?_) | (refine iAd ?_; refine qAd ?_) | (refine iSb ?_; refine qSb ?_) | (refine iMl ?_; refine qMl ?_) | (refine iRm ?_; refine qRm ?_) | (refine iQu ?_; refine qQu ?_) | (refine iSr ?_; refine qSr ?_) | (refine iSh ?_; refine qSh ?_) | (refine iCm ?_; refine qCm ?_) | (refine iEx ?_; refine qEx ?_) | (refine iAs ?_; refine qAs ?_) | (refine iPk ?_; refine qPk ?_) | (refine iNc ?_; refine qNc ?_) | (refine iIa ?_; refine qIa ?_) | (refine iCv ?_; refine qCv ?_) | (refine iBi ?_; refine qBi ?_) | (refine iUn ?_; refine qUn ?_) | (refine iFl ?_; refine qFl ?_) | (refine iLu ?_; refine qLu ?_) | (refine iBu ?_; refine qBu ?_) | (refine iSl ?_; refine qSl ?_) | (refine iMf ?_; refine qMf ?_) | (refine iMi ?_; refine qMi ?_) | (refine iTa ?_; refine qTa ?_) | (refine iSt ?_; refine qSt ?_) | (refine iAl ?_; first | refine qAlA (fun _ => ?_) | refine qAlS (fun _ => ?_)) | (refine iBx ?_; first | refine qBxA (fun _ => ?_) | refine qBxS (fun _ => ?_)) | (refine iMm ?_; refine qMm (fun _ => ?_)) | (refine iBs ?_; refine qBs (fun _ => ?_)) | (refine i_gd ?_; first | refine qWant ?_ | refine qSkip ?_ | refine qSkip0 ?_ | refine qSkipU ?_)) | refine tl_nil ?_ | refine tc_seq ?_ | refine tc_region ?_ | refine te_seq ?_ | (refine i_cond ?_; first | refine qCt ?_ | refine qCf ?_) | refine tc_block ?_ | refine te_block_normal ?_ | refine te_block_ret ?_ | refine te_then_ret ?_ | refine te_block_hit ?_ | (refine i_miss ?_; refine qMiss ?_) | refine te_then_exit ?_ | refine tc_exit ?_ | refine tc_ret ?_ | refine tc_skip ?_)
    exact qE ⟨rfl, rfl, rfl⟩
  · repeat' (first | (refine tl_is (.func 44) ?_; refine qC rfl rfl (lives_ok _ _ _ _ _ _ _ _) ?_; rintro v ρ' L' hle ⟨rfl, rfl, rfl⟩ <;> (try simp only [List.cons_append, List.nil_append, List.append_eq, dO])) | (refine i_op ?_; first | (refine iMv ?_; refine qMv ?_) | (refine iLd ?_; refine qLd ?_) | (refine iFa ?_; refine qFa ?_) | (refine iAd ?_; refine qAd ?_) | (refine iSb ?_; refine qSb ?_) | (refine iMl ?_; refine qMl ?_) | (refine iRm ?_; refine qRm ?_) | (refine iQu ?_; refine qQu ?_) | (refine iSr ?_; refine qSr ?_) | (refine iSh ?_; refine qSh ?_) | (refine iCm ?_; refine qCm ?_) | (refine iEx ?_; refine qEx ?_) | (refine iAs ?_; refine qAs ?_) | (refine iPk ?_; refine qPk ?_) | (refine iNc ?_; refine qNc ?_) | (refine iIa ?_; refine qIa ?_) | (refine iCv ?_; refine qCv ?_) | (refine iBi ?_; refine qBi ?_) | (refine iUn ?_; refine qUn ?_) | (refine iFl ?_; refine qFl ?_) | (refine iLu ?_; refine qLu ?_) | (refine iBu ?_; refine qBu ?_) | (refine iSl ?_; refine qSl ?_) | (refine iMf ?_; refine qMf ?_) | (refine iMi ?_; refine qMi ?_) | (refine iTa ?_; refine qTa ?_) | (refine iSt ?_; refine qSt ?_) | (refine iAl ?_; first | refine qAlA (fun _ => ?_) | refine qAlS (fun _ => ?_)) | (refine iBx ?_; first | refine qBxA (fun _ => ?_) | refine qBxS (fun _ => ?_)) | (refine iMm ?_; refine qMm (fun _ => ?_)) | (refine iBs ?_; refine qBs (fun _ => ?_)) | (refine i_gd ?_; first | refine qWant ?_ | refine qSkip ?_ | refine qSkip0 ?_ | refine qSkipU ?_)) | refine tl_nil ?_ | refine tc_seq ?_ | refine tc_region ?_ | refine te_seq ?_ | (refine i_cond ?_; first | refine qCt ?_ | refine qCf ?_) | refine tc_block ?_ | refine te_block_normal ?_ | refine te_block_ret ?_ | refine te_then_ret ?_ | refine te_block_hit ?_ | (refine i_miss ?_; refine qMiss ?_) | refine te_then_exit ?_ | refine tc_exit ?_ | refine tc_ret ?_ | refine tc_skip ?_)
    exact qE ⟨rfl, rfl, rfl⟩
theorem does_ok_r (ρ : Hp) (b : Nat) (hb : HB) (mb n : Nat) (ops armed failing i : Int) (kd : Nat) (cd : List Value) (X : SH) (Post : Value → Hp → SH → Prop) (h0 : 0 ≤ i) (h1 : i < n) (hf : failing ≠ 0) (hf1 : -1 ≤ failing) (hf2 : failing ≤ 9223372036854775807) [hF : Fun Try.prog kd]
    (hd : Spec Try.prog kd cd ρ ([(b, dO hb mb n (IntKind.i64.wrap (ops + 1)) armed (max (failing - 1) (-1)) false)] :: X) Post) :
    Spec Try.prog 34 [.pointer (some ⟨b, 0, none⟩), .int .i64 i, .func (.func kd) ⟨[]⟩ ⟨cd⟩, .nilFunc] ρ ([(b, dO hb mb n ops armed failing false)] :: X) (fun v ρ' L' => v = .int .i64 0 ∧ ∃ v0, Post v0 ρ' L') := by
  refine spec_enter Try.func34 rfl rfl rfl fun u R => ?_
  simp only [argsE, List.cons_append, List.nil_append]
  repeat' (first | (refine tl_is (.func 44) ?_; refine qC rfl rfl (lives_ok _ _ _ _ _ _ _ _) ?_; rintro v ρ' L' hle ⟨rfl, rfl, rfl⟩ <;> (try simp only [List.cons_append, List.nil_append, List.append_eq, dO])) | (refine i_op ?_; first | (refine iMv ?_; refine qMv ?_) | (refine iLd ?_; refine qLd ?_) | (refine iFa ?_; refine qFa ?_) | (refine iAd ?_; refine qAd ?_) | (refine iSb ?_; refine qSb ?_) | (refine iMl ?_; refine qMl ?_) | (refine iRm ?_; refine qRm ?_) | (refine iQu ?_; refine qQu ?_) | (refine iSr ?_; refine qSr ?_) | (refine iSh ?_; refine qSh ?_) | (refine iCm ?_; refine qCm ?_) | (refine iEx ?_; refine qEx ?_) | (refine iAs ?_; refine qAs ?_) | (refine iPk ?_; refine qPk ?_) | (refine iNc ?_; refine qNc ?_) | (refine iIa ?_; refine qIa ?_) | (refine iCv ?_; refine qCv ?_) | (refine iBi ?_; refine qBi ?_) | (refine iUn ?_; refine qUn ?_) | (refine iFl ?_; refine qFl ?_) | (refine iLu ?_; refine qLu ?_) | (refine iBu ?_; refine qBu ?_) | (refine iSl ?_; refine qSl ?_) | (refine iMf ?_; refine qMf ?_) | (refine iMi ?_; refine qMi ?_) | (refine iTa ?_; refine qTa ?_) | (refine iSt ?_; refine qSt ?_) | (refine iAl ?_; first | refine qAlA (fun _ => ?_) | refine qAlS (fun _ => ?_)) | (refine iBx ?_; first | refine qBxA (fun _ => ?_) | refine qBxS (fun _ => ?_)) | (refine iMm ?_; refine qMm (fun _ => ?_)) | (refine iBs ?_; refine qBs (fun _ => ?_)) | (refine i_gd ?_; first | refine qWant ?_ | refine qSkip ?_ | refine qSkip0 ?_ | refine qSkipU ?_)) | refine tl_nil ?_ | refine tc_seq ?_ | refine tc_region ?_ | refine te_seq ?_ | (refine i_cond ?_; first | refine qCt ?_ | refine qCf ?_) | refine tc_block ?_ | refine te_block_normal ?_ | refine te_block_ret ?_ | refine te_then_ret ?_ | refine te_block_hit ?_ | (refine i_miss ?_; refine qMiss ?_) | refine te_then_exit ?_ | refine tc_exit ?_ | refine tc_ret ?_ | refine tc_skip ?_)
  have hfb : (failing == 0) = false := by simpa using hf
  refine tc_any (Stays _ _ ([])) (stays_of (Hp.le_refl _)) ?_
  all_goals refine rMv 0 ?_
  all_goals refine rNc 1 ?_
  all_goals refine rFa 2 ?_
  all_goals refine rMv 4 ?_
  all_goals (first | refine rAd 5 ?_ | refine rSb 5 ?_ | refine rMl 5 ?_ | refine rRm 5 ?_ | refine rQu 5 ?_ | refine rSr 5 ?_ | refine rSh 5 ?_ | refine rCm 5 ?_)
  all_goals (refine rStep (i := 3) ?_; ((try refine qWant ?_); (first | (refine tl_is (.func 55) ?_; refine qC rfl rfl (counts_dO4 _ _ _ _ _ _ _ _ _ hf1 hf2) ?_; rintro v ρ' L' hle ⟨rfl, rfl, rfl⟩ <;> (try simp only [List.cons_append, List.nil_append, List.append_eq, dO, hfb])) | (refine iSt ?_; refine qSt ?_) | (refine iAl ?_; first | refine qAlA (fun _ => ?_) | refine qAlS (fun _ => ?_)) | (refine iBx ?_; first | refine qBxA (fun _ => ?_) | refine qBxS (fun _ => ?_)) | (refine iMm ?_; refine qMm (fun _ => ?_)) | (refine iBs ?_; refine qBs (fun _ => ?_))); (try simp only [List.cons_append, List.nil_append, List.append_eq]); refine tl_nil ?_; refine rNext ?_))
  all_goals refine rFull ?_
  all_goals refine rMv 6 ?_
  all_goals (first | refine wSkip 7 ?_ | refine wSkipU 7 ?_ | refine wMv 7 ?_ | (refine tr_guard (t := 41) rfl (fun hb => ?_) (fun hb => ?_) <;> (try simp only [decide_eq_true_eq, decide_eq_false_iff_not, Bool.not_eq_true, Bool.not_eq_false, beq_iff_eq, bne_iff_ne, ne_eq, Bool.not_eq_eq_eq_not, Bool.not_true, Bool.not_false, beq_eq_false_iff_ne, bne_eq_false_iff_eq] at hb) <;> first | refine wSkip 7 ?_ | refine wSkipU 7 ?_ | refine wMv 7 ?_))
  all_goals (first | refine wSkip 8 ?_ | refine wSkipU 8 ?_ | refine wNc 8 ?_ | (refine tr_guard (t := 41) rfl (fun hb => ?_) (fun hb => ?_) <;> (try simp only [decide_eq_true_eq, decide_eq_false_iff_not, Bool.not_eq_true, Bool.not_eq_false, beq_iff_eq, bne_iff_ne, ne_eq, Bool.not_eq_eq_eq_not, Bool.not_true, Bool.not_false, beq_eq_false_iff_ne, bne_eq_false_iff_eq] at hb) <;> first | refine wSkip 8 ?_ | refine wSkipU 8 ?_ | refine wNc 8 ?_))
  all_goals (first | refine wSkip 9 ?_ | refine wSkipU 9 ?_ | refine wFa 9 ?_ | (refine tr_guard (t := 41) rfl (fun hb => ?_) (fun hb => ?_) <;> (try simp only [decide_eq_true_eq, decide_eq_false_iff_not, Bool.not_eq_true, Bool.not_eq_false, beq_iff_eq, bne_iff_ne, ne_eq, Bool.not_eq_eq_eq_not, Bool.not_true, Bool.not_false, beq_eq_false_iff_ne, bne_eq_false_iff_eq] at hb) <;> first | refine wSkip 9 ?_ | refine wSkipU 9 ?_ | refine wFa 9 ?_))
  all_goals (first | refine wSkip 10 ?_ | refine wSkipU 10 ?_ | refine wLd 10 ?_ | (refine tr_guard (t := 41) rfl (fun hb => ?_) (fun hb => ?_) <;> (try simp only [decide_eq_true_eq, decide_eq_false_iff_not, Bool.not_eq_true, Bool.not_eq_false, beq_iff_eq, bne_iff_ne, ne_eq, Bool.not_eq_eq_eq_not, Bool.not_true, Bool.not_false, beq_eq_false_iff_ne, bne_eq_false_iff_eq] at hb) <;> first | refine wSkip 10 ?_ | refine wSkipU 10 ?_ | refine wLd 10 ?_))
  all_goals (first | refine wSkip 11 ?_ | refine wSkipU 11 ?_ | refine wAd 11 ?_ | refine wSb 11 ?_ | refine wMl 11 ?_ | refine wRm 11 ?_ | refine wQu 11 ?_ | refine wSr 11 ?_ | refine wSh 11 ?_ | refine wCm 11 ?_ | (refine tr_guard (t := 41) rfl (fun hb => ?_) (fun hb => ?_) <;> (try simp only [decide_eq_true_eq, decide_eq_false_iff_not, Bool.not_eq_true, Bool.not_eq_false, beq_iff_eq, bne_iff_ne, ne_eq, Bool.not_eq_eq_eq_not, Bool.not_true, Bool.not_false, beq_eq_false_iff_ne, bne_eq_false_iff_eq] at hb) <;> first | refine wSkip 11 ?_ | refine wSkipU 11 ?_ | refine wAd 11 ?_ | refine wSb 11 ?_ | refine wMl 11 ?_ | refine wRm 11 ?_ | refine wQu 11 ?_ | refine wSr 11 ?_ | refine wSh 11 ?_ | refine wCm 11 ?_))
  all_goals refine rPk 12 ?_
  all_goals refine rAs 13 ?_
  all_goals refine rAs 14 ?_
  all_goals refine rDone ?_
  unfold dO at hd
  repeat' (first | (refine tl_is (.tmp 65) ?_; refine tl_call rfl rfl hd tk rfl ?_; rintro v ρ' L' hle hp) | (refine i_op ?_; first | (refine iMv ?_; refine qMv ?_) | (refine iLd ?_; refine qLd ?_) | (refine iFa ?_; refine qFa ?_) | (refine iAd ?_; refine qAd ?_) | (refine iSb ?_; refine qSb ?_) | (refine iMl ?_; refine qMl ?_) | (refine iRm ?_; refine qRm ?_) | (refine iQu ?_; refine qQu ?_) | (refine iSr ?_; refine qSr ?_) | (refine iSh ?_; refine qSh ?_) | (refine iCm ?_; refine qCm ?_) | (refine iEx ?_; refine qEx ?_) | (refine iAs ?_; refine qAs ?_) | (refine iPk ?_; refine qPk ?_) | (refine iNc ?_; refine qNc ?_) | (refine iIa ?_; refine qIa ?_) | (refine iCv ?_; refine qCv ?_) | (refine iBi ?_; refine qBi ?_) | (refine iUn ?_; refine qUn ?_) | (refine iFl ?_; refine qFl ?_) | (refine iLu ?_; refine qLu ?_) | (refine iBu ?_; refine qBu ?_) | (refine iSl ?_; refine qSl ?_) | (refine iMf ?_; refine qMf ?_) | (refine iMi ?_; refine qMi ?_) | (refine iTa ?_; refine qTa ?_) | (refine iSt ?_; refine qSt ?_) | (refine iAl ?_; first | refine qAlA (fun _ => ?_) | refine qAlS (fun _ => ?_)) | (refine iBx ?_; first | refine qBxA (fun _ => ?_) | refine qBxS (fun _ => ?_)) | (refine iMm ?_; refine qMm (fun _ => ?_)) | (refine iBs ?_; refine qBs (fun _ => ?_)) | (refine i_gd ?_; first | refine qWant ?_ | refine qSkip ?_ | refine qSkip0 ?_ | refine qSkipU ?_)) | refine tl_nil ?_ | refine tc_seq ?_ | refine tc_region ?_ | refine te_seq ?_ | (refine i_cond ?_; first | refine qCt ?_ | refine qCf ?_) | refine tc_block ?_ | refine te_block_normal ?_ | refine te_block_ret ?_ | refine te_then_ret ?_ | refine te_block_hit ?_ | (refine i_miss ?_; refine qMiss ?_) | refine te_then_exit ?_ | refine tc_exit ?_ | refine tc_ret ?_ | refine tc_skip ?_)
  exact qE ⟨rfl, _, hp⟩
theorem does_ok_w (ρ : Hp) (b : Nat) (hb : HB) (mb n : Nat) (ops armed failing i : Int) (kd kl : Nat) (cd cl : List Value) (X : SH) (Post : Value → Hp → SH → Prop) (h0 : 0 ≤ i) (h1 : i < n) (hf : failing ≠ 0) (hf1 : -1 ≤ failing) (hf2 : failing ≤ 9223372036854775807)
    (ha : armed ≠ 0) (ha1 : -1 ≤ armed) (ha2 : armed ≤ 9223372036854775807) [hF : Fun Try.prog kd]
    (hd : Spec Try.prog kd cd ρ ([(b, dO hb mb n (IntKind.i64.wrap (ops + 1)) (max (armed - 1) (-1)) (max (failing - 1) (-1)) false)] :: X) Post) :
    Spec Try.prog 34 [.pointer (some ⟨b, 0, none⟩), .int .i64 i, .func (.func kd) ⟨[]⟩ ⟨cd⟩, .func (.func kl) ⟨[]⟩ ⟨cl⟩] ρ ([(b, dO hb mb n ops armed failing false)] :: X) (fun v ρ' L' => v = .int .i64 0 ∧ ∃ v0, Post v0 ρ' L') := by
  refine spec_enter Try.func34 rfl rfl rfl fun u R => ?_
  simp only [argsE, List.cons_append, List.nil_append]
  repeat' (first | (refine tl_is (.func 44) ?_; refine qC rfl rfl (lives_ok _ _ _ _ _ _ _ _) ?_; rintro v ρ' L' hle ⟨rfl, rfl, rfl⟩ <;> (try simp only [List.cons_append, List.nil_append, List.append_eq, dO])) | (refine i_op ?_; first | (refine iMv ?_; refine qMv ?_) | (refine iLd ?_; refine qLd ?_) | (refine iFa ?_; refine qFa ?_) | (refine iAd ?_; refine qAd ?_) | (refine iSb ?_; refine qSb ?_) | (refine iMl ?_; refine qMl ?_) | (refine iRm ?_; refine qRm ?_) | (refine iQu ?_; refine qQu ?_) | (refine iSr ?_; refine qSr ?_) | (refine iSh ?_; refine qSh ?_) | (refine iCm ?_; refine qCm ?_) | (refine iEx ?_; refine qEx ?_) | (refine iAs ?_; refine qAs ?_) | (refine iPk ?_; refine qPk ?_) | (refine iNc ?_; refine qNc ?_) | (refine iIa ?_; refine qIa ?_) | (refine iCv ?_; refine qCv ?_) | (refine iBi ?_; refine qBi ?_) | (refine iUn ?_; refine qUn ?_) | (refine iFl ?_; refine qFl ?_) | (refine iLu ?_; refine qLu ?_) | (refine iBu ?_; refine qBu ?_) | (refine iSl ?_; refine qSl ?_) | (refine iMf ?_; refine qMf ?_) | (refine iMi ?_; refine qMi ?_) | (refine iTa ?_; refine qTa ?_) | (refine iSt ?_; refine qSt ?_) | (refine iAl ?_; first | refine qAlA (fun _ => ?_) | refine qAlS (fun _ => ?_)) | (refine iBx ?_; first | refine qBxA (fun _ => ?_) | refine qBxS (fun _ => ?_)) | (refine iMm ?_; refine qMm (fun _ => ?_)) | (refine iBs ?_; refine qBs (fun _ => ?_)) | (refine i_gd ?_; first | refine qWant ?_ | refine qSkip ?_ | refine qSkip0 ?_ | refine qSkipU ?_)) | refine tl_nil ?_ | refine tc_seq ?_ | refine tc_region ?_ | refine te_seq ?_ | (refine i_cond ?_; first | refine qCt ?_ | refine qCf ?_) | refine tc_block ?_ | refine te_block_normal ?_ | refine te_block_ret ?_ | refine te_then_ret ?_ | refine te_block_hit ?_ | (refine i_miss ?_; refine qMiss ?_) | refine te_then_exit ?_ | refine tc_exit ?_ | refine tc_ret ?_ | refine tc_skip ?_)
  have hfb : (failing == 0) = false := by simpa using hf
  refine tc_any (Stays _ _ ([])) (stays_of (Hp.le_refl _)) ?_
  all_goals refine rMv 0 ?_
  all_goals refine rNc 1 ?_
  all_goals refine rFa 2 ?_
  all_goals refine rMv 4 ?_
  all_goals (first | refine rAd 5 ?_ | refine rSb 5 ?_ | refine rMl 5 ?_ | refine rRm 5 ?_ | refine rQu 5 ?_ | refine rSr 5 ?_ | refine rSh 5 ?_ | refine rCm 5 ?_)
  all_goals (refine rStep (i := 3) ?_; ((try refine qWant ?_); (first | (refine tl_is (.func 55) ?_; refine qC rfl rfl (counts_dO4 _ _ _ _ _ _ _ _ _ hf1 hf2) ?_; rintro v ρ' L' hle ⟨rfl, rfl, rfl⟩ <;> (try simp only [List.cons_append, List.nil_append, List.append_eq, dO, hfb])) | (refine iSt ?_; refine qSt ?_) | (refine iAl ?_; first | refine qAlA (fun _ => ?_) | refine qAlS (fun _ => ?_)) | (refine iBx ?_; first | refine qBxA (fun _ => ?_) | refine qBxS (fun _ => ?_)) | (refine iMm ?_; refine qMm (fun _ => ?_)) | (refine iBs ?_; refine qBs (fun _ => ?_))); (try simp only [List.cons_append, List.nil_append, List.append_eq]); refine tl_nil ?_; refine rNext ?_))
  all_goals refine rFull ?_
  all_goals refine rMv 6 ?_
  all_goals (first | refine wSkip 7 ?_ | refine wSkipU 7 ?_ | refine wMv 7 ?_ | (refine tr_guard (t := 41) rfl (fun hb => ?_) (fun hb => ?_) <;> (try simp only [decide_eq_true_eq, decide_eq_false_iff_not, Bool.not_eq_true, Bool.not_eq_false, beq_iff_eq, bne_iff_ne, ne_eq, Bool.not_eq_eq_eq_not, Bool.not_true, Bool.not_false, beq_eq_false_iff_ne, bne_eq_false_iff_eq] at hb) <;> first | refine wSkip 7 ?_ | refine wSkipU 7 ?_ | refine wMv 7 ?_))
  all_goals (first | refine wSkip 8 ?_ | refine wSkipU 8 ?_ | refine wNc 8 ?_ | (refine tr_guard (t := 41) rfl (fun hb => ?_) (fun hb => ?_) <;> (try simp only [decide_eq_true_eq, decide_eq_false_iff_not, Bool.not_eq_true, Bool.not_eq_false, beq_iff_eq, bne_iff_ne, ne_eq, Bool.not_eq_eq_eq_not, Bool.not_true, Bool.not_false, beq_eq_false_iff_ne, bne_eq_false_iff_eq] at hb) <;> first | refine wSkip 8 ?_ | refine wSkipU 8 ?_ | refine wNc 8 ?_))
  all_goals (first | refine wSkip 9 ?_ | refine wSkipU 9 ?_ | refine wFa 9 ?_ | (refine tr_guard (t := 41) rfl (fun hb => ?_) (fun hb => ?_) <;> (try simp only [decide_eq_true_eq, decide_eq_false_iff_not, Bool.not_eq_true, Bool.not_eq_false, beq_iff_eq, bne_iff_ne, ne_eq, Bool.not_eq_eq_eq_not, Bool.not_true, Bool.not_false, beq_eq_false_iff_ne, bne_eq_false_iff_eq] at hb) <;> first | refine wSkip 9 ?_ | refine wSkipU 9 ?_ | refine wFa 9 ?_))
  all_goals (first | refine wSkip 10 ?_ | refine wSkipU 10 ?_ | refine wLd 10 ?_ | (refine tr_guard (t := 41) rfl (fun hb => ?_) (fun hb => ?_) <;> (try simp only [decide_eq_true_eq, decide_eq_false_iff_not, Bool.not_eq_true, Bool.not_eq_false, beq_iff_eq, bne_iff_ne, ne_eq, Bool.not_eq_eq_eq_not, Bool.not_true, Bool.not_false, beq_eq_false_iff_ne, bne_eq_false_iff_eq] at hb) <;> first | refine wSkip 10 ?_ | refine wSkipU 10 ?_ | refine wLd 10 ?_))
  all_goals (first | refine wSkip 11 ?_ | refine wSkipU 11 ?_ | refine wAd 11 ?_ | refine wSb 11 ?_ | refine wMl 11 ?_ | refine wRm 11 ?_ | refine wQu 11 ?_ | refine wSr 11 ?_ | refine wSh 11 ?_ | refine wCm 11 ?_ | (refine tr_guard (t := 41) rfl (fun hb => ?_) (fun hb => ?_) <;> (try simp only [decide_eq_true_eq, decide_eq_false_iff_not, Bool.not_eq_true, Bool.not_eq_false, beq_iff_eq, bne_iff_ne, ne_eq, Bool.not_eq_eq_eq_not, Bool.not_true, Bool.not_false, beq_eq_false_iff_ne, bne_eq_false_iff_eq] at hb) <;> first | refine wSkip 11 ?_ | refine wSkipU 11 ?_ | refine wAd 11 ?_ | refine wSb 11 ?_ | refine wMl 11 ?_ | refine wRm 11 ?_ | refine wQu 11 ?_ | refine wSr 11 ?_ | refine wSh 11 ?_ | refine wCm 11 ?_))
  all_goals refine rPk 12 ?_
  all_goals refine rAs 13 ?_
  all_goals refine rAs 14 ?_
  all_goals refine rDone ?_
  unfold dO at hd
  repeat' (first | (refine tl_is (.func 55) ?_; refine qC rfl rfl (counts_dO3 _ _ _ _ _ _ _ _ _ ha1 ha2) ?_; rintro v ρ' L' hle ⟨rfl, rfl, rfl⟩ <;> (try simp only [List.cons_append, List.nil_append, List.append_eq, dO])) | (refine tl_is (.tmp 65) ?_; refine tl_call rfl rfl hd tk rfl ?_; rintro v ρ' L' hle hp) | (refine i_op ?_; first | (refine iMv ?_; refine qMv ?_) | (refine iLd ?_; refine qLd ?_) | (refine iFa ?_; refine qFa ?_) | (refine iAd ?_; refine qAd ?_) | (refine iSb ?_; refine qSb ?_) | (refine iMl ?_; refine qMl ?_) | (refine iRm ?_; refine qRm ?_) | (refine iQu ?_; refine qQu ?_) | (refine iSr ?_; refine qSr ?_) | (refine iSh ?_; refine qSh ?_) | (refine iCm ?_; refine qCm ?_) | (refine iEx ?_; refine qEx ?_) | (refine iAs ?_; refine qAs ?_) | (refine iPk ?_; refine qPk ?_) | (refine iNc ?_; refine qNc ?_) | (refine iIa ?_; refine qIa ?_) | (refine iCv ?_; refine qCv ?_) | (refine iBi ?_; refine qBi ?_) | (refine iUn ?_; refine qUn ?_) | (refine iFl ?_; refine qFl ?_) | (refine iLu ?_; refine qLu ?_) | (refine iBu ?_; refine qBu ?_) | (refine iSl ?_; refine qSl ?_) | (refine iMf ?_; refine qMf ?_) | (refine iMi ?_; refine qMi ?_) | (refine iTa ?_; refine qTa ?_) | (refine iSt ?_; refine qSt ?_) | (refine iAl ?_; first | refine qAlA (fun _ => ?_) | refine qAlS (fun _ => ?_)) | (refine iBx ?_; first | refine qBxA (fun _ => ?_) | refine qBxS (fun _ => ?_)) | (refine iMm ?_; refine qMm (fun _ => ?_)) | (refine iBs ?_; refine qBs (fun _ => ?_)) | (refine i_gd ?_; first | refine qWant ?_ | refine qSkip ?_ | refine qSkip0 ?_ | refine qSkipU ?_)) | refine tl_nil ?_ | refine tc_seq ?_ | refine tc_region ?_ | refine te_seq ?_ | (refine i_cond ?_; first | refine qCt ?_ | refine qCf ?_) | refine tc_block ?_ | refine te_block_normal ?_ | refine te_block_ret ?_ | refine te_then_ret ?_ | refine te_block_hit ?_ | (refine i_miss ?_; refine qMiss ?_) | refine te_then_exit ?_ | refine tc_exit ?_ | refine tc_ret ?_ | refine tc_skip ?_)
  exact qE ⟨rfl, _, hp⟩
theorem does_fail_r (ρ : Hp) (b : Nat) (hb : HB) (mb n : Nat) (ops armed i : Int) (d : Value) (h0 : 0 ≤ i) (h1 : i < n) :
    Spec Try.prog 34 [.pointer (some ⟨b, 0, none⟩), .int .i64 i, d, .nilFunc] ρ [[(b, dO hb mb n ops armed 0 false)]] (fun v ρ' L' => v = .int .i64 8 ∧ ρ' = ρ ∧ L' = [[(b, dO hb mb n (IntKind.i64.wrap (ops + 1)) armed (-1) false)]]) := by
  refine spec_enter Try.func34 rfl rfl rfl fun u R => ?_
  simp only [argsE, List.cons_append, List.nil_append]
  repeat' (first | (refine tl_is (.func 44) ?_; refine qC rfl rfl (lives_ok _ _ _ _ _ _ _ _) ?_; rintro v ρ' L' hle ⟨rfl, rfl, rfl⟩ <;> (try simp only [List.cons_append, List.nil_append, List.append_eq, dO])) | (refine i_op ?_; first | (refine iMv ?_; refine qMv ?_) | (refine iLd ?_; refine qLd ?_) | (refine iFa ?_; refine qFa ?_) | (refine iAd ?_; refine qAd ?_) | (refine iSb ?_; refine qSb ?_) | (refine iMl ?_; refine qMl ?_) | (refine iRm ?_; refine qRm ?_) | (refine iQu ?_; refine qQu ?_) | (refine iSr ?_; refine qSr ?_) | (refine iSh ?_; refine qSh ?_) | (refine iCm ?_; refine qCm ?_) | (refine iEx ?_; refine qEx ?_) | (refine iAs ?_; refine qAs ?_) | (refine iPk ?_; refine qPk ?_) | (refine iNc ?_; refine qNc ?_) | (refine iIa ?_; refine qIa ?_) | (refine iCv ?_; refine qCv ?_) | (refine iBi ?_; refine qBi ?_) | (refine iUn ?_; refine qUn ?_) | (refine iFl ?_; refine qFl ?_) | (refine iLu ?_; refine qLu ?_) | (refine iBu ?_; refine qBu ?_) | (refine iSl ?_; refine qSl ?_) | (refine iMf ?_; refine qMf ?_) | (refine iMi ?_; refine qMi ?_) | (refine iTa ?_; refine qTa ?_) | (refine iSt ?_; refine qSt ?_) | (refine iAl ?_; first | refine qAlA (fun _ => ?_) | refine qAlS (fun _ => ?_)) | (refine iBx ?_; first | refine qBxA (fun _ => ?_) | refine qBxS (fun _ => ?_)) | (refine iMm ?_; refine qMm (fun _ => ?_)) | (refine iBs ?_; refine qBs (fun _ => ?_)) | (refine i_gd ?_; first | refine qWant ?_ | refine qSkip ?_ | refine qSkip0 ?_ | refine qSkipU ?_)) | refine tl_nil ?_ | refine tc_seq ?_ | refine tc_region ?_ | refine te_seq ?_ | (refine i_cond ?_; first | refine qCt ?_ | refine qCf ?_) | refine tc_block ?_ | refine te_block_normal ?_ | refine te_block_ret ?_ | refine te_then_ret ?_ | refine te_block_hit ?_ | (refine i_miss ?_; refine qMiss ?_) | refine te_then_exit ?_ | refine tc_exit ?_ | refine tc_ret ?_ | refine tc_skip ?_)
  refine tc_any (Stays _ _ ([])) (stays_of (Hp.le_refl _)) ?_
  all_goals refine rMv 0 ?_
  all_goals refine rNc 1 ?_
  all_goals refine rFa 2 ?_
  all_goals refine rMv 4 ?_
  all_goals (first | refine rAd 5 ?_ | refine rSb 5 ?_ | refine rMl 5 ?_ | refine rRm 5 ?_ | refine rQu 5 ?_ | refine rSr 5 ?_ | refine rSh 5 ?_ | refine rCm 5 ?_)
  all_goals (refine rStep (i := 3) ?_; ((try refine qWant ?_); (first | (refine tl_is (.func 55) ?_; refine qC rfl rfl (counts_dO4 _ _ _ _ _ _ _ 0 _ (by decide) (by decide)) ?_; rintro v ρ' L' hle ⟨rfl, rfl, rfl⟩ <;> (try simp only [List.cons_append, List.nil_append, List.append_eq, dO])) | (refine iSt ?_; refine qSt ?_) | (refine iAl ?_; first | refine qAlA (fun _ => ?_) | refine qAlS (fun _ => ?_)) | (refine iBx ?_; first | refine qBxA (fun _ => ?_) | refine qBxS (fun _ => ?_)) | (refine iMm ?_; refine qMm (fun _ => ?_)) | (refine iBs ?_; refine qBs (fun _ => ?_))); (try simp only [List.cons_append, List.nil_append, List.append_eq]); refine tl_nil ?_; refine rNext ?_))
  all_goals refine rFull ?_
  all_goals refine rMv 6 ?_
  all_goals (first | refine wSkip 7 ?_ | refine wSkipU 7 ?_ | refine wMv 7 ?_ | (refine tr_guard (t := 41) rfl (fun hb => ?_) (fun hb => ?_) <;> (try simp only [decide_eq_true_eq, decide_eq_false_iff_not, Bool.not_eq_true, Bool.not_eq_false, beq_iff_eq, bne_iff_ne, ne_eq, Bool.not_eq_eq_eq_not, Bool.not_true, Bool.not_false, beq_eq_false_iff_ne, bne_eq_false_iff_eq] at hb) <;> first | refine wSkip 7 ?_ | refine wSkipU 7 ?_ | refine wMv 7 ?_))
  all_goals (first | refine wSkip 8 ?_ | refine wSkipU 8 ?_ | refine wNc 8 ?_ | (refine tr_guard (t := 41) rfl (fun hb => ?_) (fun hb => ?_) <;> (try simp only [decide_eq_true_eq, decide_eq_false_iff_not, Bool.not_eq_true, Bool.not_eq_false, beq_iff_eq, bne_iff_ne, ne_eq, Bool.not_eq_eq_eq_not, Bool.not_true, Bool.not_false, beq_eq_false_iff_ne, bne_eq_false_iff_eq] at hb) <;> first | refine wSkip 8 ?_ | refine wSkipU 8 ?_ | refine wNc 8 ?_))
  all_goals (first | refine wSkip 9 ?_ | refine wSkipU 9 ?_ | refine wFa 9 ?_ | (refine tr_guard (t := 41) rfl (fun hb => ?_) (fun hb => ?_) <;> (try simp only [decide_eq_true_eq, decide_eq_false_iff_not, Bool.not_eq_true, Bool.not_eq_false, beq_iff_eq, bne_iff_ne, ne_eq, Bool.not_eq_eq_eq_not, Bool.not_true, Bool.not_false, beq_eq_false_iff_ne, bne_eq_false_iff_eq] at hb) <;> first | refine wSkip 9 ?_ | refine wSkipU 9 ?_ | refine wFa 9 ?_))
  all_goals (first | refine wSkip 10 ?_ | refine wSkipU 10 ?_ | refine wLd 10 ?_ | (refine tr_guard (t := 41) rfl (fun hb => ?_) (fun hb => ?_) <;> (try simp only [decide_eq_true_eq, decide_eq_false_iff_not, Bool.not_eq_true, Bool.not_eq_false, beq_iff_eq, bne_iff_ne, ne_eq, Bool.not_eq_eq_eq_not, Bool.not_true, Bool.not_false, beq_eq_false_iff_ne, bne_eq_false_iff_eq] at hb) <;> first | refine wSkip 10 ?_ | refine wSkipU 10 ?_ | refine wLd 10 ?_))
  all_goals (first | refine wSkip 11 ?_ | refine wSkipU 11 ?_ | refine wAd 11 ?_ | refine wSb 11 ?_ | refine wMl 11 ?_ | refine wRm 11 ?_ | refine wQu 11 ?_ | refine wSr 11 ?_ | refine wSh 11 ?_ | refine wCm 11 ?_ | (refine tr_guard (t := 41) rfl (fun hb => ?_) (fun hb => ?_) <;> (try simp only [decide_eq_true_eq, decide_eq_false_iff_not, Bool.not_eq_true, Bool.not_eq_false, beq_iff_eq, bne_iff_ne, ne_eq, Bool.not_eq_eq_eq_not, Bool.not_true, Bool.not_false, beq_eq_false_iff_ne, bne_eq_false_iff_eq] at hb) <;> first | refine wSkip 11 ?_ | refine wSkipU 11 ?_ | refine wAd 11 ?_ | refine wSb 11 ?_ | refine wMl 11 ?_ | refine wRm 11 ?_ | refine wQu 11 ?_ | refine wSr 11 ?_ | refine wSh 11 ?_ | refine wCm 11 ?_))
  all_goals refine rPk 12 ?_
  all_goals refine rAs 13 ?_
  all_goals refine rAs 14 ?_
  all_goals refine rDone ?_
  repeat' (first | (refine i_op ?_; first | (refine iMv ?_; refine qMv ?_) | (refine iLd ?_; refine qLd ?_) | (refine iFa ?_; refine qFa ?_) | (refine iAd ?_; refine qAd ?_) | (refine iSb ?_; refine qSb ?_) | (refine iMl ?_; refine qMl ?_) | (refine iRm ?_; refine qRm ?_) | (refine iQu ?_; refine qQu ?_) | (refine iSr ?_; refine qSr ?_) | (refine iSh ?_; refine qSh ?_) | (refine iCm ?_; refine qCm ?_) | (refine iEx ?_; refine qEx ?_) | (refine iAs ?_; refine qAs ?_) | (refine iPk ?_; refine qPk ?_) | (refine iNc ?_; refine qNc ?_) | (refine iIa ?_; refine qIa ?_) | (refine iCv ?_; refine qCv ?_) | (refine iBi ?_; refine qBi ?_) | (refine iUn ?_; refine qUn ?_) | (refine iFl ?_; refine qFl ?_) | (refine iLu ?_; refine qLu ?_) | (refine iBu ?_; refine qBu ?_) | (refine iSl ?_; refine qSl ?_) | (refine iMf ?_; refine qMf ?_) | (refine iMi ?_; refine qMi ?_) | (refine iTa ?_; refine qTa ?_) | (refine iSt ?_; refine qSt ?_) | (refine iAl ?_; first | refine qAlA (fun _ => ?_) | refine qAlS (fun _ => ?_)) | (refine iBx ?_; first | refine qBxA (fun _ => ?_) | refine qBxS (fun _ => ?_)) | (refine iMm ?_; refine qMm (fun _ => ?_)) | (refine iBs ?_; refine qBs (fun _ => ?_)) | (refine i_gd ?_; first | refine qWant ?_ | refine qSkip ?_ | refine qSkip0 ?_ | refine qSkipU ?_)) | refine tl_nil ?_ | refine tc_seq ?_ | refine tc_region ?_ | refine te_seq ?_ | (refine i_cond ?_; first | refine qCt ?_ | refine qCf ?_) | refine tc_block ?_ | refine te_block_normal ?_ | refine te_block_ret ?_ | refine te_then_ret ?_ | refine te_block_hit ?_ | (refine i_miss ?_; refine qMiss ?_) | refine te_then_exit ?_ | refine tc_exit ?_ | refine tc_ret ?_ | refine tc_skip ?_)
  exact qE ⟨rfl, rfl, rfl⟩
theorem does_fail_w (ρ : Hp) (b : Nat) (hb : HB) (mb n : Nat) (ops armed i : Int) (d : Value) (kl : Nat) (cl : List Value) (h0 : 0 ≤ i) (h1 : i < n) (ha : armed ≠ 0) :
    Spec Try.prog 34 [.pointer (some ⟨b, 0, none⟩), .int .i64 i, d, .func (.func kl) ⟨[]⟩ ⟨cl⟩] ρ [[(b, dO hb mb n ops armed 0 false)]] (fun v ρ' L' => v = .int .i64 8 ∧ ρ' = ρ ∧ L' = [[(b, dO hb mb n (IntKind.i64.wrap (ops + 1)) armed (-1) false)]]) := by
  refine spec_enter Try.func34 rfl rfl rfl fun u R => ?_
  simp only [argsE, List.cons_append, List.nil_append]
  repeat' (first | (refine tl_is (.func 44) ?_; refine qC rfl rfl (lives_ok _ _ _ _ _ _ _ _) ?_; rintro v ρ' L' hle ⟨rfl, rfl, rfl⟩ <;> (try simp only [List.cons_append, List.nil_append, List.append_eq, dO])) | (refine i_op ?_; first | (refine iMv ?_; refine qMv ?_) | (refine iLd ?_; refine qLd ?_) | (refine iFa ?_; refine qFa ?_) | (refine iAd ?_; refine qAd ?_) | (refine iSb ?_; refine qSb ?_) | (refine iMl ?_; refine qMl ?_) | (refine iRm ?_; refine qRm ?_) | (refine iQu ?_; refine qQu ?_) | (refine iSr ?_; refine qSr ?_) | (refine iSh ?_; refine qSh ?_) | (refine iCm ?_; refine qCm ?_) | (refine iEx ?_; refine qEx ?_) | (refine iAs ?_; refine qAs ?_) | (refine iPk ?_; refine qPk ?_) | (refine iNc ?_; refine qNc ?_) | (refine iIa ?_; refine qIa ?_) | (refine iCv ?_; refine qCv ?_) | (refine iBi ?_; refine qBi ?_) | (refine iUn ?_; refine qUn ?_) | (refine iFl ?_; refine qFl ?_) | (refine iLu ?_; refine qLu ?_) | (refine iBu ?_; refine qBu ?_) | (refine iSl ?_; refine qSl ?_) | (refine iMf ?_; refine qMf ?_) | (refine iMi ?_; refine qMi ?_) | (refine iTa ?_; refine qTa ?_) | (refine iSt ?_; refine qSt ?_) | (refine iAl ?_; first | refine qAlA (fun _ => ?_) | refine qAlS (fun _ => ?_)) | (refine iBx ?_; first | refine qBxA (fun _ => ?_) | refine qBxS (fun _ => ?_)) | (refine iMm ?_; refine qMm (fun _ => ?_)) | (refine iBs ?_; refine qBs (fun _ => ?_)) | (refine i_gd ?_; first | refine qWant ?_ | refine qSkip ?_ | refine qSkip0 ?_ | refine qSkipU ?_)) | refine tl_nil ?_ | refine tc_seq ?_ | refine tc_region ?_ | refine te_seq ?_ | (refine i_cond ?_; first | refine qCt ?_ | refine qCf ?_) | refine tc_block ?_ | refine te_block_normal ?_ | refine te_block_ret ?_ | refine te_then_ret ?_ | refine te_block_hit ?_ | (refine i_miss ?_; refine qMiss ?_) | refine te_then_exit ?_ | refine tc_exit ?_ | refine tc_ret ?_ | refine tc_skip ?_)
  refine tc_any (Stays _ _ ([])) (stays_of (Hp.le_refl _)) ?_
  all_goals refine rMv 0 ?_
  all_goals refine rNc 1 ?_
  all_goals refine rFa 2 ?_
  all_goals refine rMv 4 ?_
  all_goals (first | refine rAd 5 ?_ | refine rSb 5 ?_ | refine rMl 5 ?_ | refine rRm 5 ?_ | refine rQu 5 ?_ | refine rSr 5 ?_ | refine rSh 5 ?_ | refine rCm 5 ?_)
  all_goals (refine rStep (i := 3) ?_; ((try refine qWant ?_); (first | (refine tl_is (.func 55) ?_; refine qC rfl rfl (counts_dO4 _ _ _ _ _ _ _ 0 _ (by decide) (by decide)) ?_; rintro v ρ' L' hle ⟨rfl, rfl, rfl⟩ <;> (try simp only [List.cons_append, List.nil_append, List.append_eq, dO])) | (refine iSt ?_; refine qSt ?_) | (refine iAl ?_; first | refine qAlA (fun _ => ?_) | refine qAlS (fun _ => ?_)) | (refine iBx ?_; first | refine qBxA (fun _ => ?_) | refine qBxS (fun _ => ?_)) | (refine iMm ?_; refine qMm (fun _ => ?_)) | (refine iBs ?_; refine qBs (fun _ => ?_))); (try simp only [List.cons_append, List.nil_append, List.append_eq]); refine tl_nil ?_; refine rNext ?_))
  all_goals refine rFull ?_
  all_goals refine rMv 6 ?_
  all_goals (first | refine wSkip 7 ?_ | refine wSkipU 7 ?_ | refine wMv 7 ?_ | (refine tr_guard (t := 41) rfl (fun hb => ?_) (fun hb => ?_) <;> (try simp only [decide_eq_true_eq, decide_eq_false_iff_not, Bool.not_eq_true, Bool.not_eq_false, beq_iff_eq, bne_iff_ne, ne_eq, Bool.not_eq_eq_eq_not, Bool.not_true, Bool.not_false, beq_eq_false_iff_ne, bne_eq_false_iff_eq] at hb) <;> first | refine wSkip 7 ?_ | refine wSkipU 7 ?_ | refine wMv 7 ?_))
  all_goals (first | refine wSkip 8 ?_ | refine wSkipU 8 ?_ | refine wNc 8 ?_ | (refine tr_guard (t := 41) rfl (fun hb => ?_) (fun hb => ?_) <;> (try simp only [decide_eq_true_eq, decide_eq_false_iff_not, Bool.not_eq_true, Bool.not_eq_false, beq_iff_eq, bne_iff_ne, ne_eq, Bool.not_eq_eq_eq_not, Bool.not_true, Bool.not_false, beq_eq_false_iff_ne, bne_eq_false_iff_eq] at hb) <;> first | refine wSkip 8 ?_ | refine wSkipU 8 ?_ | refine wNc 8 ?_))
  all_goals (first | refine wSkip 9 ?_ | refine wSkipU 9 ?_ | refine wFa 9 ?_ | (refine tr_guard (t := 41) rfl (fun hb => ?_) (fun hb => ?_) <;> (try simp only [decide_eq_true_eq, decide_eq_false_iff_not, Bool.not_eq_true, Bool.not_eq_false, beq_iff_eq, bne_iff_ne, ne_eq, Bool.not_eq_eq_eq_not, Bool.not_true, Bool.not_false, beq_eq_false_iff_ne, bne_eq_false_iff_eq] at hb) <;> first | refine wSkip 9 ?_ | refine wSkipU 9 ?_ | refine wFa 9 ?_))
  all_goals (first | refine wSkip 10 ?_ | refine wSkipU 10 ?_ | refine wLd 10 ?_ | (refine tr_guard (t := 41) rfl (fun hb => ?_) (fun hb => ?_) <;> (try simp only [decide_eq_true_eq, decide_eq_false_iff_not, Bool.not_eq_true, Bool.not_eq_false, beq_iff_eq, bne_iff_ne, ne_eq, Bool.not_eq_eq_eq_not, Bool.not_true, Bool.not_false, beq_eq_false_iff_ne, bne_eq_false_iff_eq] at hb) <;> first | refine wSkip 10 ?_ | refine wSkipU 10 ?_ | refine wLd 10 ?_))
  all_goals (first | refine wSkip 11 ?_ | refine wSkipU 11 ?_ | refine wAd 11 ?_ | refine wSb 11 ?_ | refine wMl 11 ?_ | refine wRm 11 ?_ | refine wQu 11 ?_ | refine wSr 11 ?_ | refine wSh 11 ?_ | refine wCm 11 ?_ | (refine tr_guard (t := 41) rfl (fun hb => ?_) (fun hb => ?_) <;> (try simp only [decide_eq_true_eq, decide_eq_false_iff_not, Bool.not_eq_true, Bool.not_eq_false, beq_iff_eq, bne_iff_ne, ne_eq, Bool.not_eq_eq_eq_not, Bool.not_true, Bool.not_false, beq_eq_false_iff_ne, bne_eq_false_iff_eq] at hb) <;> first | refine wSkip 11 ?_ | refine wSkipU 11 ?_ | refine wAd 11 ?_ | refine wSb 11 ?_ | refine wMl 11 ?_ | refine wRm 11 ?_ | refine wQu 11 ?_ | refine wSr 11 ?_ | refine wSh 11 ?_ | refine wCm 11 ?_))
  all_goals refine rPk 12 ?_
  all_goals refine rAs 13 ?_
  all_goals refine rAs 14 ?_
  all_goals refine rDone ?_
  repeat' (first | (refine i_op ?_; first | (refine iMv ?_; refine qMv ?_) | (refine iLd ?_; refine qLd ?_) | (refine iFa ?_; refine qFa ?_) | (refine iAd ?_; refine qAd ?_) | (refine iSb ?_; refine qSb ?_) | (refine iMl ?_; refine qMl ?_) | (refine iRm ?_; refine qRm ?_) | (refine iQu ?_; refine qQu ?_) | (refine iSr ?_; refine qSr ?_) | (refine iSh ?_; refine qSh ?_) | (refine iCm ?_; refine qCm ?_) | (refine iEx ?_; refine qEx ?_) | (refine iAs ?_; refine qAs ?_) | (refine iPk ?_; refine qPk ?_) | (refine iNc ?_; refine qNc ?_) | (refine iIa ?_; refine qIa ?_) | (refine iCv ?_; refine qCv ?_) | (refine iBi ?_; refine qBi ?_) | (refine iUn ?_; refine qUn ?_) | (refine iFl ?_; refine qFl ?_) | (refine iLu ?_; refine qLu ?_) | (refine iBu ?_; refine qBu ?_) | (refine iSl ?_; refine qSl ?_) | (refine iMf ?_; refine qMf ?_) | (refine iMi ?_; refine qMi ?_) | (refine iTa ?_; refine qTa ?_) | (refine iSt ?_; refine qSt ?_) | (refine iAl ?_; first | refine qAlA (fun _ => ?_) | refine qAlS (fun _ => ?_)) | (refine iBx ?_; first | refine qBxA (fun _ => ?_) | refine qBxS (fun _ => ?_)) | (refine iMm ?_; refine qMm (fun _ => ?_)) | (refine iBs ?_; refine qBs (fun _ => ?_)) | (refine i_gd ?_; first | refine qWant ?_ | refine qSkip ?_ | refine qSkip0 ?_ | refine qSkipU ?_)) | refine tl_nil ?_ | refine tc_seq ?_ | refine tc_region ?_ | refine te_seq ?_ | (refine i_cond ?_; first | refine qCt ?_ | refine qCf ?_) | refine tc_block ?_ | refine te_block_normal ?_ | refine te_block_ret ?_ | refine te_then_ret ?_ | refine te_block_hit ?_ | (refine i_miss ?_; refine qMiss ?_) | refine te_then_exit ?_ | refine tc_exit ?_ | refine tc_ret ?_ | refine tc_skip ?_)
  exact qE ⟨rfl, rfl, rfl⟩
theorem does_dies (ρ : Hp) (b : Nat) (hb : HB) (mb n : Nat) (ops failing i : Int) (d : Value) (kl : Nat) (cl : List Value) (X : SH) (Post : Value → Hp → SH → Prop) (h0 : 0 ≤ i) (h1 : i < n) (hf1 : -1 ≤ failing) (hf2 : failing ≤ 9223372036854775807) [hF : Fun Try.prog kl]
    (hd : Spec Try.prog kl cl ρ ([(b, dO hb mb n (IntKind.i64.wrap (ops + 1)) 0 (max (failing - 1) (-1)) true)] :: X) Post) :
    Spec Try.prog 34 [.pointer (some ⟨b, 0, none⟩), .int .i64 i, d, .func (.func kl) ⟨[]⟩ ⟨cl⟩] ρ ([(b, dO hb mb n ops 0 failing false)] :: X) (fun v ρ' L' => v = .int .i64 9 ∧ ∃ v0, Post v0 ρ' L') := by
  refine spec_enter Try.func34 rfl rfl rfl fun u R => ?_
  simp only [argsE, List.cons_append, List.nil_append]
  repeat' (first | (refine tl_is (.func 44) ?_; refine qC rfl rfl (lives_ok _ _ _ _ _ _ _ _) ?_; rintro v ρ' L' hle ⟨rfl, rfl, rfl⟩ <;> (try simp only [List.cons_append, List.nil_append, List.append_eq, dO])) | (refine i_op ?_; first | (refine iMv ?_; refine qMv ?_) | (refine iLd ?_; refine qLd ?_) | (refine iFa ?_; refine qFa ?_) | (refine iAd ?_; refine qAd ?_) | (refine iSb ?_; refine qSb ?_) | (refine iMl ?_; refine qMl ?_) | (refine iRm ?_; refine qRm ?_) | (refine iQu ?_; refine qQu ?_) | (refine iSr ?_; refine qSr ?_) | (refine iSh ?_; refine qSh ?_) | (refine iCm ?_; refine qCm ?_) | (refine iEx ?_; refine qEx ?_) | (refine iAs ?_; refine qAs ?_) | (refine iPk ?_; refine qPk ?_) | (refine iNc ?_; refine qNc ?_) | (refine iIa ?_; refine qIa ?_) | (refine iCv ?_; refine qCv ?_) | (refine iBi ?_; refine qBi ?_) | (refine iUn ?_; refine qUn ?_) | (refine iFl ?_; refine qFl ?_) | (refine iLu ?_; refine qLu ?_) | (refine iBu ?_; refine qBu ?_) | (refine iSl ?_; refine qSl ?_) | (refine iMf ?_; refine qMf ?_) | (refine iMi ?_; refine qMi ?_) | (refine iTa ?_; refine qTa ?_) | (refine iSt ?_; refine qSt ?_) | (refine iAl ?_; first | refine qAlA (fun _ => ?_) | refine qAlS (fun _ => ?_)) | (refine iBx ?_; first | refine qBxA (fun _ => ?_) | refine qBxS (fun _ => ?_)) | (refine iMm ?_; refine qMm (fun _ => ?_)) | (refine iBs ?_; refine qBs (fun _ => ?_)) | (refine i_gd ?_; first | refine qWant ?_ | refine qSkip ?_ | refine qSkip0 ?_ | refine qSkipU ?_)) | refine tl_nil ?_ | refine tc_seq ?_ | refine tc_region ?_ | refine te_seq ?_ | (refine i_cond ?_; first | refine qCt ?_ | refine qCf ?_) | refine tc_block ?_ | refine te_block_normal ?_ | refine te_block_ret ?_ | refine te_then_ret ?_ | refine te_block_hit ?_ | (refine i_miss ?_; refine qMiss ?_) | refine te_then_exit ?_ | refine tc_exit ?_ | refine tc_ret ?_ | refine tc_skip ?_)
  refine tc_any (Stays _ _ ([])) (stays_of (Hp.le_refl _)) ?_
  all_goals refine rMv 0 ?_
  all_goals refine rNc 1 ?_
  all_goals refine rFa 2 ?_
  all_goals refine rMv 4 ?_
  all_goals (first | refine rAd 5 ?_ | refine rSb 5 ?_ | refine rMl 5 ?_ | refine rRm 5 ?_ | refine rQu 5 ?_ | refine rSr 5 ?_ | refine rSh 5 ?_ | refine rCm 5 ?_)
  all_goals (refine rStep (i := 3) ?_; ((try refine qWant ?_); (first | (refine tl_is (.func 55) ?_; refine qC rfl rfl (counts_dO4 _ _ _ _ _ _ _ _ _ hf1 hf2) ?_; rintro v ρ' L' hle ⟨rfl, rfl, rfl⟩ <;> (try simp only [List.cons_append, List.nil_append, List.append_eq, dO])) | (refine iSt ?_; refine qSt ?_) | (refine iAl ?_; first | refine qAlA (fun _ => ?_) | refine qAlS (fun _ => ?_)) | (refine iBx ?_; first | refine qBxA (fun _ => ?_) | refine qBxS (fun _ => ?_)) | (refine iMm ?_; refine qMm (fun _ => ?_)) | (refine iBs ?_; refine qBs (fun _ => ?_))); (try simp only [List.cons_append, List.nil_append, List.append_eq]); refine tl_nil ?_; refine rNext ?_))
  all_goals refine rFull ?_
  all_goals refine rMv 6 ?_
  all_goals (first | refine wSkip 7 ?_ | refine wSkipU 7 ?_ | refine wMv 7 ?_ | (refine tr_guard (t := 41) rfl (fun hb => ?_) (fun hb => ?_) <;> (try simp only [decide_eq_true_eq, decide_eq_false_iff_not, Bool.not_eq_true, Bool.not_eq_false, beq_iff_eq, bne_iff_ne, ne_eq, Bool.not_eq_eq_eq_not, Bool.not_true, Bool.not_false, beq_eq_false_iff_ne, bne_eq_false_iff_eq] at hb) <;> first | refine wSkip 7 ?_ | refine wSkipU 7 ?_ | refine wMv 7 ?_))
  all_goals (first | refine wSkip 8 ?_ | refine wSkipU 8 ?_ | refine wNc 8 ?_ | (refine tr_guard (t := 41) rfl (fun hb => ?_) (fun hb => ?_) <;> (try simp only [decide_eq_true_eq, decide_eq_false_iff_not, Bool.not_eq_true, Bool.not_eq_false, beq_iff_eq, bne_iff_ne, ne_eq, Bool.not_eq_eq_eq_not, Bool.not_true, Bool.not_false, beq_eq_false_iff_ne, bne_eq_false_iff_eq] at hb) <;> first | refine wSkip 8 ?_ | refine wSkipU 8 ?_ | refine wNc 8 ?_))
  all_goals (first | refine wSkip 9 ?_ | refine wSkipU 9 ?_ | refine wFa 9 ?_ | (refine tr_guard (t := 41) rfl (fun hb => ?_) (fun hb => ?_) <;> (try simp only [decide_eq_true_eq, decide_eq_false_iff_not, Bool.not_eq_true, Bool.not_eq_false, beq_iff_eq, bne_iff_ne, ne_eq, Bool.not_eq_eq_eq_not, Bool.not_true, Bool.not_false, beq_eq_false_iff_ne, bne_eq_false_iff_eq] at hb) <;> first | refine wSkip 9 ?_ | refine wSkipU 9 ?_ | refine wFa 9 ?_))
  all_goals (first | refine wSkip 10 ?_ | refine wSkipU 10 ?_ | refine wLd 10 ?_ | (refine tr_guard (t := 41) rfl (fun hb => ?_) (fun hb => ?_) <;> (try simp only [decide_eq_true_eq, decide_eq_false_iff_not, Bool.not_eq_true, Bool.not_eq_false, beq_iff_eq, bne_iff_ne, ne_eq, Bool.not_eq_eq_eq_not, Bool.not_true, Bool.not_false, beq_eq_false_iff_ne, bne_eq_false_iff_eq] at hb) <;> first | refine wSkip 10 ?_ | refine wSkipU 10 ?_ | refine wLd 10 ?_))
  all_goals (first | refine wSkip 11 ?_ | refine wSkipU 11 ?_ | refine wAd 11 ?_ | refine wSb 11 ?_ | refine wMl 11 ?_ | refine wRm 11 ?_ | refine wQu 11 ?_ | refine wSr 11 ?_ | refine wSh 11 ?_ | refine wCm 11 ?_ | (refine tr_guard (t := 41) rfl (fun hb => ?_) (fun hb => ?_) <;> (try simp only [decide_eq_true_eq, decide_eq_false_iff_not, Bool.not_eq_true, Bool.not_eq_false, beq_iff_eq, bne_iff_ne, ne_eq, Bool.not_eq_eq_eq_not, Bool.not_true, Bool.not_false, beq_eq_false_iff_ne, bne_eq_false_iff_eq] at hb) <;> first | refine wSkip 11 ?_ | refine wSkipU 11 ?_ | refine wAd 11 ?_ | refine wSb 11 ?_ | refine wMl 11 ?_ | refine wRm 11 ?_ | refine wQu 11 ?_ | refine wSr 11 ?_ | refine wSh 11 ?_ | refine wCm 11 ?_))
  all_goals refine rPk 12 ?_
  all_goals refine rAs 13 ?_
  all_goals refine rAs 14 ?_
  all_goals refine rDone ?_
  unfold dO at hd
  repeat' (first | (refine tl_is (.tmp 55) ?_; refine tl_call rfl rfl hd tk rfl ?_; rintro v ρ' L' hle hp) | (refine i_op ?_; first | (refine iMv ?_; refine qMv ?_) | (refine iLd ?_; refine qLd ?_) | (refine iFa ?_; refine qFa ?_) | (refine iAd ?_; refine qAd ?_) | (refine iSb ?_; refine qSb ?_) | (refine iMl ?_; refine qMl ?_) | (refine iRm ?_; refine qRm ?_) | (refine iQu ?_; refine qQu ?_) | (refine iSr ?_; refine qSr ?_) | (refine iSh ?_; refine qSh ?_) | (refine iCm ?_; refine qCm ?_) | (refine iEx ?_; refine qEx ?_) | (refine iAs ?_; refine qAs ?_) | (refine iPk ?_; refine qPk ?_) | (refine iNc ?_; refine qNc ?_) | (refine iIa ?_; refine qIa ?_) | (refine iCv ?_; refine qCv ?_) | (refine iBi ?_; refine qBi ?_) | (refine iUn ?_; refine qUn ?_) | (refine iFl ?_; refine qFl ?_) | (refine iLu ?_; refine qLu ?_) | (refine iBu ?_; refine qBu ?_) | (refine iSl ?_; refine qSl ?_) | (refine iMf ?_; refine qMf ?_) | (refine iMi ?_; refine qMi ?_) | (refine iTa ?_; refine qTa ?_) | (refine iSt ?_; refine qSt ?_) | (refine iAl ?_; first | refine qAlA (fun _ => ?_) | refine qAlS (fun _ => ?_)) | (refine iBx ?_; first | refine qBxA (fun _ => ?_) | refine qBxS (fun _ => ?_)) | (refine iMm ?_; refine qMm (fun _ => ?_)) | (refine iBs ?_; refine qBs (fun _ => ?_)) | (refine i_gd ?_; first | refine qWant ?_ | refine qSkip ?_ | refine qSkip0 ?_ | refine qSkipU ?_)) | refine tl_nil ?_ | refine tc_seq ?_ | refine tc_region ?_ | refine te_seq ?_ | (refine i_cond ?_; first | refine qCt ?_ | refine qCf ?_) | refine tc_block ?_ | refine te_block_normal ?_ | refine te_block_ret ?_ | refine te_then_ret ?_ | refine te_block_hit ?_ | (refine i_miss ?_; refine qMiss ?_) | refine te_then_exit ?_ | refine tc_exit ?_ | refine tc_ret ?_ | refine tc_skip ?_)
  exact qE ⟨rfl, _, hp⟩
end Go.Proofs.E

namespace Go.Proofs.E
open Go
set_option linter.unusedVariables false
set_option linter.unusedSimpArgs false

/-! ## sectors, as lists -/
theorem heldC_length {s : Secs} (h : ∀ p ∈ s, p.1.length = 64) : (heldC s).length = s.length * 64 := by
  induction s with
  | nil => rfl
  | cons p r ih =>
    have h1 := h p (by simp)
    have h2 := ih (fun q hq => h q (by simp [hq]))
    simp only [heldC, List.map_cons, List.flatten_cons, List.length_append, List.length_map, List.length_cons] at *
    omega
theorem heldC_take : ∀ {s : Secs} {i : Nat} (h : ∀ p ∈ s, p.1.length = 64) (hi : i < s.length), ((heldC s).drop (i * 64)).take 64 = (s[i].1).map u8c
  | [], i, h, hi => by simp at hi
  | p :: r, 0, h, hi => by
    have h1 := h p (by simp)
    simp only [heldC, List.map_cons, List.flatten_cons, Nat.zero_mul, List.drop_zero, List.getElem_cons_zero]
    rw [List.take_append_of_le_length (by simp [h1]), List.take_of_length_le (by simp [h1])]
  | p :: r, i + 1, h, hi => by
    have h1 := h p (by simp)
    have ih := heldC_take (s := r) (i := i) (fun q hq => h q (by simp [hq])) (by simpa using hi)
    simp only [heldC, List.map_cons, List.flatten_cons, List.getElem_cons_succ] at ih ⊢
    have e : (i + 1) * 64 = (p.1.map u8c).length + i * 64 := by simp [h1]; omega
    rw [e, ← List.drop_drop, List.drop_left]
    exact ih
theorem stc_heldC : ∀ {s : Secs} {i : Nat} {b : Blk} (x : Option Blk) (h : ∀ p ∈ s, p.1.length = 64) (hb : b.length = 64) (hi : i < s.length), stc (heldC s) (i * 64) (b.map u8c) = heldC (s.set i (b, x))
  | [], i, b, x, h, hb, hi => by simp at hi
  | p :: r, 0, b, x, h, hb, hi => by
    have h1 := h p (by simp)
    simp only [stc, heldC, List.map_cons, List.flatten_cons, Nat.zero_mul, List.take_zero, List.nil_append, Nat.zero_add, List.set_cons_zero]
    congr 1
    have e : (b.map u8c).length = (p.1.map u8c).length := by simp [hb, h1]
    rw [e, List.drop_left]
  | p :: r, i + 1, b, x, h, hb, hi => by
    have h1 := h p (by simp)
    have ih := stc_heldC (s := r) (i := i) (b := b) x (fun q hq => h q (by simp [hq])) hb (by simpa using hi)
    simp only [stc, heldC, List.map_cons, List.flatten_cons, List.set_cons_succ] at ih ⊢
    have e : (i + 1) * 64 = (p.1.map u8c).length + i * 64 := by simp [h1]; omega
    rw [e, List.take_length_add_append, Nat.add_assoc, ← List.drop_drop, List.drop_left, ← ih]
    simp
theorem heldC_take' {s : Secs} {i : Nat} (sp : List Value) (h : ∀ p ∈ s, p.1.length = 64) (hi : i < s.length) : ((heldC s ++ sp).drop (i * 64)).take 64 = (s[i].1).map u8c := by
  have hl := heldC_length h
  rw [List.drop_append_of_le_length (by omega), List.take_append_of_le_length (by simp; omega)]
  exact heldC_take h hi
theorem stc_heldC' {s : Secs} {i : Nat} {b : Blk} (sp : List Value) (x : Option Blk) (h : ∀ p ∈ s, p.1.length = 64) (hb : b.length = 64) (hi : i < s.length) : stc (heldC s ++ sp) (i * 64) (b.map u8c) = heldC (s.set i (b, x)) ++ sp := by
  have hl := heldC_length h
  rw [← stc_heldC x h hb hi]
  unfold stc
  rw [List.take_append_of_le_length (by omega), List.drop_append_of_le_length (by simp; omega)]
  simp
theorem heldC_length' {s : Secs} (sp : List Value) (h : ∀ p ∈ s, p.1.length = 64) : (heldC s ++ sp).length = s.length * 64 + sp.length := by
  rw [List.length_append, heldC_length h]
def putC (s : Secs) (i : Nat) (b : Blk) : Secs := s.set i ((s[i]?.getD ([], none)).1, some b)
theorem putC_length {s : Secs} {i b} : (putC s i b).length = s.length := by simp [putC]
theorem heldC_putC {s : Secs} {i : Nat} {b : Blk} (hi : i < s.length) : heldC (putC s i b) = heldC s := by
  unfold heldC putC
  rw [List.map_set]
  congr 1
  apply List.ext_getElem? ; intro j
  rw [List.getElem?_set]
  by_cases e : i = j
  · subst e; simp [hi]
  · simp [e]
theorem SecsOk.putC {s : Secs} {i : Nat} {b : Blk} (h : SecsOk s) (hb : b.length = 64) (hi : i < s.length) : SecsOk (putC s i b) := by
  have hm : ∀ p ∈ E.putC s i b, p ∈ s ∨ p = (s[i].1, some b) := fun p hp => by
    unfold E.putC at hp
    rcases List.mem_or_eq_of_mem_set hp with h1 | h1
    · exact .inl h1
    · right; rw [h1]; simp [hi]
  refine ⟨by rw [putC_length]; exact h.len, by rw [putC_length]; exact h.pos, fun p hp => ?_, fun p hp c hc => ?_⟩
  · rcases hm p hp with h1 | rfl
    · exact h.held p h1
    · exact h.held s[i] (List.getElem_mem hi)
  · rcases hm p hp with h1 | rfl
    · exact h.cached p h1 c hc
    · simp only [Option.some.injEq] at hc; subst hc; exact hb
theorem MapOk.put {s : Secs} {es es' : List MapEntry} {i : Int} {b : Blk} (h : MapOk s es) (h0 : 0 ≤ i) (hi : i < s.length) (hk : IntKeys .i64 es') (hg : ∀ j, mget es' j = if j = i then some (bv b) else mget es j) : MapOk (putC s i.toNat b) es' := by
  refine ⟨hk, fun j => ?_⟩
  rw [hg]
  by_cases e : j = i
  · subst e
    have : j.toNat < s.length := by omega
    simp [putC, h0, this]
  · rw [if_neg e, h.get]
    by_cases h1 : 0 ≤ j
    · have hne : i.toNat ≠ j.toNat := by omega
      simp only [h1, if_true, putC]
      rw [List.getElem?_set_ne hne]
    · simp [h1]
/-- what a sector says -/
def says1 (p : Blk × Option Blk) : Blk := p.2.getD p.1
theorem MapOk.at {s : Secs} {es : List MapEntry} (h : MapOk s es) {i : Nat} (hi : i < s.length) : mget es i = (s[i].2).map bv := by
  rw [h.get]; simp [hi]
def emptyC (s : Secs) : Prop := ∀ p ∈ s, p.2 = none
theorem MapOk.empty {s : Secs} (h : emptyC s) : MapOk s [] := by
  refine ⟨fun e he => by simp at he, fun j => ?_⟩
  by_cases h1 : 0 ≤ j
  · simp only [h1, if_true, mget, List.find?_nil, Option.map_none]
    cases hs : s[j.toNat]? with
    | none => simp
    | some p => simp [h p (List.mem_of_getElem? hs)]
  · simp [mget, h1]
end Go.Proofs.E

namespace Go.Proofs.E
open Go
set_option linter.unusedVariables false
set_option linter.unusedSimpArgs false
set_option maxRecDepth 4000
attribute [local irreducible] Yl TL TC TE Spec YSpec R1 Hp.le EnvLe TS TR YS Stays

structure DS where
  secs : Secs
  ops : Int
  armed : Int
  failing : Int
  dead : Bool
structure DS.Ok (D : DS) : Prop where
  secs : SecsOk D.secs
  a1 : -1 ≤ D.armed
  a2 : D.armed ≤ 9223372036854775807
  f1 : -1 ≤ D.failing
  f2 : D.failing ≤ 9223372036854775807
def diskL (b : Nat) (hb : HB) (mb : Nat) (es : List MapEntry) (ck : Nat) (D : DS) : SH := [[(b, dO hb mb D.secs.length D.ops D.armed D.failing D.dead)], [(hb.b, .cells ⟨heldC D.secs ++ hb.sp⟩ 34 (0, 0))], [(mb, .map ⟨es⟩ ck)]]
def cnt (n : Int) : Int := max (n - 1) (-1)
/-- an operation that has begun -/
def DS.tick (D : DS) : DS := { D with ops := IntKind.i64.wrap (D.ops + 1), failing := cnt D.failing }

theorem write1 (ρ : Hp) (b : Nat) (hb : HB) (mb xb pb ib n : Nat) (ops armed failing i : Int) (dead : Bool) (es : List MapEntry) (ck : Nat) (blk : Blk) (hb64 : blk.length = 64) (hk : IntKeys .i64 es) :
    Spec Try.prog 40 [.pointer (some ⟨xb, 0, none⟩), .pointer (some ⟨pb, 0, none⟩), .pointer (some ⟨ib, 0, none⟩)] ρ
      [[(b, dO hb mb n ops armed failing dead)], [(mb, .map ⟨es⟩ ck)], [(xb, .cells ⟨blk.map u8c⟩ 34 (0, 0))], [(pb, .cells ⟨[.pointer (some ⟨b, 0, none⟩)]⟩ 27 (0, 0))], [(ib, .cells ⟨[.int .i64 i]⟩ 3 (0, 0))]]
      (fun v ρ' L' => v = .tuple ⟨[]⟩ ∧ ρ' = ρ ∧ ∃ es' ck', IntKeys .i64 es' ∧ (∀ j, mget es' j = if j = i then some (bv blk) else mget es j) ∧
        L' = [[(b, dO hb mb n ops armed failing dead)], [(mb, .map ⟨es'⟩ ck')], [(xb, .cells ⟨blk.map u8c⟩ 34 (0, 0))], [(pb, .cells ⟨[.pointer (some ⟨b, 0, none⟩)]⟩ 27 (0, 0))], [(ib, .cells ⟨[.int .i64 i]⟩ 3 (0, 0))]]) := by
  refine spec_enter Try.func40 rfl rfl rfl fun u R => ?_
  simp only [argsE, List.cons_append, List.nil_append, dO]
  have hl : (blk.map u8c).length = 64 := by simpa using hb64
  repeat' (first | (refine i_op ?_; first | (refine iMv ?_; refine qMv ?_) | (refine iLd ?_; refine qLd ?_) | (refine iFa ?_; refine qFa ?_) | (refine iAd ?_; refine qAd ?_) | (refine iSb ?_; refine qSb ?_) | (refine iMl ?_; refine qMl ?_) | (refine iRm ?_; refine qRm ?_) | (refine iQu ?_; refine qQu ?_) | (refine iSr ?_; refine qSr ?_) | (refine iSh ?_; refine qSh ?_) | (refine iCm ?_; refine qCm ?_) | (refine iEx ?_; refine qEx ?_) | (refine iAs ?_; refine qAs ?_) | (refine iPk ?_; refine qPk ?_) | (refine iNc ?_; refine qNc ?_) | (refine iIa ?_; refine qIa ?_) | (refine iCv ?_; refine qCv ?_) | (refine iBi ?_; refine qBi ?_) | (refine iUn ?_; refine qUn ?_) | (refine iFl ?_; refine qFl ?_) | (refine iLu ?_; refine qLu ?_) | (refine iBu ?_; refine qBu ?_) | (refine iSl ?_; refine qSl ?_) | (refine iMf ?_; refine qMf ?_) | (refine iMi ?_; refine qMi ?_) | (refine iTa ?_; refine qTa ?_) | (refine iSt ?_; refine qSt ?_) | (refine iAl ?_; first | refine qAlA (fun _ => ?_) | refine qAlS (fun _ => ?_)) | (refine iBx ?_; first | refine qBxA (fun _ => ?_) | refine qBxS (fun _ => ?_)) | (refine iMm ?_; refine qMm (fun _ => ?_)) | (refine iBs ?_; refine qBs (fun _ => ?_)) | (refine i_gd ?_; first | refine qWant ?_ | refine qSkip ?_ | refine qSkip0 ?_ | refine qSkipU ?_)) | refine tl_nil ?_ | refine tc_seq ?_ | refine tc_region ?_ | refine te_seq ?_ | (refine i_cond ?_; first | refine qCt ?_ | refine qCf ?_) | refine tc_block ?_ | refine te_block_normal ?_ | refine te_block_ret ?_ | refine te_then_ret ?_ | refine te_block_hit ?_ | (refine i_miss ?_; refine qMiss ?_) | refine te_then_exit ?_ | refine tc_exit ?_ | refine tc_ret ?_ | refine tc_skip ?_)
  refine tc_draw 6 (by decide +kernel) (by decide +kernel) ?_
  repeat' (first | (refine jLd ?_; refine sLd ?_) | (refine jFa ?_; refine sFa ?_) | (refine jNc ?_; refine sNc ?_) | (refine j_gd ?_; first | refine sWant ?_ | refine sSkip ?_ | refine sSkipU ?_))
  all_goals refine ts_nil ?_
  refine tl_mapUpdate rfl rfl rfl hk (fun es' ck' h1 h2 => ?_)
  repeat' (first | (refine i_op ?_; first | (refine iMv ?_; refine qMv ?_) | (refine iLd ?_; refine qLd ?_) | (refine iFa ?_; refine qFa ?_) | (refine iAd ?_; refine qAd ?_) | (refine iSb ?_; refine qSb ?_) | (refine iMl ?_; refine qMl ?_) | (refine iRm ?_; refine qRm ?_) | (refine iQu ?_; refine qQu ?_) | (refine iSr ?_; refine qSr ?_) | (refine iSh ?_; refine qSh ?_) | (refine iCm ?_; refine qCm ?_) | (refine iEx ?_; refine qEx ?_) | (refine iAs ?_; refine qAs ?_) | (refine iPk ?_; refine qPk ?_) | (refine iNc ?_; refine qNc ?_) | (refine iIa ?_; refine qIa ?_) | (refine iCv ?_; refine qCv ?_) | (refine iBi ?_; refine qBi ?_) | (refine iUn ?_; refine qUn ?_) | (refine iFl ?_; refine qFl ?_) | (refine iLu ?_; refine qLu ?_) | (refine iBu ?_; refine qBu ?_) | (refine iSl ?_; refine qSl ?_) | (refine iMf ?_; refine qMf ?_) | (refine iMi ?_; refine qMi ?_) | (refine iTa ?_; refine qTa ?_) | (refine iSt ?_; refine qSt ?_) | (refine iAl ?_; first | refine qAlA (fun _ => ?_) | refine qAlS (fun _ => ?_)) | (refine iBx ?_; first | refine qBxA (fun _ => ?_) | refine qBxS (fun _ => ?_)) | (refine iMm ?_; refine qMm (fun _ => ?_)) | (refine iBs ?_; refine qBs (fun _ => ?_)) | (refine i_gd ?_; first | refine qWant ?_ | refine qSkip ?_ | refine qSkip0 ?_ | refine qSkipU ?_)) | refine tl_nil ?_ | refine tc_seq ?_ | refine tc_region ?_ | refine te_seq ?_ | (refine i_cond ?_; first | refine qCt ?_ | refine qCf ?_) | refine tc_block ?_ | refine te_block_normal ?_ | refine te_block_ret ?_ | refine te_then_ret ?_ | refine te_block_hit ?_ | (refine i_miss ?_; refine qMiss ?_) | refine te_then_exit ?_ | refine tc_exit ?_ | refine tc_ret ?_ | refine tc_skip ?_)
  exact qE ⟨rfl, rfl, es', ck', h1, h2, rfl⟩

/-- what a Write comes to -/
def DS.write (D : DS) (i : Int) (blk : Blk) : DS × Int :=
  if D.dead then (D, 9) else if i < 0 ∨ (D.secs.length : Int) ≤ i then (D, 2)
  else if D.armed = 0 then ({ D.tick with dead := true, secs := putC D.secs i.toNat blk }, 9)
  else if D.failing = 0 then (D.tick, 8)
  else ({ D.tick with armed := cnt D.armed, secs := putC D.secs i.toNat blk }, 0)
theorem write_spec (ρ : Hp) (b : Nat) (hb : HB) (mb : Nat) (es : List MapEntry) (ck : Nat) (D : DS) (i : Int) (blk : Blk) (hb64 : blk.length = 64) (hD : D.Ok) (hm : MapOk D.secs es) :
    Spec Try.prog 14 [.pointer (some ⟨b, 0, none⟩), .int .i64 i, bv blk] ρ (diskL b hb mb es ck D)
      (fun v ρ' L' => v = .int .i64 (D.write i blk).2 ∧ ρ' = ρ ∧ ∃ es' ck', MapOk (D.write i blk).1.secs es' ∧ L' = diskL b hb mb es' ck' (D.write i blk).1) := by
  obtain ⟨s, ops, armed, failing, dead⟩ := D
  obtain ⟨hs, a1, a2, f1, f2⟩ := hD
  dsimp only at hs a1 a2 f1 f2 hm
  have hl : (blk.map u8c).length = 64 := by simpa using hb64
  have hk := hm.keys
  cases dead with
  | true =>
    have he : DS.write ⟨s, ops, armed, failing, true⟩ i blk = (⟨s, ops, armed, failing, true⟩, 9) := by simp [DS.write]
    simp only [he]
    refine spec_enter Try.func14 rfl rfl rfl fun u R => ?_
    simp only [argsE, List.cons_append, List.nil_append, diskL, bv]
    repeat' (first | (refine tl_is (.func 34) ?_; refine qC rfl rfl (does_dead _ _ _ _ _ _ _ _ _ _ _) ?_; rintro v ρ' L' hle ⟨rfl, rfl, rfl⟩ <;> (try simp only [List.cons_append, List.nil_append, List.append_eq])) | (refine i_op ?_; first | (refine iMv ?_; refine qMv ?_) | (refine iLd ?_; refine qLd ?_) | (refine iFa ?_; refine qFa ?_) | (refine iAd ?_; refine qAd ?_) | (refine iSb ?_; refine qSb ?_) | (refine iMl ?_; refine qMl ?_) | (refine iRm ?_; refine qRm ?_) | (refine iQu ?_; refine qQu ?_) | (refine iSr ?_; refine qSr ?_) | (refine iSh ?_; refine qSh ?_) | (refine iCm ?_; refine qCm ?_) | (refine iEx ?_; refine qEx ?_) | (refine iAs ?_; refine qAs ?_) | (refine iPk ?_; refine qPk ?_) | (refine iNc ?_; refine qNc ?_) | (refine iIa ?_; refine qIa ?_) | (refine iCv ?_; refine qCv ?_) | (refine iBi ?_; refine qBi ?_) | (refine iUn ?_; refine qUn ?_) | (refine iFl ?_; refine qFl ?_) | (refine iLu ?_; refine qLu ?_) | (refine iBu ?_; refine qBu ?_) | (refine iSl ?_; refine qSl ?_) | (refine iMf ?_; refine qMf ?_) | (refine iMi ?_; refine qMi ?_) | (refine iTa ?_; refine qTa ?_) | (refine iSt ?_; refine qSt ?_) | (refine iAl ?_; first | refine qAlA (fun _ => ?_) | refine qAlS (fun _ => ?_)) | (refine iBx ?_; first | refine qBxA (fun _ => ?_) | refine qBxS (fun _ => ?_)) | (refine iMm ?_; refine qMm (fun _ => ?_)) | (refine iBs ?_; refine qBs (fun _ => ?_)) | (refine i_gd ?_; first | refine qWant ?_ | refine qSkip ?_ | refine qSkip0 ?_ | refine qSkipU ?_)) | refine tl_nil ?_ | refine tc_seq ?_ | refine tc_region ?_ | refine te_seq ?_ | (refine i_cond ?_; first | refine qCt ?_ | refine qCf ?_) | refine tc_block ?_ | refine te_block_normal ?_ | refine te_block_ret ?_ | refine te_then_ret ?_ | refine te_block_hit ?_ | (refine i_miss ?_; refine qMiss ?_) | refine te_then_exit ?_ | refine tc_exit ?_ | refine tc_ret ?_ | refine tc_skip ?_)
    exact qE ⟨rfl, rfl, es, ck, hm, rfl⟩
  | false =>
    by_cases hi : i < 0 ∨ (s.length : Int) ≤ i
    · have he : DS.write ⟨s, ops, armed, failing, false⟩ i blk = (⟨s, ops, armed, failing, false⟩, 2) := by simp [DS.write, hi]
      simp only [he]
      refine spec_enter Try.func14 rfl rfl rfl fun u R => ?_
      simp only [argsE, List.cons_append, List.nil_append, diskL, bv]
      repeat' (first | (refine tl_is (.func 34) ?_; refine qC rfl rfl (does_arg _ _ _ _ _ _ _ _ _ _ _ hi) ?_; rintro v ρ' L' hle ⟨rfl, rfl, rfl⟩ <;> (try simp only [List.cons_append, List.nil_append, List.append_eq])) | (refine i_op ?_; first | (refine iMv ?_; refine qMv ?_) | (refine iLd ?_; refine qLd ?_) | (refine iFa ?_; refine qFa ?_) | (refine iAd ?_; refine qAd ?_) | (refine iSb ?_; refine qSb ?_) | (refine iMl ?_; refine qMl ?_) | (refine iRm ?_; refine qRm ?_) | (refine iQu ?_; refine qQu ?_) | (refine iSr ?_; refine qSr ?_) | (refine iSh ?_; refine qSh ?_) | (refine iCm ?_; refine qCm ?_) | (refine iEx ?_; refine qEx ?_) | (refine iAs ?_; refine qAs ?_) | (refine iPk ?_; refine qPk ?_) | (refine iNc ?_; refine qNc ?_) | (refine iIa ?_; refine qIa ?_) | (refine iCv ?_; refine qCv ?_) | (refine iBi ?_; refine qBi ?_) | (refine iUn ?_; refine qUn ?_) | (refine iFl ?_; refine qFl ?_) | (refine iLu ?_; refine qLu ?_) | (refine iBu ?_; refine qBu ?_) | (refine iSl ?_; refine qSl ?_) | (refine iMf ?_; refine qMf ?_) | (refine iMi ?_; refine qMi ?_) | (refine iTa ?_; refine qTa ?_) | (refine iSt ?_; refine qSt ?_) | (refine iAl ?_; first | refine qAlA (fun _ => ?_) | refine qAlS (fun _ => ?_)) | (refine iBx ?_; first | refine qBxA (fun _ => ?_) | refine qBxS (fun _ => ?_)) | (refine iMm ?_; refine qMm (fun _ => ?_)) | (refine iBs ?_; refine qBs (fun _ => ?_)) | (refine i_gd ?_; first | refine qWant ?_ | refine qSkip ?_ | refine qSkip0 ?_ | refine qSkipU ?_)) | refine tl_nil ?_ | refine tc_seq ?_ | refine tc_region ?_ | refine te_seq ?_ | (refine i_cond ?_; first | refine qCt ?_ | refine qCf ?_) | refine tc_block ?_ | refine te_block_normal ?_ | refine te_block_ret ?_ | refine te_then_ret ?_ | refine te_block_hit ?_ | (refine i_miss ?_; refine qMiss ?_) | refine te_then_exit ?_ | refine tc_exit ?_ | refine tc_ret ?_ | refine tc_skip ?_)
      exact qE ⟨rfl, rfl, es, ck, hm, rfl⟩
    · have hi0 : 0 ≤ i := by omega
      have hi1 : i < s.length := by omega
      have hlen : (putC s i.toNat blk).length = s.length := putC_length
      have hheld : heldC (putC s i.toNat blk) = heldC s := heldC_putC (by omega)
      by_cases ha : armed = 0
      · subst ha
        have he : DS.write ⟨s, ops, 0, failing, false⟩ i blk = (⟨putC s i.toNat blk, IntKind.i64.wrap (ops + 1), 0, cnt failing, true⟩, 9) := by simp [DS.write, hi, DS.tick]
        simp only [he]
        refine spec_enter Try.func14 rfl rfl rfl fun u R => ?_
        simp only [argsE, List.cons_append, List.nil_append, diskL, bv, hlen, hheld]
        repeat' (first | (refine tl_is (.func 34) ?_; refine qC rfl rfl (does_dies _ _ _ _ _ _ _ _ _ _ _ _ _ hi0 hi1 f1 f2 (write1 _ _ _ _ _ _ _ _ _ _ _ _ _ _ _ blk hb64 hk)) ?_; rintro v ρ' L' hle ⟨rfl, v0, h0, rfl, es', ck', h1, h2, rfl⟩ <;> (try simp only [List.cons_append, List.nil_append, List.append_eq])) | (refine i_op ?_; first | (refine iMv ?_; refine qMv ?_) | (refine iLd ?_; refine qLd ?_) | (refine iFa ?_; refine qFa ?_) | (refine iAd ?_; refine qAd ?_) | (refine iSb ?_; refine qSb ?_) | (refine iMl ?_; refine qMl ?_) | (refine iRm ?_; refine qRm ?_) | (refine iQu ?_; refine qQu ?_) | (refine iSr ?_; refine qSr ?_) | (refine iSh ?_; refine qSh ?_) | (refine iCm ?_; refine qCm ?_) | (refine iEx ?_; refine qEx ?_) | (refine iAs ?_; refine qAs ?_) | (refine iPk ?_; refine qPk ?_) | (refine iNc ?_; refine qNc ?_) | (refine iIa ?_; refine qIa ?_) | (refine iCv ?_; refine qCv ?_) | (refine iBi ?_; refine qBi ?_) | (refine iUn ?_; refine qUn ?_) | (refine iFl ?_; refine qFl ?_) | (refine iLu ?_; refine qLu ?_) | (refine iBu ?_; refine qBu ?_) | (refine iSl ?_; refine qSl ?_) | (refine iMf ?_; refine qMf ?_) | (refine iMi ?_; refine qMi ?_) | (refine iTa ?_; refine qTa ?_) | (refine iSt ?_; refine qSt ?_) | (refine iAl ?_; first | refine qAlA (fun _ => ?_) | refine qAlS (fun _ => ?_)) | (refine iBx ?_; first | refine qBxA (fun _ => ?_) | refine qBxS (fun _ => ?_)) | (refine iMm ?_; refine qMm (fun _ => ?_)) | (refine iBs ?_; refine qBs (fun _ => ?_)) | (refine i_gd ?_; first | refine qWant ?_ | refine qSkip ?_ | refine qSkip0 ?_ | refine qSkipU ?_)) | refine tl_nil ?_ | refine tc_seq ?_ | refine tc_region ?_ | refine te_seq ?_ | (refine i_cond ?_; first | refine qCt ?_ | refine qCf ?_) | refine tc_block ?_ | refine te_block_normal ?_ | refine te_block_ret ?_ | refine te_then_ret ?_ | refine te_block_hit ?_ | (refine i_miss ?_; refine qMiss ?_) | refine te_then_exit ?_ | refine tc_exit ?_ | refine tc_ret ?_ | refine tc_skip ?_)
        exact qE ⟨rfl, rfl, es', ck', hm.put hi0 hi1 h1 h2, rfl⟩
      · by_cases hf : failing = 0
        · subst hf
          have he : DS.write ⟨s, ops, armed, 0, false⟩ i blk = (⟨s, IntKind.i64.wrap (ops + 1), armed, -1, false⟩, 8) := by simp [DS.write, hi, DS.tick, ha, cnt]
          simp only [he]
          refine spec_enter Try.func14 rfl rfl rfl fun u R => ?_
          simp only [argsE, List.cons_append, List.nil_append, diskL, bv]
          repeat' (first | (refine tl_is (.func 34) ?_; refine qC rfl rfl (does_fail_w _ _ _ _ _ _ _ _ _ _ _ hi0 hi1 ha) ?_; rintro v ρ' L' hle ⟨rfl, rfl, rfl⟩ <;> (try simp only [List.cons_append, List.nil_append, List.append_eq])) | (refine i_op ?_; first | (refine iMv ?_; refine qMv ?_) | (refine iLd ?_; refine qLd ?_) | (refine iFa ?_; refine qFa ?_) | (refine iAd ?_; refine qAd ?_) | (refine iSb ?_; refine qSb ?_) | (refine iMl ?_; refine qMl ?_) | (refine iRm ?_; refine qRm ?_) | (refine iQu ?_; refine qQu ?_) | (refine iSr ?_; refine qSr ?_) | (refine iSh ?_; refine qSh ?_) | (refine iCm ?_; refine qCm ?_) | (refine iEx ?_; refine qEx ?_) | (refine iAs ?_; refine qAs ?_) | (refine iPk ?_; refine qPk ?_) | (refine iNc ?_; refine qNc ?_) | (refine iIa ?_; refine qIa ?_) | (refine iCv ?_; refine qCv ?_) | (refine iBi ?_; refine qBi ?_) | (refine iUn ?_; refine qUn ?_) | (refine iFl ?_; refine qFl ?_) | (refine iLu ?_; refine qLu ?_) | (refine iBu ?_; refine qBu ?_) | (refine iSl ?_; refine qSl ?_) | (refine iMf ?_; refine qMf ?_) | (refine iMi ?_; refine qMi ?_) | (refine iTa ?_; refine qTa ?_) | (refine iSt ?_; refine qSt ?_) | (refine iAl ?_; first | refine qAlA (fun _ => ?_) | refine qAlS (fun _ => ?_)) | (refine iBx ?_; first | refine qBxA (fun _ => ?_) | refine qBxS (fun _ => ?_)) | (refine iMm ?_; refine qMm (fun _ => ?_)) | (refine iBs ?_; refine qBs (fun _ => ?_)) | (refine i_gd ?_; first | refine qWant ?_ | refine qSkip ?_ | refine qSkip0 ?_ | refine qSkipU ?_)) | refine tl_nil ?_ | refine tc_seq ?_ | refine tc_region ?_ | refine te_seq ?_ | (refine i_cond ?_; first | refine qCt ?_ | refine qCf ?_) | refine tc_block ?_ | refine te_block_normal ?_ | refine te_block_ret ?_ | refine te_then_ret ?_ | refine te_block_hit ?_ | (refine i_miss ?_; refine qMiss ?_) | refine te_then_exit ?_ | refine tc_exit ?_ | refine tc_ret ?_ | refine tc_skip ?_)
          exact qE ⟨rfl, rfl, es, ck, hm, rfl⟩
        · have he : DS.write ⟨s, ops, armed, failing, false⟩ i blk = (⟨putC s i.toNat blk, IntKind.i64.wrap (ops + 1), cnt armed, cnt failing, false⟩, 0) := by simp [DS.write, hi, DS.tick, ha, hf]
          simp only [he]
          refine spec_enter Try.func14 rfl rfl rfl fun u R => ?_
          simp only [argsE, List.cons_append, List.nil_append, diskL, bv, hlen, hheld]
          repeat' (first | (refine tl_is (.func 34) ?_; refine qC rfl rfl (does_ok_w _ _ _ _ _ _ _ _ _ _ _ _ _ _ _ hi0 hi1 hf f1 f2 ha a1 a2 (write1 _ _ _ _ _ _ _ _ _ _ _ _ _ _ _ blk hb64 hk)) ?_; rintro v ρ' L' hle ⟨rfl, v0, h0, rfl, es', ck', h1, h2, rfl⟩ <;> (try simp only [List.cons_append, List.nil_append, List.append_eq])) | (refine i_op ?_; first | (refine iMv ?_; refine qMv ?_) | (refine iLd ?_; refine qLd ?_) | (refine iFa ?_; refine qFa ?_) | (refine iAd ?_; refine qAd ?_) | (refine iSb ?_; refine qSb ?_) | (refine iMl ?_; refine qMl ?_) | (refine iRm ?_; refine qRm ?_) | (refine iQu ?_; refine qQu ?_) | (refine iSr ?_; refine qSr ?_) | (refine iSh ?_; refine qSh ?_) | (refine iCm ?_; refine qCm ?_) | (refine iEx ?_; refine qEx ?_) | (refine iAs ?_; refine qAs ?_) | (refine iPk ?_; refine qPk ?_) | (refine iNc ?_; refine qNc ?_) | (refine iIa ?_; refine qIa ?_) | (refine iCv ?_; refine qCv ?_) | (refine iBi ?_; refine qBi ?_) | (refine iUn ?_; refine qUn ?_) | (refine iFl ?_; refine qFl ?_) | (refine iLu ?_; refine qLu ?_) | (refine iBu ?_; refine qBu ?_) | (refine iSl ?_; refine qSl ?_) | (refine iMf ?_; refine qMf ?_) | (refine iMi ?_; refine qMi ?_) | (refine iTa ?_; refine qTa ?_) | (refine iSt ?_; refine qSt ?_) | (refine iAl ?_; first | refine qAlA (fun _ => ?_) | refine qAlS (fun _ => ?_)) | (refine iBx ?_; first | refine qBxA (fun _ => ?_) | refine qBxS (fun _ => ?_)) | (refine iMm ?_; refine qMm (fun _ => ?_)) | (refine iBs ?_; refine qBs (fun _ => ?_)) | (refine i_gd ?_; first | refine qWant ?_ | refine qSkip ?_ | refine qSkip0 ?_ | refine qSkipU ?_)) | refine tl_nil ?_ | refine tc_seq ?_ | refine tc_region ?_ | refine te_seq ?_ | (refine i_cond ?_; first | refine qCt ?_ | refine qCf ?_) | refine tc_block ?_ | refine te_block_normal ?_ | refine te_block_ret ?_ | refine te_then_ret ?_ | refine te_block_hit ?_ | (refine i_miss ?_; refine qMiss ?_) | refine te_then_exit ?_ | refine tc_exit ?_ | refine tc_ret ?_ | refine tc_skip ?_)
          exact qE ⟨rfl, rfl, es', ck', hm.put hi0 hi1 h1 h2, rfl⟩
end Go.Proofs.E

namespace Go.Proofs.E
open Go
set_option linter.unusedVariables false
set_option linter.unusedSimpArgs false
set_option maxRecDepth 4000
attribute [local irreducible] Yl TL TC TE Spec YSpec R1 Hp.le EnvLe TS TR YS Stays

theorem read1 (ρ : Hp) (b : Nat) (hb : HB) (mb pb ib rb : Nat) (s : Secs) (ops armed failing : Int) (i : Nat) (dead : Bool) (es : List MapEntry) (ck : Nat) (r : List Value) (hr : r.length = 64) (hs : SecsOk s) (hm : MapOk s es) (hi : i < s.length) :
    Spec Try.prog 39 [.pointer (some ⟨pb, 0, none⟩), .pointer (some ⟨ib, 0, none⟩), .pointer (some ⟨rb, 0, none⟩)] ρ
      [[(b, dO hb mb s.length ops armed failing dead)], [(hb.b, .cells ⟨heldC s ++ hb.sp⟩ 34 (0, 0))], [(mb, .map ⟨es⟩ ck)], [(pb, .cells ⟨[.pointer (some ⟨b, 0, none⟩)]⟩ 27 (0, 0))], [(ib, .cells ⟨[.int .i64 i]⟩ 3 (0, 0))], [(rb, .cells ⟨r⟩ 34 (0, 0))]]
      (fun v ρ' L' => v = .tuple ⟨[]⟩ ∧ ρ' = ρ ∧ L' = [[(b, dO hb mb s.length ops armed failing dead)], [(hb.b, .cells ⟨heldC s ++ hb.sp⟩ 34 (0, 0))], [(mb, .map ⟨es⟩ ck)], [(pb, .cells ⟨[.pointer (some ⟨b, 0, none⟩)]⟩ 27 (0, 0))], [(ib, .cells ⟨[.int .i64 i]⟩ 3 (0, 0))], [(rb, .cells ⟨(says1 s[i]).map u8c⟩ 34 (0, 0))]]) := by
  have hk := hm.keys
  have hat := hm.at hi
  have hh : (s[i].1.map u8c).length = 64 := by simpa using hs.held s[i] (List.getElem_mem hi)
  have ht : ((heldC s ++ hb.sp).drop (0 + i * 64)).take 64 = (s[i].1).map u8c := by rw [Nat.zero_add]; exact heldC_take' hb.sp hs.held hi
  have hlen := heldC_length' hb.sp hs.held
  have o1 := u8c_one
  cases hc : s[i].2 with
  | none =>
    have hsay : says1 s[i] = s[i].1 := by simp [says1, hc]
    rw [hc] at hat
    simp only [Option.map_none] at hat
    have hone := u8c_one s[i].1
    refine spec_enter Try.func39 rfl rfl rfl fun u R => ?_
    simp only [argsE, List.cons_append, List.nil_append, dO, hsay]
    repeat' (first | (refine i_op ?_; first | (refine iMv ?_; refine qMv ?_) | (refine iLd ?_; refine qLd ?_) | (refine iFa ?_; refine qFa ?_) | (refine iAd ?_; refine qAd ?_) | (refine iSb ?_; refine qSb ?_) | (refine iMl ?_; refine qMl ?_) | (refine iRm ?_; refine qRm ?_) | (refine iQu ?_; refine qQu ?_) | (refine iSr ?_; refine qSr ?_) | (refine iSh ?_; refine qSh ?_) | (refine iCm ?_; refine qCm ?_) | (refine iEx ?_; refine qEx ?_) | (refine iAs ?_; refine qAs ?_) | (refine iPk ?_; refine qPk ?_) | (refine iNc ?_; refine qNc ?_) | (refine iIa ?_; refine qIa ?_) | (refine iCv ?_; refine qCv ?_) | (refine iBi ?_; refine qBi ?_) | (refine iUn ?_; refine qUn ?_) | (refine iFl ?_; refine qFl ?_) | (refine iLu ?_; refine qLu ?_) | (refine iBu ?_; refine qBu ?_) | (refine iSl ?_; refine qSl ?_) | (refine iMf ?_; refine qMf ?_) | (refine iMi ?_; refine qMi ?_) | (refine iTa ?_; refine qTa ?_) | (refine iSt ?_; refine qSt ?_) | (refine iAl ?_; first | refine qAlA (fun _ => ?_) | refine qAlS (fun _ => ?_)) | (refine iBx ?_; first | refine qBxA (fun _ => ?_) | refine qBxS (fun _ => ?_)) | (refine iMm ?_; refine qMm (fun _ => ?_)) | (refine iBs ?_; refine qBs (fun _ => ?_)) | (refine i_gd ?_; first | refine qWant ?_ | refine qSkip ?_ | refine qSkip0 ?_ | refine qSkipU ?_)) | refine tl_nil ?_ | refine tc_seq ?_ | refine tc_region ?_ | refine te_seq ?_ | (refine i_cond ?_; first | refine qCt ?_ | refine qCf ?_) | refine tc_block ?_ | refine te_block_normal ?_ | refine te_block_ret ?_ | refine te_then_ret ?_ | refine te_block_hit ?_ | (refine i_miss ?_; refine qMiss ?_) | refine te_then_exit ?_ | refine tc_exit ?_ | refine tc_ret ?_ | refine tc_skip ?_)
    refine tc_any (Stays _ _ _) stays_refl ?_
    all_goals refine rLd 0 ?_
    all_goals refine rNc 1 ?_
    all_goals refine rFa 2 ?_
    all_goals refine rLd 3 ?_
    all_goals refine rLd 4 ?_
    all_goals refine rLu 5 ?_
    all_goals refine rMv 6 ?_
    all_goals refine rEx 7 ?_
    all_goals refine rEx 8 ?_
    all_goals (refine rStep (i := 9) ?_; ((try refine qWant ?_); (first | (refine iSt ?_; refine qSt ?_) | (refine iAl ?_; first | refine qAlA (fun _ => ?_) | refine qAlS (fun _ => ?_)) | (refine iBx ?_; first | refine qBxA (fun _ => ?_) | refine qBxS (fun _ => ?_)) | (refine iMm ?_; refine qMm (fun _ => ?_)) | (refine iBs ?_; refine qBs (fun _ => ?_))); (try simp only [List.cons_append, List.nil_append, List.append_eq]); refine tl_nil ?_; refine rNext ?_))
    all_goals (refine rStep (i := 10) ?_; ((try refine qWant ?_); (first | (refine iSt ?_; refine qSt ?_) | (refine iAl ?_; first | refine qAlA (fun _ => ?_) | refine qAlS (fun _ => ?_)) | (refine iBx ?_; first | refine qBxA (fun _ => ?_) | refine qBxS (fun _ => ?_)) | (refine iMm ?_; refine qMm (fun _ => ?_)) | (refine iBs ?_; refine qBs (fun _ => ?_))); (try simp only [List.cons_append, List.nil_append, List.append_eq]); refine tl_nil ?_; refine rNext ?_))
    all_goals refine rFull ?_
    all_goals refine rAs 11 ?_
    all_goals refine rDone ?_
    repeat' (first | (refine i_op ?_; first | (refine iMv ?_; refine qMv ?_) | (refine iLd ?_; refine qLd ?_) | (refine iFa ?_; refine qFa ?_) | (refine iAd ?_; refine qAd ?_) | (refine iSb ?_; refine qSb ?_) | (refine iMl ?_; refine qMl ?_) | (refine iRm ?_; refine qRm ?_) | (refine iQu ?_; refine qQu ?_) | (refine iSr ?_; refine qSr ?_) | (refine iSh ?_; refine qSh ?_) | (refine iCm ?_; refine qCm ?_) | (refine iEx ?_; refine qEx ?_) | (refine iAs ?_; refine qAs ?_) | (refine iPk ?_; refine qPk ?_) | (refine iNc ?_; refine qNc ?_) | (refine iIa ?_; refine qIa ?_) | (refine iCv ?_; refine qCv ?_) | (refine iBi ?_; refine qBi ?_) | (refine iUn ?_; refine qUn ?_) | (refine iFl ?_; refine qFl ?_) | (refine iLu ?_; refine qLu ?_) | (refine iBu ?_; refine qBu ?_) | (refine iSl ?_; refine qSl ?_) | (refine iMf ?_; refine qMf ?_) | (refine iMi ?_; refine qMi ?_) | (refine iTa ?_; refine qTa ?_) | (refine iSt ?_; refine qSt ?_) | (refine iAl ?_; first | refine qAlA (fun _ => ?_) | refine qAlS (fun _ => ?_)) | (refine iBx ?_; first | refine qBxA (fun _ => ?_) | refine qBxS (fun _ => ?_)) | (refine iMm ?_; refine qMm (fun _ => ?_)) | (refine iBs ?_; refine qBs (fun _ => ?_)) | (refine i_gd ?_; first | refine qWant ?_ | refine qSkip ?_ | refine qSkip0 ?_ | refine qSkipU ?_)) | refine tl_nil ?_ | refine tc_seq ?_ | refine tc_region ?_ | refine te_seq ?_ | (refine i_cond ?_; first | refine qCt ?_ | refine qCf ?_) | refine tc_block ?_ | refine te_block_normal ?_ | refine te_block_ret ?_ | refine te_then_ret ?_ | refine te_block_hit ?_ | (refine i_miss ?_; refine qMiss ?_) | refine te_then_exit ?_ | refine tc_exit ?_ | refine tc_ret ?_ | refine tc_skip ?_)
    refine tc_draw 7 (by decide +kernel) (by decide +kernel) ?_
    repeat' (first | (refine jLd ?_; refine sLd ?_) | (refine jFa ?_; refine sFa ?_) | (refine jNc ?_; refine sNc ?_) | (refine jIa ?_; refine sIa ?_) | (refine j_gd ?_; first | refine sWant ?_ | refine sSkip ?_ | refine sSkipU ?_))
    all_goals refine ts_nil ?_
    repeat' (first | (refine i_op ?_; first | (refine iMv ?_; refine qMv ?_) | (refine iLd ?_; refine qLd ?_) | (refine iFa ?_; refine qFa ?_) | (refine iAd ?_; refine qAd ?_) | (refine iSb ?_; refine qSb ?_) | (refine iMl ?_; refine qMl ?_) | (refine iRm ?_; refine qRm ?_) | (refine iQu ?_; refine qQu ?_) | (refine iSr ?_; refine qSr ?_) | (refine iSh ?_; refine qSh ?_) | (refine iCm ?_; refine qCm ?_) | (refine iEx ?_; refine qEx ?_) | (refine iAs ?_; refine qAs ?_) | (refine iPk ?_; refine qPk ?_) | (refine iNc ?_; refine qNc ?_) | (refine iIa ?_; refine qIa ?_) | (refine iCv ?_; refine qCv ?_) | (refine iBi ?_; refine qBi ?_) | (refine iUn ?_; refine qUn ?_) | (refine iFl ?_; refine qFl ?_) | (refine iLu ?_; refine qLu ?_) | (refine iBu ?_; refine qBu ?_) | (refine iSl ?_; refine qSl ?_) | (refine iMf ?_; refine qMf ?_) | (refine iMi ?_; refine qMi ?_) | (refine iTa ?_; refine qTa ?_) | (refine iSt ?_; refine qSt ?_) | (refine iAl ?_; first | refine qAlA (fun _ => ?_) | refine qAlS (fun _ => ?_)) | (refine iBx ?_; first | refine qBxA (fun _ => ?_) | refine qBxS (fun _ => ?_)) | (refine iMm ?_; refine qMm (fun _ => ?_)) | (refine iBs ?_; refine qBs (fun _ => ?_)) | (refine i_gd ?_; first | refine qWant ?_ | refine qSkip ?_ | refine qSkip0 ?_ | refine qSkipU ?_)) | refine tl_nil ?_ | refine tc_seq ?_ | refine tc_region ?_ | refine te_seq ?_ | (refine i_cond ?_; first | refine qCt ?_ | refine qCf ?_) | refine tc_block ?_ | refine te_block_normal ?_ | refine te_block_ret ?_ | refine te_then_ret ?_ | refine te_block_hit ?_ | (refine i_miss ?_; refine qMiss ?_) | refine te_then_exit ?_ | refine tc_exit ?_ | refine tc_ret ?_ | refine tc_skip ?_)
    exact qE ⟨rfl, rfl, rfl⟩
  | some c =>
    have hsay : says1 s[i] = c := by simp [says1, hc]
    have hcl : (c.map u8c).length = 64 := by simpa using hs.cached s[i] (List.getElem_mem hi) c hc
    rw [hc] at hat
    simp only [Option.map_some] at hat
    have hone := u8c_one c
    refine spec_enter Try.func39 rfl rfl rfl fun u R => ?_
    simp only [argsE, List.cons_append, List.nil_append, dO, hsay]
    repeat' (first | (refine i_op ?_; first | (refine iMv ?_; refine qMv ?_) | (refine iLd ?_; refine qLd ?_) | (refine iFa ?_; refine qFa ?_) | (refine iAd ?_; refine qAd ?_) | (refine iSb ?_; refine qSb ?_) | (refine iMl ?_; refine qMl ?_) | (refine iRm ?_; refine qRm ?_) | (refine iQu ?_; refine qQu ?_) | (refine iSr ?_; refine qSr ?_) | (refine iSh ?_; refine qSh ?_) | (refine iCm ?_; refine qCm ?_) | (refine iEx ?_; refine qEx ?_) | (refine iAs ?_; refine qAs ?_) | (refine iPk ?_; refine qPk ?_) | (refine iNc ?_; refine qNc ?_) | (refine iIa ?_; refine qIa ?_) | (refine iCv ?_; refine qCv ?_) | (refine iBi ?_; refine qBi ?_) | (refine iUn ?_; refine qUn ?_) | (refine iFl ?_; refine qFl ?_) | (refine iLu ?_; refine qLu ?_) | (refine iBu ?_; refine qBu ?_) | (refine iSl ?_; refine qSl ?_) | (refine iMf ?_; refine qMf ?_) | (refine iMi ?_; refine qMi ?_) | (refine iTa ?_; refine qTa ?_) | (refine iSt ?_; refine qSt ?_) | (refine iAl ?_; first | refine qAlA (fun _ => ?_) | refine qAlS (fun _ => ?_)) | (refine iBx ?_; first | refine qBxA (fun _ => ?_) | refine qBxS (fun _ => ?_)) | (refine iMm ?_; refine qMm (fun _ => ?_)) | (refine iBs ?_; refine qBs (fun _ => ?_)) | (refine i_gd ?_; first | refine qWant ?_ | refine qSkip ?_ | refine qSkip0 ?_ | refine qSkipU ?_)) | refine tl_nil ?_ | refine tc_seq ?_ | refine tc_region ?_ | refine te_seq ?_ | (refine i_cond ?_; first | refine qCt ?_ | refine qCf ?_) | refine tc_block ?_ | refine te_block_normal ?_ | refine te_block_ret ?_ | refine te_then_ret ?_ | refine te_block_hit ?_ | (refine i_miss ?_; refine qMiss ?_) | refine te_then_exit ?_ | refine tc_exit ?_ | refine tc_ret ?_ | refine tc_skip ?_)
    refine tc_any (Stays _ _ _) stays_refl ?_
    all_goals refine rLd 0 ?_
    all_goals refine rNc 1 ?_
    all_goals refine rFa 2 ?_
    all_goals refine rLd 3 ?_
    all_goals refine rLd 4 ?_
    all_goals refine rLu 5 ?_
    all_goals refine rMv 6 ?_
    all_goals refine rEx 7 ?_
    all_goals refine rEx 8 ?_
    all_goals (refine rStep (i := 9) ?_; ((try refine qWant ?_); (first | (refine iSt ?_; refine qSt ?_) | (refine iAl ?_; first | refine qAlA (fun _ => ?_) | refine qAlS (fun _ => ?_)) | (refine iBx ?_; first | refine qBxA (fun _ => ?_) | refine qBxS (fun _ => ?_)) | (refine iMm ?_; refine qMm (fun _ => ?_)) | (refine iBs ?_; refine qBs (fun _ => ?_))); (try simp only [List.cons_append, List.nil_append, List.append_eq]); refine tl_nil ?_; refine rNext ?_))
    all_goals (refine rStep (i := 10) ?_; ((try refine qWant ?_); (first | (refine iSt ?_; refine qSt ?_) | (refine iAl ?_; first | refine qAlA (fun _ => ?_) | refine qAlS (fun _ => ?_)) | (refine iBx ?_; first | refine qBxA (fun _ => ?_) | refine qBxS (fun _ => ?_)) | (refine iMm ?_; refine qMm (fun _ => ?_)) | (refine iBs ?_; refine qBs (fun _ => ?_))); (try simp only [List.cons_append, List.nil_append, List.append_eq]); refine tl_nil ?_; refine rNext ?_))
    all_goals refine rFull ?_
    all_goals refine rAs 11 ?_
    all_goals refine rDone ?_
    repeat' (first | (refine i_op ?_; first | (refine iMv ?_; refine qMv ?_) | (refine iLd ?_; refine qLd ?_) | (refine iFa ?_; refine qFa ?_) | (refine iAd ?_; refine qAd ?_) | (refine iSb ?_; refine qSb ?_) | (refine iMl ?_; refine qMl ?_) | (refine iRm ?_; refine qRm ?_) | (refine iQu ?_; refine qQu ?_) | (refine iSr ?_; refine qSr ?_) | (refine iSh ?_; refine qSh ?_) | (refine iCm ?_; refine qCm ?_) | (refine iEx ?_; refine qEx ?_) | (refine iAs ?_; refine qAs ?_) | (refine iPk ?_; refine qPk ?_) | (refine iNc ?_; refine qNc ?_) | (refine iIa ?_; refine qIa ?_) | (refine iCv ?_; refine qCv ?_) | (refine iBi ?_; refine qBi ?_) | (refine iUn ?_; refine qUn ?_) | (refine iFl ?_; refine qFl ?_) | (refine iLu ?_; refine qLu ?_) | (refine iBu ?_; refine qBu ?_) | (refine iSl ?_; refine qSl ?_) | (refine iMf ?_; refine qMf ?_) | (refine iMi ?_; refine qMi ?_) | (refine iTa ?_; refine qTa ?_) | (refine iSt ?_; refine qSt ?_) | (refine iAl ?_; first | refine qAlA (fun _ => ?_) | refine qAlS (fun _ => ?_)) | (refine iBx ?_; first | refine qBxA (fun _ => ?_) | refine qBxS (fun _ => ?_)) | (refine iMm ?_; refine qMm (fun _ => ?_)) | (refine iBs ?_; refine qBs (fun _ => ?_)) | (refine i_gd ?_; first | refine qWant ?_ | refine qSkip ?_ | refine qSkip0 ?_ | refine qSkipU ?_)) | refine tl_nil ?_ | refine tc_seq ?_ | refine tc_region ?_ | refine te_seq ?_ | (refine i_cond ?_; first | refine qCt ?_ | refine qCf ?_) | refine tc_block ?_ | refine te_block_normal ?_ | refine te_block_ret ?_ | refine te_then_ret ?_ | refine te_block_hit ?_ | (refine i_miss ?_; refine qMiss ?_) | refine te_then_exit ?_ | refine tc_exit ?_ | refine tc_ret ?_ | refine tc_skip ?_)
    exact qE ⟨rfl, rfl, rfl⟩
end Go.Proofs.E

namespace Go.Proofs.E
open Go
set_option linter.unusedVariables false
set_option linter.unusedSimpArgs false
set_option maxRecDepth 4000
attribute [local irreducible] Yl TL TC TE Spec YSpec R1 Hp.le EnvLe TS TR YS Stays

def zblk : Blk := List.replicate 64 0
theorem zblk_cells : List.replicate 64 (Value.int .u8 0) = zblk.map u8c := by rfl
def DS.read (D : DS) (i : Int) : DS × Blk × Int :=
  if D.dead then (D, zblk, 9) else if i < 0 ∨ (D.secs.length : Int) ≤ i then (D, zblk, 2)
  else if D.failing = 0 then (D.tick, zblk, 8)
  else (D.tick, says1 (D.secs[i.toNat]?.getD (zblk, none)), 0)
theorem read_spec (ρ : Hp) (b : Nat) (hb : HB) (mb : Nat) (es : List MapEntry) (ck : Nat) (D : DS) (i : Int) (hD : D.Ok) (hm : MapOk D.secs es) :
    Spec Try.prog 13 [.pointer (some ⟨b, 0, none⟩), .int .i64 i] ρ (diskL b hb mb es ck D)
      (fun v ρ' L' => v = .tuple ⟨[bv (D.read i).2.1, .int .i64 (D.read i).2.2]⟩ ∧ ρ' = ρ ∧ L' = diskL b hb mb es ck (D.read i).1) := by
  obtain ⟨s, ops, armed, failing, dead⟩ := D
  obtain ⟨hs, a1, a2, f1, f2⟩ := hD
  dsimp only at hs a1 a2 f1 f2 hm
  have hz0 : (List.replicate 64 (Value.int .u8 0)).length = 64 := by rfl
  have hz64 : (List.replicate 64 (Value.int .u8 0)).all (·.oneCell') = true := by rfl
  cases dead with
  | true =>
    have he : DS.read ⟨s, ops, armed, failing, true⟩ i = (⟨s, ops, armed, failing, true⟩, zblk, 9) := by simp [DS.read]
    simp only [he]
    refine spec_enter Try.func13 rfl rfl rfl fun u R => ?_
    simp only [argsE, List.cons_append, List.nil_append, diskL, bv, ← zblk_cells]
    repeat' (first | (refine tl_is (.func 34) ?_; refine qC rfl rfl (does_dead _ _ _ _ _ _ _ _ _ _ _) ?_; rintro v ρ' L' hle ⟨rfl, rfl, rfl⟩ <;> (try simp only [List.cons_append, List.nil_append, List.append_eq])) | (refine i_op ?_; first | (refine iMv ?_; refine qMv ?_) | (refine iLd ?_; refine qLd ?_) | (refine iFa ?_; refine qFa ?_) | (refine iAd ?_; refine qAd ?_) | (refine iSb ?_; refine qSb ?_) | (refine iMl ?_; refine qMl ?_) | (refine iRm ?_; refine qRm ?_) | (refine iQu ?_; refine qQu ?_) | (refine iSr ?_; refine qSr ?_) | (refine iSh ?_; refine qSh ?_) | (refine iCm ?_; refine qCm ?_) | (refine iEx ?_; refine qEx ?_) | (refine iAs ?_; refine qAs ?_) | (refine iPk ?_; refine qPk ?_) | (refine iNc ?_; refine qNc ?_) | (refine iIa ?_; refine qIa ?_) | (refine iCv ?_; refine qCv ?_) | (refine iBi ?_; refine qBi ?_) | (refine iUn ?_; refine qUn ?_) | (refine iFl ?_; refine qFl ?_) | (refine iLu ?_; refine qLu ?_) | (refine iBu ?_; refine qBu ?_) | (refine iSl ?_; refine qSl ?_) | (refine iMf ?_; refine qMf ?_) | (refine iMi ?_; refine qMi ?_) | (refine iTa ?_; refine qTa ?_) | (refine iSt ?_; refine qSt ?_) | (refine iAl ?_; first | refine qAlA (fun _ => ?_) | refine qAlS (fun _ => ?_)) | (refine iBx ?_; first | refine qBxA (fun _ => ?_) | refine qBxS (fun _ => ?_)) | (refine iMm ?_; refine qMm (fun _ => ?_)) | (refine iBs ?_; refine qBs (fun _ => ?_)) | (refine i_gd ?_; first | refine qWant ?_ | refine qSkip ?_ | refine qSkip0 ?_ | refine qSkipU ?_)) | refine tl_nil ?_ | refine tc_seq ?_ | refine tc_region ?_ | refine te_seq ?_ | (refine i_cond ?_; first | refine qCt ?_ | refine qCf ?_) | refine tc_block ?_ | refine te_block_normal ?_ | refine te_block_ret ?_ | refine te_then_ret ?_ | refine te_block_hit ?_ | (refine i_miss ?_; refine qMiss ?_) | refine te_then_exit ?_ | refine tc_exit ?_ | refine tc_ret ?_ | refine tc_skip ?_)
    exact qE ⟨rfl, rfl, rfl⟩
  | false =>
    by_cases hi : i < 0 ∨ (s.length : Int) ≤ i
    · have he : DS.read ⟨s, ops, armed, failing, false⟩ i = (⟨s, ops, armed, failing, false⟩, zblk, 2) := by simp [DS.read, hi]
      simp only [he]
      refine spec_enter Try.func13 rfl rfl rfl fun u R => ?_
      simp only [argsE, List.cons_append, List.nil_append, diskL, bv, ← zblk_cells]
      repeat' (first | (refine tl_is (.func 34) ?_; refine qC rfl rfl (does_arg _ _ _ _ _ _ _ _ _ _ _ hi) ?_; rintro v ρ' L' hle ⟨rfl, rfl, rfl⟩ <;> (try simp only [List.cons_append, List.nil_append, List.append_eq])) | (refine i_op ?_; first | (refine iMv ?_; refine qMv ?_) | (refine iLd ?_; refine qLd ?_) | (refine iFa ?_; refine qFa ?_) | (refine iAd ?_; refine qAd ?_) | (refine iSb ?_; refine qSb ?_) | (refine iMl ?_; refine qMl ?_) | (refine iRm ?_; refine qRm ?_) | (refine iQu ?_; refine qQu ?_) | (refine iSr ?_; refine qSr ?_) | (refine iSh ?_; refine qSh ?_) | (refine iCm ?_; refine qCm ?_) | (refine iEx ?_; refine qEx ?_) | (refine iAs ?_; refine qAs ?_) | (refine iPk ?_; refine qPk ?_) | (refine iNc ?_; refine qNc ?_) | (refine iIa ?_; refine qIa ?_) | (refine iCv ?_; refine qCv ?_) | (refine iBi ?_; refine qBi ?_) | (refine iUn ?_; refine qUn ?_) | (refine iFl ?_; refine qFl ?_) | (refine iLu ?_; refine qLu ?_) | (refine iBu ?_; refine qBu ?_) | (refine iSl ?_; refine qSl ?_) | (refine iMf ?_; refine qMf ?_) | (refine iMi ?_; refine qMi ?_) | (refine iTa ?_; refine qTa ?_) | (refine iSt ?_; refine qSt ?_) | (refine iAl ?_; first | refine qAlA (fun _ => ?_) | refine qAlS (fun _ => ?_)) | (refine iBx ?_; first | refine qBxA (fun _ => ?_) | refine qBxS (fun _ => ?_)) | (refine iMm ?_; refine qMm (fun _ => ?_)) | (refine iBs ?_; refine qBs (fun _ => ?_)) | (refine i_gd ?_; first | refine qWant ?_ | refine qSkip ?_ | refine qSkip0 ?_ | refine qSkipU ?_)) | refine tl_nil ?_ | refine tc_seq ?_ | refine tc_region ?_ | refine te_seq ?_ | (refine i_cond ?_; first | refine qCt ?_ | refine qCf ?_) | refine tc_block ?_ | refine te_block_normal ?_ | refine te_block_ret ?_ | refine te_then_ret ?_ | refine te_block_hit ?_ | (refine i_miss ?_; refine qMiss ?_) | refine te_then_exit ?_ | refine tc_exit ?_ | refine tc_ret ?_ | refine tc_skip ?_)
      exact qE ⟨rfl, rfl, rfl⟩
    · have hi0 : 0 ≤ i := by omega
      have hi1 : i < s.length := by omega
      by_cases hf : failing = 0
      · subst hf
        have he : DS.read ⟨s, ops, armed, 0, false⟩ i = (⟨s, IntKind.i64.wrap (ops + 1), armed, -1, false⟩, zblk, 8) := by simp [DS.read, hi, DS.tick, cnt]
        simp only [he]
        refine spec_enter Try.func13 rfl rfl rfl fun u R => ?_
        simp only [argsE, List.cons_append, List.nil_append, diskL, bv, ← zblk_cells]
        repeat' (first | (refine tl_is (.func 34) ?_; refine qC rfl rfl (does_fail_r _ _ _ _ _ _ _ _ _ hi0 hi1) ?_; rintro v ρ' L' hle ⟨rfl, rfl, rfl⟩ <;> (try simp only [List.cons_append, List.nil_append, List.append_eq])) | (refine i_op ?_; first | (refine iMv ?_; refine qMv ?_) | (refine iLd ?_; refine qLd ?_) | (refine iFa ?_; refine qFa ?_) | (refine iAd ?_; refine qAd ?_) | (refine iSb ?_; refine qSb ?_) | (refine iMl ?_; refine qMl ?_) | (refine iRm ?_; refine qRm ?_) | (refine iQu ?_; refine qQu ?_) | (refine iSr ?_; refine qSr ?_) | (refine iSh ?_; refine qSh ?_) | (refine iCm ?_; refine qCm ?_) | (refine iEx ?_; refine qEx ?_) | (refine iAs ?_; refine qAs ?_) | (refine iPk ?_; refine qPk ?_) | (refine iNc ?_; refine qNc ?_) | (refine iIa ?_; refine qIa ?_) | (refine iCv ?_; refine qCv ?_) | (refine iBi ?_; refine qBi ?_) | (refine iUn ?_; refine qUn ?_) | (refine iFl ?_; refine qFl ?_) | (refine iLu ?_; refine qLu ?_) | (refine iBu ?_; refine qBu ?_) | (refine iSl ?_; refine qSl ?_) | (refine iMf ?_; refine qMf ?_) | (refine iMi ?_; refine qMi ?_) | (refine iTa ?_; refine qTa ?_) | (refine iSt ?_; refine qSt ?_) | (refine iAl ?_; first | refine qAlA (fun _ => ?_) | refine qAlS (fun _ => ?_)) | (refine iBx ?_; first | refine qBxA (fun _ => ?_) | refine qBxS (fun _ => ?_)) | (refine iMm ?_; refine qMm (fun _ => ?_)) | (refine iBs ?_; refine qBs (fun _ => ?_)) | (refine i_gd ?_; first | refine qWant ?_ | refine qSkip ?_ | refine qSkip0 ?_ | refine qSkipU ?_)) | refine tl_nil ?_ | refine tc_seq ?_ | refine tc_region ?_ | refine te_seq ?_ | (refine i_cond ?_; first | refine qCt ?_ | refine qCf ?_) | refine tc_block ?_ | refine te_block_normal ?_ | refine te_block_ret ?_ | refine te_then_ret ?_ | refine te_block_hit ?_ | (refine i_miss ?_; refine qMiss ?_) | refine te_then_exit ?_ | refine tc_exit ?_ | refine tc_ret ?_ | refine tc_skip ?_)
        exact qE ⟨rfl, rfl, rfl⟩
      · obtain ⟨k, rfl⟩ : ∃ k : Nat, i = k := ⟨i.toNat, by omega⟩
        have hk : k < s.length := by omega
        have hsay : (says1 s[k]).length = 64 := by
          unfold says1
          cases hc : s[k].2 with
          | none => exact hs.held s[k] (List.getElem_mem hk)
          | some c => exact hs.cached s[k] (List.getElem_mem hk) c hc
        have hsl : ((says1 s[k]).map u8c).length = 64 := by simpa using hsay
        have hone := u8c_one (says1 s[k])
        have he : DS.read ⟨s, ops, armed, failing, false⟩ (k : Int) = (⟨s, IntKind.i64.wrap (ops + 1), armed, cnt failing, false⟩, says1 s[k], 0) := by simp [DS.read, hi, DS.tick, hf, hk]
        simp only [he]
        refine spec_enter Try.func13 rfl rfl rfl fun u R => ?_
        simp only [argsE, List.cons_append, List.nil_append, diskL, bv]
        repeat' (first | (refine tl_is (.func 34) ?_; refine qC rfl rfl (does_ok_r _ _ _ _ _ _ _ _ _ _ _ _ _ hi0 hi1 hf f1 f2 (read1 _ _ _ _ _ _ _ _ _ _ _ _ _ _ _ _ hz0 hs hm hk)) ?_; rintro v ρ' L' hle ⟨rfl, v0, h0, rfl, rfl⟩ <;> (try simp only [List.cons_append, List.nil_append, List.append_eq])) | (refine i_op ?_; first | (refine iMv ?_; refine qMv ?_) | (refine iLd ?_; refine qLd ?_) | (refine iFa ?_; refine qFa ?_) | (refine iAd ?_; refine qAd ?_) | (refine iSb ?_; refine qSb ?_) | (refine iMl ?_; refine qMl ?_) | (refine iRm ?_; refine qRm ?_) | (refine iQu ?_; refine qQu ?_) | (refine iSr ?_; refine qSr ?_) | (refine iSh ?_; refine qSh ?_) | (refine iCm ?_; refine qCm ?_) | (refine iEx ?_; refine qEx ?_) | (refine iAs ?_; refine qAs ?_) | (refine iPk ?_; refine qPk ?_) | (refine iNc ?_; refine qNc ?_) | (refine iIa ?_; refine qIa ?_) | (refine iCv ?_; refine qCv ?_) | (refine iBi ?_; refine qBi ?_) | (refine iUn ?_; refine qUn ?_) | (refine iFl ?_; refine qFl ?_) | (refine iLu ?_; refine qLu ?_) | (refine iBu ?_; refine qBu ?_) | (refine iSl ?_; refine qSl ?_) | (refine iMf ?_; refine qMf ?_) | (refine iMi ?_; refine qMi ?_) | (refine iTa ?_; refine qTa ?_) | (refine iSt ?_; refine qSt ?_) | (refine iAl ?_; first | refine qAlA (fun _ => ?_) | refine qAlS (fun _ => ?_)) | (refine iBx ?_; first | refine qBxA (fun _ => ?_) | refine qBxS (fun _ => ?_)) | (refine iMm ?_; refine qMm (fun _ => ?_)) | (refine iBs ?_; refine qBs (fun _ => ?_)) | (refine i_gd ?_; first | refine qWant ?_ | refine qSkip ?_ | refine qSkip0 ?_ | refine qSkipU ?_)) | refine tl_nil ?_ | refine tc_seq ?_ | refine tc_region ?_ | refine te_seq ?_ | (refine i_cond ?_; first | refine qCt ?_ | refine qCf ?_) | refine tc_block ?_ | refine te_block_normal ?_ | refine te_block_ret ?_ | refine te_then_ret ?_ | refine te_block_hit ?_ | (refine i_miss ?_; refine qMiss ?_) | refine te_then_exit ?_ | refine tc_exit ?_ | refine tc_ret ?_ | refine tc_skip ?_)
        exact qE ⟨rfl, rfl, rfl⟩
end Go.Proofs.E

namespace Go.Proofs.E
open Go
set_option linter.unusedVariables false
set_option linter.unusedSimpArgs false
set_option maxRecDepth 4000
attribute [local irreducible] Yl TL TC TE Spec YSpec R1 Hp.le EnvLe TS TR YS Stays

def isP (s : Secs) (i : Nat) : Bool := ((s[i]?).bind (·.2)).isSome
def pendTo (s : Secs) (k : Nat) : List Nat := (List.range k).filter (isP s)
def pend (s : Secs) : List Nat := pendTo s s.length
theorem pendTo_succ_t {s : Secs} {k : Nat} (h : isP s k = true) : pendTo s (k + 1) = pendTo s k ++ [k] := by simp [pendTo, List.range_succ, h]
theorem pendTo_succ_f {s : Secs} {k : Nat} (h : isP s k = false) : pendTo s (k + 1) = pendTo s k := by simp [pendTo, List.range_succ, h]
theorem pendTo_pre {s : Secs} {k m : Nat} (h : k ≤ m) : pendTo s k <+: pendTo s m := by
  induction m with
  | zero => have : k = 0 := by omega
            subst this; exact List.prefix_refl _
  | succ m ih =>
    by_cases e : k = m + 1
    · subst e; exact List.prefix_refl _
    · refine (ih (by omega)).trans ?_
      cases hp : isP s m
      · rw [pendTo_succ_f hp]; exact List.prefix_refl _
      · rw [pendTo_succ_t hp]; exact List.prefix_append _ _
def natE (i : Nat) : List Value := [.int .i64 i]

theorem pending1_iter (ρ0 : Hp) (b : Nat) (hb : HB) (mb bx : Nat) (s : Secs) (ops armed failing : Int) (dead : Bool) (es : List MapEntry) (ck : Nat) (hm : MapOk s es) (hs : SecsOk s) :
    Iter Try.prog 57 [] [.pointer (some ⟨bx, 0, none⟩)] natE ρ0
      [[(bx, .cells ⟨[.pointer (some ⟨b, 0, none⟩)]⟩ 27 (0, 0))], [(b, dO hb mb s.length ops armed failing dead)], [(mb, .map ⟨es⟩ ck)]] (pend s) := by
  intro l J Jx hY ρ Lj hle hJ
  refine spec_enter Try.func57 rfl rfl rfl fun u R => ?_
  simp only [argsE, List.cons_append, List.nil_append, dO]
  have hk := hm.keys
  have hlen := hs.len
  repeat' (first | (refine i_op ?_; first | (refine iMv ?_; refine qMv ?_) | (refine iLd ?_; refine qLd ?_) | (refine iFa ?_; refine qFa ?_) | (refine iAd ?_; refine qAd ?_) | (refine iSb ?_; refine qSb ?_) | (refine iMl ?_; refine qMl ?_) | (refine iRm ?_; refine qRm ?_) | (refine iQu ?_; refine qQu ?_) | (refine iSr ?_; refine qSr ?_) | (refine iSh ?_; refine qSh ?_) | (refine iCm ?_; refine qCm ?_) | (refine iEx ?_; refine qEx ?_) | (refine iAs ?_; refine qAs ?_) | (refine iPk ?_; refine qPk ?_) | (refine iNc ?_; refine qNc ?_) | (refine iIa ?_; refine qIa ?_) | (refine iCv ?_; refine qCv ?_) | (refine iBi ?_; refine qBi ?_) | (refine iUn ?_; refine qUn ?_) | (refine iFl ?_; refine qFl ?_) | (refine iLu ?_; refine qLu ?_) | (refine iBu ?_; refine qBu ?_) | (refine iSl ?_; refine qSl ?_) | (refine iMf ?_; refine qMf ?_) | (refine iMi ?_; refine qMi ?_) | (refine iTa ?_; refine qTa ?_) | (refine iSt ?_; refine qSt ?_) | (refine iAl ?_; first | refine qAlA (fun _ => ?_) | refine qAlS (fun _ => ?_)) | (refine iBx ?_; first | refine qBxA (fun _ => ?_) | refine qBxS (fun _ => ?_)) | (refine iMm ?_; refine qMm (fun _ => ?_)) | (refine iBs ?_; refine qBs (fun _ => ?_)) | (refine i_gd ?_; first | refine qWant ?_ | refine qSkip ?_ | refine qSkip0 ?_ | refine qSkipU ?_)) | refine tl_nil ?_ | refine tc_seq ?_ | refine tc_region ?_ | refine te_seq ?_ | (refine i_cond ?_; first | refine qCt ?_ | refine qCf ?_) | refine tc_block ?_ | refine te_block_normal ?_ | refine te_block_ret ?_ | refine te_then_ret ?_ | refine te_block_hit ?_ | (refine i_miss ?_; refine qMiss ?_) | refine te_then_exit ?_ | refine tc_exit ?_ | refine tc_ret ?_ | refine tc_skip ?_)
  refine tc_loop_e (fun (y : Nat × Hp × SH) => ⟨[(0, .func (.yield l) ⟨[]⟩ ⟨[]⟩), (1, .pointer (some ⟨bx, 0, none⟩)), (10, .int .i64 s.length), (11, .int .i64 y.1)], y.2.1,
      [[(bx, .cells ⟨[.pointer (some ⟨b, 0, none⟩)]⟩ 27 (0, 0))], [(b, dO hb mb s.length ops armed failing dead)], [(mb, .map ⟨es⟩ ck)]] ++ y.2.2 ++ R⟩)
    (fun y => y.1 ≤ s.length ∧ ρ.le y.2.1 ∧ J (pendTo s y.1) y.2.1 y.2.2) (fun y => s.length - y.1) (0, ρ, Lj) rfl ⟨by simp, Hp.le_refl _, hJ⟩
    ev_le rfl tk inferInstance ?_
  rintro ⟨k, ρ1, L1⟩ ⟨h1, h2, h3⟩
  dsimp only at h1 h2 h3 ⊢
  simp only [List.cons_append, List.nil_append, dO]
  by_cases hlt : k < s.length
  · have hat := hm.at hlt
    cases hc : s[k].2 with
    | none =>
      rw [hc] at hat
      simp only [Option.map_none] at hat
      have hp : isP s k = false := by simp [isP, hlt, hc]
      repeat' (first | (refine i_op ?_; first | (refine iMv ?_; refine qMv ?_) | (refine iLd ?_; refine qLd ?_) | (refine iFa ?_; refine qFa ?_) | (refine iAd ?_; refine qAd ?_) | (refine iSb ?_; refine qSb ?_) | (refine iMl ?_; refine qMl ?_) | (refine iRm ?_; refine qRm ?_) | (refine iQu ?_; refine qQu ?_) | (refine iSr ?_; refine qSr ?_) | (refine iSh ?_; refine qSh ?_) | (refine iCm ?_; refine qCm ?_) | (refine iEx ?_; refine qEx ?_) | (refine iAs ?_; refine qAs ?_) | (refine iPk ?_; refine qPk ?_) | (refine iNc ?_; refine qNc ?_) | (refine iIa ?_; refine qIa ?_) | (refine iCv ?_; refine qCv ?_) | (refine iBi ?_; refine qBi ?_) | (refine iUn ?_; refine qUn ?_) | (refine iFl ?_; refine qFl ?_) | (refine iLu ?_; refine qLu ?_) | (refine iBu ?_; refine qBu ?_) | (refine iSl ?_; refine qSl ?_) | (refine iMf ?_; refine qMf ?_) | (refine iMi ?_; refine qMi ?_) | (refine iTa ?_; refine qTa ?_) | (refine iSt ?_; refine qSt ?_) | (refine iAl ?_; first | refine qAlA (fun _ => ?_) | refine qAlS (fun _ => ?_)) | (refine iBx ?_; first | refine qBxA (fun _ => ?_) | refine qBxS (fun _ => ?_)) | (refine iMm ?_; refine qMm (fun _ => ?_)) | (refine iBs ?_; refine qBs (fun _ => ?_)) | (refine i_gd ?_; first | refine qWant ?_ | refine qSkip ?_ | refine qSkip0 ?_ | refine qSkipU ?_)) | refine tl_nil ?_ | refine tc_seq ?_ | refine tc_region ?_ | refine te_seq ?_ | (refine i_cond ?_; first | refine qCt ?_ | refine qCf ?_) | refine tc_block ?_ | refine te_block_normal ?_ | refine te_block_ret ?_ | refine te_then_ret ?_ | refine te_block_hit ?_ | (refine i_miss ?_; refine qMiss ?_) | refine te_then_exit ?_ | refine tc_exit ?_ | refine tc_ret ?_ | refine tc_skip ?_)
      refine te_round_e (Lm := [_, _, _] ++ L1) (R := R) (k + 1, ρ1, L1) rfl ⟨by omega, h2, by dsimp only; rw [pendTo_succ_f hp]; exact h3⟩ ev_le rfl tk inferInstance (by dsimp only; omega)
    | some c =>
      rw [hc] at hat
      simp only [Option.map_some] at hat
      have hp : isP s k = true := by simp [isP, hlt, hc]
      have hsub := pendTo_succ_t hp
      have hpre : pendTo s k ++ [k] <+: pend s := by rw [← hsub]; exact pendTo_pre (by omega)
      have hone := u8c_one c
      have hcl : (c.map u8c).length = 64 := by simpa using hs.cached s[k] (List.getElem_mem hlt) c hc
      have hy := hY (pendTo s k) k ρ1 L1 hpre (Hp.le_trans hle h2) h3
      unfold dO at hy
      repeat' (first | (refine tl_is (.tmp 25) ?_; refine qY rfl rfl (hy) ?_; rintro v ρ' L' hle ⟨Lj', rfl, ⟨rfl, hj⟩ | ⟨rfl, hj⟩⟩ <;> (try simp only [List.cons_append, List.nil_append, List.append_eq])) | (refine i_op ?_; first | (refine iMv ?_; refine qMv ?_) | (refine iLd ?_; refine qLd ?_) | (refine iFa ?_; refine qFa ?_) | (refine iAd ?_; refine qAd ?_) | (refine iSb ?_; refine qSb ?_) | (refine iMl ?_; refine qMl ?_) | (refine iRm ?_; refine qRm ?_) | (refine iQu ?_; refine qQu ?_) | (refine iSr ?_; refine qSr ?_) | (refine iSh ?_; refine qSh ?_) | (refine iCm ?_; refine qCm ?_) | (refine iEx ?_; refine qEx ?_) | (refine iAs ?_; refine qAs ?_) | (refine iPk ?_; refine qPk ?_) | (refine iNc ?_; refine qNc ?_) | (refine iIa ?_; refine qIa ?_) | (refine iCv ?_; refine qCv ?_) | (refine iBi ?_; refine qBi ?_) | (refine iUn ?_; refine qUn ?_) | (refine iFl ?_; refine qFl ?_) | (refine iLu ?_; refine qLu ?_) | (refine iBu ?_; refine qBu ?_) | (refine iSl ?_; refine qSl ?_) | (refine iMf ?_; refine qMf ?_) | (refine iMi ?_; refine qMi ?_) | (refine iTa ?_; refine qTa ?_) | (refine iSt ?_; refine qSt ?_) | (refine iAl ?_; first | refine qAlA (fun _ => ?_) | refine qAlS (fun _ => ?_)) | (refine iBx ?_; first | refine qBxA (fun _ => ?_) | refine qBxS (fun _ => ?_)) | (refine iMm ?_; refine qMm (fun _ => ?_)) | (refine iBs ?_; refine qBs (fun _ => ?_)) | (refine i_gd ?_; first | refine qWant ?_ | refine qSkip ?_ | refine qSkip0 ?_ | refine qSkipU ?_)) | refine tl_nil ?_ | refine tc_seq ?_ | refine tc_region ?_ | refine te_seq ?_ | (refine i_cond ?_; first | refine qCt ?_ | refine qCf ?_) | refine tc_block ?_ | refine te_block_normal ?_ | refine te_block_ret ?_ | refine te_then_ret ?_ | refine te_block_hit ?_ | (refine i_miss ?_; refine qMiss ?_) | refine te_then_exit ?_ | refine tc_exit ?_ | refine tc_ret ?_ | refine tc_skip ?_)
      · refine te_round_e (Lm := [_, _, _] ++ Lj') (R := R) (k + 1, ρ', Lj') rfl ⟨by omega, Hp.le_trans h2 hle, by dsimp only; rw [hsub]; exact hj⟩ ev_le rfl tk inferInstance (by dsimp only; omega)
      · exact te_end rfl rfl rfl (res0 rfl) (Hp.le_trans h2 hle) tk (by infer_instance) ⟨Lj', rfl, .inr hj⟩
  · have hk2 : k = s.length := by omega
    subst hk2
    repeat' (first | (refine i_op ?_; first | (refine iMv ?_; refine qMv ?_) | (refine iLd ?_; refine qLd ?_) | (refine iFa ?_; refine qFa ?_) | (refine iAd ?_; refine qAd ?_) | (refine iSb ?_; refine qSb ?_) | (refine iMl ?_; refine qMl ?_) | (refine iRm ?_; refine qRm ?_) | (refine iQu ?_; refine qQu ?_) | (refine iSr ?_; refine qSr ?_) | (refine iSh ?_; refine qSh ?_) | (refine iCm ?_; refine qCm ?_) | (refine iEx ?_; refine qEx ?_) | (refine iAs ?_; refine qAs ?_) | (refine iPk ?_; refine qPk ?_) | (refine iNc ?_; refine qNc ?_) | (refine iIa ?_; refine qIa ?_) | (refine iCv ?_; refine qCv ?_) | (refine iBi ?_; refine qBi ?_) | (refine iUn ?_; refine qUn ?_) | (refine iFl ?_; refine qFl ?_) | (refine iLu ?_; refine qLu ?_) | (refine iBu ?_; refine qBu ?_) | (refine iSl ?_; refine qSl ?_) | (refine iMf ?_; refine qMf ?_) | (refine iMi ?_; refine qMi ?_) | (refine iTa ?_; refine qTa ?_) | (refine iSt ?_; refine qSt ?_) | (refine iAl ?_; first | refine qAlA (fun _ => ?_) | refine qAlS (fun _ => ?_)) | (refine iBx ?_; first | refine qBxA (fun _ => ?_) | refine qBxS (fun _ => ?_)) | (refine iMm ?_; refine qMm (fun _ => ?_)) | (refine iBs ?_; refine qBs (fun _ => ?_)) | (refine i_gd ?_; first | refine qWant ?_ | refine qSkip ?_ | refine qSkip0 ?_ | refine qSkipU ?_)) | refine tl_nil ?_ | refine tc_seq ?_ | refine tc_region ?_ | refine te_seq ?_ | (refine i_cond ?_; first | refine qCt ?_ | refine qCf ?_) | refine tc_block ?_ | refine te_block_normal ?_ | refine te_block_ret ?_ | refine te_then_ret ?_ | refine te_block_hit ?_ | (refine i_miss ?_; refine qMiss ?_) | refine te_then_exit ?_ | refine tc_exit ?_ | refine tc_ret ?_ | refine tc_skip ?_)
    exact te_end rfl rfl rfl (res0 rfl) h2 tk (by infer_instance) ⟨L1, rfl, .inl h3⟩
end Go.Proofs.E

namespace Go.Proofs.E
open Go
set_option linter.unusedVariables false
set_option linter.unusedSimpArgs false
set_option maxRecDepth 4000
attribute [local irreducible] Yl TL TC TE Spec YSpec R1 Hp.le EnvLe TS TR YS Stays

theorem pending_spec (ρ : Hp) (b : Nat) : Spec Try.prog 42 [.pointer (some ⟨b, 0, none⟩)] ρ [] (fun v ρ' L' => ∃ bx, v = .func (.func 57) ⟨[]⟩ ⟨[.pointer (some ⟨bx, 0, none⟩)]⟩ ∧ ρ' = ρ ∧ L' = [[(bx, .cells ⟨[.pointer (some ⟨b, 0, none⟩)]⟩ 27 (0, 0))]]) := by
  refine spec_enter Try.func42 rfl rfl rfl fun u R => ?_
  simp only [argsE, List.cons_append, List.nil_append]
  repeat' (first | (refine i_op ?_; first | (refine iMv ?_; refine qMv ?_) | (refine iLd ?_; refine qLd ?_) | (refine iFa ?_; refine qFa ?_) | (refine iAd ?_; refine qAd ?_) | (refine iSb ?_; refine qSb ?_) | (refine iMl ?_; refine qMl ?_) | (refine iRm ?_; refine qRm ?_) | (refine iQu ?_; refine qQu ?_) | (refine iSr ?_; refine qSr ?_) | (refine iSh ?_; refine qSh ?_) | (refine iCm ?_; refine qCm ?_) | (refine iEx ?_; refine qEx ?_) | (refine iAs ?_; refine qAs ?_) | (refine iPk ?_; refine qPk ?_) | (refine iNc ?_; refine qNc ?_) | (refine iIa ?_; refine qIa ?_) | (refine iCv ?_; refine qCv ?_) | (refine iBi ?_; refine qBi ?_) | (refine iUn ?_; refine qUn ?_) | (refine iFl ?_; refine qFl ?_) | (refine iLu ?_; refine qLu ?_) | (refine iBu ?_; refine qBu ?_) | (refine iSl ?_; refine qSl ?_) | (refine iMf ?_; refine qMf ?_) | (refine iMi ?_; refine qMi ?_) | (refine iTa ?_; refine qTa ?_) | (refine iSt ?_; refine qSt ?_) | (refine iAl ?_; first | refine qAlA (fun _ => ?_) | refine qAlS (fun _ => ?_)) | (refine iBx ?_; first | refine qBxA (fun _ => ?_) | refine qBxS (fun _ => ?_)) | (refine iMm ?_; refine qMm (fun _ => ?_)) | (refine iBs ?_; refine qBs (fun _ => ?_)) | (refine i_gd ?_; first | refine qWant ?_ | refine qSkip ?_ | refine qSkip0 ?_ | refine qSkipU ?_)) | refine tl_nil ?_ | refine tc_seq ?_ | refine tc_region ?_ | refine te_seq ?_ | (refine i_cond ?_; first | refine qCt ?_ | refine qCf ?_) | refine tc_block ?_ | refine te_block_normal ?_ | refine te_block_ret ?_ | refine te_then_ret ?_ | refine te_block_hit ?_ | (refine i_miss ?_; refine qMiss ?_) | refine te_then_exit ?_ | refine tc_exit ?_ | refine tc_ret ?_ | refine tc_skip ?_)
  exact qE ⟨_, rfl, rfl, rfl⟩
def iv (i : Nat) : Value := .int .i64 i
theorem iv_one (l : List Nat) : (l.map iv).all (·.oneCell') = true := by
  rw [List.all_eq_true]; intro v hv; obtain ⟨b, _, rfl⟩ := List.mem_map.1 hv; rfl

theorem appendSeq_spec (ρ0 ρ : Hp) (g : Nat) (cs : List Value) (S : SH) (xs : List Nat) (hle : ρ0.le ρ) (hxs : xs.length ≤ 1000000) (hI : Iter Try.prog g [] cs natE ρ0 S xs) [hF : Fun Try.prog g] :
    Spec Try.prog 56 [.slice none 0 0, .func (.func g) ⟨[]⟩ ⟨cs⟩] ρ S (fun v ρ' L' => ρ.le ρ' ∧ ∃ sp, OwnS v xs.length (xs.map iv) sp 1 ∧ L' = S ++ [ownC v (xs.map iv) sp 3]) := by
  refine spec_enter Try.func56 rfl rfl rfl fun u R => ?_
  simp only [argsE, List.cons_append, List.nil_append]
  repeat' (first | (refine i_op ?_; first | (refine iMv ?_; refine qMv ?_) | (refine iLd ?_; refine qLd ?_) | (refine iFa ?_; refine qFa ?_) | (refine iAd ?_; refine qAd ?_) | (refine iSb ?_; refine qSb ?_) | (refine iMl ?_; refine qMl ?_) | (refine iRm ?_; refine qRm ?_) | (refine iQu ?_; refine qQu ?_) | (refine iSr ?_; refine qSr ?_) | (refine iSh ?_; refine qSh ?_) | (refine iCm ?_; refine qCm ?_) | (refine iEx ?_; refine qEx ?_) | (refine iAs ?_; refine qAs ?_) | (refine iPk ?_; refine qPk ?_) | (refine iNc ?_; refine qNc ?_) | (refine iIa ?_; refine qIa ?_) | (refine iCv ?_; refine qCv ?_) | (refine iBi ?_; refine qBi ?_) | (refine iUn ?_; refine qUn ?_) | (refine iFl ?_; refine qFl ?_) | (refine iLu ?_; refine qLu ?_) | (refine iBu ?_; refine qBu ?_) | (refine iSl ?_; refine qSl ?_) | (refine iMf ?_; refine qMf ?_) | (refine iMi ?_; refine qMi ?_) | (refine iTa ?_; refine qTa ?_) | (refine iSt ?_; refine qSt ?_) | (refine iAl ?_; first | refine qAlA (fun _ => ?_) | refine qAlS (fun _ => ?_)) | (refine iBx ?_; first | refine qBxA (fun _ => ?_) | refine qBxS (fun _ => ?_)) | (refine iMm ?_; refine qMm (fun _ => ?_)) | (refine iBs ?_; refine qBs (fun _ => ?_)) | (refine i_gd ?_; first | refine qWant ?_ | refine qSkip ?_ | refine qSkip0 ?_ | refine qSkipU ?_)) | refine tl_nil ?_ | refine tc_seq ?_ | refine tc_region ?_ | refine te_seq ?_ | (refine i_cond ?_; first | refine qCt ?_ | refine qCf ?_) | refine tc_block ?_ | refine te_block_normal ?_ | refine te_block_ret ?_ | refine te_then_ret ?_ | refine te_block_hit ?_ | (refine i_miss ?_; refine qMiss ?_) | refine te_then_exit ?_ | refine tc_exit ?_ | refine tc_ret ?_ | refine tc_skip ?_)
  rename_i sb
  refine tc_rangeFunc (S := S) (L0 := [[(sb, .cells ⟨[.slice none 0 0]⟩ 40 (0, 0))], ownC (.slice none 0 0) [] [] 3]) (R := R) (R0 := [(sb, .cells ⟨[.slice none 0 0]⟩ 40 (0, 0))] :: R) rfl rfl hI hle (fun _ => rfl) rfl
    (fun pre ρ' Lu => ρ.le ρ' ∧ ∃ v sp, OwnS v pre.length (pre.map iv) sp 1 ∧ Lu = [[(sb, .cells ⟨[v]⟩ 40 (0, 0))], ownC v (pre.map iv) sp 3]) (fun _ _ _ => False) ?k1 ?k2 ⟨Hp.le_refl _, _, [], OwnS.nil 1, rfl⟩ ?round ?done ?stop
  case k1 => exact take_skip' take_app'
  case k2 => exact take_cons' rem_here' (take_cons' rem_nil' take_nil')
  case stop => rintro D0 c ρ' Lu _ hf; exact hf.elim
  case round =>
    rintro l tm r pre y ρ' Lu u R' hpre hle' ⟨hle2, v, sp, hown, rfl⟩ hr hrec
    simp only [envP, natE, List.cons_append, List.nil_append]
    repeat' (first | (refine i_op ?_; first | (refine iMv ?_; refine qMv ?_) | (refine iLd ?_; refine qLd ?_) | (refine iFa ?_; refine qFa ?_) | (refine iAd ?_; refine qAd ?_) | (refine iSb ?_; refine qSb ?_) | (refine iMl ?_; refine qMl ?_) | (refine iRm ?_; refine qRm ?_) | (refine iQu ?_; refine qQu ?_) | (refine iSr ?_; refine qSr ?_) | (refine iSh ?_; refine qSh ?_) | (refine iCm ?_; refine qCm ?_) | (refine iEx ?_; refine qEx ?_) | (refine iAs ?_; refine qAs ?_) | (refine iPk ?_; refine qPk ?_) | (refine iNc ?_; refine qNc ?_) | (refine iIa ?_; refine qIa ?_) | (refine iCv ?_; refine qCv ?_) | (refine iBi ?_; refine qBi ?_) | (refine iUn ?_; refine qUn ?_) | (refine iFl ?_; refine qFl ?_) | (refine iLu ?_; refine qLu ?_) | (refine iBu ?_; refine qBu ?_) | (refine iSl ?_; refine qSl ?_) | (refine iMf ?_; refine qMf ?_) | (refine iMi ?_; refine qMi ?_) | (refine iTa ?_; refine qTa ?_) | (refine iSt ?_; refine qSt ?_) | (refine iAl ?_; first | refine qAlA (fun _ => ?_) | refine qAlS (fun _ => ?_)) | (refine iBx ?_; first | refine qBxA (fun _ => ?_) | refine qBxS (fun _ => ?_)) | (refine iMm ?_; refine qMm (fun _ => ?_)) | (refine iBs ?_; refine qBs (fun _ => ?_)) | (refine i_gd ?_; first | refine qWant ?_ | refine qSkip ?_ | refine qSkip0 ?_ | refine qSkipU ?_)) | refine tl_nil ?_ | refine tc_seq ?_ | refine tc_region ?_ | refine te_seq ?_ | (refine i_cond ?_; first | refine qCt ?_ | refine qCf ?_) | refine tc_block ?_ | refine te_block_normal ?_ | refine te_block_ret ?_ | refine te_then_ret ?_ | refine te_block_hit ?_ | (refine i_miss ?_; refine qMiss ?_) | refine te_then_exit ?_ | refine tc_exit ?_ | refine tc_ret ?_ | refine tc_skip ?_)
    refine te_begin rfl hr (fun r' hb hrec' => ?_)
    have hlen := hpre.length_le
    simp only [List.length_append, List.length_singleton] at hlen
    repeat' (first | (refine tl_buildSlice_s rfl rfl rfl rfl (by simp) rfl rfl (fun _ => ?_)) | (refine tl_append (ys := [_]) rfl rfl hown (Src.find (n := 1) rfl) rfl rfl (by decide) rfl (by omega) (by omega) rfl (fun v' sp' hown' => ?_); obtain ⟨a', cap', rfl, hvl⟩ := hown'.len) | (refine i_op ?_; first | (refine iMv ?_; refine qMv ?_) | (refine iLd ?_; refine qLd ?_) | (refine iFa ?_; refine qFa ?_) | (refine iAd ?_; refine qAd ?_) | (refine iSb ?_; refine qSb ?_) | (refine iMl ?_; refine qMl ?_) | (refine iRm ?_; refine qRm ?_) | (refine iQu ?_; refine qQu ?_) | (refine iSr ?_; refine qSr ?_) | (refine iSh ?_; refine qSh ?_) | (refine iCm ?_; refine qCm ?_) | (refine iEx ?_; refine qEx ?_) | (refine iAs ?_; refine qAs ?_) | (refine iPk ?_; refine qPk ?_) | (refine iNc ?_; refine qNc ?_) | (refine iIa ?_; refine qIa ?_) | (refine iCv ?_; refine qCv ?_) | (refine iBi ?_; refine qBi ?_) | (refine iUn ?_; refine qUn ?_) | (refine iFl ?_; refine qFl ?_) | (refine iLu ?_; refine qLu ?_) | (refine iBu ?_; refine qBu ?_) | (refine iSl ?_; refine qSl ?_) | (refine iMf ?_; refine qMf ?_) | (refine iMi ?_; refine qMi ?_) | (refine iTa ?_; refine qTa ?_) | (refine iSt ?_; refine qSt ?_) | (refine iAl ?_; first | refine qAlA (fun _ => ?_) | refine qAlS (fun _ => ?_)) | (refine iBx ?_; first | refine qBxA (fun _ => ?_) | refine qBxS (fun _ => ?_)) | (refine iMm ?_; refine qMm (fun _ => ?_)) | (refine iBs ?_; refine qBs (fun _ => ?_)) | (refine i_gd ?_; first | refine qWant ?_ | refine qSkip ?_ | refine qSkip0 ?_ | refine qSkipU ?_)) | refine tl_nil ?_ | refine tc_seq ?_ | refine tc_region ?_ | refine te_seq ?_ | (refine i_cond ?_; first | refine qCt ?_ | refine qCf ?_) | refine tc_block ?_ | refine te_block_normal ?_ | refine te_block_ret ?_ | refine te_then_ret ?_ | refine te_block_hit ?_ | (refine i_miss ?_; refine qMiss ?_) | refine te_then_exit ?_ | refine tc_exit ?_ | refine tc_ret ?_ | refine tc_skip ?_)
    refine te_front [(l, .loop r')] ?_
    refine te_next (Lu := [[(sb, .cells ⟨[.slice a' (pre.length + 1) cap']⟩ 40 (0, 0))], ownC (.slice a' (pre.length + 1) cap') (pre.map iv ++ [.int .i64 (y : Int)]) sp' 3]) rfl (Hp.le_refl _) ⟨hrec'.tmps.trans hrec.tmps, hrec'.params.trans hrec.params, hrec'.assign.trans hrec.assign, hrec'.body.trans hrec.body⟩ tk tk inferInstance ?_
    refine ⟨hle2, .slice a' (pre.length + 1) cap', sp', ?_, ?_⟩
    · simpa [iv] using hown'
    · simp [iv]
  case done =>
    rintro D0 ρ' Lu hle' ⟨hle2, v, sp, hown, rfl⟩
    simp only [List.cons_append, List.nil_append]
    obtain ⟨a', cap', rfl, hvl⟩ := hown.len
    repeat' (first | (refine i_op ?_; first | (refine iMv ?_; refine qMv ?_) | (refine iLd ?_; refine qLd ?_) | (refine iFa ?_; refine qFa ?_) | (refine iAd ?_; refine qAd ?_) | (refine iSb ?_; refine qSb ?_) | (refine iMl ?_; refine qMl ?_) | (refine iRm ?_; refine qRm ?_) | (refine iQu ?_; refine qQu ?_) | (refine iSr ?_; refine qSr ?_) | (refine iSh ?_; refine qSh ?_) | (refine iCm ?_; refine qCm ?_) | (refine iEx ?_; refine qEx ?_) | (refine iAs ?_; refine qAs ?_) | (refine iPk ?_; refine qPk ?_) | (refine iNc ?_; refine qNc ?_) | (refine iIa ?_; refine qIa ?_) | (refine iCv ?_; refine qCv ?_) | (refine iBi ?_; refine qBi ?_) | (refine iUn ?_; refine qUn ?_) | (refine iFl ?_; refine qFl ?_) | (refine iLu ?_; refine qLu ?_) | (refine iBu ?_; refine qBu ?_) | (refine iSl ?_; refine qSl ?_) | (refine iMf ?_; refine qMf ?_) | (refine iMi ?_; refine qMi ?_) | (refine iTa ?_; refine qTa ?_) | (refine iSt ?_; refine qSt ?_) | (refine iAl ?_; first | refine qAlA (fun _ => ?_) | refine qAlS (fun _ => ?_)) | (refine iBx ?_; first | refine qBxA (fun _ => ?_) | refine qBxS (fun _ => ?_)) | (refine iMm ?_; refine qMm (fun _ => ?_)) | (refine iBs ?_; refine qBs (fun _ => ?_)) | (refine i_gd ?_; first | refine qWant ?_ | refine qSkip ?_ | refine qSkip0 ?_ | refine qSkipU ?_)) | refine tl_nil ?_ | refine tc_seq ?_ | refine tc_region ?_ | refine te_seq ?_ | (refine i_cond ?_; first | refine qCt ?_ | refine qCf ?_) | refine tc_block ?_ | refine te_block_normal ?_ | refine te_block_ret ?_ | refine te_then_ret ?_ | refine te_block_hit ?_ | (refine i_miss ?_; refine qMiss ?_) | refine te_then_exit ?_ | refine tc_exit ?_ | refine tc_ret ?_ | refine tc_skip ?_)
    exact te_end_d rfl rfl rfl inferInstance (res1 rfl (r1_tmp rfl)) hle2 (take_append' (take_skip' take_app') tk) (by infer_instance) ⟨hle2, sp, hown, rfl⟩
end Go.Proofs.E

namespace Go.Proofs.E
open Go
set_option linter.unusedVariables false
set_option linter.unusedSimpArgs false
set_option maxRecDepth 4000
attribute [local irreducible] Yl TL TC TE Spec YSpec R1 Hp.le EnvLe TS TR YS Stays

theorem pendTo_length (s : Secs) (k : Nat) : (pendTo s k).length ≤ k := by
  unfold pendTo
  refine Nat.le_trans (List.length_filter_le _ _) (by simp)
theorem pend_length {s : Secs} (h : SecsOk s) : (pend s).length ≤ 2048 := Nat.le_trans (pendTo_length s _) h.len

theorem collect_spec (ρ0 ρ : Hp) (g : Nat) (cs : List Value) (S : SH) (xs : List Nat) (hle : ρ0.le ρ) (hxs : xs.length ≤ 1000000) (hI : Iter Try.prog g [] cs natE ρ0 S xs) [hF : Fun Try.prog g] :
    Spec Try.prog 41 [.func (.func g) ⟨[]⟩ ⟨cs⟩] ρ S (fun v ρ' L' => ρ.le ρ' ∧ ∃ sp, OwnS v xs.length (xs.map iv) sp 1 ∧ L' = S ++ [ownC v (xs.map iv) sp 3]) := by
  refine spec_enter Try.func41 rfl rfl rfl fun u R => ?_
  simp only [argsE, List.cons_append, List.nil_append]
  repeat' (first | (refine tl_is (.func 56) ?_; refine tl_call rfl rfl (appendSeq_spec ρ0 ρ g cs S xs hle hxs hI) take_app' rfl ?_; rintro v ρ' L' hle' ⟨hle2, sp, hown, rfl⟩) | (refine i_op ?_; first | (refine iMv ?_; refine qMv ?_) | (refine iLd ?_; refine qLd ?_) | (refine iFa ?_; refine qFa ?_) | (refine iAd ?_; refine qAd ?_) | (refine iSb ?_; refine qSb ?_) | (refine iMl ?_; refine qMl ?_) | (refine iRm ?_; refine qRm ?_) | (refine iQu ?_; refine qQu ?_) | (refine iSr ?_; refine qSr ?_) | (refine iSh ?_; refine qSh ?_) | (refine iCm ?_; refine qCm ?_) | (refine iEx ?_; refine qEx ?_) | (refine iAs ?_; refine qAs ?_) | (refine iPk ?_; refine qPk ?_) | (refine iNc ?_; refine qNc ?_) | (refine iIa ?_; refine qIa ?_) | (refine iCv ?_; refine qCv ?_) | (refine iBi ?_; refine qBi ?_) | (refine iUn ?_; refine qUn ?_) | (refine iFl ?_; refine qFl ?_) | (refine iLu ?_; refine qLu ?_) | (refine iBu ?_; refine qBu ?_) | (refine iSl ?_; refine qSl ?_) | (refine iMf ?_; refine qMf ?_) | (refine iMi ?_; refine qMi ?_) | (refine iTa ?_; refine qTa ?_) | (refine iSt ?_; refine qSt ?_) | (refine iAl ?_; first | refine qAlA (fun _ => ?_) | refine qAlS (fun _ => ?_)) | (refine iBx ?_; first | refine qBxA (fun _ => ?_) | refine qBxS (fun _ => ?_)) | (refine iMm ?_; refine qMm (fun _ => ?_)) | (refine iBs ?_; refine qBs (fun _ => ?_)) | (refine i_gd ?_; first | refine qWant ?_ | refine qSkip ?_ | refine qSkip0 ?_ | refine qSkipU ?_)) | refine tl_nil ?_ | refine tc_seq ?_ | refine tc_region ?_ | refine te_seq ?_ | (refine i_cond ?_; first | refine qCt ?_ | refine qCf ?_) | refine tc_block ?_ | refine te_block_normal ?_ | refine te_block_ret ?_ | refine te_then_ret ?_ | refine te_block_hit ?_ | (refine i_miss ?_; refine qMiss ?_) | refine te_then_exit ?_ | refine tc_exit ?_ | refine tc_ret ?_ | refine tc_skip ?_)
  exact te_end rfl rfl rfl (res1 rfl (r1_tmp rfl)) hle2 (by rw [List.append_assoc]; exact take_append' take_app' tk) (by infer_instance) ⟨hle2, sp, hown, rfl⟩

/-- what a list of numbers is, in memory of its own -/
theorem pendingM_spec (ρ : Hp) (b : Nat) (hb : HB) (mb : Nat) (es : List MapEntry) (ck : Nat) (D : DS) (hD : D.Ok) (hm : MapOk D.secs es) :
    Spec Try.prog 17 [.pointer (some ⟨b, 0, none⟩)] ρ (diskL b hb mb es ck D) (fun v ρ' L' => ρ.le ρ' ∧ ∃ sp, OwnS v (pend D.secs).length ((pend D.secs).map iv) sp 1 ∧ L' = diskL b hb mb es ck D ++ [ownC v ((pend D.secs).map iv) sp 3]) := by
  obtain ⟨s, ops, armed, failing, dead⟩ := D
  obtain ⟨hs, a1, a2, f1, f2⟩ := hD
  dsimp only at hs a1 a2 f1 f2 hm ⊢
  have hpl := pend_length hs
  refine spec_enter Try.func17 rfl rfl rfl fun u R => ?_
  simp only [argsE, List.cons_append, List.nil_append, diskL]
  repeat' (first | (refine tl_is (.func 42) ?_; refine qC rfl rfl (pending_spec _ _) ?_; rintro v ρ' L' hle ⟨bx, rfl, rfl, rfl⟩ <;> (try simp only [List.cons_append, List.nil_append, List.append_eq])) | (refine i_op ?_; first | (refine iMv ?_; refine qMv ?_) | (refine iLd ?_; refine qLd ?_) | (refine iFa ?_; refine qFa ?_) | (refine iAd ?_; refine qAd ?_) | (refine iSb ?_; refine qSb ?_) | (refine iMl ?_; refine qMl ?_) | (refine iRm ?_; refine qRm ?_) | (refine iQu ?_; refine qQu ?_) | (refine iSr ?_; refine qSr ?_) | (refine iSh ?_; refine qSh ?_) | (refine iCm ?_; refine qCm ?_) | (refine iEx ?_; refine qEx ?_) | (refine iAs ?_; refine qAs ?_) | (refine iPk ?_; refine qPk ?_) | (refine iNc ?_; refine qNc ?_) | (refine iIa ?_; refine qIa ?_) | (refine iCv ?_; refine qCv ?_) | (refine iBi ?_; refine qBi ?_) | (refine iUn ?_; refine qUn ?_) | (refine iFl ?_; refine qFl ?_) | (refine iLu ?_; refine qLu ?_) | (refine iBu ?_; refine qBu ?_) | (refine iSl ?_; refine qSl ?_) | (refine iMf ?_; refine qMf ?_) | (refine iMi ?_; refine qMi ?_) | (refine iTa ?_; refine qTa ?_) | (refine iSt ?_; refine qSt ?_) | (refine iAl ?_; first | refine qAlA (fun _ => ?_) | refine qAlS (fun _ => ?_)) | (refine iBx ?_; first | refine qBxA (fun _ => ?_) | refine qBxS (fun _ => ?_)) | (refine iMm ?_; refine qMm (fun _ => ?_)) | (refine iBs ?_; refine qBs (fun _ => ?_)) | (refine i_gd ?_; first | refine qWant ?_ | refine qSkip ?_ | refine qSkip0 ?_ | refine qSkipU ?_)) | refine tl_nil ?_ | refine tc_seq ?_ | refine tc_region ?_ | refine te_seq ?_ | (refine i_cond ?_; first | refine qCt ?_ | refine qCf ?_) | refine tc_block ?_ | refine te_block_normal ?_ | refine te_block_ret ?_ | refine te_then_ret ?_ | refine te_block_hit ?_ | (refine i_miss ?_; refine qMiss ?_) | refine te_then_exit ?_ | refine tc_exit ?_ | refine tc_ret ?_ | refine tc_skip ?_)
  refine tl_call rfl rfl (collect_spec ρ' ρ' 57 _ [[(bx, .cells ⟨[.pointer (some ⟨b, 0, none⟩)]⟩ 27 (0, 0))], [(b, dO hb mb s.length ops armed failing dead)], [(mb, .map ⟨es⟩ ck)]] (pend s) (Hp.le_refl _) (by omega) (pending1_iter ρ' b hb mb bx s ops armed failing dead es ck hm hs)) tk rfl ?_
  rintro v ρ2 L' hle' ⟨hle2, sp, hown, rfl⟩
  simp only [List.cons_append, List.nil_append]
  repeat' (first | (refine i_op ?_; first | (refine iMv ?_; refine qMv ?_) | (refine iLd ?_; refine qLd ?_) | (refine iFa ?_; refine qFa ?_) | (refine iAd ?_; refine qAd ?_) | (refine iSb ?_; refine qSb ?_) | (refine iMl ?_; refine qMl ?_) | (refine iRm ?_; refine qRm ?_) | (refine iQu ?_; refine qQu ?_) | (refine iSr ?_; refine qSr ?_) | (refine iSh ?_; refine qSh ?_) | (refine iCm ?_; refine qCm ?_) | (refine iEx ?_; refine qEx ?_) | (refine iAs ?_; refine qAs ?_) | (refine iPk ?_; refine qPk ?_) | (refine iNc ?_; refine qNc ?_) | (refine iIa ?_; refine qIa ?_) | (refine iCv ?_; refine qCv ?_) | (refine iBi ?_; refine qBi ?_) | (refine iUn ?_; refine qUn ?_) | (refine iFl ?_; refine qFl ?_) | (refine iLu ?_; refine qLu ?_) | (refine iBu ?_; refine qBu ?_) | (refine iSl ?_; refine qSl ?_) | (refine iMf ?_; refine qMf ?_) | (refine iMi ?_; refine qMi ?_) | (refine iTa ?_; refine qTa ?_) | (refine iSt ?_; refine qSt ?_) | (refine iAl ?_; first | refine qAlA (fun _ => ?_) | refine qAlS (fun _ => ?_)) | (refine iBx ?_; first | refine qBxA (fun _ => ?_) | refine qBxS (fun _ => ?_)) | (refine iMm ?_; refine qMm (fun _ => ?_)) | (refine iBs ?_; refine qBs (fun _ => ?_)) | (refine i_gd ?_; first | refine qWant ?_ | refine qSkip ?_ | refine qSkip0 ?_ | refine qSkipU ?_)) | refine tl_nil ?_ | refine tc_seq ?_ | refine tc_region ?_ | refine te_seq ?_ | (refine i_cond ?_; first | refine qCt ?_ | refine qCf ?_) | refine tc_block ?_ | refine te_block_normal ?_ | refine te_block_ret ?_ | refine te_then_ret ?_ | refine te_block_hit ?_ | (refine i_miss ?_; refine qMiss ?_) | refine te_then_exit ?_ | refine tc_exit ?_ | refine tc_ret ?_ | refine tc_skip ?_)
  exact te_end rfl rfl rfl (res1 rfl (r1_tmp rfl)) hle2 tk (by infer_instance) ⟨hle2, sp, hown, rfl⟩
theorem pendingM_nil (ρ : Hp) : Spec Try.prog 17 [.pointer none] ρ [] (fun v ρ' L' => v = .slice none 0 0 ∧ ρ' = ρ ∧ L' = []) := by
  refine spec_enter Try.func17 rfl rfl rfl fun u R => ?_
  simp only [argsE, List.cons_append, List.nil_append]
  repeat' (first | (refine i_op ?_; first | (refine iMv ?_; refine qMv ?_) | (refine iLd ?_; refine qLd ?_) | (refine iFa ?_; refine qFa ?_) | (refine iAd ?_; refine qAd ?_) | (refine iSb ?_; refine qSb ?_) | (refine iMl ?_; refine qMl ?_) | (refine iRm ?_; refine qRm ?_) | (refine iQu ?_; refine qQu ?_) | (refine iSr ?_; refine qSr ?_) | (refine iSh ?_; refine qSh ?_) | (refine iCm ?_; refine qCm ?_) | (refine iEx ?_; refine qEx ?_) | (refine iAs ?_; refine qAs ?_) | (refine iPk ?_; refine qPk ?_) | (refine iNc ?_; refine qNc ?_) | (refine iIa ?_; refine qIa ?_) | (refine iCv ?_; refine qCv ?_) | (refine iBi ?_; refine qBi ?_) | (refine iUn ?_; refine qUn ?_) | (refine iFl ?_; refine qFl ?_) | (refine iLu ?_; refine qLu ?_) | (refine iBu ?_; refine qBu ?_) | (refine iSl ?_; refine qSl ?_) | (refine iMf ?_; refine qMf ?_) | (refine iMi ?_; refine qMi ?_) | (refine iTa ?_; refine qTa ?_) | (refine iSt ?_; refine qSt ?_) | (refine iAl ?_; first | refine qAlA (fun _ => ?_) | refine qAlS (fun _ => ?_)) | (refine iBx ?_; first | refine qBxA (fun _ => ?_) | refine qBxS (fun _ => ?_)) | (refine iMm ?_; refine qMm (fun _ => ?_)) | (refine iBs ?_; refine qBs (fun _ => ?_)) | (refine i_gd ?_; first | refine qWant ?_ | refine qSkip ?_ | refine qSkip0 ?_ | refine qSkipU ?_)) | refine tl_nil ?_ | refine tc_seq ?_ | refine tc_region ?_ | refine te_seq ?_ | (refine i_cond ?_; first | refine qCt ?_ | refine qCf ?_) | refine tc_block ?_ | refine te_block_normal ?_ | refine te_block_ret ?_ | refine te_then_ret ?_ | refine te_block_hit ?_ | (refine i_miss ?_; refine qMiss ?_) | refine te_then_exit ?_ | refine tc_exit ?_ | refine tc_ret ?_ | refine tc_skip ?_)
  exact qE ⟨rfl, rfl, rfl⟩
end Go.Proofs.E

namespace Go.Proofs.E
open Go
set_option linter.unusedVariables false
set_option linter.unusedSimpArgs false

theorem filter_range_pre (p : Nat → Bool) : ∀ (n : Nat) (pre : List Nat) (y : Nat), (pre ++ [y]) <+: (List.range n).filter p → pre = (List.range y).filter p ∧ p y = true ∧ y < n
  | 0, pre, y, h => by simp at h
  | n + 1, pre, y, h => by
    rw [List.range_succ, List.filter_append] at h
    cases hp : p n with
    | false =>
      have h' : (pre ++ [y]) <+: (List.range n).filter p := by simpa [hp] using h
      obtain ⟨h1, h2, h3⟩ := filter_range_pre p n pre y h'
      exact ⟨h1, h2, by omega⟩
    | true =>
      have h' : (pre ++ [y]) <+: (List.range n).filter p ++ [n] := by simpa [hp] using h
      by_cases hl : (pre ++ [y]).length ≤ ((List.range n).filter p).length
      · have h2 : (pre ++ [y]) <+: (List.range n).filter p := List.prefix_of_prefix_length_le h' (List.prefix_append _ _) hl
        obtain ⟨h1, h2, h3⟩ := filter_range_pre p n pre y h2
        exact ⟨h1, h2, by omega⟩
      · have hlen := h'.length_le
        have he : pre ++ [y] = (List.range n).filter p ++ [n] := h'.eq_of_length (by simp at hl hlen ⊢; omega)
        obtain ⟨h1, h2⟩ := List.append_inj' he rfl
        simp only [List.cons.injEq, and_true] at h2
        subst h2
        exact ⟨h1, hp, by omega⟩
/-- behind so many settled sectors: what is held -/
def setAfter (keep : Nat → Bool) (s : Secs) (m : Nat) : Secs := s.mapIdx fun i p => if isP s i && decide ((pendTo s i).length < m) && keep (pendTo s i).length then (p.2.getD p.1, p.2) else p
def settled (keep : Nat → Bool) (s : Secs) : Secs := (setAfter keep s (pend s).length).map fun p => (p.1, none)
theorem setAfter_length {keep s m} : (setAfter keep s m).length = s.length := by simp [setAfter]
theorem settled_length {keep s} : (settled keep s).length = s.length := by simp [settled, setAfter_length]
theorem setAfter_zero {keep : Nat → Bool} {s : Secs} : setAfter keep s 0 = s := by
  unfold setAfter
  apply List.ext_getElem (by simp)
  intro i h1 h2
  simp
theorem heldC_settled {keep s} : heldC (settled keep s) = heldC (setAfter keep s (pend s).length) := by simp [heldC, settled, Function.comp_def]
theorem pendTo_lt {s : Secs} {i j : Nat} (h : i < j) (hp : isP s i = true) : (pendTo s i).length < (pendTo s j).length := by
  have := (pendTo_pre (s := s) (k := i + 1) (m := j) (by omega)).length_le
  rw [pendTo_succ_t hp] at this
  simp at this; omega
theorem pendTo_le {s : Secs} {i j : Nat} (h : i ≤ j) : (pendTo s i).length ≤ (pendTo s j).length := (pendTo_pre h).length_le
theorem setAfter_succ {keep : Nat → Bool} {s : Secs} {y : Nat} {h c : Blk} (hy : s[y]? = some (h, some c)) :
    setAfter keep s ((pendTo s y).length + 1) = if keep (pendTo s y).length then (setAfter keep s (pendTo s y).length).set y (c, some c) else setAfter keep s (pendTo s y).length := by
  have hlt : y < s.length := (List.getElem?_eq_some_iff.1 hy).1
  have hyv : s[y] = (h, some c) := (List.getElem?_eq_some_iff.1 hy).2
  have hpy : isP s y = true := by simp [isP, hy]
  have key : ∀ i, i < s.length → i ≠ y → isP s i = true → ((pendTo s i).length < (pendTo s y).length + 1 ↔ (pendTo s i).length < (pendTo s y).length) := by
    intro i hi hne hp
    rcases Nat.lt_trichotomy i y with h1 | h1 | h1
    · have := pendTo_lt h1 hp; omega
    · exact absurd h1 hne
    · have := pendTo_lt h1 hpy; omega
  apply List.ext_getElem
  · split <;> simp [setAfter]
  · intro i h1 h2
    have hi : i < s.length := by simpa [setAfter] using h1
    by_cases e : i = y
    · subst e
      split
      · rename_i hk
        simp [setAfter, hpy, hk, hyv]
      · rename_i hk
        simp [setAfter, hpy, hk]
    · have hne : y ≠ i := fun h => e h.symm
      have : ∀ (q : Secs) (hq : i < q.length) (v : Blk × Option Blk) (hq2 : i < (q.set y v).length), (q.set y v)[i] = q[i] := fun q hq v hq2 => by rw [List.getElem_set_ne hne]
      cases hp : isP s i with
      | false => split <;> simp [setAfter, hp, List.getElem_set_ne hne]
      | true =>
        have hk := key i hi e hp
        split <;> simp [setAfter, hp, List.getElem_set_ne hne, hk]
theorem SecsOk.setAfter {keep : Nat → Bool} {s : Secs} {m : Nat} (h : SecsOk s) : SecsOk (setAfter keep s m) := by
  have hm : ∀ p ∈ E.setAfter keep s m, ∃ q ∈ s, p.2 = q.2 ∧ (p.1 = q.1 ∨ q.2 = some p.1) := by
    intro p hp
    obtain ⟨i, hi, rfl⟩ := List.mem_iff_getElem.1 hp
    have hi' : i < s.length := by simpa [E.setAfter] using hi
    refine ⟨s[i], List.getElem_mem hi', ?_⟩
    simp only [E.setAfter, List.getElem_mapIdx]
    split
    · refine ⟨rfl, ?_⟩
      cases hc : s[i].2 with
      | none => exact .inl rfl
      | some c => exact .inr rfl
    · exact ⟨rfl, .inl rfl⟩
  refine ⟨by rw [setAfter_length]; exact h.len, by rw [setAfter_length]; exact h.pos, fun p hp => ?_, fun p hp c hc => ?_⟩
  · obtain ⟨q, hq, h1, h2 | h2⟩ := hm p hp
    · rw [h2]; exact h.held q hq
    · exact h.cached q hq _ h2
  · obtain ⟨q, hq, h1, h2⟩ := hm p hp
    exact h.cached q hq c (by rw [← h1]; exact hc)
theorem SecsOk.settled {keep : Nat → Bool} {s : Secs} (h : SecsOk s) : SecsOk (settled keep s) := by
  have h1 := h.setAfter (keep := keep) (m := (pend s).length)
  refine ⟨by rw [settled_length]; exact h.len, by rw [settled_length]; exact h.pos, fun p hp => ?_, fun p hp c hc => ?_⟩
  · obtain ⟨q, hq, rfl⟩ := List.mem_map.1 hp
    exact h1.held q hq
  · obtain ⟨q, hq, rfl⟩ := List.mem_map.1 hp
    cases hc
theorem emptyC_settled {keep s} : emptyC (settled keep s) := fun p hp => by
  obtain ⟨q, hq, rfl⟩ := List.mem_map.1 hp
  rfl
end Go.Proofs.E

namespace Go.Proofs.E
open Go
set_option linter.unusedVariables false
set_option linter.unusedSimpArgs false
set_option maxRecDepth 4000
attribute [local irreducible] Yl TL TC TE Spec YSpec R1 Hp.le EnvLe TS TR YS Stays

theorem settle_spec (ρ : Hp) (b : Nat) (hb : HB) (mb : Nat) (es : List MapEntry) (ck : Nat) (s : Secs) (ops armed failing : Int) (dead : Bool) (kf : Nat) (kc : List Value) (Xk : SH) (keep : Nat → Bool) [hkF : Fun Try.prog kf]
    (hK : ∀ nth, nth < 2048 → Spec Try.prog kf ([.int .i64 (nth : Nat)] ++ kc) ρ Xk (fun v ρ' L' => v = .bool (keep nth) ∧ ρ' = ρ ∧ L' = Xk)) (hs : SecsOk s) (hm : MapOk s es) :
    Spec Try.prog 36 [.pointer (some ⟨b, 0, none⟩), .func (.func kf) ⟨[]⟩ ⟨kc⟩] ρ ([[(b, dO hb mb s.length ops armed failing dead)], [(hb.b, .cells ⟨heldC s ++ hb.sp⟩ 34 (0, 0))], [(mb, .map ⟨es⟩ ck)]] ++ Xk)
      (fun v ρ' L' => v = .tuple ⟨[]⟩ ∧ ρ.le ρ' ∧ ∃ mb' ck', L' = [[(b, dO hb mb' s.length ops armed failing dead)], [(hb.b, .cells ⟨heldC (settled keep s) ++ hb.sp⟩ 34 (0, 0))], [(mb', .map ⟨[]⟩ ck')]] ++ Xk) := by
  rw [heldC_settled]
  have hpl := pend_length hs
  have hk := hm.keys
  refine spec_enter Try.func36 rfl rfl rfl fun u R => ?_
  simp only [argsE, List.cons_append, List.nil_append, dO]
  repeat' (first | (refine tl_is (.func 42) ?_; refine qC rfl rfl (pending_spec _ _) ?_; rintro v ρ' L' hle ⟨bx, rfl, rfl, rfl⟩ <;> (try simp only [List.cons_append, List.nil_append, List.append_eq])) | (refine i_op ?_; first | (refine iMv ?_; refine qMv ?_) | (refine iLd ?_; refine qLd ?_) | (refine iFa ?_; refine qFa ?_) | (refine iAd ?_; refine qAd ?_) | (refine iSb ?_; refine qSb ?_) | (refine iMl ?_; refine qMl ?_) | (refine iRm ?_; refine qRm ?_) | (refine iQu ?_; refine qQu ?_) | (refine iSr ?_; refine qSr ?_) | (refine iSh ?_; refine qSh ?_) | (refine iCm ?_; refine qCm ?_) | (refine iEx ?_; refine qEx ?_) | (refine iAs ?_; refine qAs ?_) | (refine iPk ?_; refine qPk ?_) | (refine iNc ?_; refine qNc ?_) | (refine iIa ?_; refine qIa ?_) | (refine iCv ?_; refine qCv ?_) | (refine iBi ?_; refine qBi ?_) | (refine iUn ?_; refine qUn ?_) | (refine iFl ?_; refine qFl ?_) | (refine iLu ?_; refine qLu ?_) | (refine iBu ?_; refine qBu ?_) | (refine iSl ?_; refine qSl ?_) | (refine iMf ?_; refine qMf ?_) | (refine iMi ?_; refine qMi ?_) | (refine iTa ?_; refine qTa ?_) | (refine iSt ?_; refine qSt ?_) | (refine iAl ?_; first | refine qAlA (fun _ => ?_) | refine qAlS (fun _ => ?_)) | (refine iBx ?_; first | refine qBxA (fun _ => ?_) | refine qBxS (fun _ => ?_)) | (refine iMm ?_; refine qMm (fun _ => ?_)) | (refine iBs ?_; refine qBs (fun _ => ?_)) | (refine i_gd ?_; first | refine qWant ?_ | refine qSkip ?_ | refine qSkip0 ?_ | refine qSkipU ?_)) | refine tl_nil ?_ | refine tc_seq ?_ | refine tc_region ?_ | refine te_seq ?_ | (refine i_cond ?_; first | refine qCt ?_ | refine qCf ?_) | refine tc_block ?_ | refine te_block_normal ?_ | refine te_block_ret ?_ | refine te_then_ret ?_ | refine te_block_hit ?_ | (refine i_miss ?_; refine qMiss ?_) | refine te_then_exit ?_ | refine tc_exit ?_ | refine tc_ret ?_ | refine tc_skip ?_)
  rename_i bd bk bn
  refine tc_rangeFunc (S := [[(bx, .cells ⟨[.pointer (some ⟨b, 0, none⟩)]⟩ 27 (0, 0))], [(b, dO hb mb s.length ops armed failing dead)], [(mb, .map ⟨es⟩ ck)]])
    (L0 := [[(bd, .cells ⟨[.pointer (some ⟨b, 0, none⟩)]⟩ 27 (0, 0))], [(bk, .cells ⟨[.func (.func kf) ⟨[]⟩ ⟨kc⟩]⟩ 77 (0, 0))], [(bn, .cells ⟨[.int .i64 (0 : Nat)]⟩ 3 (0, 0))], [(hb.b, .cells ⟨heldC (setAfter keep s 0) ++ hb.sp⟩ 34 (0, 0))]] ++ Xk) (R := R) (R0 := ?r0) rfl rfl (pending1_iter ρ' b hb mb bx s ops armed failing dead es ck hm hs) (Hp.le_refl _) (fun _ => rfl) rfl
    (fun pre ρ1 Lu => ρ1 = ρ' ∧ Lu = [[(bd, .cells ⟨[.pointer (some ⟨b, 0, none⟩)]⟩ 27 (0, 0))], [(bk, .cells ⟨[.func (.func kf) ⟨[]⟩ ⟨kc⟩]⟩ 77 (0, 0))], [(bn, .cells ⟨[.int .i64 (pre.length : Nat)]⟩ 3 (0, 0))], [(hb.b, .cells ⟨heldC (setAfter keep s pre.length) ++ hb.sp⟩ 34 (0, 0))]] ++ Xk) (fun _ _ _ => False) ?k1 ?k2 ⟨rfl, rfl⟩ ?round ?done ?stop
  case k1 => unfold dO; exact tk
  case k2 => rw [setAfter_zero]; exact tk
  case stop => rintro D0 c ρ' Lu _ hf; exact hf.elim
  case round =>
    rintro l tm r pre y ρ1 Lu u R' hpre hle' ⟨rfl, rfl⟩ hr hrec
    simp only [envP, natE, List.cons_append, List.nil_append]
    have hlen := hpre.length_le
    simp only [List.length_append, List.length_singleton] at hlen
    obtain ⟨hpe, hpy, hy⟩ := filter_range_pre _ _ _ _ hpre
    repeat' (first | (refine i_op ?_; first | (refine iMv ?_; refine qMv ?_) | (refine iLd ?_; refine qLd ?_) | (refine iFa ?_; refine qFa ?_) | (refine iAd ?_; refine qAd ?_) | (refine iSb ?_; refine qSb ?_) | (refine iMl ?_; refine qMl ?_) | (refine iRm ?_; refine qRm ?_) | (refine iQu ?_; refine qQu ?_) | (refine iSr ?_; refine qSr ?_) | (refine iSh ?_; refine qSh ?_) | (refine iCm ?_; refine qCm ?_) | (refine iEx ?_; refine qEx ?_) | (refine iAs ?_; refine qAs ?_) | (refine iPk ?_; refine qPk ?_) | (refine iNc ?_; refine qNc ?_) | (refine iIa ?_; refine qIa ?_) | (refine iCv ?_; refine qCv ?_) | (refine iBi ?_; refine qBi ?_) | (refine iUn ?_; refine qUn ?_) | (refine iFl ?_; refine qFl ?_) | (refine iLu ?_; refine qLu ?_) | (refine iBu ?_; refine qBu ?_) | (refine iSl ?_; refine qSl ?_) | (refine iMf ?_; refine qMf ?_) | (refine iMi ?_; refine qMi ?_) | (refine iTa ?_; refine qTa ?_) | (refine iSt ?_; refine qSt ?_) | (refine iAl ?_; first | refine qAlA (fun _ => ?_) | refine qAlS (fun _ => ?_)) | (refine iBx ?_; first | refine qBxA (fun _ => ?_) | refine qBxS (fun _ => ?_)) | (refine iMm ?_; refine qMm (fun _ => ?_)) | (refine iBs ?_; refine qBs (fun _ => ?_)) | (refine i_gd ?_; first | refine qWant ?_ | refine qSkip ?_ | refine qSkip0 ?_ | refine qSkipU ?_)) | refine tl_nil ?_ | refine tc_seq ?_ | refine tc_region ?_ | refine te_seq ?_ | (refine i_cond ?_; first | refine qCt ?_ | refine qCf ?_) | refine tc_block ?_ | refine te_block_normal ?_ | refine te_block_ret ?_ | refine te_then_ret ?_ | refine te_block_hit ?_ | (refine i_miss ?_; refine qMiss ?_) | refine te_then_exit ?_ | refine tc_exit ?_ | refine tc_ret ?_ | refine tc_skip ?_)
    refine te_begin rfl hr (fun r' hbz hrec' => ?_)
    have hpl2 : (pendTo s y).length = pre.length := by rw [hpe]; rfl
    obtain ⟨hd0, c, hsy⟩ : ∃ h c, s[y]? = some (h, some c) := by
      simp only [isP, Option.isSome_iff_exists] at hpy
      obtain ⟨c, hc⟩ := hpy
      rw [List.getElem?_eq_getElem hy] at hc ⊢
      simp only [Option.bind_some] at hc
      exact ⟨s[y].1, c, by rw [← hc]⟩
    have hsv : s[y] = (hd0, some c) := (List.getElem?_eq_some_iff.1 hsy).2
    have hat := hm.at hy
    rw [hsv] at hat
    simp only [Option.map_some] at hat
    have hc64 : c.length = 64 := hs.cached s[y] (List.getElem_mem hy) c (by rw [hsv])
    have hcl : (c.map u8c).length = 64 := by simpa using hc64
    have hone := u8c_one c
    have hsa := hs.setAfter (keep := keep) (m := pre.length)
    have hhl : (heldC (setAfter keep s pre.length) ++ hb.sp).length = s.length * 64 + hb.sp.length := by rw [heldC_length' _ hsa.held, setAfter_length]
    have hnext := setAfter_succ (keep := keep) hsy
    rw [hpl2] at hnext
    have hst := stc_heldC' hb.sp (s := setAfter keep s pre.length) (i := y) (b := c) (some c) hsa.held hc64 (by rw [setAfter_length]; exact hy)
    repeat' (first | (refine tl_is (.tmp 9) ?_; refine qC rfl rfl (hK pre.length (by omega)) ?_; rintro v ρ' L' hle ⟨rfl, rfl, hx⟩ <;> (try simp only [List.cons_append, List.nil_append, List.append_eq, hx])) | (refine i_op ?_; first | (refine iMv ?_; refine qMv ?_) | (refine iLd ?_; refine qLd ?_) | (refine iFa ?_; refine qFa ?_) | (refine iAd ?_; refine qAd ?_) | (refine iSb ?_; refine qSb ?_) | (refine iMl ?_; refine qMl ?_) | (refine iRm ?_; refine qRm ?_) | (refine iQu ?_; refine qQu ?_) | (refine iSr ?_; refine qSr ?_) | (refine iSh ?_; refine qSh ?_) | (refine iCm ?_; refine qCm ?_) | (refine iEx ?_; refine qEx ?_) | (refine iAs ?_; refine qAs ?_) | (refine iPk ?_; refine qPk ?_) | (refine iNc ?_; refine qNc ?_) | (refine iIa ?_; refine qIa ?_) | (refine iCv ?_; refine qCv ?_) | (refine iBi ?_; refine qBi ?_) | (refine iUn ?_; refine qUn ?_) | (refine iFl ?_; refine qFl ?_) | (refine iLu ?_; refine qLu ?_) | (refine iBu ?_; refine qBu ?_) | (refine iSl ?_; refine qSl ?_) | (refine iMf ?_; refine qMf ?_) | (refine iMi ?_; refine qMi ?_) | (refine iTa ?_; refine qTa ?_) | (refine iSt ?_; refine qSt ?_) | (refine iAl ?_; first | refine qAlA (fun _ => ?_) | refine qAlS (fun _ => ?_)) | (refine iBx ?_; first | refine qBxA (fun _ => ?_) | refine qBxS (fun _ => ?_)) | (refine iMm ?_; refine qMm (fun _ => ?_)) | (refine iBs ?_; refine qBs (fun _ => ?_)) | (refine i_gd ?_; first | refine qWant ?_ | refine qSkip ?_ | refine qSkip0 ?_ | refine qSkipU ?_)) | refine tl_nil ?_ | refine tc_seq ?_ | refine tc_region ?_ | refine te_seq ?_ | (refine i_cond ?_; first | refine qCt ?_ | refine qCf ?_) | refine tc_block ?_ | refine te_block_normal ?_ | refine te_block_ret ?_ | refine te_then_ret ?_ | refine te_block_hit ?_ | (refine i_miss ?_; refine qMiss ?_) | refine te_then_exit ?_ | refine tc_exit ?_ | refine tc_ret ?_ | refine tc_skip ?_)
    cases hkp : keep pre.length with
    | false =>
      rw [hkp] at hnext
      simp only [Bool.false_eq_true, if_false] at hnext
      repeat' (first | (refine i_op ?_; first | (refine iMv ?_; refine qMv ?_) | (refine iLd ?_; refine qLd ?_) | (refine iFa ?_; refine qFa ?_) | (refine iAd ?_; refine qAd ?_) | (refine iSb ?_; refine qSb ?_) | (refine iMl ?_; refine qMl ?_) | (refine iRm ?_; refine qRm ?_) | (refine iQu ?_; refine qQu ?_) | (refine iSr ?_; refine qSr ?_) | (refine iSh ?_; refine qSh ?_) | (refine iCm ?_; refine qCm ?_) | (refine iEx ?_; refine qEx ?_) | (refine iAs ?_; refine qAs ?_) | (refine iPk ?_; refine qPk ?_) | (refine iNc ?_; refine qNc ?_) | (refine iIa ?_; refine qIa ?_) | (refine iCv ?_; refine qCv ?_) | (refine iBi ?_; refine qBi ?_) | (refine iUn ?_; refine qUn ?_) | (refine iFl ?_; refine qFl ?_) | (refine iLu ?_; refine qLu ?_) | (refine iBu ?_; refine qBu ?_) | (refine iSl ?_; refine qSl ?_) | (refine iMf ?_; refine qMf ?_) | (refine iMi ?_; refine qMi ?_) | (refine iTa ?_; refine qTa ?_) | (refine iSt ?_; refine qSt ?_) | (refine iAl ?_; first | refine qAlA (fun _ => ?_) | refine qAlS (fun _ => ?_)) | (refine iBx ?_; first | refine qBxA (fun _ => ?_) | refine qBxS (fun _ => ?_)) | (refine iMm ?_; refine qMm (fun _ => ?_)) | (refine iBs ?_; refine qBs (fun _ => ?_)) | (refine i_gd ?_; first | refine qWant ?_ | refine qSkip ?_ | refine qSkip0 ?_ | refine qSkipU ?_)) | refine tl_nil ?_ | refine tc_seq ?_ | refine tc_region ?_ | refine te_seq ?_ | (refine i_cond ?_; first | refine qCt ?_ | refine qCf ?_) | refine tc_block ?_ | refine te_block_normal ?_ | refine te_block_ret ?_ | refine te_then_ret ?_ | refine te_block_hit ?_ | (refine i_miss ?_; refine qMiss ?_) | refine te_then_exit ?_ | refine tc_exit ?_ | refine tc_ret ?_ | refine tc_skip ?_)
      refine te_front [(l, .loop r')] ?_
      refine te_next (Lu := [[(bd, .cells ⟨[.pointer (some ⟨b, 0, none⟩)]⟩ 27 (0, 0))], [(bk, .cells ⟨[.func (.func kf) ⟨[]⟩ ⟨kc⟩]⟩ 77 (0, 0))], [(bn, .cells ⟨[.int .i64 (pre.length + 1 : Nat)]⟩ 3 (0, 0))], [(hb.b, .cells ⟨heldC (setAfter keep s pre.length) ++ hb.sp⟩ 34 (0, 0))]] ++ Xk) rfl (Hp.le_refl _) ⟨hrec'.tmps.trans hrec.tmps, hrec'.params.trans hrec.params, hrec'.assign.trans hrec.assign, hrec'.body.trans hrec.body⟩ tk tk inferInstance ?_
      refine ⟨rfl, ?_⟩
      simp [hnext]
    | true =>
      rw [hkp] at hnext
      simp only [if_true] at hnext
      rw [← hnext] at hst
      repeat' (first | (refine i_op ?_; first | (refine iMv ?_; refine qMv ?_) | (refine iLd ?_; refine qLd ?_) | (refine iFa ?_; refine qFa ?_) | (refine iAd ?_; refine qAd ?_) | (refine iSb ?_; refine qSb ?_) | (refine iMl ?_; refine qMl ?_) | (refine iRm ?_; refine qRm ?_) | (refine iQu ?_; refine qQu ?_) | (refine iSr ?_; refine qSr ?_) | (refine iSh ?_; refine qSh ?_) | (refine iCm ?_; refine qCm ?_) | (refine iEx ?_; refine qEx ?_) | (refine iAs ?_; refine qAs ?_) | (refine iPk ?_; refine qPk ?_) | (refine iNc ?_; refine qNc ?_) | (refine iIa ?_; refine qIa ?_) | (refine iCv ?_; refine qCv ?_) | (refine iBi ?_; refine qBi ?_) | (refine iUn ?_; refine qUn ?_) | (refine iFl ?_; refine qFl ?_) | (refine iLu ?_; refine qLu ?_) | (refine iBu ?_; refine qBu ?_) | (refine iSl ?_; refine qSl ?_) | (refine iMf ?_; refine qMf ?_) | (refine iMi ?_; refine qMi ?_) | (refine iTa ?_; refine qTa ?_) | (refine iSt ?_; refine qSt ?_) | (refine iAl ?_; first | refine qAlA (fun _ => ?_) | refine qAlS (fun _ => ?_)) | (refine iBx ?_; first | refine qBxA (fun _ => ?_) | refine qBxS (fun _ => ?_)) | (refine iMm ?_; refine qMm (fun _ => ?_)) | (refine iBs ?_; refine qBs (fun _ => ?_)) | (refine i_gd ?_; first | refine qWant ?_ | refine qSkip ?_ | refine qSkip0 ?_ | refine qSkipU ?_)) | refine tl_nil ?_ | refine tc_seq ?_ | refine tc_region ?_ | refine te_seq ?_ | (refine i_cond ?_; first | refine qCt ?_ | refine qCf ?_) | refine tc_block ?_ | refine te_block_normal ?_ | refine te_block_ret ?_ | refine te_then_ret ?_ | refine te_block_hit ?_ | (refine i_miss ?_; refine qMiss ?_) | refine te_then_exit ?_ | refine tc_exit ?_ | refine tc_ret ?_ | refine tc_skip ?_)
      refine tc_draw 12 (by decide +kernel) (by decide +kernel) ?_
      repeat' (first | (refine jMv ?_; refine sMv ?_) | (refine jLd ?_; refine sLd ?_) | (refine jFa ?_; refine sFa ?_) | (refine jNc ?_; refine sNc ?_) | (refine jIa ?_; refine sIa ?_) | (refine jLu ?_; refine sLu ?_) | (refine j_gd ?_; first | refine sWant ?_ | refine sSkip ?_ | refine sSkipU ?_))
      all_goals refine ts_nil ?_
      repeat' (first | (refine i_op ?_; first | (refine iMv ?_; refine qMv ?_) | (refine iLd ?_; refine qLd ?_) | (refine iFa ?_; refine qFa ?_) | (refine iAd ?_; refine qAd ?_) | (refine iSb ?_; refine qSb ?_) | (refine iMl ?_; refine qMl ?_) | (refine iRm ?_; refine qRm ?_) | (refine iQu ?_; refine qQu ?_) | (refine iSr ?_; refine qSr ?_) | (refine iSh ?_; refine qSh ?_) | (refine iCm ?_; refine qCm ?_) | (refine iEx ?_; refine qEx ?_) | (refine iAs ?_; refine qAs ?_) | (refine iPk ?_; refine qPk ?_) | (refine iNc ?_; refine qNc ?_) | (refine iIa ?_; refine qIa ?_) | (refine iCv ?_; refine qCv ?_) | (refine iBi ?_; refine qBi ?_) | (refine iUn ?_; refine qUn ?_) | (refine iFl ?_; refine qFl ?_) | (refine iLu ?_; refine qLu ?_) | (refine iBu ?_; refine qBu ?_) | (refine iSl ?_; refine qSl ?_) | (refine iMf ?_; refine qMf ?_) | (refine iMi ?_; refine qMi ?_) | (refine iTa ?_; refine qTa ?_) | (refine iSt ?_; refine qSt ?_) | (refine iAl ?_; first | refine qAlA (fun _ => ?_) | refine qAlS (fun _ => ?_)) | (refine iBx ?_; first | refine qBxA (fun _ => ?_) | refine qBxS (fun _ => ?_)) | (refine iMm ?_; refine qMm (fun _ => ?_)) | (refine iBs ?_; refine qBs (fun _ => ?_)) | (refine i_gd ?_; first | refine qWant ?_ | refine qSkip ?_ | refine qSkip0 ?_ | refine qSkipU ?_)) | refine tl_nil ?_ | refine tc_seq ?_ | refine tc_region ?_ | refine te_seq ?_ | (refine i_cond ?_; first | refine qCt ?_ | refine qCf ?_) | refine tc_block ?_ | refine te_block_normal ?_ | refine te_block_ret ?_ | refine te_then_ret ?_ | refine te_block_hit ?_ | (refine i_miss ?_; refine qMiss ?_) | refine te_then_exit ?_ | refine tc_exit ?_ | refine tc_ret ?_ | refine tc_skip ?_)
      rw [Nat.zero_add, hst]
      refine te_front [(l, .loop r')] ?_
      refine te_next (Lu := [[(bd, .cells ⟨[.pointer (some ⟨b, 0, none⟩)]⟩ 27 (0, 0))], [(bk, .cells ⟨[.func (.func kf) ⟨[]⟩ ⟨kc⟩]⟩ 77 (0, 0))], [(bn, .cells ⟨[.int .i64 (pre.length + 1 : Nat)]⟩ 3 (0, 0))], [(hb.b, .cells ⟨heldC (setAfter keep s (pre.length + 1)) ++ hb.sp⟩ 34 (0, 0))]] ++ Xk) rfl (Hp.le_refl _) ⟨hrec'.tmps.trans hrec.tmps, hrec'.params.trans hrec.params, hrec'.assign.trans hrec.assign, hrec'.body.trans hrec.body⟩ tk tk inferInstance ?_
      refine ⟨rfl, ?_⟩
      simp
  case done =>
    rintro D0 ρ1 Lu hle' ⟨rfl, rfl⟩
    simp only [List.cons_append, List.nil_append, dO]
    repeat' (first | (refine i_op ?_; first | (refine iMv ?_; refine qMv ?_) | (refine iLd ?_; refine qLd ?_) | (refine iFa ?_; refine qFa ?_) | (refine iAd ?_; refine qAd ?_) | (refine iSb ?_; refine qSb ?_) | (refine iMl ?_; refine qMl ?_) | (refine iRm ?_; refine qRm ?_) | (refine iQu ?_; refine qQu ?_) | (refine iSr ?_; refine qSr ?_) | (refine iSh ?_; refine qSh ?_) | (refine iCm ?_; refine qCm ?_) | (refine iEx ?_; refine qEx ?_) | (refine iAs ?_; refine qAs ?_) | (refine iPk ?_; refine qPk ?_) | (refine iNc ?_; refine qNc ?_) | (refine iIa ?_; refine qIa ?_) | (refine iCv ?_; refine qCv ?_) | (refine iBi ?_; refine qBi ?_) | (refine iUn ?_; refine qUn ?_) | (refine iFl ?_; refine qFl ?_) | (refine iLu ?_; refine qLu ?_) | (refine iBu ?_; refine qBu ?_) | (refine iSl ?_; refine qSl ?_) | (refine iMf ?_; refine qMf ?_) | (refine iMi ?_; refine qMi ?_) | (refine iTa ?_; refine qTa ?_) | (refine iSt ?_; refine qSt ?_) | (refine iAl ?_; first | refine qAlA (fun _ => ?_) | refine qAlS (fun _ => ?_)) | (refine iBx ?_; first | refine qBxA (fun _ => ?_) | refine qBxS (fun _ => ?_)) | (refine iMm ?_; refine qMm (fun _ => ?_)) | (refine iBs ?_; refine qBs (fun _ => ?_)) | (refine i_gd ?_; first | refine qWant ?_ | refine qSkip ?_ | refine qSkip0 ?_ | refine qSkipU ?_)) | refine tl_nil ?_ | refine tc_seq ?_ | refine tc_region ?_ | refine te_seq ?_ | (refine i_cond ?_; first | refine qCt ?_ | refine qCf ?_) | refine tc_block ?_ | refine te_block_normal ?_ | refine te_block_ret ?_ | refine te_then_ret ?_ | refine te_block_hit ?_ | (refine i_miss ?_; refine qMiss ?_) | refine te_then_exit ?_ | refine tc_exit ?_ | refine tc_ret ?_ | refine tc_skip ?_)
    exact te_end_d rfl rfl rfl inferInstance (res0 rfl) (Hp.le_refl _) tk (by infer_instance) ⟨rfl, Hp.le_refl _, _, _, rfl⟩
end Go.Proofs.E

namespace Go.Proofs.E
open Go
set_option linter.unusedVariables false
set_option linter.unusedSimpArgs false
set_option maxRecDepth 4000
attribute [local irreducible] Yl TL TC TE Spec YSpec R1 Hp.le EnvLe TS TR YS Stays

theorem sync11 (ρ : Hp) (nth : Nat) : Spec Try.prog 37 [.int .i64 (nth : Nat)] ρ [] (fun v ρ' L' => v = .bool true ∧ ρ' = ρ ∧ L' = []) := by
  refine spec_enter Try.func37 rfl rfl rfl fun u R => ?_
  simp only [argsE, List.cons_append, List.nil_append]
  repeat' (first | (refine i_op ?_; first | (refine iMv ?_; refine qMv ?_) | (refine iLd ?_; refine qLd ?_) | (refine iFa ?_; refine qFa ?_) | (refine iAd ?_; refine qAd ?_) | (refine iSb ?_; refine qSb ?_) | (refine iMl ?_; refine qMl ?_) | (refine iRm ?_; refine qRm ?_) | (refine iQu ?_; refine qQu ?_) | (refine iSr ?_; refine qSr ?_) | (refine iSh ?_; refine qSh ?_) | (refine iCm ?_; refine qCm ?_) | (refine iEx ?_; refine qEx ?_) | (refine iAs ?_; refine qAs ?_) | (refine iPk ?_; refine qPk ?_) | (refine iNc ?_; refine qNc ?_) | (refine iIa ?_; refine qIa ?_) | (refine iCv ?_; refine qCv ?_) | (refine iBi ?_; refine qBi ?_) | (refine iUn ?_; refine qUn ?_) | (refine iFl ?_; refine qFl ?_) | (refine iLu ?_; refine qLu ?_) | (refine iBu ?_; refine qBu ?_) | (refine iSl ?_; refine qSl ?_) | (refine iMf ?_; refine qMf ?_) | (refine iMi ?_; refine qMi ?_) | (refine iTa ?_; refine qTa ?_) | (refine iSt ?_; refine qSt ?_) | (refine iAl ?_; first | refine qAlA (fun _ => ?_) | refine qAlS (fun _ => ?_)) | (refine iBx ?_; first | refine qBxA (fun _ => ?_) | refine qBxS (fun _ => ?_)) | (refine iMm ?_; refine qMm (fun _ => ?_)) | (refine iBs ?_; refine qBs (fun _ => ?_)) | (refine i_gd ?_; first | refine qWant ?_ | refine qSkip ?_ | refine qSkip0 ?_ | refine qSkipU ?_)) | refine tl_nil ?_ | refine tc_seq ?_ | refine tc_region ?_ | refine te_seq ?_ | (refine i_cond ?_; first | refine qCt ?_ | refine qCf ?_) | refine tc_block ?_ | refine te_block_normal ?_ | refine te_block_ret ?_ | refine te_then_ret ?_ | refine te_block_hit ?_ | (refine i_miss ?_; refine qMiss ?_) | refine te_then_exit ?_ | refine tc_exit ?_ | refine tc_ret ?_ | refine tc_skip ?_)
  exact qE ⟨rfl, rfl, rfl⟩
theorem sync2 (ρ : Hp) (X : SH) : Spec Try.prog 38 [] ρ X (fun v ρ' L' => v = .tuple ⟨[]⟩ ∧ ρ' = ρ ∧ L' = X) := by
  refine spec_enter Try.func38 rfl rfl rfl fun u R => ?_
  simp only [argsE, List.cons_append, List.nil_append]
  repeat' (first | (refine i_op ?_; first | (refine iMv ?_; refine qMv ?_) | (refine iLd ?_; refine qLd ?_) | (refine iFa ?_; refine qFa ?_) | (refine iAd ?_; refine qAd ?_) | (refine iSb ?_; refine qSb ?_) | (refine iMl ?_; refine qMl ?_) | (refine iRm ?_; refine qRm ?_) | (refine iQu ?_; refine qQu ?_) | (refine iSr ?_; refine qSr ?_) | (refine iSh ?_; refine qSh ?_) | (refine iCm ?_; refine qCm ?_) | (refine iEx ?_; refine qEx ?_) | (refine iAs ?_; refine qAs ?_) | (refine iPk ?_; refine qPk ?_) | (refine iNc ?_; refine qNc ?_) | (refine iIa ?_; refine qIa ?_) | (refine iCv ?_; refine qCv ?_) | (refine iBi ?_; refine qBi ?_) | (refine iUn ?_; refine qUn ?_) | (refine iFl ?_; refine qFl ?_) | (refine iLu ?_; refine qLu ?_) | (refine iBu ?_; refine qBu ?_) | (refine iSl ?_; refine qSl ?_) | (refine iMf ?_; refine qMf ?_) | (refine iMi ?_; refine qMi ?_) | (refine iTa ?_; refine qTa ?_) | (refine iSt ?_; refine qSt ?_) | (refine iAl ?_; first | refine qAlA (fun _ => ?_) | refine qAlS (fun _ => ?_)) | (refine iBx ?_; first | refine qBxA (fun _ => ?_) | refine qBxS (fun _ => ?_)) | (refine iMm ?_; refine qMm (fun _ => ?_)) | (refine iBs ?_; refine qBs (fun _ => ?_)) | (refine i_gd ?_; first | refine qWant ?_ | refine qSkip ?_ | refine qSkip0 ?_ | refine qSkipU ?_)) | refine tl_nil ?_ | refine tc_seq ?_ | refine tc_region ?_ | refine te_seq ?_ | (refine i_cond ?_; first | refine qCt ?_ | refine qCf ?_) | refine tc_block ?_ | refine te_block_normal ?_ | refine te_block_ret ?_ | refine te_then_ret ?_ | refine te_block_hit ?_ | (refine i_miss ?_; refine qMiss ?_) | refine te_then_exit ?_ | refine tc_exit ?_ | refine tc_ret ?_ | refine tc_skip ?_)
  exact te_end rfl rfl rfl (res0 rfl) (Hp.le_refl _) take_app' (by infer_instance) ⟨rfl, rfl, rfl⟩
theorem sync1 (ρ : Hp) (b : Nat) (hb : HB) (mb bx : Nat) (es : List MapEntry) (ck : Nat) (s : Secs) (ops armed failing : Int) (dead : Bool) (hs : SecsOk s) (hm : MapOk s es) :
    Spec Try.prog 35 [.pointer (some ⟨bx, 0, none⟩)] ρ ([(b, dO hb mb s.length ops armed failing dead)] :: [[(hb.b, .cells ⟨heldC s ++ hb.sp⟩ 34 (0, 0))], [(mb, .map ⟨es⟩ ck)], [(bx, .cells ⟨[.pointer (some ⟨b, 0, none⟩)]⟩ 27 (0, 0))]])
      (fun v ρ' L' => v = .tuple ⟨[]⟩ ∧ ρ.le ρ' ∧ ∃ mb' ck', L' = [[(b, dO hb mb' s.length ops armed failing dead)], [(hb.b, .cells ⟨heldC (settled (fun _ => true) s) ++ hb.sp⟩ 34 (0, 0))], [(mb', .map ⟨[]⟩ ck')]]) := by
  refine spec_enter Try.func35 rfl rfl rfl fun u R => ?_
  simp only [argsE, List.cons_append, List.nil_append]
  repeat' (first | (refine tl_is (.func 36) ?_; refine qC rfl rfl (settle_spec _ _ _ _ _ _ _ _ _ _ _ 37 [] [] (fun _ => true) (fun nth _ => sync11 _ nth) hs hm) ?_; rintro v ρ' L' hle ⟨rfl, hle2, mb', ck', rfl⟩ <;> (try simp only [List.cons_append, List.nil_append, List.append_eq])) | (refine i_op ?_; first | (refine iMv ?_; refine qMv ?_) | (refine iLd ?_; refine qLd ?_) | (refine iFa ?_; refine qFa ?_) | (refine iAd ?_; refine qAd ?_) | (refine iSb ?_; refine qSb ?_) | (refine iMl ?_; refine qMl ?_) | (refine iRm ?_; refine qRm ?_) | (refine iQu ?_; refine qQu ?_) | (refine iSr ?_; refine qSr ?_) | (refine iSh ?_; refine qSh ?_) | (refine iCm ?_; refine qCm ?_) | (refine iEx ?_; refine qEx ?_) | (refine iAs ?_; refine qAs ?_) | (refine iPk ?_; refine qPk ?_) | (refine iNc ?_; refine qNc ?_) | (refine iIa ?_; refine qIa ?_) | (refine iCv ?_; refine qCv ?_) | (refine iBi ?_; refine qBi ?_) | (refine iUn ?_; refine qUn ?_) | (refine iFl ?_; refine qFl ?_) | (refine iLu ?_; refine qLu ?_) | (refine iBu ?_; refine qBu ?_) | (refine iSl ?_; refine qSl ?_) | (refine iMf ?_; refine qMf ?_) | (refine iMi ?_; refine qMi ?_) | (refine iTa ?_; refine qTa ?_) | (refine iSt ?_; refine qSt ?_) | (refine iAl ?_; first | refine qAlA (fun _ => ?_) | refine qAlS (fun _ => ?_)) | (refine iBx ?_; first | refine qBxA (fun _ => ?_) | refine qBxS (fun _ => ?_)) | (refine iMm ?_; refine qMm (fun _ => ?_)) | (refine iBs ?_; refine qBs (fun _ => ?_)) | (refine i_gd ?_; first | refine qWant ?_ | refine qSkip ?_ | refine qSkip0 ?_ | refine qSkipU ?_)) | refine tl_nil ?_ | refine tc_seq ?_ | refine tc_region ?_ | refine te_seq ?_ | (refine i_cond ?_; first | refine qCt ?_ | refine qCf ?_) | refine tc_block ?_ | refine te_block_normal ?_ | refine te_block_ret ?_ | refine te_then_ret ?_ | refine te_block_hit ?_ | (refine i_miss ?_; refine qMiss ?_) | refine te_then_exit ?_ | refine tc_exit ?_ | refine tc_ret ?_ | refine tc_skip ?_)
  exact te_end rfl rfl rfl (res0 rfl) hle2 tk (by infer_instance) ⟨rfl, hle2, mb', ck', rfl⟩
/-- what a Sync comes to -/
def DS.sync (D : DS) : DS × Int :=
  if D.dead then (D, 9)
  else if D.armed = 0 then ({ D.tick with dead := true }, 9)
  else if D.failing = 0 then (D.tick, 8)
  else ({ D.tick with armed := cnt D.armed, secs := settled (fun _ => true) D.secs }, 0)
theorem sync_spec (ρ : Hp) (b : Nat) (hb : HB) (mb : Nat) (es : List MapEntry) (ck : Nat) (D : DS) (hD : D.Ok) (hm : MapOk D.secs es) :
    Spec Try.prog 12 [.pointer (some ⟨b, 0, none⟩)] ρ (diskL b hb mb es ck D)
      (fun v ρ' L' => v = .int .i64 D.sync.2 ∧ ρ.le ρ' ∧ ∃ mb' es' ck', MapOk D.sync.1.secs es' ∧ L' = diskL b hb mb' es' ck' D.sync.1) := by
  obtain ⟨s, ops, armed, failing, dead⟩ := D
  obtain ⟨hs, a1, a2, f1, f2⟩ := hD
  dsimp only at hs a1 a2 f1 f2 hm
  have hpos : (0 : Int) < s.length := by have := hs.pos; omega
  cases dead with
  | true =>
    have he : DS.sync ⟨s, ops, armed, failing, true⟩ = (⟨s, ops, armed, failing, true⟩, 9) := by simp [DS.sync]
    simp only [he]
    refine spec_enter Try.func12 rfl rfl rfl fun u R => ?_
    simp only [argsE, List.cons_append, List.nil_append, diskL]
    repeat' (first | (refine tl_is (.func 34) ?_; refine qC rfl rfl (does_dead _ _ _ _ _ _ _ _ _ _ _) ?_; rintro v ρ' L' hle ⟨rfl, rfl, rfl⟩ <;> (try simp only [List.cons_append, List.nil_append, List.append_eq])) | (refine i_op ?_; first | (refine iMv ?_; refine qMv ?_) | (refine iLd ?_; refine qLd ?_) | (refine iFa ?_; refine qFa ?_) | (refine iAd ?_; refine qAd ?_) | (refine iSb ?_; refine qSb ?_) | (refine iMl ?_; refine qMl ?_) | (refine iRm ?_; refine qRm ?_) | (refine iQu ?_; refine qQu ?_) | (refine iSr ?_; refine qSr ?_) | (refine iSh ?_; refine qSh ?_) | (refine iCm ?_; refine qCm ?_) | (refine iEx ?_; refine qEx ?_) | (refine iAs ?_; refine qAs ?_) | (refine iPk ?_; refine qPk ?_) | (refine iNc ?_; refine qNc ?_) | (refine iIa ?_; refine qIa ?_) | (refine iCv ?_; refine qCv ?_) | (refine iBi ?_; refine qBi ?_) | (refine iUn ?_; refine qUn ?_) | (refine iFl ?_; refine qFl ?_) | (refine iLu ?_; refine qLu ?_) | (refine iBu ?_; refine qBu ?_) | (refine iSl ?_; refine qSl ?_) | (refine iMf ?_; refine qMf ?_) | (refine iMi ?_; refine qMi ?_) | (refine iTa ?_; refine qTa ?_) | (refine iSt ?_; refine qSt ?_) | (refine iAl ?_; first | refine qAlA (fun _ => ?_) | refine qAlS (fun _ => ?_)) | (refine iBx ?_; first | refine qBxA (fun _ => ?_) | refine qBxS (fun _ => ?_)) | (refine iMm ?_; refine qMm (fun _ => ?_)) | (refine iBs ?_; refine qBs (fun _ => ?_)) | (refine i_gd ?_; first | refine qWant ?_ | refine qSkip ?_ | refine qSkip0 ?_ | refine qSkipU ?_)) | refine tl_nil ?_ | refine tc_seq ?_ | refine tc_region ?_ | refine te_seq ?_ | (refine i_cond ?_; first | refine qCt ?_ | refine qCf ?_) | refine tc_block ?_ | refine te_block_normal ?_ | refine te_block_ret ?_ | refine te_then_ret ?_ | refine te_block_hit ?_ | (refine i_miss ?_; refine qMiss ?_) | refine te_then_exit ?_ | refine tc_exit ?_ | refine tc_ret ?_ | refine tc_skip ?_)
    exact qE ⟨rfl, Hp.le_refl _, mb, es, ck, hm, rfl⟩
  | false =>
    by_cases ha : armed = 0
    · subst ha
      have he : DS.sync ⟨s, ops, 0, failing, false⟩ = (⟨s, IntKind.i64.wrap (ops + 1), 0, cnt failing, true⟩, 9) := by simp [DS.sync, DS.tick]
      simp only [he]
      refine spec_enter Try.func12 rfl rfl rfl fun u R => ?_
      simp only [argsE, List.cons_append, List.nil_append, diskL]
      repeat' (first | (refine tl_is (.func 34) ?_; refine qC rfl rfl (does_dies _ _ _ _ _ _ _ _ _ _ _ [] _ (Int.le_refl 0) hpos f1 f2 (sync2 _ _)) ?_; rintro v ρ' L' hle ⟨rfl, v0, h0, rfl, rfl⟩ <;> (try simp only [List.cons_append, List.nil_append, List.append_eq])) | (refine i_op ?_; first | (refine iMv ?_; refine qMv ?_) | (refine iLd ?_; refine qLd ?_) | (refine iFa ?_; refine qFa ?_) | (refine iAd ?_; refine qAd ?_) | (refine iSb ?_; refine qSb ?_) | (refine iMl ?_; refine qMl ?_) | (refine iRm ?_; refine qRm ?_) | (refine iQu ?_; refine qQu ?_) | (refine iSr ?_; refine qSr ?_) | (refine iSh ?_; refine qSh ?_) | (refine iCm ?_; refine qCm ?_) | (refine iEx ?_; refine qEx ?_) | (refine iAs ?_; refine qAs ?_) | (refine iPk ?_; refine qPk ?_) | (refine iNc ?_; refine qNc ?_) | (refine iIa ?_; refine qIa ?_) | (refine iCv ?_; refine qCv ?_) | (refine iBi ?_; refine qBi ?_) | (refine iUn ?_; refine qUn ?_) | (refine iFl ?_; refine qFl ?_) | (refine iLu ?_; refine qLu ?_) | (refine iBu ?_; refine qBu ?_) | (refine iSl ?_; refine qSl ?_) | (refine iMf ?_; refine qMf ?_) | (refine iMi ?_; refine qMi ?_) | (refine iTa ?_; refine qTa ?_) | (refine iSt ?_; refine qSt ?_) | (refine iAl ?_; first | refine qAlA (fun _ => ?_) | refine qAlS (fun _ => ?_)) | (refine iBx ?_; first | refine qBxA (fun _ => ?_) | refine qBxS (fun _ => ?_)) | (refine iMm ?_; refine qMm (fun _ => ?_)) | (refine iBs ?_; refine qBs (fun _ => ?_)) | (refine i_gd ?_; first | refine qWant ?_ | refine qSkip ?_ | refine qSkip0 ?_ | refine qSkipU ?_)) | refine tl_nil ?_ | refine tc_seq ?_ | refine tc_region ?_ | refine te_seq ?_ | (refine i_cond ?_; first | refine qCt ?_ | refine qCf ?_) | refine tc_block ?_ | refine te_block_normal ?_ | refine te_block_ret ?_ | refine te_then_ret ?_ | refine te_block_hit ?_ | (refine i_miss ?_; refine qMiss ?_) | refine te_then_exit ?_ | refine tc_exit ?_ | refine tc_ret ?_ | refine tc_skip ?_)
      exact qE ⟨rfl, Hp.le_refl _, mb, es, ck, hm, rfl⟩
    · by_cases hf : failing = 0
      · subst hf
        have he : DS.sync ⟨s, ops, armed, 0, false⟩ = (⟨s, IntKind.i64.wrap (ops + 1), armed, -1, false⟩, 8) := by simp [DS.sync, DS.tick, ha, cnt]
        simp only [he]
        refine spec_enter Try.func12 rfl rfl rfl fun u R => ?_
        simp only [argsE, List.cons_append, List.nil_append, diskL]
        repeat' (first | (refine tl_is (.func 34) ?_; refine qC rfl rfl (does_fail_w _ _ _ _ _ _ _ _ _ _ _ (Int.le_refl 0) hpos ha) ?_; rintro v ρ' L' hle ⟨rfl, rfl, rfl⟩ <;> (try simp only [List.cons_append, List.nil_append, List.append_eq])) | (refine i_op ?_; first | (refine iMv ?_; refine qMv ?_) | (refine iLd ?_; refine qLd ?_) | (refine iFa ?_; refine qFa ?_) | (refine iAd ?_; refine qAd ?_) | (refine iSb ?_; refine qSb ?_) | (refine iMl ?_; refine qMl ?_) | (refine iRm ?_; refine qRm ?_) | (refine iQu ?_; refine qQu ?_) | (refine iSr ?_; refine qSr ?_) | (refine iSh ?_; refine qSh ?_) | (refine iCm ?_; refine qCm ?_) | (refine iEx ?_; refine qEx ?_) | (refine iAs ?_; refine qAs ?_) | (refine iPk ?_; refine qPk ?_) | (refine iNc ?_; refine qNc ?_) | (refine iIa ?_; refine qIa ?_) | (refine iCv ?_; refine qCv ?_) | (refine iBi ?_; refine qBi ?_) | (refine iUn ?_; refine qUn ?_) | (refine iFl ?_; refine qFl ?_) | (refine iLu ?_; refine qLu ?_) | (refine iBu ?_; refine qBu ?_) | (refine iSl ?_; refine qSl ?_) | (refine iMf ?_; refine qMf ?_) | (refine iMi ?_; refine qMi ?_) | (refine iTa ?_; refine qTa ?_) | (refine iSt ?_; refine qSt ?_) | (refine iAl ?_; first | refine qAlA (fun _ => ?_) | refine qAlS (fun _ => ?_)) | (refine iBx ?_; first | refine qBxA (fun _ => ?_) | refine qBxS (fun _ => ?_)) | (refine iMm ?_; refine qMm (fun _ => ?_)) | (refine iBs ?_; refine qBs (fun _ => ?_)) | (refine i_gd ?_; first | refine qWant ?_ | refine qSkip ?_ | refine qSkip0 ?_ | refine qSkipU ?_)) | refine tl_nil ?_ | refine tc_seq ?_ | refine tc_region ?_ | refine te_seq ?_ | (refine i_cond ?_; first | refine qCt ?_ | refine qCf ?_) | refine tc_block ?_ | refine te_block_normal ?_ | refine te_block_ret ?_ | refine te_then_ret ?_ | refine te_block_hit ?_ | (refine i_miss ?_; refine qMiss ?_) | refine te_then_exit ?_ | refine tc_exit ?_ | refine tc_ret ?_ | refine tc_skip ?_)
        exact qE ⟨rfl, Hp.le_refl _, mb, es, ck, hm, rfl⟩
      · have he : DS.sync ⟨s, ops, armed, failing, false⟩ = (⟨settled (fun _ => true) s, IntKind.i64.wrap (ops + 1), cnt armed, cnt failing, false⟩, 0) := by simp [DS.sync, DS.tick, ha, hf]
        simp only [he]
        refine spec_enter Try.func12 rfl rfl rfl fun u R => ?_
        simp only [argsE, List.cons_append, List.nil_append, diskL, settled_length]
        repeat' (first | (refine tl_is (.func 34) ?_; refine qC rfl rfl (does_ok_w _ _ _ _ _ _ _ _ _ _ _ _ _ _ _ (Int.le_refl 0) hpos hf f1 f2 ha a1 a2 (sync1 _ _ _ _ _ es ck s _ _ _ _ hs hm)) ?_; rintro v ρ' L' hle ⟨rfl, v0, h0, hle2, mb', ck', rfl⟩ <;> (try simp only [List.cons_append, List.nil_append, List.append_eq])) | (refine i_op ?_; first | (refine iMv ?_; refine qMv ?_) | (refine iLd ?_; refine qLd ?_) | (refine iFa ?_; refine qFa ?_) | (refine iAd ?_; refine qAd ?_) | (refine iSb ?_; refine qSb ?_) | (refine iMl ?_; refine qMl ?_) | (refine iRm ?_; refine qRm ?_) | (refine iQu ?_; refine qQu ?_) | (refine iSr ?_; refine qSr ?_) | (refine iSh ?_; refine qSh ?_) | (refine iCm ?_; refine qCm ?_) | (refine iEx ?_; refine qEx ?_) | (refine iAs ?_; refine qAs ?_) | (refine iPk ?_; refine qPk ?_) | (refine iNc ?_; refine qNc ?_) | (refine iIa ?_; refine qIa ?_) | (refine iCv ?_; refine qCv ?_) | (refine iBi ?_; refine qBi ?_) | (refine iUn ?_; refine qUn ?_) | (refine iFl ?_; refine qFl ?_) | (refine iLu ?_; refine qLu ?_) | (refine iBu ?_; refine qBu ?_) | (refine iSl ?_; refine qSl ?_) | (refine iMf ?_; refine qMf ?_) | (refine iMi ?_; refine qMi ?_) | (refine iTa ?_; refine qTa ?_) | (refine iSt ?_; refine qSt ?_) | (refine iAl ?_; first | refine qAlA (fun _ => ?_) | refine qAlS (fun _ => ?_)) | (refine iBx ?_; first | refine qBxA (fun _ => ?_) | refine qBxS (fun _ => ?_)) | (refine iMm ?_; refine qMm (fun _ => ?_)) | (refine iBs ?_; refine qBs (fun _ => ?_)) | (refine i_gd ?_; first | refine qWant ?_ | refine qSkip ?_ | refine qSkip0 ?_ | refine qSkipU ?_)) | refine tl_nil ?_ | refine tc_seq ?_ | refine tc_region ?_ | refine te_seq ?_ | (refine i_cond ?_; first | refine qCt ?_ | refine qCf ?_) | refine tc_block ?_ | refine te_block_normal ?_ | refine te_block_ret ?_ | refine te_then_ret ?_ | refine te_block_hit ?_ | (refine i_miss ?_; refine qMiss ?_) | refine te_then_exit ?_ | refine tc_exit ?_ | refine tc_ret ?_ | refine tc_skip ?_)
        exact te_end rfl rfl rfl (res1 rfl (r1_tmp rfl)) hle2 tk (by infer_instance) ⟨rfl, hle2, mb', [], ck', MapOk.empty emptyC_settled, rfl⟩
def DS.crash (keep : Nat → Bool) (D : DS) : DS := ⟨settled keep D.secs, D.ops, -1, -1, false⟩
theorem crash_spec (ρ : Hp) (b : Nat) (hb : HB) (mb : Nat) (es : List MapEntry) (ck : Nat) (D : DS) (hD : D.Ok) (hm : MapOk D.secs es) (ka : Option Addr) (kn kp : Nat) (X : SH) (keep : Nat → Bool)
    (hK : ∀ bk nth, nth < 2048 → Spec Try.prog 43 [.int .i64 (nth : Nat), .pointer (some ⟨bk, 0, none⟩)] ρ ([(bk, .cells ⟨[.slice ka kn kp]⟩ 23 (0, 0))] :: X) (fun v ρ' L' => v = .bool (keep nth) ∧ ρ' = ρ ∧ L' = [(bk, .cells ⟨[.slice ka kn kp]⟩ 23 (0, 0))] :: X)) :
    Spec Try.prog 18 [.pointer (some ⟨b, 0, none⟩), .slice ka kn kp] ρ (diskL b hb mb es ck D ++ X)
      (fun v ρ' L' => v = .int .i64 0 ∧ ρ.le ρ' ∧ ∃ mb' ck', L' = diskL b hb mb' [] ck' (D.crash keep) ++ X) := by
  obtain ⟨s, ops, armed, failing, dead⟩ := D
  obtain ⟨hs, a1, a2, f1, f2⟩ := hD
  dsimp only at hs a1 a2 f1 f2 hm
  have hpos := hs.pos
  refine spec_enter Try.func18 rfl rfl rfl fun u R => ?_
  simp only [argsE, List.cons_append, List.nil_append, diskL, DS.crash, settled_length]
  repeat' (first | (refine tl_is (.func 36) ?_; refine tl_call rfl rfl (settle_spec _ _ _ _ _ _ _ _ _ _ _ 43 [.pointer (some ⟨_, 0, none⟩)] ([(_, .cells ⟨[.slice ka kn kp]⟩ 23 (0, 0))] :: X) keep (fun nth h => hK _ nth h) hs hm) tk rfl ?_; rintro v ρ' L' hle ⟨rfl, hle2, mb', ck', rfl⟩; simp only [List.cons_append, List.nil_append, dO]) | (refine i_op ?_; first | (refine iMv ?_; refine qMv ?_) | (refine iLd ?_; refine qLd ?_) | (refine iFa ?_; refine qFa ?_) | (refine iAd ?_; refine qAd ?_) | (refine iSb ?_; refine qSb ?_) | (refine iMl ?_; refine qMl ?_) | (refine iRm ?_; refine qRm ?_) | (refine iQu ?_; refine qQu ?_) | (refine iSr ?_; refine qSr ?_) | (refine iSh ?_; refine qSh ?_) | (refine iCm ?_; refine qCm ?_) | (refine iEx ?_; refine qEx ?_) | (refine iAs ?_; refine qAs ?_) | (refine iPk ?_; refine qPk ?_) | (refine iNc ?_; refine qNc ?_) | (refine iIa ?_; refine qIa ?_) | (refine iCv ?_; refine qCv ?_) | (refine iBi ?_; refine qBi ?_) | (refine iUn ?_; refine qUn ?_) | (refine iFl ?_; refine qFl ?_) | (refine iLu ?_; refine qLu ?_) | (refine iBu ?_; refine qBu ?_) | (refine iSl ?_; refine qSl ?_) | (refine iMf ?_; refine qMf ?_) | (refine iMi ?_; refine qMi ?_) | (refine iTa ?_; refine qTa ?_) | (refine iSt ?_; refine qSt ?_) | (refine iAl ?_; first | refine qAlA (fun _ => ?_) | refine qAlS (fun _ => ?_)) | (refine iBx ?_; first | refine qBxA (fun _ => ?_) | refine qBxS (fun _ => ?_)) | (refine iMm ?_; refine qMm (fun _ => ?_)) | (refine iBs ?_; refine qBs (fun _ => ?_)) | (refine i_gd ?_; first | refine qWant ?_ | refine qSkip ?_ | refine qSkip0 ?_ | refine qSkipU ?_)) | refine tl_nil ?_ | refine tc_seq ?_ | refine tc_region ?_ | refine te_seq ?_ | (refine i_cond ?_; first | refine qCt ?_ | refine qCf ?_) | refine tc_block ?_ | refine te_block_normal ?_ | refine te_block_ret ?_ | refine te_then_ret ?_ | refine te_block_hit ?_ | (refine i_miss ?_; refine qMiss ?_) | refine te_then_exit ?_ | refine tc_exit ?_ | refine tc_ret ?_ | refine tc_skip ?_)
  exact te_end rfl rfl rfl (res1 rfl (r1_tmp rfl)) hle2 tk (by infer_instance) ⟨rfl, hle2, mb', ck', rfl⟩
/-! ## what a Crash keeps, by a list of flags -/
def keepB (ks : List Bool) (nth : Nat) : Bool := ks[nth]?.getD false
theorem crash1_over (ρ : Hp) (bk nth : Nat) (ka : Option Addr) (kn kp : Nat) (X : SH) (h : kn ≤ nth) : Spec Try.prog 43 [.int .i64 (nth : Nat), .pointer (some ⟨bk, 0, none⟩)] ρ ([(bk, .cells ⟨[.slice ka kn kp]⟩ 23 (0, 0))] :: X) (fun v ρ' L' => v = .bool false ∧ ρ' = ρ ∧ L' = [(bk, .cells ⟨[.slice ka kn kp]⟩ 23 (0, 0))] :: X) := by
  refine spec_enter Try.func43 rfl rfl rfl fun u R => ?_
  simp only [argsE, List.cons_append, List.nil_append]
  repeat' (first | (refine i_op ?_; first | (refine iMv ?_; refine qMv ?_) | (refine iLd ?_; refine qLd ?_) | (refine iFa ?_; refine qFa ?_) | (refine iAd ?_; refine qAd ?_) | (refine iSb ?_; refine qSb ?_) | (refine iMl ?_; refine qMl ?_) | (refine iRm ?_; refine qRm ?_) | (refine iQu ?_; refine qQu ?_) | (refine iSr ?_; refine qSr ?_) | (refine iSh ?_; refine qSh ?_) | (refine iCm ?_; refine qCm ?_) | (refine iEx ?_; refine qEx ?_) | (refine iAs ?_; refine qAs ?_) | (refine iPk ?_; refine qPk ?_) | (refine iNc ?_; refine qNc ?_) | (refine iIa ?_; refine qIa ?_) | (refine iCv ?_; refine qCv ?_) | (refine iBi ?_; refine qBi ?_) | (refine iUn ?_; refine qUn ?_) | (refine iFl ?_; refine qFl ?_) | (refine iLu ?_; refine qLu ?_) | (refine iBu ?_; refine qBu ?_) | (refine iSl ?_; refine qSl ?_) | (refine iMf ?_; refine qMf ?_) | (refine iMi ?_; refine qMi ?_) | (refine iTa ?_; refine qTa ?_) | (refine iSt ?_; refine qSt ?_) | (refine iAl ?_; first | refine qAlA (fun _ => ?_) | refine qAlS (fun _ => ?_)) | (refine iBx ?_; first | refine qBxA (fun _ => ?_) | refine qBxS (fun _ => ?_)) | (refine iMm ?_; refine qMm (fun _ => ?_)) | (refine iBs ?_; refine qBs (fun _ => ?_)) | (refine i_gd ?_; first | refine qWant ?_ | refine qSkip ?_ | refine qSkip0 ?_ | refine qSkipU ?_)) | refine tl_nil ?_ | refine tc_seq ?_ | refine tc_region ?_ | refine te_seq ?_ | (refine i_cond ?_; first | refine qCt ?_ | refine qCf ?_) | refine tc_block ?_ | refine te_block_normal ?_ | refine te_block_ret ?_ | refine te_then_ret ?_ | refine te_block_hit ?_ | (refine i_miss ?_; refine qMiss ?_) | refine te_then_exit ?_ | refine tc_exit ?_ | refine tc_ret ?_ | refine tc_skip ?_)
  exact te_end rfl rfl rfl (res1 rfl (r1_tmp rfl)) (Hp.le_refl _) (take_cons' rem_here' take_app') (by infer_instance) ⟨rfl, rfl, rfl⟩
theorem crash1_at (ρ : Hp) (bk nth kb o kn kp : Nat) (C : List Value) (T : TypeId) (fr : Nat × Nat) (f : Bool) (h : nth < kn) (hc : C[o + nth * 1]? = some (.bool f)) : Spec Try.prog 43 [.int .i64 (nth : Nat), .pointer (some ⟨bk, 0, none⟩)] ρ [[(bk, .cells ⟨[.slice (some ⟨kb, o, none⟩) kn kp]⟩ 23 (0, 0))], [(kb, .cells ⟨C⟩ T fr)]] (fun v ρ' L' => v = .bool f ∧ ρ' = ρ ∧ L' = [[(bk, .cells ⟨[.slice (some ⟨kb, o, none⟩) kn kp]⟩ 23 (0, 0))], [(kb, .cells ⟨C⟩ T fr)]]) := by
  refine spec_enter Try.func43 rfl rfl rfl fun u R => ?_
  simp only [argsE, List.cons_append, List.nil_append]
  repeat' (first | (refine i_op ?_; first | (refine iMv ?_; refine qMv ?_) | (refine iLd ?_; refine qLd ?_) | (refine iFa ?_; refine qFa ?_) | (refine iAd ?_; refine qAd ?_) | (refine iSb ?_; refine qSb ?_) | (refine iMl ?_; refine qMl ?_) | (refine iRm ?_; refine qRm ?_) | (refine iQu ?_; refine qQu ?_) | (refine iSr ?_; refine qSr ?_) | (refine iSh ?_; refine qSh ?_) | (refine iCm ?_; refine qCm ?_) | (refine iEx ?_; refine qEx ?_) | (refine iAs ?_; refine qAs ?_) | (refine iPk ?_; refine qPk ?_) | (refine iNc ?_; refine qNc ?_) | (refine iIa ?_; refine qIa ?_) | (refine iCv ?_; refine qCv ?_) | (refine iBi ?_; refine qBi ?_) | (refine iUn ?_; refine qUn ?_) | (refine iFl ?_; refine qFl ?_) | (refine iLu ?_; refine qLu ?_) | (refine iBu ?_; refine qBu ?_) | (refine iSl ?_; refine qSl ?_) | (refine iMf ?_; refine qMf ?_) | (refine iMi ?_; refine qMi ?_) | (refine iTa ?_; refine qTa ?_) | (refine iSt ?_; refine qSt ?_) | (refine iAl ?_; first | refine qAlA (fun _ => ?_) | refine qAlS (fun _ => ?_)) | (refine iBx ?_; first | refine qBxA (fun _ => ?_) | refine qBxS (fun _ => ?_)) | (refine iMm ?_; refine qMm (fun _ => ?_)) | (refine iBs ?_; refine qBs (fun _ => ?_)) | (refine i_gd ?_; first | refine qWant ?_ | refine qSkip ?_ | refine qSkip0 ?_ | refine qSkipU ?_)) | refine tl_nil ?_ | refine tc_seq ?_ | refine tc_region ?_ | refine te_seq ?_ | (refine i_cond ?_; first | refine qCt ?_ | refine qCf ?_) | refine tc_block ?_ | refine te_block_normal ?_ | refine te_block_ret ?_ | refine te_then_ret ?_ | refine te_block_hit ?_ | (refine i_miss ?_; refine qMiss ?_) | refine te_then_exit ?_ | refine tc_exit ?_ | refine tc_ret ?_ | refine tc_skip ?_)
  exact te_end rfl rfl rfl (res1 rfl (r1_tmp rfl)) (Hp.le_refl _) tk (by infer_instance) ⟨rfl, rfl, rfl⟩
theorem crash1_imm (ρ : Hp) (bk nth kb o kn kp : Nat) (C : List Value) (T : TypeId) (fr : Nat × Nat) (f : Bool) (h : nth < kn) (hc : C[o + nth * 1]? = some (.bool f)) (hb : ρ kb = some (.cells ⟨C⟩ T fr)) : Spec Try.prog 43 [.int .i64 (nth : Nat), .pointer (some ⟨bk, 0, none⟩)] ρ [[(bk, .cells ⟨[.slice (some ⟨kb, o, none⟩) kn kp]⟩ 23 (0, 0))]] (fun v ρ' L' => v = .bool f ∧ ρ' = ρ ∧ L' = [[(bk, .cells ⟨[.slice (some ⟨kb, o, none⟩) kn kp]⟩ 23 (0, 0))]]) := by
  refine spec_enter Try.func43 rfl rfl rfl fun u R => ?_
  simp only [argsE, List.cons_append, List.nil_append]
  repeat' (first | (refine i_op ?_; first | (refine iMv ?_; refine qMv ?_) | (refine iLd ?_; refine qLd ?_) | (refine iFa ?_; refine qFa ?_) | (refine iAd ?_; refine qAd ?_) | (refine iSb ?_; refine qSb ?_) | (refine iMl ?_; refine qMl ?_) | (refine iRm ?_; refine qRm ?_) | (refine iQu ?_; refine qQu ?_) | (refine iSr ?_; refine qSr ?_) | (refine iSh ?_; refine qSh ?_) | (refine iCm ?_; refine qCm ?_) | (refine iEx ?_; refine qEx ?_) | (refine iAs ?_; refine qAs ?_) | (refine iPk ?_; refine qPk ?_) | (refine iNc ?_; refine qNc ?_) | (refine iIa ?_; refine qIa ?_) | (refine iCv ?_; refine qCv ?_) | (refine iBi ?_; refine qBi ?_) | (refine iUn ?_; refine qUn ?_) | (refine iFl ?_; refine qFl ?_) | (refine iLu ?_; refine qLu ?_) | (refine iBu ?_; refine qBu ?_) | (refine iSl ?_; refine qSl ?_) | (refine iMf ?_; refine qMf ?_) | (refine iMi ?_; refine qMi ?_) | (refine iTa ?_; refine qTa ?_) | (refine iSt ?_; refine qSt ?_) | (refine iAl ?_; first | refine qAlA (fun _ => ?_) | refine qAlS (fun _ => ?_)) | (refine iBx ?_; first | refine qBxA (fun _ => ?_) | refine qBxS (fun _ => ?_)) | (refine iMm ?_; refine qMm (fun _ => ?_)) | (refine iBs ?_; refine qBs (fun _ => ?_)) | (refine i_gd ?_; first | refine qWant ?_ | refine qSkip ?_ | refine qSkip0 ?_ | refine qSkipU ?_)) | refine tl_nil ?_ | refine tc_seq ?_ | refine tc_region ?_ | refine te_seq ?_ | (refine i_cond ?_; first | refine qCt ?_ | refine qCf ?_) | refine tc_block ?_ | refine te_block_normal ?_ | refine te_block_ret ?_ | refine te_then_ret ?_ | refine te_block_hit ?_ | (refine i_miss ?_; refine qMiss ?_) | refine te_then_exit ?_ | refine tc_exit ?_ | refine tc_ret ?_ | refine tc_skip ?_)
  exact te_end rfl rfl rfl (res1 rfl (r1_tmp rfl)) (Hp.le_refl _) tk (by infer_instance) ⟨rfl, rfl, rfl⟩
end Go.Proofs.E

