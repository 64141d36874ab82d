/- Laws of PoolRule. Part 5 of 26. -/
import Derived.Test.YthjhjmnmnbcioaaGreatE4
import Derived.Test.YthjhjmnmnbcioaaGreatChecked
import Derived.KernelRfl
set_option linter.unusedVariables false
set_option linter.unusedSimpArgs false
set_option linter.unusedSectionVars false
namespace Go.Proofs.E
open Go Go.Proofs.E Tryz
set_option maxRecDepth 4000
set_option maxHeartbeats 1000000
attribute [local irreducible] Yl TL TC TE Spec YW R1 Hp.le EnvLe TS TR YS Zv TP QP
theorem Yi {t:TypeId}{b:Bool}(h:(prog.underlying t).map isIfaceD=some b:=by kernel_rfl):Ze prog t b:=mkTyIface h
theorem tqS {t:TypeId}(h:(prog.underlying t).map isAggD=some false:=by kernel_rfl)(k:(prog.info? t).map (·.size)=some 1:=by kernel_rfl):TyS prog t:=mkTyS h k
theorem tqA {t:TypeId}{n:Nat}(h:(prog.underlying t).map isAggD=some true:=by kernel_rfl)(k:(prog.info? t).map (·.size)=some n:=by kernel_rfl):TyA prog t n:=mkTyA h k
theorem Yj {t:TypeId}{n:Nat}(k:(prog.info? t).map (·.size)=some n:=by kernel_rfl):Zm prog t n:=mkTySz k
theorem Yh {t:TypeId}{n:Nat}(k:(prog.info? t).map (·.bytes)=some n:=by kernel_rfl):Zd prog t n:=mkTyBytes k
theorem Yk {t:TypeId}{z:Value}(k:(prog.info? t).bind (·.zero)=some z:=by kernel_rfl):Zf prog t z:=mkTyZero k
theorem tqF {t:TypeId}(h:(prog.underlying t).map isFuncD=some true:=by kernel_rfl):ZT prog t:=mkTyFunc h
theorem Zy {s:TypeId}{f off:Nat}{ft:TypeId}(h:fldB prog s f=some (off,ft):=by kernel_rfl):Zw prog s f off ft:=mkFld h
theorem ZF {f:FuncId}(h:funB prog f=true:=by kernel_rfl):Zz prog f:=mkFun h
instance:TyS prog 1:=tqS
instance:Ze prog 1 false:=Yi
instance:ZT prog 1:=tqF
instance:Zm prog 1 1:=Yj
instance:Zd prog 1 8:=Yh
instance:Zf prog 1 (.nilFunc):=Yk
instance:TyS prog 2:=tqS
instance:Ze prog 2 false:=Yi
instance:Zm prog 2 1:=Yj
instance:Zd prog 2 8:=Yh
instance:Zf prog 2 (.int .i64 0):=Yk
instance:YV prog 2 .i64:=⟨by kernel_rfl⟩
instance:TyS prog 3:=tqS
instance:Ze prog 3 false:=Yi
instance:Zm prog 3 1:=Yj
instance:Zd prog 3 8:=Yh
instance:Zf prog 3 (.int .i64 0):=Yk
instance:YV prog 3 .i64:=⟨by kernel_rfl⟩
instance:TyS prog 4:=tqS
instance:Ze prog 4 false:=Yi
instance:Zm prog 4 1:=Yj
instance:Zd prog 4 1:=Yh
instance:Zf prog 4 (.bool false):=Yk
instance:TyBool prog 4:=⟨by kernel_rfl⟩
instance:TyS prog 5:=tqS
instance:Ze prog 5 false:=Yi
instance:Zm prog 5 1:=Yj
instance:Zd prog 5 1:=Yh
instance:Zf prog 5 (.int .u8 0):=Yk
instance:YV prog 5 .u8:=⟨by kernel_rfl⟩
instance:TyA prog 7 4:=tqA
instance:Ze prog 7 false:=Yi
instance:Zm prog 7 4:=Yj
instance:Zd prog 7 24:=Yh
instance:Zf prog 7 (.agg ⟨[.int .i64 0,.int .i64 0,.bool false,.int .u8 0]⟩):=Yk
instance:Zn prog 7:=⟨by kernel_rfl⟩
instance:Zw prog 7 0 0 2:=Zy
instance:Zw prog 7 1 1 3:=Zy
instance:Zw prog 7 2 2 4:=Zy
instance:Zw prog 7 3 3 6:=Zy
instance:Zj prog 7 (([(0,1),(1,1),(2,1),(3,1)]:List (Nat×Nat))[·]?):=Zi (by kernel_rfl)
instance:TyS prog 9:=tqS
instance:Ze prog 9 false:=Yi
instance:Zm prog 9 1:=Yj
instance:Zd prog 9 16:=Yh
instance:Zf prog 9 (.string ⟨⟨[]⟩⟩):=Yk
instance:TyStr prog 9:=⟨by kernel_rfl⟩
instance:TyS prog 12:=tqS
instance:Ze prog 12 false:=Yi
instance:Zm prog 12 1:=Yj
instance:Zd prog 12 8:=Yh
instance:Zf prog 12 (.int .u64 0):=Yk
instance:YV prog 12 .u64:=⟨by kernel_rfl⟩
instance:TyS prog 16:=tqS
instance:Ze prog 16 false:=Yi
instance:Zm prog 16 1:=Yj
instance:Zd prog 16 8:=Yh
instance:Zf prog 16 (.pointer none):=Yk
instance:Va prog 16 373:=⟨by kernel_rfl⟩
instance:TyS prog 17:=tqS
instance:Ze prog 17 false:=Yi
instance:Zm prog 17 1:=Yj
instance:Zd prog 17 8:=Yh
instance:Zf prog 17 (.pointer none):=Yk
instance:Va prog 17 381:=⟨by kernel_rfl⟩
instance:TyS prog 20:=tqS
instance:Ze prog 20 true:=Yi
instance:Zm prog 20 1:=Yj
instance:Zd prog 20 16:=Yh
instance:Zf prog 20 (.nilIface):=Yk
instance:TyS prog 21:=tqS
instance:Ze prog 21 false:=Yi
instance:Zm prog 21 1:=Yj
instance:Zd prog 21 4:=Yh
instance:Zf prog 21 (.int .i32 0):=Yk
instance:YV prog 21 .i32:=⟨by kernel_rfl⟩
instance:TyS prog 22:=tqS
instance:Ze prog 22 false:=Yi
instance:Zm prog 22 1:=Yj
instance:Zd prog 22 24:=Yh
instance:Zf prog 22 (.slice none 0 0):=Yk
instance:ZE prog 22 50:=⟨by kernel_rfl⟩
instance:TyS prog 23:=tqS
instance:Ze prog 23 false:=Yi
instance:ZT prog 23:=tqF
instance:Zm prog 23 1:=Yj
instance:Zd prog 23 8:=Yh
instance:Zf prog 23 (.nilFunc):=Yk
instance:TyS prog 24:=tqS
instance:Ze prog 24 false:=Yi
instance:Zm prog 24 1:=Yj
instance:Zd prog 24 8:=Yh
instance:Zf prog 24 (.pointer none):=Yk
instance:Va prog 24 99:=⟨by kernel_rfl⟩
instance:TyS prog 25:=tqS
instance:Ze prog 25 false:=Yi
instance:Zm prog 25 1:=Yj
instance:Zd prog 25 8:=Yh
instance:Zf prog 25 (.int .i64 0):=Yk
instance:YV prog 25 .i64:=⟨by kernel_rfl⟩
instance:TyS prog 28:=tqS
instance:Ze prog 28 false:=Yi
instance:Zm prog 28 1:=Yj
instance:Zd prog 28 8:=Yh
instance:Zf prog 28 (.pointer none):=Yk
instance:Va prog 28 101:=⟨by kernel_rfl⟩
instance:TyS prog 31:=tqS
instance:Ze prog 31 false:=Yi
instance:Zm prog 31 1:=Yj
instance:Zd prog 31 8:=Yh
instance:Zf prog 31 (.pointer none):=Yk
instance:Va prog 31 113:=⟨by kernel_rfl⟩
instance:TyS prog 35:=tqS
instance:Ze prog 35 false:=Yi
instance:Zm prog 35 1:=Yj
instance:Zd prog 35 8:=Yh
instance:Zf prog 35 (.int .u64 0):=Yk
instance:YV prog 35 .u64:=⟨by kernel_rfl⟩
instance:TyS prog 36:=tqS
instance:Ze prog 36 false:=Yi
instance:Zm prog 36 1:=Yj
instance:Zd prog 36 24:=Yh
instance:Zf prog 36 (.slice none 0 0):=Yk
instance:ZE prog 36 47:=⟨by kernel_rfl⟩
instance:TyA prog 37 5:=tqA
instance:Ze prog 37 false:=Yi
instance:Zm prog 37 5:=Yj
instance:Zd prog 37 56:=Yh
instance:Zf prog 37 (.agg ⟨[.int .u64 0,.int .u64 0,.int .u64 0,.int .i64 0,.slice none 0 0]⟩):=Yk
instance:Zn prog 37:=⟨by kernel_rfl⟩
instance:Zw prog 37 0 0 35:=Zy
instance:Zw prog 37 1 1 35:=Zy
instance:Zw prog 37 2 2 35:=Zy
instance:Zw prog 37 3 3 3:=Zy
instance:Zw prog 37 4 4 36:=Zy
instance:Zj prog 37 (([(0,1),(1,1),(2,1),(3,1),(4,1)]:List (Nat×Nat))[·]?):=Zi (by kernel_rfl)
instance:TyA prog 38 5:=tqA
instance:Ze prog 38 false:=Yi
instance:Zm prog 38 5:=Yj
instance:Zd prog 38 56:=Yh
instance:Zf prog 38 (.agg ⟨[.int .u64 0,.int .u64 0,.int .u64 0,.int .i64 0,.slice none 0 0]⟩):=Yk
instance:Zn prog 38:=⟨by kernel_rfl⟩
instance:YB prog 38 [(0,35),(1,35),(2,35),(3,3),(4,36)]:=ZQ (by kernel_rfl)
instance:Zw prog 38 0 0 35:=Zy
instance:Zw prog 38 1 1 35:=Zy
instance:Zw prog 38 2 2 35:=Zy
instance:Zw prog 38 3 3 3:=Zy
instance:Zw prog 38 4 4 36:=Zy
instance:Zj prog 38 (([(0,1),(1,1),(2,1),(3,1),(4,1)]:List (Nat×Nat))[·]?):=Zi (by kernel_rfl)
instance:TyA prog 40 7:=tqA
instance:Ze prog 40 false:=Yi
instance:Zm prog 40 7:=Yj
instance:Zd prog 40 72:=Yh
instance:Zf prog 40 (.agg ⟨[.pointer none,.pointer none,.int .u64 0,.int .u64 0,.int .u64 0,.int .i64 0,.slice none 0 0]⟩):=Yk
instance:Zn prog 40:=⟨by kernel_rfl⟩
instance:Zw prog 40 0 0 24:=Zy
instance:Zw prog 40 1 1 31:=Zy
instance:Zw prog 40 2 2 38:=Zy
instance:Zj prog 40 (([(0,1),(1,1),(2,5)]:List (Nat×Nat))[·]?):=Zi (by kernel_rfl)
instance:TyS prog 42:=tqS
instance:Ze prog 42 false:=Yi
instance:Zm prog 42 1:=Yj
instance:Zd prog 42 24:=Yh
instance:Zf prog 42 (.slice none 0 0):=Yk
instance:ZE prog 42 180:=⟨by kernel_rfl⟩
instance:TyS prog 43:=tqS
instance:Ze prog 43 false:=Yi
instance:Zm prog 43 1:=Yj
instance:Zd prog 43 24:=Yh
instance:Zf prog 43 (.slice none 0 0):=Yk
instance:ZE prog 43 183:=⟨by kernel_rfl⟩
instance:TyS prog 44:=tqS
instance:Ze prog 44 false:=Yi
instance:Zm prog 44 1:=Yj
instance:Zd prog 44 24:=Yh
instance:Zf prog 44 (.slice none 0 0):=Yk
instance:ZE prog 44 116:=⟨by kernel_rfl⟩
instance:TyS prog 45:=tqS
instance:Ze prog 45 false:=Yi
instance:Zm prog 45 1:=Yj
instance:Zd prog 45 24:=Yh
instance:Zf prog 45 (.slice none 0 0):=Yk
instance:ZE prog 45 118:=⟨by kernel_rfl⟩
instance:TyA prog 46 10:=tqA
instance:Ze prog 46 false:=Yi
instance:Zm prog 46 10:=Yj
instance:Zd prog 46 144:=Yh
instance:Zf prog 46 (.agg ⟨[.int .i64 0,.int .u64 0,.int .i64 0,.int .u64 0,.int .u64 0,.slice none 0 0,.slice none 0 0,.int .i64 0,.slice none 0 0,.slice none 0 0]⟩):=Yk
instance:Zn prog 46:=⟨by kernel_rfl⟩
instance:Zw prog 46 0 0 3:=Zy
instance:Zw prog 46 1 1 35:=Zy
instance:Zw prog 46 2 2 3:=Zy
instance:Zw prog 46 3 3 35:=Zy
instance:Zw prog 46 4 4 35:=Zy
instance:Zw prog 46 5 5 42:=Zy
instance:Zw prog 46 6 6 43:=Zy
instance:Zw prog 46 7 7 3:=Zy
instance:Zw prog 46 8 8 44:=Zy
instance:Zw prog 46 9 9 45:=Zy
instance:Zj prog 46 (([(0,1),(1,1),(2,1),(3,1),(4,1),(5,1),(6,1),(7,1),(8,1),(9,1)]:List (Nat×Nat))[·]?):=Zi (by kernel_rfl)
instance:TyA prog 47 10:=tqA
instance:Ze prog 47 false:=Yi
instance:Zm prog 47 10:=Yj
instance:Zd prog 47 144:=Yh
instance:Zf prog 47 (.agg ⟨[.int .i64 0,.int .u64 0,.int .i64 0,.int .u64 0,.int .u64 0,.slice none 0 0,.slice none 0 0,.int .i64 0,.slice none 0 0,.slice none 0 0]⟩):=Yk
instance:Zn prog 47:=⟨by kernel_rfl⟩
instance:YB prog 47 [(0,3),(1,35),(2,3),(3,35),(4,35),(5,42),(6,43),(7,3),(8,44),(9,45)]:=ZQ (by kernel_rfl)
instance:Zw prog 47 0 0 3:=Zy
instance:Zw prog 47 1 1 35:=Zy
instance:Zw prog 47 2 2 3:=Zy
instance:Zw prog 47 3 3 35:=Zy
instance:Zw prog 47 4 4 35:=Zy
instance:Zw prog 47 5 5 42:=Zy
instance:Zw prog 47 6 6 43:=Zy
instance:Zw prog 47 7 7 3:=Zy
instance:Zw prog 47 8 8 44:=Zy
instance:Zw prog 47 9 9 45:=Zy
instance:Zj prog 47 (([(0,1),(1,1),(2,1),(3,1),(4,1),(5,1),(6,1),(7,1),(8,1),(9,1)]:List (Nat×Nat))[·]?):=Zi (by kernel_rfl)
instance:TyS prog 48:=tqS
instance:Ze prog 48 false:=Yi
instance:Zm prog 48 1:=Yj
instance:Zd prog 48 24:=Yh
instance:Zf prog 48 (.slice none 0 0):=Yk
instance:ZE prog 48 4:=⟨by kernel_rfl⟩
instance:TyA prog 49 18:=tqA
instance:Ze prog 49 false:=Yi
instance:Zm prog 49 18:=Yj
instance:Zd prog 49 224:=Yh
instance:Zf prog 49 (.agg ⟨[.int .i64 0,.int .i64 0,.int .i64 0,.int .i64 0,.int .u64 0,.int .u64 0,.bool false,.int .i64 0,.int .u64 0,.int .i64 0,.int .u64 0,.int .u64 0,.slice none 0 0,.slice none 0 0,.int .i64 0,.slice none 0 0,.slice none 0 0,.slice none 0 0]⟩):=Yk
instance:Zn prog 49:=⟨by kernel_rfl⟩
instance:Zw prog 49 0 0 3:=Zy
instance:Zw prog 49 1 1 3:=Zy
instance:Zw prog 49 2 2 3:=Zy
instance:Zw prog 49 3 3 3:=Zy
instance:Zw prog 49 4 4 35:=Zy
instance:Zw prog 49 5 5 35:=Zy
instance:Zw prog 49 6 6 4:=Zy
instance:Zw prog 49 7 7 47:=Zy
instance:Zw prog 49 8 17 48:=Zy
instance:Zj prog 49 (([(0,1),(1,1),(2,1),(3,1),(4,1),(5,1),(6,1),(7,10),(17,1)]:List (Nat×Nat))[·]?):=Zi (by kernel_rfl)
instance:TyA prog 50 18:=tqA
instance:Ze prog 50 false:=Yi
instance:Zm prog 50 18:=Yj
instance:Zd prog 50 224:=Yh
instance:Zf prog 50 (.agg ⟨[.int .i64 0,.int .i64 0,.int .i64 0,.int .i64 0,.int .u64 0,.int .u64 0,.bool false,.int .i64 0,.int .u64 0,.int .i64 0,.int .u64 0,.int .u64 0,.slice none 0 0,.slice none 0 0,.int .i64 0,.slice none 0 0,.slice none 0 0,.slice none 0 0]⟩):=Yk
instance:Zn prog 50:=⟨by kernel_rfl⟩
instance:YB prog 50 [(0,3),(1,3),(2,3),(3,3),(4,35),(5,35),(6,4),(7,47),(17,48)]:=ZQ (by kernel_rfl)
instance:Zw prog 50 0 0 3:=Zy
instance:Zw prog 50 1 1 3:=Zy
instance:Zw prog 50 2 2 3:=Zy
instance:Zw prog 50 3 3 3:=Zy
instance:Zw prog 50 4 4 35:=Zy
instance:Zw prog 50 5 5 35:=Zy
instance:Zw prog 50 6 6 4:=Zy
instance:Zw prog 50 7 7 47:=Zy
instance:Zw prog 50 8 17 48:=Zy
instance:Zj prog 50 (([(0,1),(1,1),(2,1),(3,1),(4,1),(5,1),(6,1),(7,10),(17,1)]:List (Nat×Nat))[·]?):=Zi (by kernel_rfl)
instance:TyS prog 51:=tqS
instance:Ze prog 51 false:=Yi
instance:Zm prog 51 1:=Yj
instance:Zd prog 51 8:=Yh
instance:Zf prog 51 (.int .u64 0):=Yk
instance:YV prog 51 .u64:=⟨by kernel_rfl⟩
instance:TyS prog 56:=tqS
instance:Ze prog 56 false:=Yi
instance:ZT prog 56:=tqF
instance:Zm prog 56 1:=Yj
instance:Zd prog 56 8:=Yh
instance:Zf prog 56 (.nilFunc):=Yk
instance:TyS prog 64:=tqS
instance:Ze prog 64 false:=Yi
instance:ZT prog 64:=tqF
instance:Zm prog 64 1:=Yj
instance:Zd prog 64 8:=Yh
instance:Zf prog 64 (.nilFunc):=Yk
instance:TyS prog 65:=tqS
instance:Ze prog 65 false:=Yi
instance:Zm prog 65 1:=Yj
instance:Zd prog 65 24:=Yh
instance:Zf prog 65 (.slice none 0 0):=Yk
instance:ZE prog 65 77:=⟨by kernel_rfl⟩
instance:TyA prog 66 2:=tqA
instance:Ze prog 66 false:=Yi
instance:Zm prog 66 2:=Yj
instance:Zd prog 66 32:=Yh
instance:Zf prog 66 (.agg ⟨[.int .i64 0,.slice none 0 0]⟩):=Yk
instance:Zn prog 66:=⟨by kernel_rfl⟩
instance:Zw prog 66 0 0 3:=Zy
instance:Zw prog 66 1 1 48:=Zy
instance:Zj prog 66 (([(0,1),(1,1)]:List (Nat×Nat))[·]?):=Zi (by kernel_rfl)
instance:TyA prog 67 2:=tqA
instance:Ze prog 67 false:=Yi
instance:Zm prog 67 2:=Yj
instance:Zd prog 67 32:=Yh
instance:Zf prog 67 (.agg ⟨[.int .i64 0,.slice none 0 0]⟩):=Yk
instance:Zn prog 67:=⟨by kernel_rfl⟩
instance:YB prog 67 [(0,3),(1,48)]:=ZQ (by kernel_rfl)
instance:Zw prog 67 0 0 3:=Zy
instance:Zw prog 67 1 1 48:=Zy
instance:Zj prog 67 (([(0,1),(1,1)]:List (Nat×Nat))[·]?):=Zi (by kernel_rfl)
instance:TyS prog 68:=tqS
instance:Ze prog 68 false:=Yi
instance:Zm prog 68 1:=Yj
instance:Zd prog 68 8:=Yh
instance:Zf prog 68 (.pointer none):=Yk
instance:Va prog 68 81:=⟨by kernel_rfl⟩
instance:TyS prog 71:=tqS
instance:Ze prog 71 false:=Yi
instance:Zm prog 71 1:=Yj
instance:Zd prog 71 24:=Yh
instance:Zf prog 71 (.slice none 0 0):=Yk
instance:ZE prog 71 158:=⟨by kernel_rfl⟩
instance:TyA prog 72 5:=tqA
instance:Ze prog 72 false:=Yi
instance:Zm prog 72 5:=Yj
instance:Zd prog 72 72:=Yh
instance:Zf prog 72 (.agg ⟨[.slice none 0 0,.slice none 0 0,.int .u64 0,.int .u64 0,.int .u64 0]⟩):=Yk
instance:Zn prog 72:=⟨by kernel_rfl⟩
instance:Zw prog 72 0 0 71:=Zy
instance:Zw prog 72 1 1 71:=Zy
instance:Zw prog 72 2 2 35:=Zy
instance:Zw prog 72 3 3 35:=Zy
instance:Zw prog 72 4 4 35:=Zy
instance:Zj prog 72 (([(0,1),(1,1),(2,1),(3,1),(4,1)]:List (Nat×Nat))[·]?):=Zi (by kernel_rfl)
instance:TyA prog 73 5:=tqA
instance:Ze prog 73 false:=Yi
instance:Zm prog 73 5:=Yj
instance:Zd prog 73 72:=Yh
instance:Zf prog 73 (.agg ⟨[.slice none 0 0,.slice none 0 0,.int .u64 0,.int .u64 0,.int .u64 0]⟩):=Yk
instance:Zn prog 73:=⟨by kernel_rfl⟩
instance:YB prog 73 [(0,71),(1,71),(2,35),(3,35),(4,35)]:=ZQ (by kernel_rfl)
instance:Zw prog 73 0 0 71:=Zy
instance:Zw prog 73 1 1 71:=Zy
instance:Zw prog 73 2 2 35:=Zy
instance:Zw prog 73 3 3 35:=Zy
instance:Zw prog 73 4 4 35:=Zy
instance:Zj prog 73 (([(0,1),(1,1),(2,1),(3,1),(4,1)]:List (Nat×Nat))[·]?):=Zi (by kernel_rfl)
instance:TyS prog 75:=tqS
instance:Ze prog 75 false:=Yi
instance:Zm prog 75 1:=Yj
instance:Zd prog 75 24:=Yh
instance:Zf prog 75 (.slice none 0 0):=Yk
instance:ZE prog 75 150:=⟨by kernel_rfl⟩
instance:TyA prog 76 4:=tqA
instance:Ze prog 76 false:=Yi
instance:Zm prog 76 4:=Yj
instance:Zd prog 76 48:=Yh
instance:Zf prog 76 (.agg ⟨[.int .i64 0,.int .i64 0,.int .i64 0,.slice none 0 0]⟩):=Yk
instance:Zn prog 76:=⟨by kernel_rfl⟩
instance:Zw prog 76 0 0 3:=Zy
instance:Zw prog 76 1 1 3:=Zy
instance:Zw prog 76 2 2 3:=Zy
instance:Zw prog 76 3 3 75:=Zy
instance:Zj prog 76 (([(0,1),(1,1),(2,1),(3,1)]:List (Nat×Nat))[·]?):=Zi (by kernel_rfl)
instance:TyA prog 77 4:=tqA
instance:Ze prog 77 false:=Yi
instance:Zm prog 77 4:=Yj
instance:Zd prog 77 48:=Yh
instance:Zf prog 77 (.agg ⟨[.int .i64 0,.int .i64 0,.int .i64 0,.slice none 0 0]⟩):=Yk
instance:Zn prog 77:=⟨by kernel_rfl⟩
instance:YB prog 77 [(0,3),(1,3),(2,3),(3,75)]:=ZQ (by kernel_rfl)
instance:Zw prog 77 0 0 3:=Zy
instance:Zw prog 77 1 1 3:=Zy
instance:Zw prog 77 2 2 3:=Zy
instance:Zw prog 77 3 3 75:=Zy
instance:Zj prog 77 (([(0,1),(1,1),(2,1),(3,1)]:List (Nat×Nat))[·]?):=Zi (by kernel_rfl)
instance:TyS prog 78:=tqS
instance:Ze prog 78 false:=Yi
instance:Zm prog 78 1:=Yj
instance:Zd prog 78 8:=Yh
instance:Zf prog 78 (.pointer none):=Yk
instance:Va prog 78 239:=⟨by kernel_rfl⟩
instance:TyS prog 79:=tqS
instance:Ze prog 79 false:=Yi
instance:Zm prog 79 1:=Yj
instance:Zd prog 79 8:=Yh
instance:Zf prog 79 (.pointer none):=Yk
instance:Va prog 79 220:=⟨by kernel_rfl⟩
instance:TyA prog 80 4:=tqA
instance:Ze prog 80 false:=Yi
instance:Zm prog 80 4:=Yj
instance:Zd prog 80 32:=Yh
instance:Zf prog 80 (.agg ⟨[.pointer none,.pointer none,.pointer none,.pointer none]⟩):=Yk
instance:Zn prog 80:=⟨by kernel_rfl⟩
instance:Zw prog 80 0 0 24:=Zy
instance:Zw prog 80 1 1 78:=Zy
instance:Zw prog 80 2 2 28:=Zy
instance:Zw prog 80 3 3 79:=Zy
instance:Zj prog 80 (([(0,1),(1,1),(2,1),(3,1)]:List (Nat×Nat))[·]?):=Zi (by kernel_rfl)
instance:TyA prog 81 4:=tqA
instance:Ze prog 81 false:=Yi
instance:Zm prog 81 4:=Yj
instance:Zd prog 81 32:=Yh
instance:Zf prog 81 (.agg ⟨[.pointer none,.pointer none,.pointer none,.pointer none]⟩):=Yk
instance:Zn prog 81:=⟨by kernel_rfl⟩
instance:YB prog 81 [(0,24),(1,78),(2,28),(3,79)]:=ZQ (by kernel_rfl)
instance:Zw prog 81 0 0 24:=Zy
instance:Zw prog 81 1 1 78:=Zy
instance:Zw prog 81 2 2 28:=Zy
instance:Zw prog 81 3 3 79:=Zy
instance:Zj prog 81 (([(0,1),(1,1),(2,1),(3,1)]:List (Nat×Nat))[·]?):=Zi (by kernel_rfl)
instance:TyS prog 85:=tqS
instance:Ze prog 85 false:=Yi
instance:Zm prog 85 1:=Yj
instance:Zd prog 85 24:=Yh
instance:Zf prog 85 (.slice none 0 0):=Yk
instance:ZE prog 85 171:=⟨by kernel_rfl⟩
instance:TyS prog 86:=tqS
instance:Ze prog 86 false:=Yi
instance:Zm prog 86 1:=Yj
instance:Zd prog 86 24:=Yh
instance:Zf prog 86 (.slice none 0 0):=Yk
instance:ZE prog 86 227:=⟨by kernel_rfl⟩
instance:TyA prog 87 3:=tqA
instance:Ze prog 87 false:=Yi
instance:Zm prog 87 3:=Yj
instance:Zd prog 87 56:=Yh
instance:Zf prog 87 (.agg ⟨[.int .i64 0,.slice none 0 0,.slice none 0 0]⟩):=Yk
instance:Zn prog 87:=⟨by kernel_rfl⟩
instance:Zw prog 87 0 0 3:=Zy
instance:Zw prog 87 1 1 85:=Zy
instance:Zw prog 87 2 2 86:=Zy
instance:Zj prog 87 (([(0,1),(1,1),(2,1)]:List (Nat×Nat))[·]?):=Zi (by kernel_rfl)
instance:TyA prog 88 3:=tqA
instance:Ze prog 88 false:=Yi
instance:Zm prog 88 3:=Yj
instance:Zd prog 88 56:=Yh
instance:Zf prog 88 (.agg ⟨[.int .i64 0,.slice none 0 0,.slice none 0 0]⟩):=Yk
instance:Zn prog 88:=⟨by kernel_rfl⟩
instance:YB prog 88 [(0,3),(1,85),(2,86)]:=ZQ (by kernel_rfl)
instance:Zw prog 88 0 0 3:=Zy
instance:Zw prog 88 1 1 85:=Zy
instance:Zw prog 88 2 2 86:=Zy
instance:Zj prog 88 (([(0,1),(1,1),(2,1)]:List (Nat×Nat))[·]?):=Zi (by kernel_rfl)
instance:TyS prog 96:=tqS
instance:Ze prog 96 false:=Yi
instance:Zm prog 96 1:=Yj
instance:Zd prog 96 24:=Yh
instance:Zf prog 96 (.slice none 0 0):=Yk
instance:ZE prog 96 105:=⟨by kernel_rfl⟩
instance:TyS prog 97:=tqS
instance:Ze prog 97 false:=Yi
instance:Zm prog 97 1:=Yj
instance:Zd prog 97 8:=Yh
instance:Zf prog 97 (.map none):=Yk
instance:WZ prog 97 3 105:=⟨by kernel_rfl⟩
instance:TyA prog 98 6:=tqA
instance:Ze prog 98 false:=Yi
instance:Zm prog 98 6:=Yj
instance:Zd prog 98 64:=Yh
instance:Zf prog 98 (.agg ⟨[.slice none 0 0,.map none,.int .i64 0,.int .i64 0,.int .i64 0,.bool false]⟩):=Yk
instance:Zn prog 98:=⟨by kernel_rfl⟩
instance:Zw prog 98 0 0 96:=Zy
instance:Zw prog 98 1 1 97:=Zy
instance:Zw prog 98 2 2 3:=Zy
instance:Zw prog 98 3 3 3:=Zy
instance:Zw prog 98 4 4 3:=Zy
instance:Zw prog 98 5 5 4:=Zy
instance:Zj prog 98 (([(0,1),(1,1),(2,1),(3,1),(4,1),(5,1)]:List (Nat×Nat))[·]?):=Zi (by kernel_rfl)
instance:TyA prog 99 6:=tqA
instance:Ze prog 99 false:=Yi
instance:Zm prog 99 6:=Yj
instance:Zd prog 99 64:=Yh
instance:Zf prog 99 (.agg ⟨[.slice none 0 0,.map none,.int .i64 0,.int .i64 0,.int .i64 0,.bool false]⟩):=Yk
instance:Zn prog 99:=⟨by kernel_rfl⟩
instance:YB prog 99 [(0,96),(1,97),(2,3),(3,3),(4,3),(5,4)]:=ZQ (by kernel_rfl)
instance:Zw prog 99 0 0 96:=Zy
instance:Zw prog 99 1 1 97:=Zy
instance:Zw prog 99 2 2 3:=Zy
instance:Zw prog 99 3 3 3:=Zy
instance:Zw prog 99 4 4 3:=Zy
instance:Zw prog 99 5 5 4:=Zy
instance:Zj prog 99 (([(0,1),(1,1),(2,1),(3,1),(4,1),(5,1)]:List (Nat×Nat))[·]?):=Zi (by kernel_rfl)
instance:TyA prog 100 7:=tqA
instance:Ze prog 100 false:=Yi
instance:Zm prog 100 7:=Yj
instance:Zd prog 100 72:=Yh
instance:Zf prog 100 (.agg ⟨[.pointer none,.int .u64 0,.int .u64 0,.int .u64 0,.int .i64 0,.slice none 0 0,.int .i64 0]⟩):=Yk
instance:Zn prog 100:=⟨by kernel_rfl⟩
instance:Zw prog 100 0 0 31:=Zy
instance:Zw prog 100 1 1 35:=Zy
instance:Zw prog 100 2 2 35:=Zy
instance:Zw prog 100 3 3 35:=Zy
instance:Zw prog 100 4 4 3:=Zy
instance:Zw prog 100 5 5 36:=Zy
instance:Zw prog 100 6 6 3:=Zy
instance:Zj prog 100 (([(0,1),(1,1),(2,1),(3,1),(4,1),(5,1),(6,1)]:List (Nat×Nat))[·]?):=Zi (by kernel_rfl)
instance:TyA prog 101 7:=tqA
instance:Ze prog 101 false:=Yi
instance:Zm prog 101 7:=Yj
instance:Zd prog 101 72:=Yh
instance:Zf prog 101 (.agg ⟨[.pointer none,.int .u64 0,.int .u64 0,.int .u64 0,.int .i64 0,.slice none 0 0,.int .i64 0]⟩):=Yk
instance:Zn prog 101:=⟨by kernel_rfl⟩
instance:YB prog 101 [(0,31),(1,35),(2,35),(3,35),(4,3),(5,36),(6,3)]:=ZQ (by kernel_rfl)
instance:Zw prog 101 0 0 31:=Zy
instance:Zw prog 101 1 1 35:=Zy
instance:Zw prog 101 2 2 35:=Zy
instance:Zw prog 101 3 3 35:=Zy
instance:Zw prog 101 4 4 3:=Zy
instance:Zw prog 101 5 5 36:=Zy
instance:Zw prog 101 6 6 3:=Zy
instance:Zj prog 101 (([(0,1),(1,1),(2,1),(3,1),(4,1),(5,1),(6,1)]:List (Nat×Nat))[·]?):=Zi (by kernel_rfl)
instance:TyS prog 103:=tqS
instance:Ze prog 103 false:=Yi
instance:ZT prog 103:=tqF
instance:Zm prog 103 1:=Yj
instance:Zd prog 103 8:=Yh
instance:Zf prog 103 (.nilFunc):=Yk
instance:TyA prog 104 64:=tqA
instance:Ze prog 104 false:=Yi
instance:Zm prog 104 64:=Yj
instance:Zd prog 104 64:=Yh
instance:Zf prog 104 (.agg ⟨List.replicate 64 (.int .u8 0)⟩):=Yk
instance:Zn prog 104:=⟨by kernel_rfl⟩
instance:WY prog 104 64 5:=⟨by kernel_rfl⟩
instance:Zj prog 104 (λ i=>some (i*1,1)):=mkTyPlacesA (n:=64) (e:=5) (by kernel_rfl) (by kernel_rfl)
instance:TyA prog 105 64:=tqA
instance:Ze prog 105 false:=Yi
instance:Zm prog 105 64:=Yj
instance:Zd prog 105 64:=Yh
instance:Zf prog 105 (.agg ⟨List.replicate 64 (.int .u8 0)⟩):=Yk
instance:Zn prog 105:=⟨by kernel_rfl⟩
instance:WY prog 105 64 5:=⟨by kernel_rfl⟩
instance:Zj prog 105 (λ i=>some (i*1,1)):=mkTyPlacesA (n:=64) (e:=5) (by kernel_rfl) (by kernel_rfl)
instance:TyS prog 106:=tqS
instance:Ze prog 106 false:=Yi
instance:ZT prog 106:=tqF
instance:Zm prog 106 1:=Yj
instance:Zd prog 106 8:=Yh
instance:Zf prog 106 (.nilFunc):=Yk
instance:TyS prog 107:=tqS
instance:Ze prog 107 false:=Yi
instance:Zm prog 107 1:=Yj
instance:Zd prog 107 24:=Yh
instance:Zf prog 107 (.slice none 0 0):=Yk
instance:ZE prog 107 5:=⟨by kernel_rfl⟩
instance:TyA prog 108 5:=tqA
instance:Ze prog 108 false:=Yi
instance:Zm prog 108 5:=Yj
instance:Zd prog 108 56:=Yh
instance:Zf prog 108 (.agg ⟨[.int .u64 0,.int .u64 0,.int .i64 0,.int .i64 0,.slice none 0 0]⟩):=Yk
instance:Zn prog 108:=⟨by kernel_rfl⟩
instance:Zw prog 108 0 0 35:=Zy
instance:Zw prog 108 1 1 35:=Zy
instance:Zw prog 108 2 2 3:=Zy
instance:Zw prog 108 3 3 3:=Zy
instance:Zw prog 108 4 4 107:=Zy
instance:Zj prog 108 (([(0,1),(1,1),(2,1),(3,1),(4,1)]:List (Nat×Nat))[·]?):=Zi (by kernel_rfl)
instance:TyA prog 109 5:=tqA
instance:Ze prog 109 false:=Yi
instance:Zm prog 109 5:=Yj
instance:Zd prog 109 56:=Yh
instance:Zf prog 109 (.agg ⟨[.int .u64 0,.int .u64 0,.int .i64 0,.int .i64 0,.slice none 0 0]⟩):=Yk
instance:Zn prog 109:=⟨by kernel_rfl⟩
instance:YB prog 109 [(0,35),(1,35),(2,3),(3,3),(4,107)]:=ZQ (by kernel_rfl)
instance:Zw prog 109 0 0 35:=Zy
instance:Zw prog 109 1 1 35:=Zy
instance:Zw prog 109 2 2 3:=Zy
instance:Zw prog 109 3 3 3:=Zy
instance:Zw prog 109 4 4 107:=Zy
instance:Zj prog 109 (([(0,1),(1,1),(2,1),(3,1),(4,1)]:List (Nat×Nat))[·]?):=Zi (by kernel_rfl)
instance:TyS prog 111:=tqS
instance:Ze prog 111 false:=Yi
instance:Zm prog 111 1:=Yj
instance:Zd prog 111 24:=Yh
instance:Zf prog 111 (.slice none 0 0):=Yk
instance:ZE prog 111 107:=⟨by kernel_rfl⟩
instance:TyA prog 112 9:=tqA
instance:Ze prog 112 false:=Yi
instance:Zm prog 112 9:=Yj
instance:Zd prog 112 104:=Yh
instance:Zf prog 112 (.agg ⟨[.int .u64 0,.int .u64 0,.int .i64 0,.int .i64 0,.slice none 0 0,.pointer none,.slice none 0 0,.int .i64 0,.bool false]⟩):=Yk
instance:Zn prog 112:=⟨by kernel_rfl⟩
instance:Zw prog 112 0 0 109:=Zy
instance:Zw prog 112 1 5 24:=Zy
instance:Zw prog 112 2 6 111:=Zy
instance:Zw prog 112 3 7 3:=Zy
instance:Zw prog 112 4 8 4:=Zy
instance:Zj prog 112 (([(0,5),(5,1),(6,1),(7,1),(8,1)]:List (Nat×Nat))[·]?):=Zi (by kernel_rfl)
instance:TyA prog 113 9:=tqA
instance:Ze prog 113 false:=Yi
instance:Zm prog 113 9:=Yj
instance:Zd prog 113 104:=Yh
instance:Zf prog 113 (.agg ⟨[.int .u64 0,.int .u64 0,.int .i64 0,.int .i64 0,.slice none 0 0,.pointer none,.slice none 0 0,.int .i64 0,.bool false]⟩):=Yk
instance:Zn prog 113:=⟨by kernel_rfl⟩
instance:YB prog 113 [(0,109),(5,24),(6,111),(7,3),(8,4)]:=ZQ (by kernel_rfl)
instance:Zw prog 113 0 0 109:=Zy
instance:Zw prog 113 1 5 24:=Zy
instance:Zw prog 113 2 6 111:=Zy
instance:Zw prog 113 3 7 3:=Zy
instance:Zw prog 113 4 8 4:=Zy
instance:Zj prog 113 (([(0,5),(5,1),(6,1),(7,1),(8,1)]:List (Nat×Nat))[·]?):=Zi (by kernel_rfl)
instance:TyA prog 115 5:=tqA
instance:Ze prog 115 false:=Yi
instance:Zm prog 115 5:=Yj
instance:Zd prog 115 40:=Yh
instance:Zf prog 115 (.agg ⟨[.int .i64 0,.int .u64 0,.int .u64 0,.int .u64 0,.int .i64 0]⟩):=Yk
instance:Zn prog 115:=⟨by kernel_rfl⟩
instance:Zw prog 115 0 0 3:=Zy
instance:Zw prog 115 1 1 35:=Zy
instance:Zw prog 115 2 2 35:=Zy
instance:Zw prog 115 3 3 35:=Zy
instance:Zw prog 115 4 4 3:=Zy
instance:Zj prog 115 (([(0,1),(1,1),(2,1),(3,1),(4,1)]:List (Nat×Nat))[·]?):=Zi (by kernel_rfl)
instance:TyA prog 116 5:=tqA
instance:Ze prog 116 false:=Yi
instance:Zm prog 116 5:=Yj
instance:Zd prog 116 40:=Yh
instance:Zf prog 116 (.agg ⟨[.int .i64 0,.int .u64 0,.int .u64 0,.int .u64 0,.int .i64 0]⟩):=Yk
instance:Zn prog 116:=⟨by kernel_rfl⟩
instance:YB prog 116 [(0,3),(1,35),(2,35),(3,35),(4,3)]:=ZQ (by kernel_rfl)
instance:Zw prog 116 0 0 3:=Zy
instance:Zw prog 116 1 1 35:=Zy
instance:Zw prog 116 2 2 35:=Zy
instance:Zw prog 116 3 3 35:=Zy
instance:Zw prog 116 4 4 3:=Zy
instance:Zj prog 116 (([(0,1),(1,1),(2,1),(3,1),(4,1)]:List (Nat×Nat))[·]?):=Zi (by kernel_rfl)
instance:TyA prog 117 2:=tqA
instance:Ze prog 117 false:=Yi
instance:Zm prog 117 2:=Yj
instance:Zd prog 117 16:=Yh
instance:Zf prog 117 (.agg ⟨[.int .i64 0,.int .u64 0]⟩):=Yk
instance:Zn prog 117:=⟨by kernel_rfl⟩
instance:Zw prog 117 0 0 3:=Zy
instance:Zw prog 117 1 1 35:=Zy
instance:Zj prog 117 (([(0,1),(1,1)]:List (Nat×Nat))[·]?):=Zi (by kernel_rfl)
instance:TyA prog 118 2:=tqA
instance:Ze prog 118 false:=Yi
instance:Zm prog 118 2:=Yj
instance:Zd prog 118 16:=Yh
instance:Zf prog 118 (.agg ⟨[.int .i64 0,.int .u64 0]⟩):=Yk
instance:Zn prog 118:=⟨by kernel_rfl⟩
instance:YB prog 118 [(0,3),(1,35)]:=ZQ (by kernel_rfl)
instance:Zw prog 118 0 0 3:=Zy
instance:Zw prog 118 1 1 35:=Zy
instance:Zj prog 118 (([(0,1),(1,1)]:List (Nat×Nat))[·]?):=Zi (by kernel_rfl)
instance:TyS prog 120:=tqS
instance:Ze prog 120 false:=Yi
instance:ZT prog 120:=tqF
instance:Zm prog 120 1:=Yj
instance:Zd prog 120 8:=Yh
instance:Zf prog 120 (.nilFunc):=Yk
instance:TyS prog 122:=tqS
instance:Ze prog 122 false:=Yi
instance:ZT prog 122:=tqF
instance:Zm prog 122 1:=Yj
instance:Zd prog 122 8:=Yh
instance:Zf prog 122 (.nilFunc):=Yk
instance:TyS prog 124:=tqS
instance:Ze prog 124 false:=Yi
instance:ZT prog 124:=tqF
instance:Zm prog 124 1:=Yj
instance:Zd prog 124 8:=Yh
instance:Zf prog 124 (.nilFunc):=Yk
instance:TyS prog 125:=tqS
instance:Ze prog 125 false:=Yi
instance:ZT prog 125:=tqF
instance:Zm prog 125 1:=Yj
instance:Zd prog 125 8:=Yh
instance:Zf prog 125 (.nilFunc):=Yk
instance:TyS prog 135:=tqS
instance:Ze prog 135 false:=Yi
instance:ZT prog 135:=tqF
instance:Zm prog 135 1:=Yj
instance:Zd prog 135 8:=Yh
instance:Zf prog 135 (.nilFunc):=Yk
instance:TyS prog 136:=tqS
instance:Ze prog 136 false:=Yi
instance:ZT prog 136:=tqF
instance:Zm prog 136 1:=Yj
instance:Zd prog 136 8:=Yh
instance:Zf prog 136 (.nilFunc):=Yk
instance:TyS prog 138:=tqS
instance:Ze prog 138 false:=Yi
instance:ZT prog 138:=tqF
instance:Zm prog 138 1:=Yj
instance:Zd prog 138 8:=Yh
instance:Zf prog 138 (.nilFunc):=Yk
instance:TyS prog 144:=tqS
instance:Ze prog 144 false:=Yi
instance:ZT prog 144:=tqF
instance:Zm prog 144 1:=Yj
instance:Zd prog 144 8:=Yh
instance:Zf prog 144 (.nilFunc):=Yk
instance:TyA prog 149 4:=tqA
instance:Ze prog 149 false:=Yi
instance:Zm prog 149 4:=Yj
instance:Zd prog 149 64:=Yh
instance:Zf prog 149 (.agg ⟨[.int .i64 0,.int .i64 0,.slice none 0 0,.slice none 0 0]⟩):=Yk
instance:Zn prog 149:=⟨by kernel_rfl⟩
instance:Zw prog 149 0 0 3:=Zy
instance:Zw prog 149 1 1 88:=Zy
instance:Zj prog 149 (([(0,1),(1,3)]:List (Nat×Nat))[·]?):=Zi (by kernel_rfl)
instance:TyA prog 150 4:=tqA
instance:Ze prog 150 false:=Yi
instance:Zm prog 150 4:=Yj
instance:Zd prog 150 64:=Yh
instance:Zf prog 150 (.agg ⟨[.int .i64 0,.int .i64 0,.slice none 0 0,.slice none 0 0]⟩):=Yk
instance:Zn prog 150:=⟨by kernel_rfl⟩
instance:YB prog 150 [(0,3),(1,88)]:=ZQ (by kernel_rfl)
instance:Zw prog 150 0 0 3:=Zy
instance:Zw prog 150 1 1 88:=Zy
instance:Zj prog 150 (([(0,1),(1,3)]:List (Nat×Nat))[·]?):=Zi (by kernel_rfl)
instance:TyA prog 157 6:=tqA
instance:Ze prog 157 false:=Yi
instance:Zm prog 157 6:=Yj
instance:Zd prog 157 80:=Yh
instance:Zf prog 157 (.agg ⟨[.bool false,.int .i64 0,.slice none 0 0,.slice none 0 0,.int .u64 0,.int .u64 0]⟩):=Yk
instance:Zn prog 157:=⟨by kernel_rfl⟩
instance:Zw prog 157 0 0 4:=Zy
instance:Zw prog 157 1 1 88:=Zy
instance:Zw prog 157 2 4 35:=Zy
instance:Zw prog 157 3 5 35:=Zy
instance:Zj prog 157 (([(0,1),(1,3),(4,1),(5,1)]:List (Nat×Nat))[·]?):=Zi (by kernel_rfl)
instance:TyA prog 158 6:=tqA
instance:Ze prog 158 false:=Yi
instance:Zm prog 158 6:=Yj
instance:Zd prog 158 80:=Yh
instance:Zf prog 158 (.agg ⟨[.bool false,.int .i64 0,.slice none 0 0,.slice none 0 0,.int .u64 0,.int .u64 0]⟩):=Yk
instance:Zn prog 158:=⟨by kernel_rfl⟩
instance:YB prog 158 [(0,4),(1,88),(4,35),(5,35)]:=ZQ (by kernel_rfl)
instance:Zw prog 158 0 0 4:=Zy
instance:Zw prog 158 1 1 88:=Zy
instance:Zw prog 158 2 4 35:=Zy
instance:Zw prog 158 3 5 35:=Zy
instance:Zj prog 158 (([(0,1),(1,3),(4,1),(5,1)]:List (Nat×Nat))[·]?):=Zi (by kernel_rfl)
instance:TyS prog 159:=tqS
instance:Ze prog 159 false:=Yi
instance:Zm prog 159 1:=Yj
instance:Zd prog 159 24:=Yh
instance:Zf prog 159 (.slice none 0 0):=Yk
instance:ZE prog 159 88:=⟨by kernel_rfl⟩
instance:TyA prog 160 1:=tqA
instance:Ze prog 160 false:=Yi
instance:Zm prog 160 1:=Yj
instance:Zd prog 160 24:=Yh
instance:Zf prog 160 (.agg ⟨[.slice none 0 0]⟩):=Yk
instance:Zn prog 160:=⟨by kernel_rfl⟩
instance:Zw prog 160 0 0 159:=Zy
instance:Zj prog 160 (([(0,1)]:List (Nat×Nat))[·]?):=Zi (by kernel_rfl)
instance:TyA prog 161 1:=tqA
instance:Ze prog 161 false:=Yi
instance:Zm prog 161 1:=Yj
instance:Zd prog 161 24:=Yh
instance:Zf prog 161 (.agg ⟨[.slice none 0 0]⟩):=Yk
instance:Zn prog 161:=⟨by kernel_rfl⟩
instance:YB prog 161 [(0,159)]:=ZQ (by kernel_rfl)
instance:Zw prog 161 0 0 159:=Zy
instance:Zj prog 161 (([(0,1)]:List (Nat×Nat))[·]?):=Zi (by kernel_rfl)
instance:TyS prog 167:=tqS
instance:Ze prog 167 false:=Yi
instance:Zm prog 167 1:=Yj
instance:Zd prog 167 2:=Yh
instance:Zf prog 167 (.int .u16 0):=Yk
instance:YV prog 167 .u16:=⟨by kernel_rfl⟩
instance:TyA prog 168 2:=tqA
instance:Ze prog 168 false:=Yi
instance:Zm prog 168 2:=Yj
instance:Zd prog 168 16:=Yh
instance:Zf prog 168 (.agg ⟨[.int .i64 0,.int .u16 0]⟩):=Yk
instance:Zn prog 168:=⟨by kernel_rfl⟩
instance:Zw prog 168 0 0 3:=Zy
instance:Zw prog 168 1 1 167:=Zy
instance:Zj prog 168 (([(0,1),(1,1)]:List (Nat×Nat))[·]?):=Zi (by kernel_rfl)
instance:TyA prog 169 2:=tqA
instance:Ze prog 169 false:=Yi
instance:Zm prog 169 2:=Yj
instance:Zd prog 169 16:=Yh
instance:Zf prog 169 (.agg ⟨[.int .i64 0,.int .u16 0]⟩):=Yk
instance:Zn prog 169:=⟨by kernel_rfl⟩
instance:YB prog 169 [(0,3),(1,167)]:=ZQ (by kernel_rfl)
instance:Zw prog 169 0 0 3:=Zy
instance:Zw prog 169 1 1 167:=Zy
instance:Zj prog 169 (([(0,1),(1,1)]:List (Nat×Nat))[·]?):=Zi (by kernel_rfl)
instance:TyA prog 170 4:=tqA
instance:Ze prog 170 false:=Yi
instance:Zm prog 170 4:=Yj
instance:Zd prog 170 40:=Yh
instance:Zf prog 170 (.agg ⟨[.int .i64 0,.int .u16 0,.int .i64 0,.string ⟨⟨[]⟩⟩]⟩):=Yk
instance:Zn prog 170:=⟨by kernel_rfl⟩
instance:Zw prog 170 0 0 169:=Zy
instance:Zw prog 170 1 2 2:=Zy
instance:Zw prog 170 2 3 9:=Zy
instance:Zj prog 170 (([(0,2),(2,1),(3,1)]:List (Nat×Nat))[·]?):=Zi (by kernel_rfl)
instance:TyA prog 171 4:=tqA
instance:Ze prog 171 false:=Yi
instance:Zm prog 171 4:=Yj
instance:Zd prog 171 40:=Yh
instance:Zf prog 171 (.agg ⟨[.int .i64 0,.int .u16 0,.int .i64 0,.string ⟨⟨[]⟩⟩]⟩):=Yk
instance:Zn prog 171:=⟨by kernel_rfl⟩
instance:YB prog 171 [(0,169),(2,2),(3,9)]:=ZQ (by kernel_rfl)
instance:Zw prog 171 0 0 169:=Zy
instance:Zw prog 171 1 2 2:=Zy
instance:Zw prog 171 2 3 9:=Zy
instance:Zj prog 171 (([(0,2),(2,1),(3,1)]:List (Nat×Nat))[·]?):=Zi (by kernel_rfl)
instance:TyA prog 172 7:=tqA
instance:Ze prog 172 false:=Yi
instance:Zm prog 172 7:=Yj
instance:Zd prog 172 88:=Yh
instance:Zf prog 172 (.agg ⟨[.int .u64 0,.int .u64 0,.int .i64 0,.slice none 0 0,.slice none 0 0,.bool false,.int .u64 0]⟩):=Yk
instance:Zn prog 172:=⟨by kernel_rfl⟩
instance:Zw prog 172 0 0 35:=Zy
instance:Zw prog 172 1 1 35:=Zy
instance:Zw prog 172 2 2 88:=Zy
instance:Zw prog 172 3 5 4:=Zy
instance:Zw prog 172 4 6 35:=Zy
instance:Zj prog 172 (([(0,1),(1,1),(2,3),(5,1),(6,1)]:List (Nat×Nat))[·]?):=Zi (by kernel_rfl)
instance:TyA prog 173 7:=tqA
instance:Ze prog 173 false:=Yi
instance:Zm prog 173 7:=Yj
instance:Zd prog 173 88:=Yh
instance:Zf prog 173 (.agg ⟨[.int .u64 0,.int .u64 0,.int .i64 0,.slice none 0 0,.slice none 0 0,.bool false,.int .u64 0]⟩):=Yk
instance:Zn prog 173:=⟨by kernel_rfl⟩
instance:YB prog 173 [(0,35),(1,35),(2,88),(5,4),(6,35)]:=ZQ (by kernel_rfl)
instance:Zw prog 173 0 0 35:=Zy
instance:Zw prog 173 1 1 35:=Zy
instance:Zw prog 173 2 2 88:=Zy
instance:Zw prog 173 3 5 4:=Zy
instance:Zw prog 173 4 6 35:=Zy
instance:Zj prog 173 (([(0,1),(1,1),(2,3),(5,1),(6,1)]:List (Nat×Nat))[·]?):=Zi (by kernel_rfl)
instance:TyS prog 176:=tqS
instance:Ze prog 176 false:=Yi
instance:ZT prog 176:=tqF
instance:Zm prog 176 1:=Yj
instance:Zd prog 176 8:=Yh
instance:Zf prog 176 (.nilFunc):=Yk
instance:TyA prog 179 7:=tqA
instance:Ze prog 179 false:=Yi
instance:Zm prog 179 7:=Yj
instance:Zd prog 179 120:=Yh
instance:Zf prog 179 (.agg ⟨[.int .i64 0,.int .i64 0,.slice none 0 0,.slice none 0 0,.int .i64 0,.slice none 0 0,.slice none 0 0]⟩):=Yk
instance:Zn prog 179:=⟨by kernel_rfl⟩
instance:Zw prog 179 0 0 3:=Zy
instance:Zw prog 179 1 1 88:=Zy
instance:Zw prog 179 2 4 88:=Zy
instance:Zj prog 179 (([(0,1),(1,3),(4,3)]:List (Nat×Nat))[·]?):=Zi (by kernel_rfl)
instance:TyA prog 180 7:=tqA
instance:Ze prog 180 false:=Yi
instance:Zm prog 180 7:=Yj
instance:Zd prog 180 120:=Yh
instance:Zf prog 180 (.agg ⟨[.int .i64 0,.int .i64 0,.slice none 0 0,.slice none 0 0,.int .i64 0,.slice none 0 0,.slice none 0 0]⟩):=Yk
instance:Zn prog 180:=⟨by kernel_rfl⟩
instance:YB prog 180 [(0,3),(1,88),(4,88)]:=ZQ (by kernel_rfl)
instance:Zw prog 180 0 0 3:=Zy
instance:Zw prog 180 1 1 88:=Zy
instance:Zw prog 180 2 4 88:=Zy
instance:Zj prog 180 (([(0,1),(1,3),(4,3)]:List (Nat×Nat))[·]?):=Zi (by kernel_rfl)
instance:TyA prog 182 6:=tqA
instance:Ze prog 182 false:=Yi
instance:Zm prog 182 6:=Yj
instance:Zd prog 182 56:=Yh
instance:Zf prog 182 (.agg ⟨[.int .i64 0,.int .i64 0,.int .u16 0,.int .i64 0,.string ⟨⟨[]⟩⟩,.int .i64 0]⟩):=Yk
instance:Zn prog 182:=⟨by kernel_rfl⟩
instance:Zw prog 182 0 0 3:=Zy
instance:Zw prog 182 1 1 171:=Zy
instance:Zw prog 182 2 5 2:=Zy
instance:Zj prog 182 (([(0,1),(1,4),(5,1)]:List (Nat×Nat))[·]?):=Zi (by kernel_rfl)
instance:TyA prog 183 6:=tqA
instance:Ze prog 183 false:=Yi
instance:Zm prog 183 6:=Yj
instance:Zd prog 183 56:=Yh
instance:Zf prog 183 (.agg ⟨[.int .i64 0,.int .i64 0,.int .u16 0,.int .i64 0,.string ⟨⟨[]⟩⟩,.int .i64 0]⟩):=Yk
instance:Zn prog 183:=⟨by kernel_rfl⟩
instance:YB prog 183 [(0,3),(1,171),(5,2)]:=ZQ (by kernel_rfl)
instance:Zw prog 183 0 0 3:=Zy
instance:Zw prog 183 1 1 171:=Zy
instance:Zw prog 183 2 5 2:=Zy
instance:Zj prog 183 (([(0,1),(1,4),(5,1)]:List (Nat×Nat))[·]?):=Zi (by kernel_rfl)
instance:TyS prog 191:=tqS
instance:Ze prog 191 false:=Yi
instance:ZT prog 191:=tqF
instance:Zm prog 191 1:=Yj
instance:Zd prog 191 8:=Yh
instance:Zf prog 191 (.nilFunc):=Yk
instance:TyS prog 196:=tqS
instance:Ze prog 196 false:=Yi
instance:Zm prog 196 1:=Yj
instance:Zd prog 196 24:=Yh
instance:Zf prog 196 (.slice none 0 0):=Yk
instance:ZE prog 196 35:=⟨by kernel_rfl⟩
instance:TyS prog 197:=tqS
instance:Ze prog 197 false:=Yi
instance:ZT prog 197:=tqF
instance:Zm prog 197 1:=Yj
instance:Zd prog 197 8:=Yh
instance:Zf prog 197 (.nilFunc):=Yk
instance:TyA prog 199 128:=tqA
instance:Ze prog 199 false:=Yi
instance:Zm prog 199 128:=Yj
instance:Zd prog 199 128:=Yh
instance:Zf prog 199 (.agg ⟨List.replicate 128 (.int .u8 0)⟩):=Yk
instance:Zn prog 199:=⟨by kernel_rfl⟩
instance:WY prog 199 2 105:=⟨by kernel_rfl⟩
instance:Zj prog 199 (λ i=>some (i*64,64)):=mkTyPlacesA (n:=2) (e:=105) (by kernel_rfl) (by kernel_rfl)
instance:TyS prog 201:=tqS
instance:Ze prog 201 false:=Yi
instance:ZT prog 201:=tqF
instance:Zm prog 201 1:=Yj
instance:Zd prog 201 8:=Yh
instance:Zf prog 201 (.nilFunc):=Yk
instance:TyS prog 205:=tqS
instance:Ze prog 205 false:=Yi
instance:Zm prog 205 1:=Yj
instance:Zd prog 205 8:=Yh
instance:Zf prog 205 (.pointer none):=Yk
instance:Va prog 205 209:=⟨by kernel_rfl⟩
instance:TyS prog 206:=tqS
instance:Ze prog 206 false:=Yi
instance:Zm prog 206 1:=Yj
instance:Zd prog 206 8:=Yh
instance:Zf prog 206 (.pointer none):=Yk
instance:Va prog 206 263:=⟨by kernel_rfl⟩
instance:TyA prog 208 13:=tqA
instance:Ze prog 208 false:=Yi
instance:Zm prog 208 13:=Yj
instance:Zd prog 208 184:=Yh
instance:Zf prog 208 (.agg ⟨[.pointer none,.slice none 0 0,.int .i64 0,.int .u64 0,.int .i64 0,.int .u64 0,.int .u64 0,.slice none 0 0,.slice none 0 0,.int .i64 0,.slice none 0 0,.slice none 0 0,.bool false]⟩):=Yk
instance:Zn prog 208:=⟨by kernel_rfl⟩
instance:Zw prog 208 0 0 206:=Zy
instance:Zw prog 208 1 1 107:=Zy
instance:Zw prog 208 2 2 47:=Zy
instance:Zw prog 208 3 12 4:=Zy
instance:Zj prog 208 (([(0,1),(1,1),(2,10),(12,1)]:List (Nat×Nat))[·]?):=Zi (by kernel_rfl)
instance:TyA prog 209 13:=tqA
instance:Ze prog 209 false:=Yi
instance:Zm prog 209 13:=Yj
instance:Zd prog 209 184:=Yh
instance:Zf prog 209 (.agg ⟨[.pointer none,.slice none 0 0,.int .i64 0,.int .u64 0,.int .i64 0,.int .u64 0,.int .u64 0,.slice none 0 0,.slice none 0 0,.int .i64 0,.slice none 0 0,.slice none 0 0,.bool false]⟩):=Yk
instance:Zn prog 209:=⟨by kernel_rfl⟩
instance:YB prog 209 [(0,206),(1,107),(2,47),(12,4)]:=ZQ (by kernel_rfl)
instance:Zw prog 209 0 0 206:=Zy
instance:Zw prog 209 1 1 107:=Zy
instance:Zw prog 209 2 2 47:=Zy
instance:Zw prog 209 3 12 4:=Zy
instance:Zj prog 209 (([(0,1),(1,1),(2,10),(12,1)]:List (Nat×Nat))[·]?):=Zi (by kernel_rfl)
instance:TyS prog 211:=tqS
instance:Ze prog 211 false:=Yi
instance:Zm prog 211 1:=Yj
instance:Zd prog 211 4:=Yh
instance:Zf prog 211 (.int .u32 0):=Yk
instance:YV prog 211 .u32:=⟨by kernel_rfl⟩
instance:TyS prog 213:=tqS
instance:Ze prog 213 false:=Yi
instance:Zm prog 213 1:=Yj
instance:Zd prog 213 8:=Yh
instance:Zf prog 213 (.map none):=Yk
instance:WZ prog 213 3 1:=⟨by kernel_rfl⟩
instance:TyA prog 216 5:=tqA
instance:Ze prog 216 false:=Yi
instance:Zm prog 216 5:=Yj
instance:Zd prog 216 72:=Yh
instance:Zf prog 216 (.agg ⟨[.int .i64 0,.slice none 0 0,.slice none 0 0,.int .u64 0,.int .u64 0]⟩):=Yk
instance:Zn prog 216:=⟨by kernel_rfl⟩
instance:Zw prog 216 0 0 88:=Zy
instance:Zw prog 216 1 3 35:=Zy
instance:Zw prog 216 2 4 35:=Zy
instance:Zj prog 216 (([(0,3),(3,1),(4,1)]:List (Nat×Nat))[·]?):=Zi (by kernel_rfl)
instance:TyA prog 217 5:=tqA
instance:Ze prog 217 false:=Yi
instance:Zm prog 217 5:=Yj
instance:Zd prog 217 72:=Yh
instance:Zf prog 217 (.agg ⟨[.int .i64 0,.slice none 0 0,.slice none 0 0,.int .u64 0,.int .u64 0]⟩):=Yk
instance:Zn prog 217:=⟨by kernel_rfl⟩
instance:YB prog 217 [(0,88),(3,35),(4,35)]:=ZQ (by kernel_rfl)
instance:Zw prog 217 0 0 88:=Zy
instance:Zw prog 217 1 3 35:=Zy
instance:Zw prog 217 2 4 35:=Zy
instance:Zj prog 217 (([(0,3),(3,1),(4,1)]:List (Nat×Nat))[·]?):=Zi (by kernel_rfl)
instance:TyS prog 218:=tqS
instance:Ze prog 218 false:=Yi
instance:Zm prog 218 1:=Yj
instance:Zd prog 218 8:=Yh
instance:Zf prog 218 (.map none):=Yk
instance:WZ prog 218 3 217:=⟨by kernel_rfl⟩
instance:TyA prog 219 3:=tqA
instance:Ze prog 219 false:=Yi
instance:Zm prog 219 3:=Yj
instance:Zd prog 219 24:=Yh
instance:Zf prog 219 (.agg ⟨[.pointer none,.pointer none,.map none]⟩):=Yk
instance:Zn prog 219:=⟨by kernel_rfl⟩
instance:Zw prog 219 0 0 78:=Zy
instance:Zw prog 219 1 1 28:=Zy
instance:Zw prog 219 2 2 218:=Zy
instance:Zj prog 219 (([(0,1),(1,1),(2,1)]:List (Nat×Nat))[·]?):=Zi (by kernel_rfl)
instance:TyA prog 220 3:=tqA
instance:Ze prog 220 false:=Yi
instance:Zm prog 220 3:=Yj
instance:Zd prog 220 24:=Yh
instance:Zf prog 220 (.agg ⟨[.pointer none,.pointer none,.map none]⟩):=Yk
instance:Zn prog 220:=⟨by kernel_rfl⟩
instance:YB prog 220 [(0,78),(1,28),(2,218)]:=ZQ (by kernel_rfl)
instance:Zw prog 220 0 0 78:=Zy
instance:Zw prog 220 1 1 28:=Zy
instance:Zw prog 220 2 2 218:=Zy
instance:Zj prog 220 (([(0,1),(1,1),(2,1)]:List (Nat×Nat))[·]?):=Zi (by kernel_rfl)
instance:TyS prog 222:=tqS
instance:Ze prog 222 false:=Yi
instance:ZT prog 222:=tqF
instance:Zm prog 222 1:=Yj
instance:Zd prog 222 8:=Yh
instance:Zf prog 222 (.nilFunc):=Yk
instance:TyA prog 226 3:=tqA
instance:Ze prog 226 false:=Yi
instance:Zm prog 226 3:=Yj
instance:Zd prog 226 24:=Yh
instance:Zf prog 226 (.agg ⟨[.int .i64 0,.int .u16 0,.int .i64 0]⟩):=Yk
instance:Zn prog 226:=⟨by kernel_rfl⟩
instance:Zw prog 226 0 0 169:=Zy
instance:Zw prog 226 1 2 3:=Zy
instance:Zj prog 226 (([(0,2),(2,1)]:List (Nat×Nat))[·]?):=Zi (by kernel_rfl)
instance:TyA prog 227 3:=tqA
instance:Ze prog 227 false:=Yi
instance:Zm prog 227 3:=Yj
instance:Zd prog 227 24:=Yh
instance:Zf prog 227 (.agg ⟨[.int .i64 0,.int .u16 0,.int .i64 0]⟩):=Yk
instance:Zn prog 227:=⟨by kernel_rfl⟩
instance:YB prog 227 [(0,169),(2,3)]:=ZQ (by kernel_rfl)
instance:Zw prog 227 0 0 169:=Zy
instance:Zw prog 227 1 2 3:=Zy
instance:Zj prog 227 (([(0,2),(2,1)]:List (Nat×Nat))[·]?):=Zi (by kernel_rfl)
instance:TyS prog 229:=tqS
instance:Ze prog 229 false:=Yi
instance:ZT prog 229:=tqF
instance:Zm prog 229 1:=Yj
instance:Zd prog 229 8:=Yh
instance:Zf prog 229 (.nilFunc):=Yk
instance:TyS prog 232:=tqS
instance:Ze prog 232 false:=Yi
instance:Zm prog 232 1:=Yj
instance:Zd prog 232 8:=Yh
instance:Zf prog 232 (.pointer none):=Yk
instance:Va prog 232 158:=⟨by kernel_rfl⟩
instance:TyS prog 235:=tqS
instance:Ze prog 235 false:=Yi
instance:ZT prog 235:=tqF
instance:Zm prog 235 1:=Yj
instance:Zd prog 235 8:=Yh
instance:Zf prog 235 (.nilFunc):=Yk
instance:TyS prog 236:=tqS
instance:Ze prog 236 false:=Yi
instance:ZT prog 236:=tqF
instance:Zm prog 236 1:=Yj
instance:Zd prog 236 8:=Yh
instance:Zf prog 236 (.nilFunc):=Yk
instance:TyA prog 238 2:=tqA
instance:Ze prog 238 false:=Yi
instance:Zm prog 238 2:=Yj
instance:Zd prog 238 16:=Yh
instance:Zf prog 238 (.agg ⟨[.pointer none,.int .i64 0]⟩):=Yk
instance:Zn prog 238:=⟨by kernel_rfl⟩
instance:Zw prog 238 0 0 24:=Zy
instance:Zw prog 238 1 1 3:=Zy
instance:Zj prog 238 (([(0,1),(1,1)]:List (Nat×Nat))[·]?):=Zi (by kernel_rfl)
instance:TyA prog 239 2:=tqA
instance:Ze prog 239 false:=Yi
instance:Zm prog 239 2:=Yj
instance:Zd prog 239 16:=Yh
instance:Zf prog 239 (.agg ⟨[.pointer none,.int .i64 0]⟩):=Yk
instance:Zn prog 239:=⟨by kernel_rfl⟩
instance:YB prog 239 [(0,24),(1,3)]:=ZQ (by kernel_rfl)
instance:Zw prog 239 0 0 24:=Zy
instance:Zw prog 239 1 1 3:=Zy
instance:Zj prog 239 (([(0,1),(1,1)]:List (Nat×Nat))[·]?):=Zi (by kernel_rfl)
instance:TyS prog 243:=tqS
instance:Ze prog 243 false:=Yi
instance:Zm prog 243 1:=Yj
instance:Zd prog 243 8:=Yh
instance:Zf prog 243 (.pointer none):=Yk
instance:Va prog 243 245:=⟨by kernel_rfl⟩
instance:TyA prog 244 10:=tqA
instance:Ze prog 244 false:=Yi
instance:Zm prog 244 10:=Yj
instance:Zd prog 244 144:=Yh
instance:Zf prog 244 (.agg ⟨[.int .i64 0,.int .u64 0,.int .i64 0,.int .u64 0,.int .u64 0,.slice none 0 0,.slice none 0 0,.int .i64 0,.slice none 0 0,.slice none 0 0]⟩):=Yk
instance:Zn prog 244:=⟨by kernel_rfl⟩
instance:Zw prog 244 0 0 47:=Zy
instance:Zj prog 244 (([(0,10)]:List (Nat×Nat))[·]?):=Zi (by kernel_rfl)
instance:TyA prog 245 10:=tqA
instance:Ze prog 245 false:=Yi
instance:Zm prog 245 10:=Yj
instance:Zd prog 245 144:=Yh
instance:Zf prog 245 (.agg ⟨[.int .i64 0,.int .u64 0,.int .i64 0,.int .u64 0,.int .u64 0,.slice none 0 0,.slice none 0 0,.int .i64 0,.slice none 0 0,.slice none 0 0]⟩):=Yk
instance:Zn prog 245:=⟨by kernel_rfl⟩
instance:YB prog 245 [(0,47)]:=ZQ (by kernel_rfl)
instance:Zw prog 245 0 0 47:=Zy
instance:Zj prog 245 (([(0,10)]:List (Nat×Nat))[·]?):=Zi (by kernel_rfl)
instance:TyS prog 246:=tqS
instance:Ze prog 246 false:=Yi
instance:Zm prog 246 1:=Yj
instance:Zd prog 246 8:=Yh
instance:Zf prog 246 (.map none):=Yk
instance:WZ prog 246 3 23:=⟨by kernel_rfl⟩
instance:TyS prog 247:=tqS
instance:Ze prog 247 false:=Yi
instance:Zm prog 247 1:=Yj
instance:Zd prog 247 8:=Yh
instance:Zf prog 247 (.pointer none):=Yk
instance:Va prog 247 249:=⟨by kernel_rfl⟩
instance:TyA prog 248 11:=tqA
instance:Ze prog 248 false:=Yi
instance:Zm prog 248 11:=Yj
instance:Zd prog 248 168:=Yh
instance:Zf prog 248 (.agg ⟨[.int .i64 0,.int .u64 0,.int .i64 0,.int .u64 0,.int .u64 0,.slice none 0 0,.slice none 0 0,.int .i64 0,.slice none 0 0,.slice none 0 0,.slice none 0 0]⟩):=Yk
instance:Zn prog 248:=⟨by kernel_rfl⟩
instance:Zw prog 248 0 0 47:=Zy
instance:Zw prog 248 1 10 107:=Zy
instance:Zj prog 248 (([(0,10),(10,1)]:List (Nat×Nat))[·]?):=Zi (by kernel_rfl)
instance:TyA prog 249 11:=tqA
instance:Ze prog 249 false:=Yi
instance:Zm prog 249 11:=Yj
instance:Zd prog 249 168:=Yh
instance:Zf prog 249 (.agg ⟨[.int .i64 0,.int .u64 0,.int .i64 0,.int .u64 0,.int .u64 0,.slice none 0 0,.slice none 0 0,.int .i64 0,.slice none 0 0,.slice none 0 0,.slice none 0 0]⟩):=Yk
instance:Zn prog 249:=⟨by kernel_rfl⟩
instance:YB prog 249 [(0,47),(10,107)]:=ZQ (by kernel_rfl)
instance:Zw prog 249 0 0 47:=Zy
instance:Zw prog 249 1 10 107:=Zy
instance:Zj prog 249 (([(0,10),(10,1)]:List (Nat×Nat))[·]?):=Zi (by kernel_rfl)
instance:TyS prog 253:=tqS
instance:Ze prog 253 false:=Yi
instance:ZT prog 253:=tqF
instance:Zm prog 253 1:=Yj
instance:Zd prog 253 8:=Yh
instance:Zf prog 253 (.nilFunc):=Yk
instance:TyS prog 261:=tqS
instance:Ze prog 261 false:=Yi
instance:Zm prog 261 1:=Yj
instance:Zd prog 261 24:=Yh
instance:Zf prog 261 (.slice none 0 0):=Yk
instance:ZE prog 261 5:=⟨by kernel_rfl⟩
instance:TyA prog 262 2:=tqA
instance:Ze prog 262 false:=Yi
instance:Zm prog 262 2:=Yj
instance:Zd prog 262 32:=Yh
instance:Zf prog 262 (.agg ⟨[.slice none 0 0,.int .i64 0]⟩):=Yk
instance:Zn prog 262:=⟨by kernel_rfl⟩
instance:Zw prog 262 0 0 261:=Zy
instance:Zw prog 262 1 1 25:=Zy
instance:Zj prog 262 (([(0,1),(1,1)]:List (Nat×Nat))[·]?):=Zi (by kernel_rfl)
instance:TyA prog 263 2:=tqA
instance:Ze prog 263 false:=Yi
instance:Zm prog 263 2:=Yj
instance:Zd prog 263 32:=Yh
instance:Zf prog 263 (.agg ⟨[.slice none 0 0,.int .i64 0]⟩):=Yk
instance:Zn prog 263:=⟨by kernel_rfl⟩
instance:YB prog 263 [(0,261),(1,25)]:=ZQ (by kernel_rfl)
instance:Zw prog 263 0 0 261:=Zy
instance:Zw prog 263 1 1 25:=Zy
instance:Zj prog 263 (([(0,1),(1,1)]:List (Nat×Nat))[·]?):=Zi (by kernel_rfl)
instance:TyS prog 267:=tqS
instance:Ze prog 267 false:=Yi
instance:ZT prog 267:=tqF
instance:Zm prog 267 1:=Yj
instance:Zd prog 267 8:=Yh
instance:Zf prog 267 (.nilFunc):=Yk
instance:TyS prog 268:=tqS
instance:Ze prog 268 false:=Yi
instance:ZT prog 268:=tqF
instance:Zm prog 268 1:=Yj
instance:Zd prog 268 8:=Yh
instance:Zf prog 268 (.nilFunc):=Yk
instance:TyS prog 271:=tqS
instance:Ze prog 271 false:=Yi
instance:ZT prog 271:=tqF
instance:Zm prog 271 1:=Yj
instance:Zd prog 271 8:=Yh
instance:Zf prog 271 (.nilFunc):=Yk
instance:TyS prog 273:=tqS
instance:Ze prog 273 false:=Yi
instance:ZT prog 273:=tqF
instance:Zm prog 273 1:=Yj
instance:Zd prog 273 8:=Yh
instance:Zf prog 273 (.nilFunc):=Yk
instance:TyS prog 275:=tqS
instance:Ze prog 275 false:=Yi
instance:ZT prog 275:=tqF
instance:Zm prog 275 1:=Yj
instance:Zd prog 275 8:=Yh
instance:Zf prog 275 (.nilFunc):=Yk
instance:TyS prog 277:=tqS
instance:Ze prog 277 false:=Yi
instance:ZT prog 277:=tqF
instance:Zm prog 277 1:=Yj
instance:Zd prog 277 8:=Yh
instance:Zf prog 277 (.nilFunc):=Yk
instance:TyS prog 290:=tqS
instance:Ze prog 290 false:=Yi
instance:Zm prog 290 1:=Yj
instance:Zd prog 290 8:=Yh
instance:Zf prog 290 (.pointer none):=Yk
instance:Va prog 290 331:=⟨by kernel_rfl⟩
instance:TyS prog 293:=tqS
instance:Ze prog 293 false:=Yi
instance:Zm prog 293 1:=Yj
instance:Zd prog 293 24:=Yh
instance:Zf prog 293 (.slice none 0 0):=Yk
instance:ZE prog 293 3:=⟨by kernel_rfl⟩
instance:TyA prog 295 5:=tqA
instance:Ze prog 295 false:=Yi
instance:Zm prog 295 5:=Yj
instance:Zd prog 295 40:=Yh
instance:Zf prog 295 (.agg ⟨[.int .i64 0,.int .u16 0,.int .i64 0,.int .u16 0,.bool false]⟩):=Yk
instance:Zn prog 295:=⟨by kernel_rfl⟩
instance:Zw prog 295 0 0 169:=Zy
instance:Zw prog 295 1 2 169:=Zy
instance:Zw prog 295 2 4 4:=Zy
instance:Zj prog 295 (([(0,2),(2,2),(4,1)]:List (Nat×Nat))[·]?):=Zi (by kernel_rfl)
instance:TyA prog 296 5:=tqA
instance:Ze prog 296 false:=Yi
instance:Zm prog 296 5:=Yj
instance:Zd prog 296 40:=Yh
instance:Zf prog 296 (.agg ⟨[.int .i64 0,.int .u16 0,.int .i64 0,.int .u16 0,.bool false]⟩):=Yk
instance:Zn prog 296:=⟨by kernel_rfl⟩
instance:YB prog 296 [(0,169),(2,169),(4,4)]:=ZQ (by kernel_rfl)
instance:Zw prog 296 0 0 169:=Zy
instance:Zw prog 296 1 2 169:=Zy
instance:Zw prog 296 2 4 4:=Zy
instance:Zj prog 296 (([(0,2),(2,2),(4,1)]:List (Nat×Nat))[·]?):=Zi (by kernel_rfl)
instance:TyS prog 298:=tqS
instance:Ze prog 298 false:=Yi
instance:ZT prog 298:=tqF
instance:Zm prog 298 1:=Yj
instance:Zd prog 298 8:=Yh
instance:Zf prog 298 (.nilFunc):=Yk
instance:TyS prog 302:=tqS
instance:Ze prog 302 false:=Yi
instance:Zm prog 302 1:=Yj
instance:Zd prog 302 8:=Yh
instance:Zf prog 302 (.pointer none):=Yk
instance:Va prog 302 3:=⟨by kernel_rfl⟩
instance:TyS prog 305:=tqS
instance:Ze prog 305 false:=Yi
instance:ZT prog 305:=tqF
instance:Zm prog 305 1:=Yj
instance:Zd prog 305 8:=Yh
instance:Zf prog 305 (.nilFunc):=Yk
instance:TyS prog 306:=tqS
instance:Ze prog 306 false:=Yi
instance:ZT prog 306:=tqF
instance:Zm prog 306 1:=Yj
instance:Zd prog 306 8:=Yh
instance:Zf prog 306 (.nilFunc):=Yk
instance:TyS prog 308:=tqS
instance:Ze prog 308 false:=Yi
instance:ZT prog 308:=tqF
instance:Zm prog 308 1:=Yj
instance:Zd prog 308 8:=Yh
instance:Zf prog 308 (.nilFunc):=Yk
instance:TyS prog 309:=tqS
instance:Ze prog 309 false:=Yi
instance:ZT prog 309:=tqF
instance:Zm prog 309 1:=Yj
instance:Zd prog 309 8:=Yh
instance:Zf prog 309 (.nilFunc):=Yk
instance:TyS prog 319:=tqS
instance:Ze prog 319 false:=Yi
instance:Zm prog 319 1:=Yj
instance:Zd prog 319 8:=Yh
instance:Zf prog 319 (.pointer none):=Yk
instance:Va prog 319 344:=⟨by kernel_rfl⟩
instance:TyS prog 325:=tqS
instance:Ze prog 325 false:=Yi
instance:ZT prog 325:=tqF
instance:Zm prog 325 1:=Yj
instance:Zd prog 325 8:=Yh
instance:Zf prog 325 (.nilFunc):=Yk
instance:TyS prog 329:=tqS
instance:Ze prog 329 false:=Yi
instance:Zm prog 329 1:=Yj
instance:Zd prog 329 8:=Yh
instance:Zf prog 329 (.map none):=Yk
instance:WZ prog 329 3 4:=⟨by kernel_rfl⟩
instance:TyA prog 330 3:=tqA
instance:Ze prog 330 false:=Yi
instance:Zm prog 330 3:=Yj
instance:Zd prog 330 40:=Yh
instance:Zf prog 330 (.agg ⟨[.slice none 0 0,.map none,.int .i64 0]⟩):=Yk
instance:Zn prog 330:=⟨by kernel_rfl⟩
instance:Zw prog 330 0 0 161:=Zy
instance:Zw prog 330 1 1 329:=Zy
instance:Zw prog 330 2 2 3:=Zy
instance:Zj prog 330 (([(0,1),(1,1),(2,1)]:List (Nat×Nat))[·]?):=Zi (by kernel_rfl)
instance:TyA prog 331 3:=tqA
instance:Ze prog 331 false:=Yi
instance:Zm prog 331 3:=Yj
instance:Zd prog 331 40:=Yh
instance:Zf prog 331 (.agg ⟨[.slice none 0 0,.map none,.int .i64 0]⟩):=Yk
instance:Zn prog 331:=⟨by kernel_rfl⟩
instance:YB prog 331 [(0,161),(1,329),(2,3)]:=ZQ (by kernel_rfl)
instance:Zw prog 331 0 0 161:=Zy
instance:Zw prog 331 1 1 329:=Zy
instance:Zw prog 331 2 2 3:=Zy
instance:Zj prog 331 (([(0,1),(1,1),(2,1)]:List (Nat×Nat))[·]?):=Zi (by kernel_rfl)
instance:TyS prog 338:=tqS
instance:Ze prog 338 false:=Yi
instance:ZT prog 338:=tqF
instance:Zm prog 338 1:=Yj
instance:Zd prog 338 8:=Yh
instance:Zf prog 338 (.nilFunc):=Yk
instance:TyS prog 339:=tqS
instance:Ze prog 339 false:=Yi
instance:ZT prog 339:=tqF
instance:Zm prog 339 1:=Yj
instance:Zd prog 339 8:=Yh
instance:Zf prog 339 (.nilFunc):=Yk
instance:TyA prog 343 6:=tqA
instance:Ze prog 343 false:=Yi
instance:Zm prog 343 6:=Yj
instance:Zd prog 343 80:=Yh
instance:Zf prog 343 (.agg ⟨[.pointer none,.int .i64 0,.bool false,.int .i64 0,.slice none 0 0,.slice none 0 0]⟩):=Yk
instance:Zn prog 343:=⟨by kernel_rfl⟩
instance:Zw prog 343 0 0 206:=Zy
instance:Zw prog 343 1 1 3:=Zy
instance:Zw prog 343 2 2 4:=Zy
instance:Zw prog 343 3 3 88:=Zy
instance:Zj prog 343 (([(0,1),(1,1),(2,1),(3,3)]:List (Nat×Nat))[·]?):=Zi (by kernel_rfl)
instance:TyA prog 344 6:=tqA
instance:Ze prog 344 false:=Yi
instance:Zm prog 344 6:=Yj
instance:Zd prog 344 80:=Yh
instance:Zf prog 344 (.agg ⟨[.pointer none,.int .i64 0,.bool false,.int .i64 0,.slice none 0 0,.slice none 0 0]⟩):=Yk
instance:Zn prog 344:=⟨by kernel_rfl⟩
instance:YB prog 344 [(0,206),(1,3),(2,4),(3,88)]:=ZQ (by kernel_rfl)
instance:Zw prog 344 0 0 206:=Zy
instance:Zw prog 344 1 1 3:=Zy
instance:Zw prog 344 2 2 4:=Zy
instance:Zw prog 344 3 3 88:=Zy
instance:Zj prog 344 (([(0,1),(1,1),(2,1),(3,3)]:List (Nat×Nat))[·]?):=Zi (by kernel_rfl)
instance:TyS prog 348:=tqS
instance:Ze prog 348 false:=Yi
instance:ZT prog 348:=tqF
instance:Zm prog 348 1:=Yj
instance:Zd prog 348 8:=Yh
instance:Zf prog 348 (.nilFunc):=Yk
instance:TyS prog 349:=tqS
instance:Ze prog 349 false:=Yi
instance:ZT prog 349:=tqF
instance:Zm prog 349 1:=Yj
instance:Zd prog 349 8:=Yh
instance:Zf prog 349 (.nilFunc):=Yk
instance:TyS prog 351:=tqS
instance:Ze prog 351 false:=Yi
instance:ZT prog 351:=tqF
instance:Zm prog 351 1:=Yj
instance:Zd prog 351 8:=Yh
instance:Zf prog 351 (.nilFunc):=Yk
instance:TyS prog 352:=tqS
instance:Ze prog 352 false:=Yi
instance:ZT prog 352:=tqF
instance:Zm prog 352 1:=Yj
instance:Zd prog 352 8:=Yh
instance:Zf prog 352 (.nilFunc):=Yk
instance:TyS prog 356:=tqS
instance:Ze prog 356 false:=Yi
instance:Zm prog 356 1:=Yj
instance:Zd prog 356 8:=Yh
instance:Zf prog 356 (.pointer none):=Yk
instance:Va prog 356 169:=⟨by kernel_rfl⟩
instance:TyS prog 361:=tqS
instance:Ze prog 361 false:=Yi
instance:ZT prog 361:=tqF
instance:Zm prog 361 1:=Yj
instance:Zd prog 361 8:=Yh
instance:Zf prog 361 (.nilFunc):=Yk
instance:TyA prog 364 16:=tqA
instance:Ze prog 364 false:=Yi
instance:Zm prog 364 16:=Yj
instance:Zd prog 364 64:=Yh
instance:Zf prog 364 (.agg ⟨List.replicate 16 (.int .u32 0)⟩):=Yk
instance:Zn prog 364:=⟨by kernel_rfl⟩
instance:WY prog 364 16 211:=⟨by kernel_rfl⟩
instance:Zj prog 364 (λ i=>some (i*1,1)):=mkTyPlacesA (n:=16) (e:=211) (by kernel_rfl) (by kernel_rfl)
instance:TyS prog 366:=tqS
instance:Ze prog 366 false:=Yi
instance:ZT prog 366:=tqF
instance:Zm prog 366 1:=Yj
instance:Zd prog 366 8:=Yh
instance:Zf prog 366 (.nilFunc):=Yk
instance:TyS prog 376:=tqS
instance:Ze prog 376 false:=Yi
instance:ZT prog 376:=tqF
instance:Zm prog 376 1:=Yj
instance:Zd prog 376 8:=Yh
instance:Zf prog 376 (.nilFunc):=Yk
instance:TyS prog 377:=tqS
instance:Ze prog 377 false:=Yi
instance:Zm prog 377 1:=Yj
instance:Zd prog 377 8:=Yh
instance:Zf prog 377 (.pointer none):=Yk
instance:Va prog 377 5:=⟨by kernel_rfl⟩
instance:TyA prog 380 11:=tqA
instance:Ze prog 380 false:=Yi
instance:Zm prog 380 11:=Yj
instance:Zd prog 380 48:=Yh
instance:Zf prog 380 (.agg ⟨[.int .u64 0,.int .u64 0,.int .u32 0,.int .u8 0,.int .u8 0,.int .u8 0,.int .u8 0,.nilFunc,.pointer none,.int .i32 0,.int .i32 0]⟩):=Yk
instance:Zn prog 380:=⟨by kernel_rfl⟩
instance:Zw prog 380 0 0 12:=Zy
instance:Zw prog 380 1 1 12:=Zy
instance:Zw prog 380 2 2 211:=Zy
instance:Zw prog 380 3 3 374:=Zy
instance:Zw prog 380 4 4 5:=Zy
instance:Zw prog 380 5 5 5:=Zy
instance:Zw prog 380 6 6 375:=Zy
instance:Zw prog 380 7 7 376:=Zy
instance:Zw prog 380 8 8 377:=Zy
instance:Zw prog 380 9 9 378:=Zy
instance:Zw prog 380 10 10 379:=Zy
instance:Zj prog 380 (([(0,1),(1,1),(2,1),(3,1),(4,1),(5,1),(6,1),(7,1),(8,1),(9,1),(10,1)]:List (Nat×Nat))[·]?):=Zi (by kernel_rfl)
instance:Zz prog 4:=ZF
instance:Zz prog 6:=ZF
instance:Zz prog 7:=ZF
instance:Zz prog 8:=ZF
instance:Zz prog 13:=ZF
instance:Zz prog 15:=ZF
instance:Zz prog 21:=ZF
instance:Zz prog 23:=ZF
instance:Zz prog 24:=ZF
instance:Zz prog 27:=ZF
instance:Zz prog 28:=ZF
instance:Zz prog 29:=ZF
instance:Zz prog 30:=ZF
instance:Zz prog 31:=ZF
instance:Zz prog 32:=ZF
instance:Zz prog 33:=ZF
instance:Zz prog 34:=ZF
instance:Zz prog 35:=ZF
instance:Zz prog 36:=ZF
instance:Zz prog 39:=ZF
instance:Zz prog 40:=ZF
instance:Zz prog 41:=ZF
instance:Zz prog 42:=ZF
instance:Zz prog 44:=ZF
instance:Zz prog 45:=ZF
instance:Zz prog 49:=ZF
instance:Zz prog 50:=ZF
instance:Zz prog 51:=ZF
instance:Zz prog 57:=ZF
instance:Zz prog 58:=ZF
instance:Zz prog 59:=ZF
instance:Zz prog 60:=ZF
instance:Zz prog 61:=ZF
instance:Zz prog 62:=ZF
instance:Zz prog 63:=ZF
instance:Zz prog 64:=ZF
instance:Zz prog 65:=ZF
instance:Zz prog 66:=ZF
instance:Zz prog 73:=ZF
instance:Zz prog 75:=ZF
instance:Zz prog 76:=ZF
instance:Zz prog 77:=ZF
instance:Zz prog 78:=ZF
instance:Zz prog 79:=ZF
instance:Zz prog 80:=ZF
instance:Zz prog 81:=ZF
instance:Zz prog 82:=ZF
instance:Zz prog 83:=ZF
instance:Zz prog 84:=ZF
instance:Zz prog 85:=ZF
instance:Zz prog 86:=ZF
instance:Zz prog 87:=ZF
instance:Zz prog 88:=ZF
instance:Zz prog 89:=ZF
instance:Zz prog 90:=ZF
instance:Zz prog 91:=ZF
instance:Zz prog 92:=ZF
instance:Zz prog 93:=ZF
instance:Zz prog 94:=ZF
instance:Zz prog 95:=ZF
instance:Zz prog 96:=ZF
instance:Zz prog 97:=ZF
instance:Zz prog 98:=ZF
instance:Zz prog 100:=ZF
instance:Zz prog 101:=ZF
instance:Zz prog 102:=ZF
instance:Zz prog 108:=ZF
instance:Zz prog 109:=ZF
instance:Zz prog 110:=ZF
instance:Zz prog 111:=ZF
instance:Zz prog 112:=ZF
instance:Zz prog 113:=ZF
instance:Zz prog 118:=ZF
instance:Zz prog 119:=ZF
instance:Zz prog 120:=ZF
instance:Zz prog 121:=ZF
instance:Zz prog 122:=ZF
instance:Zz prog 123:=ZF
instance:Zz prog 124:=ZF
instance:Zz prog 125:=ZF
instance:Zz prog 126:=ZF
instance:Zz prog 127:=ZF
instance:Zz prog 128:=ZF
instance:Zz prog 129:=ZF
instance:Zz prog 130:=ZF
instance:Zz prog 131:=ZF
instance:Zz prog 132:=ZF
instance:Zz prog 133:=ZF
instance:Zz prog 136:=ZF
instance:Zz prog 137:=ZF
instance:Zz prog 138:=ZF
instance:Zz prog 139:=ZF
instance:Zz prog 140:=ZF
instance:Zz prog 141:=ZF
instance:Zz prog 142:=ZF
instance:Zz prog 143:=ZF
instance:Zz prog 144:=ZF
instance:Zz prog 145:=ZF
instance:Zz prog 146:=ZF
instance:Zz prog 147:=ZF
instance:Zz prog 148:=ZF
instance:Zz prog 149:=ZF
instance:Zz prog 150:=ZF
instance:Zz prog 151:=ZF
instance:Zz prog 152:=ZF
instance:Zz prog 153:=ZF
instance:Zz prog 154:=ZF
instance:Zz prog 155:=ZF
instance:Zz prog 156:=ZF
instance:Zz prog 157:=ZF
instance:Zz prog 158:=ZF
instance:Zz prog 159:=ZF
instance:Zz prog 160:=ZF
instance:Zz prog 161:=ZF
instance:Zz prog 162:=ZF
instance:Zz prog 163:=ZF
instance:Zz prog 164:=ZF
instance:Zz prog 165:=ZF
instance:Zz prog 166:=ZF
instance:Zz prog 167:=ZF
instance:Zz prog 168:=ZF
instance:Zz prog 169:=ZF
instance:Zz prog 170:=ZF
instance:Zz prog 171:=ZF
instance:Zz prog 172:=ZF
instance:Zz prog 173:=ZF
instance:Zz prog 174:=ZF
instance:Zz prog 177:=ZF
instance:Zz prog 178:=ZF
instance:Zz prog 181:=ZF
instance:Zz prog 182:=ZF
instance:Zz prog 183:=ZF
instance:Zz prog 184:=ZF
instance:Zz prog 185:=ZF
instance:Zz prog 186:=ZF
instance:Zz prog 187:=ZF
instance:Zz prog 188:=ZF
instance:Zz prog 189:=ZF
instance:Zz prog 190:=ZF
instance:Zz prog 191:=ZF
instance:Zz prog 192:=ZF
instance:Zz prog 193:=ZF
instance:Zz prog 194:=ZF
instance:Zz prog 195:=ZF
instance:Zz prog 196:=ZF
instance:Zz prog 197:=ZF
instance:Zz prog 198:=ZF
instance:Zz prog 199:=ZF
instance:Zz prog 200:=ZF
instance:Zz prog 201:=ZF
instance:Zz prog 205:=ZF
instance:Zz prog 206:=ZF
instance:Zz prog 207:=ZF
instance:Zz prog 208:=ZF
instance:Zz prog 209:=ZF
instance:Zz prog 210:=ZF
instance:Zz prog 211:=ZF
instance:Zz prog 212:=ZF
instance:Zz prog 213:=ZF
instance:Zz prog 214:=ZF
instance:Zz prog 215:=ZF
instance:Zz prog 216:=ZF
instance:Zz prog 217:=ZF
instance:Zz prog 218:=ZF
instance:Zz prog 219:=ZF
instance:Zz prog 220:=ZF
instance:Zz prog 221:=ZF
instance:Zz prog 222:=ZF
instance:Zz prog 223:=ZF
instance:Zz prog 224:=ZF
instance:Zz prog 225:=ZF
instance:Zz prog 226:=ZF
instance:Zz prog 227:=ZF
instance:Zz prog 228:=ZF
instance:Zz prog 229:=ZF
instance:Zz prog 230:=ZF
instance:Zz prog 231:=ZF
instance:Zz prog 232:=ZF
instance:Zz prog 233:=ZF
instance:Zz prog 234:=ZF
instance:Zz prog 235:=ZF
instance:Zz prog 236:=ZF
instance:Zz prog 237:=ZF
instance:Zz prog 238:=ZF
instance:Zz prog 239:=ZF
instance:Zz prog 240:=ZF
instance:Zz prog 241:=ZF
instance:Zz prog 242:=ZF
instance:Zz prog 243:=ZF
instance:Zz prog 244:=ZF
instance:Zz prog 245:=ZF
instance:Zz prog 248:=ZF
instance:Zz prog 249:=ZF
instance:Zz prog 250:=ZF
instance:Zz prog 251:=ZF
instance:Zz prog 252:=ZF
instance:Zz prog 253:=ZF
instance:Zz prog 254:=ZF
instance:Zz prog 255:=ZF
instance:Zz prog 256:=ZF
instance:Zz prog 257:=ZF
instance:Zz prog 258:=ZF
instance:Zz prog 259:=ZF
instance:Zz prog 260:=ZF
instance:Zz prog 261:=ZF
instance:Zz prog 262:=ZF
instance:Zz prog 263:=ZF
instance:Zz prog 264:=ZF
instance:Zz prog 265:=ZF
instance:Zz prog 266:=ZF
instance:Zz prog 267:=ZF
instance:Zz prog 268:=ZF
instance:Zz prog 269:=ZF
instance:Zz prog 270:=ZF
instance:Zz prog 271:=ZF
instance:Zz prog 272:=ZF
instance:Zz prog 275:=ZF
instance:Zz prog 276:=ZF
instance:Zz prog 277:=ZF
instance:Zz prog 278:=ZF
instance:Zz prog 279:=ZF
instance:Zz prog 280:=ZF
instance:Zz prog 281:=ZF
instance:Zz prog 282:=ZF
instance:Zz prog 283:=ZF
instance:Zz prog 284:=ZF
instance:Zz prog 285:=ZF
instance:Zz prog 286:=ZF
instance:Zz prog 287:=ZF
instance:Zz prog 288:=ZF
instance:Zz prog 289:=ZF
instance:Zz prog 290:=ZF
instance:Zz prog 291:=ZF
instance:Zz prog 292:=ZF
instance:Zz prog 293:=ZF
instance:Zz prog 294:=ZF
instance:Zz prog 295:=ZF
instance:Zz prog 296:=ZF
instance:Zz prog 297:=ZF
instance:Zz prog 298:=ZF
instance:Zz prog 299:=ZF
instance:Mixed prog:=⟨by kernel_rfl⟩
end Go.Proofs.E
namespace Go.Proofs.E
open Go Tryz
set_option maxRecDepth 4000
set_option maxHeartbeats 1000000
attribute [local irreducible] Yl TL TC TE Spec YW R1 Hp.le EnvLe TS TR YS Zv TP QP
def be:Nat->Nat->List UInt8
 | 0,_=>[]
 | n+1,x=>UInt8.ofNat (x / 256 ^ n)::be n x
def ZM (l:List UInt8):Nat:=l.foldl (λ a b=>a*256+b.toNat) 0
theorem Zh (n x:Nat):(be n x).length=n:=by induction n<;>simp[be, *]
theorem foldl_be (l:List UInt8)(a:Nat):l.foldl (λ a b=>a*256+b.toNat) a=a*256 ^ l.length+ZM l:=by
 unfold ZM
 induction l generalizing a with
 | nil=>simp
 | cons b l ih=>
  simp only[List.foldl_cons,aC]
  rw[ih (a*256+b.toNat),ih (0*256+b.toNat)]
  rw[Nat.pow_succ]
  simp only[Nat.zero_mul,Nat.zero_add,Nat.add_mul,Nat.mul_assoc,Nat.mul_comm 256,Nat.add_assoc]
theorem unbe_cons (b:UInt8)(l:List UInt8):ZM (b::l)=b.toNat*256 ^ l.length+ZM l:=by
 have:=foldl_be l (0*256+b.toNat)
 simp only[Nat.zero_mul,Nat.zero_add] at this
 rw[<-this];simp[ZM]
theorem unbe_snoc (b:UInt8)(l:List UInt8):ZM (l++[b])=ZM l*256+b.toNat:=by simp[ZM]
theorem XT (l:List UInt8):ZM l<256 ^ l.length:=by
 induction l with
 | nil=>simp[ZM]
 | cons b l ih=>
  rw[unbe_cons,aC,Nat.pow_succ]
  have hb:b.toNat<256:=b.toNat_lt
  have:(b.toNat+1)*256 ^ l.length<=256*256 ^ l.length:=Nat.mul_le_mul_right _ (by omega)
  rw[Nat.add_mul] at this
  omega
theorem Wy (n x:Nat):ZM (be n x)=x % 256 ^ n:=by
 induction n with
 | zero=>simp[be,ZM,Nat.mod_one]
 | succ n ih=>
  rw[be,unbe_cons,Zh,ih,UInt8.toNat_ofNat']
  have h1:=Nat.mod_mul (x:=x) (a:=256 ^ n) (b:=256)
  have e:256 ^ (n+1)=256 ^ n*256:=by rw[Nat.pow_succ]
  have e2:(2:Nat) ^ 8=256:=by decide
  rw[e,h1,e2,Nat.mul_comm]
  omega
theorem be_mod (n x:Nat):be n (x % 256 ^ n)=be n x:=by
 have key:∀m,m<=n->be m (x % 256 ^ n)=be m x:=by
  intro m
  induction m with
  | zero=>intro _;rfl
  | succ m ih=>
   intro hm
   rw[be,be,ih (by omega)]
   congr 1
   apply UInt8.toNat_inj.1
   simp only[UInt8.toNat_ofNat']
   obtain⟨k,rfl⟩:∃k,n=m+1+k:=⟨n-(m+1),by omega⟩
   have e:256 ^ (m+1+k)=256 ^ m*(256*256 ^ k):=by rw[Nat.pow_add,Nat.pow_succ,Nat.mul_assoc]
   rw[e,Nat.mod_mul_right_div_self,Nat.mod_mul_right_mod]
 exact key n (aR _)
theorem be_unbe (l:List UInt8):be l.length (ZM l)=l:=by
 induction l with
 | nil=>rfl
 | cons b l ih=>
  rw[aC,be,unbe_cons]
  have hlt:=XT l
  have hp:0<256 ^ l.length:=Nat.pow_pos (by decide)
  have h1:(b.toNat*256 ^ l.length+ZM l) / 256 ^ l.length=b.toNat:=by
   rw[Nat.mul_comm,Nat.mul_add_div hp,Nat.div_eq_of_lt hlt];simp
  have h2:be l.length (b.toNat*256 ^ l.length+ZM l)=l:=by
   rw[<-be_mod,Nat.mul_comm,Nat.mul_add_mod,Nat.mod_eq_of_lt hlt,ih]
  rw[h1,h2];simp
def z8 (n:Nat):List UInt8:=List.replicate n 0
theorem stc_mid (A B vs ws:List Value)(h:ws.length=vs.length):stc (A++(vs++B)) A.length ws=A++(ws++B):=by
 unfold stc
 rw[List.take_left,h,<-List.drop_drop,List.drop_left,List.drop_left,aA]
theorem u8_wrap (y:Nat):Value.int .u8 (IntKind.u8.wrap (y:Int))=Zk (UInt8.ofNat y):=by
 simp only[Zk,UInt8.toNat_ofNat',IntKind.wrap,IntKind.bits,IntKind.signed,Bool.false_and,aB,if_false]
 congr 1
theorem made_z8 (m:Nat):madeCells (Value.int .u8 0).cells m=⟨(z8 m).map Zk⟩:=by
 have hz:(Value.int IntKind.u8 0).cells=⟨[Zk 0]⟩:=rfl
 rw[hz]
 apply Array.ext'
 apply List.ext_getElem?
 intro i
 by_cases hi:i<m
 ·simp[madeCells,z8,hi,Nat.mod_one]
 ·rw[List.getElem?_eq_none (by simp[madeCells];omega),List.getElem?_eq_none (by simp[z8];omega)]
theorem own_chunk (b n c:Nat){xs:List Value}{T:TypeId}:[(b,Obj.cells ⟨xs⟩ T (0,0))]=ZG (.slice (some ⟨b,0,none⟩) n c) xs [] T:=by simp[ZG]
theorem stand_spec (ρ:Hp)(a:Option Addr)(n c:Nat)(l:List UInt8)(h:SIn ρ Zk a n l)(x p:Nat)(hx:x<18446744073709551616)(hp:p<=8)(hp1:1<=p)(hn:n<=1000000) :
  Spec prog 265 [.slice a n c,.int .u64 x,.int .i64 p] ρ [] (λ v ρ' L'=>ρ'=ρ/\∃sp,OwnS v (n+p) ((l++be p x).map Zk) sp 1/\L'=[ZG v ((l++be p x).map Zk) sp 5]):=by
 have hl:=h.len
 refine Za func265 rfl rfl rfl λ u R=>?_
 simp only[Zc,kA]
 repeat' (first|(refine WK rfl rfl (by omega) (by omega) (by omega) (by omega) rfl (λ hbn=>?_))|refine zW ?_|intro _)
 simp only[show ((n:Int)+(p:Int)).toNat=n+p by omega,Nat.mul_one,made_z8]
 have hinit:stc ((z8 (n+p)).map Zk) 0 ((l.map Zk).take (n+p))=(l++(z8 (p-0)++be 0 x)).map Zk:=by
  rw[aT (by simp;omega)]
  unfold stc
  have e:z8 (n+p)=z8 n++z8 p:=by simp[z8,List.replicate_append_replicate]
  rw[e]
  simp[be,hl,z8]
 refine tl_copy (ys:=l.map Zk) rfl rfl (SIn.srcV h) (by simpa using hl) (ZH l) (by simp[z8]) rfl ?_
 simp only[hinit]
 repeat' (first|refine zW ?_|intro _)
 refine lpG (Nat×Nat) [6,7,17] (λ z=>[(18,.int .i64 z.1),(1,.int .u64 (z.2:Nat))]) (λ z=>ρ) (λ z=>[[(hbn,.cells ⟨(l++(z8 (p-z.1)++be z.1 x)).map Zk⟩ 5 (0,0))]]) (λ z=>z.1<=p/\z.2=x / 256 ^ z.1) (λ z=>p-z.1) (0,x) ⟨aZ _,by simp⟩ ?_
 rintro⟨k,y⟩ hI
 try simp only[kB] at hI ⊢
 try dsimp only at hI ⊢
 obtain⟨hk,hy⟩:=hI
 by_cases hlt:k<p
 ·have hlen:((l++(z8 (p-k)++be k x)).map Zk).length=n+p:=by simp[z8,Zh,hl];omega
  have hst:stc ((l++(z8 (p-k)++be k x)).map Zk) (0+((n:Int)+(p:Int)-1-k).toNat*1) [Zk (UInt8.ofNat y)]=(l++(z8 (p-(k+1))++be (k+1) x)).map Zk:=by
   have e1:z8 (p-k)=z8 (p-(k+1))++[0]:=by
    rw[show p-k=(p-(k+1))+1 by omega];simp[z8,List.replicate_succ']
   have e2:0+((n:Int)+(p:Int)-1-k).toNat*1=((l++z8 (p-(k+1))).map Zk).length:=by simp[z8,hl];omega
   have e3:(l++(z8 (p-k)++be k x)).map Zk=(l++z8 (p-(k+1))).map Zk++([Zk 0]++(be k x).map Zk):=by rw[e1];simp
   rw[e2,e3,stc_mid _ _ [Zk 0] [Zk (UInt8.ofNat y)] rfl,be,<-hy]
   simp
  have hyy:y / 256=x / 256 ^ (k+1):=by rw[hy,Nat.div_div_eq_div_mul,Nat.pow_succ]
  repeat' (first|refine zW ?_|intro _)
  have e8:(y:Int) / 2 ^ 8=((x / 256 ^ (k+1):Nat):Int):=by
   rw[<-hyy]
   have:(2:Int) ^ 8=256:=by decide
   omega
  rw[e8,u8_wrap,Int.natCast_add,hst]
  refine rnG (k+1,x / 256 ^ (k+1)) (⟨hlt,rfl⟩)
 ·have hk2:k=p:=by omega
  subst hk2
  simp only[Nat.sub_self,z8,List.replicate_zero,List.nil_append]
  repeat' (first|refine zW ?_|intro _)
  rw[own_chunk hbn (n+k) (n+k)]
  exact qE ⟨rfl,[],⟨.inr ⟨hbn,n+k,rfl,by simp[Zh,hl],by simp[Zh,hl],aR _⟩⟩,rfl⟩
theorem put16_spec (ρ:Hp)(a:Option Addr)(n c:Nat)(l:List UInt8)(h:SIn ρ Zk a n l)(x:Nat)(hx:x<65536)(hn:n<=1000000) :
  Spec prog 235 [.slice a n c,.int .u16 x] ρ [] (λ v ρ' L'=>ρ'=ρ/\∃sp,OwnS v (n+2) ((l++be 2 x).map Zk) sp 1/\L'=[ZG v ((l++be 2 x).map Zk) sp 5]):=by
 have hw:IntKind.u64.wrap (x:Int)=x:=WL (by simp only[lo,hi];omega)
 have hs:=stand_spec ρ a n c l h x 2 (by omega) (by omega) (by omega) hn
 refine Za func235 rfl rfl rfl λ u R=>?_
 simp only[Zc,kA]
 repeat' (first|(refine iCv ?_;refine tl_y (y_conv rfl) rfl rfl ?_;rw[hw])|(refine Zb (.func 265) ?_;refine qC rfl rfl (hs) ?_;rintro v ρ' L' hle ⟨rfl,sp,hown,rfl⟩<;>(try simp only[kA]))|refine zW ?_|intro _)
 exact qE ⟨rfl,sp,hown,rfl⟩
theorem put64_spec (ρ:Hp)(a:Option Addr)(n c:Nat)(l:List UInt8)(h:SIn ρ Zk a n l)(x:Nat)(hx:x<18446744073709551616)(hn:n<=1000000) :
  Spec prog 231 [.slice a n c,.int .u64 x] ρ [] (λ v ρ' L'=>ρ'=ρ/\∃sp,OwnS v (n+8) ((l++be 8 x).map Zk) sp 1/\L'=[ZG v ((l++be 8 x).map Zk) sp 5]):=by
 have hs:=stand_spec ρ a n c l h x 8 (by omega) (by omega) (by omega) hn
 refine Za func231 rfl rfl rfl λ u R=>?_
 simp only[Zc,kA]
 repeat' (first|(refine Zb (.func 265) ?_;refine qC rfl rfl (hs) ?_;rintro v ρ' L' hle ⟨rfl,sp,hown,rfl⟩<;>(try simp only[kA]))|refine zW ?_|intro _)
 exact qE ⟨rfl,sp,hown,rfl⟩
theorem OwnS.zero (b sz:Nat):OwnS (.slice (some ⟨b,0,none⟩) 0 0) 0 [] [] sz:=⟨.inr ⟨b,0,rfl,by simp,by simp,aR _⟩⟩
abbrev rdC (br:Nat)(a:Option Addr)(n c:Nat)(st:Int):List (Nat×Obj):=[(br,.cells ⟨[.slice a n c,.int .i64 st]⟩ 263 (0,0))]
theorem bclone_spec (ρ:Hp)(a:Option Addr)(n c:Nat)(l:List UInt8)(h:SIn ρ Zk a n l)(hn:n<=1000000) :
  Spec prog 186 [.slice a n c] ρ [] (λ v ρ' L'=>ρ.le ρ'/\∃a' c',v=.slice a' n c'/\n<=c'/\SIn ρ' Zk a' n l/\L'=[]):=by
 refine Za func186 rfl rfl rfl λ u R=>?_
 simp only[Zc,kA]
 cases a with
 | none=>
  have hn0:n=0:=by
   rcases h.out with h0|⟨b,off,C,T,fr,h1,_⟩
   ·exact h0
   ·cases h1
  subst hn0
  repeat' (first|refine zW ?_|intro _)
  exact qE ⟨Hp.le_refl _,none,0,rfl,aR _,⟨h.len,.inl rfl⟩,rfl⟩
 | some a=>
  repeat' (first|refine zW ?_|intro _)
  refine YA (n:=0) (xs:=[]) (sp:=[]) (ys:=l.map Zk) (sz:=1) rfl rfl (OwnS.zero _ 1) (hR:=ZJ) (SIn.srcV h) (by simpa using h.len) (ZH l) (by decide) rfl (by omega) (by omega) rfl (λ v' sp' hown'=>?_)
  simp only[Nat.zero_add,List.nil_append] at hown' ⊢
  repeat' (first|refine zW ?_|intro _)
  refine ZB _ (h:=Rem.here) (λ ρ' hle hfz=>?_)
  obtain⟨a',c',rfl,hc,hs⟩:=hown'.sIn hfz
  exact qE ⟨hle,a',c',rfl,hc,hs,rfl⟩
theorem read_spec (ρ:Hp)(a:Option Addr)(n c:Nat)(l:List UInt8)(h:SIn ρ Zk a n l)(hn:n<=1000000) :
  Spec prog 123 [.slice a n c] ρ [] (λ v ρ' L'=>ρ.le ρ'/\∃br a' c',v=.pointer (some ⟨br,0,none⟩)/\n<=c'/\SIn ρ' Zk a' n l/\L'=[rdC br a' n c' 0]):=by
 have hc:=bclone_spec ρ a n c l h hn
 refine Za func123 rfl rfl rfl λ u R=>?_
 simp only[Zc,kA]
 repeat' (first|(refine Zb (.func 186) ?_;refine qC rfl rfl (hc) ?_;rintro v ρ' L' hle ⟨hle,a',c',rfl,hc',hs,rfl⟩<;>(try simp only[kA]))|refine zW ?_|intro _)
 exact qE ⟨hle,_,a',c',rfl,hc',hs,rfl⟩
theorem XE (ρ:Hp)(br:Nat)(a:Option Addr)(n c:Nat)(st:Int) :
  Spec prog 201 [.pointer (some ⟨br,0,none⟩)] ρ [rdC br a n c st] (λ v ρ' L'=>v=.int .i64 st/\ρ'=ρ/\L'=[rdC br a n c st]):=by
 refine Za func201 rfl rfl rfl λ u R=>?_
 simp only[Zc,kA]
 repeat' (first|refine zW ?_|intro _)
 exact qE ⟨rfl,rfl,rfl⟩
theorem Vg (ρ:Hp)(br:Nat)(a:Option Addr)(n c:Nat)(st:Int) :
  Spec prog 133 [.pointer (some ⟨br,0,none⟩)] ρ [rdC br a n c st] (λ v ρ' L'=>v=.int .i64 n/\ρ'=ρ/\L'=[rdC br a n c st]):=by
 refine Za func133 rfl rfl rfl λ u R=>?_
 simp only[Zc,kA]
 repeat' (first|refine zW ?_|intro _)
 exact qE ⟨rfl,rfl,rfl⟩
theorem gives_stuck (ρ:Hp)(br:Nat)(a:Option Addr)(n c:Nat)(st:Int)(hst:st≠0)(k:Int)(f:Value) :
  Spec prog 238 [.pointer (some ⟨br,0,none⟩),.int .i64 k,f] ρ [rdC br a n c st] (λ v ρ' L'=>v=.tuple ⟨[]⟩/\ρ'=ρ/\L'=[rdC br a n c st]):=by
 refine Za func238 rfl rfl rfl λ u R=>?_
 simp only[Zc,kA]
 repeat' (first|(refine Zb (.func 201) ?_;refine qR rfl rfl (XE _ br a n c st) ?_;try simp only[kA])|refine zW ?_|intro _)
 exact qE ⟨rfl,rfl,rfl⟩
theorem gives_short (ρ:Hp)(br:Nat)(a:Option Addr)(n c:Nat)(k:Int)(hk:(n:Int)<k)(f:Value) :
  Spec prog 238 [.pointer (some ⟨br,0,none⟩),.int .i64 k,f] ρ [rdC br a n c 0] (λ v ρ' L'=>v=.tuple ⟨[]⟩/\ρ'=ρ/\L'=[rdC br a n c 7]):=by
 refine Za func238 rfl rfl rfl λ u R=>?_
 simp only[Zc,kA]
 repeat' (first|(refine Zb (.func 201) ?_;refine qR rfl rfl (XE _ br a n c 0) ?_;try simp only[kA])|refine zW ?_|intro _)
 exact qE ⟨rfl,rfl,rfl⟩
theorem gives_ok (ρ:Hp)(br:Nat)(a:Option Addr)(n c:Nat)(l:List UInt8)(h:SIn ρ Zk a n l)(hc:n<=c)(k:Nat)(hk:k<=n)(g:Nat)(cs:List Value)(X X':SH)[Zz prog g]
  (hS:SIn ρ Zk a k (l.take k)->Spec prog g ([.slice a k c]++cs) ρ X (λ v ρ' L'=>v=.tuple ⟨[]⟩/\ρ'=ρ/\L'=X')) :
  Spec prog 238 [.pointer (some ⟨br,0,none⟩),.int .i64 k,.func (.func g) ⟨[]⟩ ⟨cs⟩] ρ (rdC br a n c 0::X)
   (λ v ρ' L'=>v=.tuple ⟨[]⟩/\ρ'=ρ/\∃a' c',SIn ρ Zk a' (n-k) (l.drop k)/\n-k<=c'/\L'=rdC br a' (n-k) c' 0::X'):=by
 replace hS:=hS (h.take hk)
 have hl:=h.len
 have hsub:=h.sub (lo':=k) (hi':=n) (cap:=c) hk (aR _) hc
 rw[aT (by simp;omega)] at hsub
 refine Za func238 rfl rfl rfl λ u R=>?_
 simp only[Zc,kA] at hS ⊢
 repeat' (first|(refine Zb (.func 201) ?_;refine qR rfl rfl (XE _ br a n c 0) ?_;try simp only[kA])|(refine Zb (.tmp 9) ?_;refine qR rfl rfl (hS) ?_;try simp only[kA])|refine zW ?_|intro _)
 exact qE ⟨rfl,rfl,_,c-k,hsub,by omega,rfl⟩
theorem take_succ_unbe (l:List UInt8)(k:Nat)(h:k<l.length):ZM (l.take (k+1))=ZM (l.take k)*256+l[k].toNat:=by
 rw[aG h,unbe_snoc]
theorem unbe_take_lt (l:List UInt8)(k:Nat)(h:k<l.length)(h8:l.length<=8):ZM (l.take k)<72057594037927936:=by
 have h1:=XT (l.take k)
 have h2:(l.take k).length<=7:=by simp;omega
 have h3:256 ^ (l.take k).length<=256 ^ 7:=Nat.pow_le_pow_right (by decide) h2
 have h4:256 ^ 7=72057594037927936:=by decide
 omega
theorem number1_spec (ρ:Hp)(bx:Nat)(a:Option Addr)(n c:Nat)(l:List UInt8)(h:SIn ρ Zk a n l)(hn:n<=8) :
  Spec prog 239 [.slice a n c,.pointer (some ⟨bx,0,none⟩)] ρ [[(bx,.cells ⟨[.int .u64 0]⟩ 35 (0,0))]]
   (λ v ρ' L'=>v=.tuple ⟨[]⟩/\ρ'=ρ/\L'=[[(bx,.cells ⟨[.int .u64 (ZM l:Nat)]⟩ 35 (0,0))]]):=by
 have hl:=h.len
 refine Za func239 rfl rfl rfl λ u R=>?_
 simp only[Zc,kA]
 repeat' (first|refine zW ?_|intro _)
 refine lpG (Nat×Nat) [0,1,5] (λ y=>[(6,.int .i64 y.1)]) (λ y=>ρ) (λ y=>[[(bx,.cells ⟨[.int .u64 (y.2:Nat)]⟩ 35 (0,0))]]) (λ y=>y.1<=n/\y.2=ZM (l.take y.1)) (λ y=>n-y.1) (0,0) ⟨aZ _,rfl⟩ ?_
 rintro⟨k,z⟩ hI
 try simp only[kB] at hI ⊢
 try dsimp only at hI ⊢
 obtain⟨hk,hz⟩:=hI
 by_cases hlt:k<n
 ·obtain⟨b,off,C,T,fr,rfl,hb,hc⟩:=h.get (show k<l.length by omega)
  have hzl:=unbe_take_lt l k (by omega) (by omega)
  rw[<-hz] at hzl
  have hs:=take_succ_unbe l k (by omega)
  have hbt:l[k].toNat<256:=l[k].toNat_lt
  generalize l[k]=b8 at *
  simp only[Zk] at hc
  repeat' (first|refine zW ?_|intro _)
  refine Yt [2,3,4,5,6] (.e 0 [1,7] (.e 8 [] .o)) ([]) ?_
  repeat' (refine iT ?_;first|refine rA ?_|(refine rE ?_<;>((first|(refine i_qq ?_;refine qQ ?_)|refine qEf ?_)<;>(try simp only[kA])<;>refine zN ?_)))
  have e:256*(z:Int)+(b8.toNat:Int)=((z*256+b8.toNat:Nat):Int):=by omega
  rw[e]
  repeat' (first|refine zW ?_|intro _)
  refine rnG (k+1,z*256+b8.toNat) (⟨hlt,by dsimp only;rw[hs,hz]⟩)
 ·have hk2:k=n:=by omega
  subst hk2
  rw[aT (by omega)] at hz
  subst hz
  repeat' (first|refine zW ?_|intro _)
  exact qE ⟨rfl,rfl,rfl⟩
def Yc (k:Nat)(l:List UInt8)(st:Int):Nat×List UInt8×Int:=if st≠0 then (0,l,st) else if l.length<k then (0,l,7) else (ZM (l.take k),l.drop k,0)
theorem Wm (k:Nat)(l:List UInt8)(st:Int):(Yc k l st).1<256 ^ k:=by
 unfold Yc
 have h0:0<256 ^ k:=Nat.pow_pos (by decide)
 split
 ·exact h0
 ·split
  ·exact h0
  ·have:=XT (l.take k)
   have e:(l.take k).length=k:=by simp;omega
   rwa [e] at this
theorem number_spec (ρ:Hp)(br:Nat)(a:Option Addr)(n c:Nat)(l:List UInt8)(h:SIn ρ Zk a n l)(hc:n<=c)(st:Int)(k:Nat)(hk:k<=8) :
  Spec prog 187 [.pointer (some ⟨br,0,none⟩),.int .i64 k] ρ [rdC br a n c st]
   (λ v ρ' L'=>v=.int .u64 ((Yc k l st).1:Nat)/\ρ'=ρ/\∃a' n' c',SIn ρ Zk a' n' (Yc k l st).2.1/\n'<=c'/\L'=[rdC br a' n' c' (Yc k l st).2.2]):=by
 have hl:=h.len
 by_cases hst:st=0
 ·subst hst
  by_cases hs:n<k
  ·have e:Yc k l 0=(0,l,7):=by simp[Yc,hl,hs]
   rw[e]
   refine Za func187 rfl rfl rfl λ u R=>?_
   simp only[Zc,kA]
   repeat' (first|(refine Zb (.func 238) ?_;refine qR rfl rfl (gives_short _ br a n c k (by omega) _) ?_;try simp only[kA])|refine zW ?_|intro _)
   exact qE ⟨rfl,rfl,a,n,c,h,hc,rfl⟩
  ·have e:Yc k l 0=(ZM (l.take k),l.drop k,0):=by simp[Yc,hl,hs]
   rw[e]
   refine Za func187 rfl rfl rfl λ u R=>?_
   simp only[Zc,kA]
   repeat' (first|refine zW ?_|intro _)
   rename_i bx
   have hg:=gives_ok ρ br a n c l h hc k (by omega) 239 [.pointer (some ⟨bx,0,none⟩)] [[(bx,.cells ⟨[.int .u64 0]⟩ 35 (0,0))]] [[(bx,.cells ⟨[.int .u64 (ZM (l.take k):Nat)]⟩ 35 (0,0))]] (λ hs=>number1_spec ρ bx a k c (l.take k) hs hk)
   repeat' (first|(refine Zb (.func 238) ?_;refine qC rfl rfl (hg) ?_;rintro v ρ' L' hle ⟨rfl,rfl,a',c',hs',hc',rfl⟩<;>(try simp only[kA]))|refine zW ?_|intro _)
   exact qE ⟨rfl,rfl,a',n-k,c',hs',hc',rfl⟩
 ·have e:Yc k l st=(0,l,st):=by simp[Yc,hst]
  rw[e]
  refine Za func187 rfl rfl rfl λ u R=>?_
  simp only[Zc,kA]
  repeat' (first|(refine Zb (.func 238) ?_;refine qR rfl rfl (gives_stuck _ br a n c st hst k _) ?_;try simp only[kA])|refine zW ?_|intro _)
  exact qE ⟨rfl,rfl,a,n,c,h,hc,rfl⟩
theorem u8_spec (ρ:Hp)(br:Nat)(a:Option Addr)(n c:Nat)(l:List UInt8)(h:SIn ρ Zk a n l)(hc:n<=c)(st:Int) :
  Spec prog 124 [.pointer (some ⟨br,0,none⟩)] ρ [rdC br a n c st]
   (λ v ρ' L'=>v=.int .u8 ((Yc 1 l st).1:Nat)/\ρ'=ρ/\∃a' n' c',SIn ρ Zk a' n' (Yc 1 l st).2.1/\n'<=c'/\L'=[rdC br a' n' c' (Yc 1 l st).2.2]):=by
 have hb:=Wm 1 l st
 have hn:=number_spec ρ br a n c l h hc st 1 (by omega)
 generalize Yc 1 l st=r at *
 refine Za func124 rfl rfl rfl λ u R=>?_
 simp only[Zc,kA]
 repeat' (first|(refine Zb (.func 187) ?_;refine qC rfl rfl (hn) ?_;rintro v ρ' L' hle ⟨rfl,rfl,a',n',c',hs',hc',rfl⟩<;>(try simp only[kA]))|refine zW ?_|intro _)
 exact qE ⟨rfl,rfl,a',n',c',hs',hc',rfl⟩
theorem u16_spec (ρ:Hp)(br:Nat)(a:Option Addr)(n c:Nat)(l:List UInt8)(h:SIn ρ Zk a n l)(hc:n<=c)(st:Int) :
  Spec prog 196 [.pointer (some ⟨br,0,none⟩)] ρ [rdC br a n c st]
   (λ v ρ' L'=>v=.int .u16 ((Yc 2 l st).1:Nat)/\ρ'=ρ/\∃a' n' c',SIn ρ Zk a' n' (Yc 2 l st).2.1/\n'<=c'/\L'=[rdC br a' n' c' (Yc 2 l st).2.2]):=by
 have hb:=Wm 2 l st
 have hn:=number_spec ρ br a n c l h hc st 2 (by omega)
 generalize Yc 2 l st=r at *
 refine Za func196 rfl rfl rfl λ u R=>?_
 simp only[Zc,kA]
 repeat' (first|(refine Zb (.func 187) ?_;refine qC rfl rfl (hn) ?_;rintro v ρ' L' hle ⟨rfl,rfl,a',n',c',hs',hc',rfl⟩<;>(try simp only[kA]))|refine zW ?_|intro _)
 exact qE ⟨rfl,rfl,a',n',c',hs',hc',rfl⟩
theorem u64_spec (ρ:Hp)(br:Nat)(a:Option Addr)(n c:Nat)(l:List UInt8)(h:SIn ρ Zk a n l)(hc:n<=c)(st:Int) :
  Spec prog 125 [.pointer (some ⟨br,0,none⟩)] ρ [rdC br a n c st]
   (λ v ρ' L'=>v=.int .u64 ((Yc 8 l st).1:Nat)/\ρ'=ρ/\∃a' n' c',SIn ρ Zk a' n' (Yc 8 l st).2.1/\n'<=c'/\L'=[rdC br a' n' c' (Yc 8 l st).2.2]):=by
 have hn:=number_spec ρ br a n c l h hc st 8 (by omega)
 refine Za func125 rfl rfl rfl λ u R=>?_
 simp only[Zc,kA]
 repeat' (first|(refine Zb (.func 187) ?_;refine qC rfl rfl (hn) ?_;rintro v ρ' L' hle ⟨rfl,rfl,a',n',c',hs',hc',rfl⟩<;>(try simp only[kA]))|refine zW ?_|intro _)
 exact qE ⟨rfl,rfl,a',n',c',hs',hc',rfl⟩
def VA (k:Nat)(l:List UInt8)(st:Int):List UInt8×List UInt8×Int:=if st≠0 then ([],l,st) else if l.length<k then ([],l,7) else (l.take k,l.drop k,0)
theorem raw1_spec (ρ:Hp)(bx:Nat)(a:Option Addr)(n c:Nat)(l:List UInt8)(h:SIn ρ Zk a n l)(hn:n<=1000000) :
  Spec prog 267 [.slice a n c,.pointer (some ⟨bx,0,none⟩)] ρ [[(bx,.cells ⟨[.slice none 0 0]⟩ 107 (0,0))]]
   (λ v ρ' L'=>v=.tuple ⟨[]⟩/\ρ.le ρ'/\∃a' c',SIn ρ' Zk a' n l/\n<=c'/\L'=[[(bx,.cells ⟨[.slice a' n c']⟩ 107 (0,0))]]):=by
 refine Za func267 rfl rfl rfl λ u R=>?_
 simp only[Zc,kA]
 repeat' (first|refine zW ?_|intro _)
 refine YA (n:=0) (xs:=[]) (sp:=[]) (ys:=l.map Zk) (sz:=1) rfl rfl (OwnS.nil 1) (hR:=rem_nil') (SIn.srcV h) (by simpa using h.len) (ZH l) (by decide) rfl (by omega) (by omega) rfl (λ v' sp' hown'=>?_)
 simp only[Nat.zero_add,List.nil_append] at hown' ⊢
 refine Zt _ (h:=Rem.here) (λ ρ' hle hfz=>?_)
 obtain⟨a',c',rfl,hc,hs⟩:=hown'.sIn hfz
 repeat' (first|refine zW ?_|intro _)
 exact qE ⟨rfl,hle,a',c',hs,hc,rfl⟩
theorem gives_ok2 (ρ:Hp)(br:Nat)(a:Option Addr)(n c:Nat)(l:List UInt8)(h:SIn ρ Zk a n l)(hc:n<=c)(k:Nat)(hk:k<=n)(g:Nat)(cs:List Value)(X:SH)(PX:Hp->SH->Prop)[Zz prog g]
  (hS:SIn ρ Zk a k (l.take k)->Spec prog g ([.slice a k c]++cs) ρ X (λ v ρ' L'=>v=.tuple ⟨[]⟩/\ρ.le ρ'/\PX ρ' L')) :
  Spec prog 238 [.pointer (some ⟨br,0,none⟩),.int .i64 k,.func (.func g) ⟨[]⟩ ⟨cs⟩] ρ (rdC br a n c 0::X)
   (λ v ρ' L'=>v=.tuple ⟨[]⟩/\ρ.le ρ'/\∃a' c' X',SIn ρ' Zk a' (n-k) (l.drop k)/\n-k<=c'/\L'=rdC br a' (n-k) c' 0::X'/\PX ρ' X'):=by
 replace hS:=hS (h.take hk)
 have hl:=h.len
 have hsub:=h.sub (lo':=k) (hi':=n) (cap:=c) hk (aR _) hc
 rw[aT (by simp;omega)] at hsub
 refine Za func238 rfl rfl rfl λ u R=>?_
 simp only[Zc,kA] at hS ⊢
 repeat' (first|(refine Zb (.func 201) ?_;refine qR rfl rfl (XE _ br a n c 0) ?_;try simp only[kA])|(refine Zb (.tmp 9) ?_;refine qC rfl rfl (hS) ?_;rintro v ρ' L' hle ⟨rfl,hle1,hP⟩<;>(try simp only[kA]))|refine zW ?_|intro _)
 exact qE ⟨rfl,hle1,_,c-k,_,hsub.mono hle1,by omega,rfl,hP⟩
theorem raw_spec (ρ:Hp)(br:Nat)(a:Option Addr)(n c:Nat)(l:List UInt8)(h:SIn ρ Zk a n l)(hc:n<=c)(st:Int)(k:Nat)(hk:k<=1000000) :
  Spec prog 240 [.pointer (some ⟨br,0,none⟩),.int .i64 k] ρ [rdC br a n c st]
   (λ v ρ' L'=>ρ.le ρ'/\∃va vn vc a' n' c',v=.slice va vn vc/\vn<=vc/\SIn ρ' Zk va vn (VA k l st).1/\SIn ρ' Zk a' n' (VA k l st).2.1/\n'<=c'/\L'=[rdC br a' n' c' (VA k l st).2.2]):=by
 have hl:=h.len
 by_cases hst:st=0
 ·subst hst
  by_cases hs:n<k
  ·have e:VA k l 0=([],l,7):=by simp[VA,hl,hs]
   rw[e]
   refine Za func240 rfl rfl rfl λ u R=>?_
   simp only[Zc,kA]
   repeat' (first|(refine Zb (.func 238) ?_;refine qR rfl rfl (gives_short _ br a n c k (by omega) _) ?_;try simp only[kA])|refine zW ?_|intro _)
   exact qE ⟨Hp.le_refl _,none,0,0,a,n,c,rfl,aR _,SIn.nil,h,hc,rfl⟩
  ·have e:VA k l 0=(l.take k,l.drop k,0):=by simp[VA,hl,hs]
   rw[e]
   refine Za func240 rfl rfl rfl λ u R=>?_
   simp only[Zc,kA]
   repeat' (first|refine zW ?_|intro _)
   rename_i bx
   have hg:=gives_ok2 ρ br a n c l h hc k (by omega) 267 [.pointer (some ⟨bx,0,none⟩)] [[(bx,.cells ⟨[.slice none 0 0]⟩ 107 (0,0))]] _ (λ hs=>raw1_spec ρ bx a k c (l.take k) hs hk)
   repeat' (first|(refine Zb (.func 238) ?_;refine qC rfl rfl (hg) ?_;rintro v ρ' L' hle ⟨rfl,hle1,a',c',X',hs',hc',rfl,va,vc,hv,hvc,rfl⟩<;>(try simp only[kA]))|refine zW ?_|intro _)
   exact qE ⟨hle1,va,k,vc,a',n-k,c',rfl,hvc,hv,hs',hc',rfl⟩
 ·have e:VA k l st=([],l,st):=by simp[VA,hst]
  rw[e]
  refine Za func240 rfl rfl rfl λ u R=>?_
  simp only[Zc,kA]
  repeat' (first|(refine Zb (.func 238) ?_;refine qR rfl rfl (gives_stuck _ br a n c st hst k _) ?_;try simp only[kA])|refine zW ?_|intro _)
  exact qE ⟨Hp.le_refl _,none,0,0,a,n,c,rfl,aR _,SIn.nil,h,hc,rfl⟩
structure Row where
 t:Int
 id:Nat
 val:Int
 note:List UInt8
deriving DecidableEq
structure Kid where
 t:Int
 id:Nat
 page:Int
deriving DecidableEq
abbrev Vp (t:Int)(id:Nat):List Value:=[.int .i64 t,.int .u16 id]
abbrev Yz (r:Row):List Value:=[.int .i64 r.t,.int .u16 r.id,.int .i64 r.val,strV r.note]
abbrev XD (k:Kid):List Value:=[.int .i64 k.t,.int .u16 k.id,.int .i64 k.page]
abbrev tkC (bt br:Nat)(all:Int)(bad:Bool)(vk vr vs:Value):List (Nat×Obj):=[(bt,.cells ⟨[.pointer (some ⟨br,0,none⟩),.int .i64 all,.bool bad,vk,vr,vs]⟩ 344 (0,0))]
theorem WF (ρ:Hp)(n:Int):Spec prog 272 [.int .i64 n] ρ [] (λ v ρ' L'=>v=.bool (decide (0<=n/\n<3))/\ρ'=ρ/\L'=[]):=by
 refine Za func272 rfl rfl rfl λ u R=>?_
 simp only[Zc,kA]
 by_cases h0:0<=n
 ·by_cases h1:n<3
  ·rw[decide_eq_true ⟨h0,h1⟩]
   repeat' (first|refine zW ?_|intro _)
   exact qE ⟨rfl,rfl,rfl⟩
  ·rw[decide_eq_false (λ h=>h1 h.2)]
   repeat' (first|refine zW ?_|intro _)
   exact qE ⟨rfl,rfl,rfl⟩
 ·rw[decide_eq_false (λ h=>h0 h.1)]
  repeat' (first|refine zW ?_|intro _)
  exact qE ⟨rfl,rfl,rfl⟩
theorem ok_spec (ρ:Hp)(bt br:Nat)(all:Int)(bad:Bool)(vk vr vs:Value)(a:Option Addr)(n c:Nat)(st:Int) :
  Spec prog 271 [.pointer (some ⟨bt,0,none⟩)] ρ [tkC bt br all bad vk vr vs,rdC br a n c st]
   (λ v ρ' L'=>v=.bool (!bad && decide (st=0))/\ρ'=ρ/\L'=[tkC bt br all bad vk vr vs,rdC br a n c st]):=by
 refine Za func271 rfl rfl rfl λ u R=>?_
 simp only[Zc,kA]
 cases bad
 ·by_cases h:st=0
  ·subst h
   repeat' (first|(refine Zb (.func 201) ?_;refine qR rfl rfl (XE _ br a n c 0) ?_;try simp only[kA])|refine zW ?_|intro _)
   exact qE ⟨rfl,rfl,rfl⟩
  ·have hd:decide (st=0)=false:=decide_eq_false h
   rw[hd]
   repeat' (first|(refine Zb (.func 201) ?_;refine qR rfl rfl (XE _ br a n c st) ?_;try simp only[kA])|refine zW ?_|intro _)
   exact qE ⟨rfl,rfl,rfl⟩
 ·repeat' (first|refine zW ?_|intro _)
  exact qE ⟨rfl,rfl,rfl⟩
def XK (bad:Bool)(st:Int)(is:Bool):Bool:=bad || (decide (st=0) && !is)
theorem Xv (ρ:Hp)(bt br:Nat)(all:Int)(bad:Bool)(vk vr vs:Value)(a:Option Addr)(n c:Nat)(st:Int)(is:Bool) :
  Spec prog 268 [.pointer (some ⟨bt,0,none⟩),.bool is] ρ [tkC bt br all bad vk vr vs,rdC br a n c st]
   (λ v ρ' L'=>v=.tuple ⟨[]⟩/\ρ'=ρ/\L'=[tkC bt br all (XK bad st is) vk vr vs,rdC br a n c st]):=by
 refine Za func268 rfl rfl rfl λ u R=>?_
 simp only[Zc,kA,XK]
 cases bad
 ·by_cases h:st=0
  ·subst h
   cases is
   all_goals (repeat' (first|(refine Zb (.func 201) ?_;refine qR rfl rfl (XE _ br a n c 0) ?_;try simp only[kA])|refine zW ?_|intro _))
   all_goals exact qE ⟨rfl,rfl,rfl⟩
  ·have hd:decide (st=0)=false:=decide_eq_false h
   rw[hd]
   repeat' (first|(refine Zb (.func 201) ?_;refine qR rfl rfl (XE _ br a n c st) ?_;try simp only[kA])|refine zW ?_|intro _)
   exact qE ⟨rfl,rfl,rfl⟩
 ·repeat' (first|refine zW ?_|intro _)
  exact qE ⟨rfl,rfl,rfl⟩
end Go.Proofs.E
