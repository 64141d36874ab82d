/- Laws of LogDoes. Part 22 of 30. -/
import Derived.Test.YthjhjmnmnbcioaaGreatD21
set_option linter.unusedVariables false
set_option linter.unusedSimpArgs false
set_option linter.unusedSectionVars false
namespace Go.Proofs.E
open Go Tryz
set_option maxRecDepth 4000
set_option maxHeartbeats 1000000
attribute [local irreducible] Yl TL TC TE Spec YL R1 Hp.le EnvLe TS TR YS Zt TP QP
theorem read_4b1 (ρ:Hp)(a:Option Addr)(n c:Nat)(l:List UInt8)(h:SIn ρ Zk a n l)(hc:n<=c)(hb:n<=1000000)(k:Nat)(l1:List UInt8)(hl1:Zy 1 (l,0,false)=(k,l1,0,false))(hk4:k=4)(hno:okS (Zy 8 (l1,0,false)).2=false):Spec prog 135 [.slice a n c] ρ [] (λ z ρ' L'=>ρ.le ρ'/\Xb ρ' l z L'):=by
 have hI0:RdI ρ ⟨a,n,c⟩ l:=⟨h,hc,hb⟩
 have hln:=h.len
 have hdb:Yb l=false:=bad2 hl1 hno
 refine Zb func135 rfl rfl rfl λ u R=>?_
 simp only[Zc,kA]
 repeat' (first|(refine Za (.func 202) ?_;refine qC rfl rfl (Ze _ _ ⟨a,n,c⟩ l hI0 1 256 rfl (by decide) hl1) ?_;rintro v ρ' L' hle ⟨rfl,rfl,hb1,s1,h1,rfl⟩<;>(try simp only[kA]))|(refine Za (.func 202) ?_;refine qC rfl rfl (ZO _ _ s1 l1 h1 8 (by decide) hno) ?_;rintro v ρ' L' hle ⟨rfl,rfl,rfl⟩<;>(try simp only[kA]))|(refine Za (.func 202) ?_;refine qC rfl rfl (Zo _ _ s1 1) ?_;rintro v ρ' L' hle ⟨rfl,rfl,rfl⟩<;>(try simp only[kA]))|(refine Za (.func 202) ?_;refine qC rfl rfl (Zo _ _ s1 4) ?_;rintro v ρ' L' hle ⟨rfl,rfl,rfl⟩<;>(try simp only[kA]))|(refine Za (.func 202) ?_;refine qC rfl rfl (Zo _ _ s1 8) ?_;rintro v ρ' L' hle ⟨rfl,rfl,rfl⟩<;>(try simp only[kA]))|refine zV ?_|intro _)
 refine lpG Nat [2,3,4,5,42,56] (λ z=>[(57,.int .u64 z)]) (λ z=>ρ') (λ z=>[]) (λ z=>z=0) (λ z=>0-z) 0 rfl ?_
 rintro j hI
 try simp only[kB] at hI ⊢
 try dsimp only at hI ⊢
 subst hI
 repeat' (first|refine zV ?_|intro _)
 exact qE (L':=[]) ⟨Hp.le_refl _,ZR hdb⟩
theorem read_4b2 (ρ:Hp)(a:Option Addr)(n c:Nat)(l:List UInt8)(h:SIn ρ Zk a n l)(hc:n<=c)(hb:n<=1000000)(k:Nat)(l1:List UInt8)(hl1:Zy 1 (l,0,false)=(k,l1,0,false))(lsn:Nat)(l2:List UInt8)(hl2:Zy 8 (l1,0,false)=(lsn,l2,0,false))(hk4:k=4)(hno:okS (Zy 4 (l2,0,false)).2=false):Spec prog 135 [.slice a n c] ρ [] (λ z ρ' L'=>ρ.le ρ'/\Xb ρ' l z L'):=by
 have hI0:RdI ρ ⟨a,n,c⟩ l:=⟨h,hc,hb⟩
 have hln:=h.len
 have hdb:Yb l=false:=bad3 hl1 hl2 hno
 refine Zb func135 rfl rfl rfl λ u R=>?_
 simp only[Zc,kA]
 repeat' (first|(refine Za (.func 202) ?_;refine qC rfl rfl (Ze _ _ ⟨a,n,c⟩ l hI0 1 256 rfl (by decide) hl1) ?_;rintro v ρ' L' hle ⟨rfl,rfl,hb1,s1,h1,rfl⟩<;>(try simp only[kA]))|(refine Za (.func 202) ?_;refine qC rfl rfl (Ze _ _ s1 l1 h1 8 18446744073709551616 rfl (by decide) hl2) ?_;rintro v ρ' L' hle ⟨rfl,rfl,hb2,s2,h2,rfl⟩<;>(try simp only[kA]))|(refine Za (.func 202) ?_;refine qC rfl rfl (ZO _ _ s2 l2 h2 4 (by decide) hno) ?_;rintro v ρ' L' hle ⟨rfl,rfl,rfl⟩<;>(try simp only[kA]))|(refine Za (.func 202) ?_;refine qC rfl rfl (Zo _ _ s2 1) ?_;rintro v ρ' L' hle ⟨rfl,rfl,rfl⟩<;>(try simp only[kA]))|(refine Za (.func 202) ?_;refine qC rfl rfl (Zo _ _ s2 4) ?_;rintro v ρ' L' hle ⟨rfl,rfl,rfl⟩<;>(try simp only[kA]))|(refine Za (.func 202) ?_;refine qC rfl rfl (Zo _ _ s2 8) ?_;rintro v ρ' L' hle ⟨rfl,rfl,rfl⟩<;>(try simp only[kA]))|refine zV ?_|intro _)
 refine lpG Nat [2,3,4,5,42,56] (λ z=>[(57,.int .u64 z)]) (λ z=>ρ') (λ z=>[]) (λ z=>z=0) (λ z=>0-z) 0 rfl ?_
 rintro j hI
 try simp only[kB] at hI ⊢
 try dsimp only at hI ⊢
 subst hI
 repeat' (first|refine zV ?_|intro _)
 exact qE (L':=[]) ⟨Hp.le_refl _,ZR hdb⟩
theorem read_4b3 (ρ:Hp)(a:Option Addr)(n c:Nat)(l:List UInt8)(h:SIn ρ Zk a n l)(hc:n<=c)(hb:n<=1000000)(k:Nat)(l1:List UInt8)(hl1:Zy 1 (l,0,false)=(k,l1,0,false))(lsn:Nat)(l2:List UInt8)(hl2:Zy 8 (l1,0,false)=(lsn,l2,0,false))(txn:Nat)(l3:List UInt8)(hl3:Zy 4 (l2,0,false)=(txn,l3,0,false))(hk4:k=4)(hno:okS (Zy 8 (l3,0,false)).2=false):Spec prog 135 [.slice a n c] ρ [] (λ z ρ' L'=>ρ.le ρ'/\Xb ρ' l z L'):=by
 have hI0:RdI ρ ⟨a,n,c⟩ l:=⟨h,hc,hb⟩
 have hln:=h.len
 have hdb:Yb l=false:=bad4 hl1 hl2 hl3 hno
 refine Zb func135 rfl rfl rfl λ u R=>?_
 simp only[Zc,kA]
 repeat' (first|(refine Za (.func 202) ?_;refine qC rfl rfl (Ze _ _ ⟨a,n,c⟩ l hI0 1 256 rfl (by decide) hl1) ?_;rintro v ρ' L' hle ⟨rfl,rfl,hb1,s1,h1,rfl⟩<;>(try simp only[kA]))|(refine Za (.func 202) ?_;refine qC rfl rfl (Ze _ _ s1 l1 h1 8 18446744073709551616 rfl (by decide) hl2) ?_;rintro v ρ' L' hle ⟨rfl,rfl,hb2,s2,h2,rfl⟩<;>(try simp only[kA]))|(refine Za (.func 202) ?_;refine qC rfl rfl (Ze _ _ s2 l2 h2 4 4294967296 rfl (by decide) hl3) ?_;rintro v ρ' L' hle ⟨rfl,rfl,hb3,s3,h3,rfl⟩<;>(try simp only[kA]))|(refine Za (.func 202) ?_;refine qC rfl rfl (ZO _ _ s3 l3 h3 8 (by decide) hno) ?_;rintro v ρ' L' hle ⟨rfl,rfl,rfl⟩<;>(try simp only[kA]))|(refine Za (.func 202) ?_;refine qC rfl rfl (Zo _ _ s3 1) ?_;rintro v ρ' L' hle ⟨rfl,rfl,rfl⟩<;>(try simp only[kA]))|(refine Za (.func 202) ?_;refine qC rfl rfl (Zo _ _ s3 4) ?_;rintro v ρ' L' hle ⟨rfl,rfl,rfl⟩<;>(try simp only[kA]))|(refine Za (.func 202) ?_;refine qC rfl rfl (Zo _ _ s3 8) ?_;rintro v ρ' L' hle ⟨rfl,rfl,rfl⟩<;>(try simp only[kA]))|refine zV ?_|intro _)
 refine lpG Nat [2,3,4,5,42,56] (λ z=>[(57,.int .u64 z)]) (λ z=>ρ') (λ z=>[]) (λ z=>z=0) (λ z=>0-z) 0 rfl ?_
 rintro j hI
 try simp only[kB] at hI ⊢
 try dsimp only at hI ⊢
 subst hI
 repeat' (first|refine zV ?_|intro _)
 exact qE (L':=[]) ⟨Hp.le_refl _,ZR hdb⟩
theorem read_4b4 (ρ:Hp)(a:Option Addr)(n c:Nat)(l:List UInt8)(h:SIn ρ Zk a n l)(hc:n<=c)(hb:n<=1000000)(k:Nat)(l1:List UInt8)(hl1:Zy 1 (l,0,false)=(k,l1,0,false))(lsn:Nat)(l2:List UInt8)(hl2:Zy 8 (l1,0,false)=(lsn,l2,0,false))(txn:Nat)(l3:List UInt8)(hl3:Zy 4 (l2,0,false)=(txn,l3,0,false))(prev:Nat)(l4:List UInt8)(hl4:Zy 8 (l3,0,false)=(prev,l4,0,false))(hk4:k=4)(hno:okS (Zy 8 (l4,0,false)).2=false):Spec prog 135 [.slice a n c] ρ [] (λ z ρ' L'=>ρ.le ρ'/\Xb ρ' l z L'):=by
 have hI0:RdI ρ ⟨a,n,c⟩ l:=⟨h,hc,hb⟩
 have hln:=h.len
 have hdb:Yb l=false:=XC (by
  rw[XN hl1 hl2 hl3 hl4]
  unfold Wp
  rw[if_neg (show ¬((k:Nat):Int)=2 by omega),if_neg (show ¬((k:Nat):Int)=3 by omega),if_pos (show ((k:Nat):Int)=4 by omega)]
  unfold WS neD
  exact st_doD hno)
 refine Zb func135 rfl rfl rfl λ u R=>?_
 simp only[Zc,kA]
 repeat' (first|(refine Za (.func 202) ?_;refine qC rfl rfl (Ze _ _ ⟨a,n,c⟩ l hI0 1 256 rfl (by decide) hl1) ?_;rintro v ρ' L' hle ⟨rfl,rfl,hb1,s1,h1,rfl⟩<;>(try simp only[kA]))|(refine Za (.func 202) ?_;refine qC rfl rfl (Ze _ _ s1 l1 h1 8 18446744073709551616 rfl (by decide) hl2) ?_;rintro v ρ' L' hle ⟨rfl,rfl,hb2,s2,h2,rfl⟩<;>(try simp only[kA]))|(refine Za (.func 202) ?_;refine qC rfl rfl (Ze _ _ s2 l2 h2 4 4294967296 rfl (by decide) hl3) ?_;rintro v ρ' L' hle ⟨rfl,rfl,hb3,s3,h3,rfl⟩<;>(try simp only[kA]))|(refine Za (.func 202) ?_;refine qC rfl rfl (Ze _ _ s3 l3 h3 8 18446744073709551616 rfl (by decide) hl4) ?_;rintro v ρ' L' hle ⟨rfl,rfl,hb4,s4,h4,rfl⟩<;>(try simp only[kA]))|(refine Za (.func 202) ?_;refine qC rfl rfl (ZO _ _ s4 l4 h4 8 (by decide) hno) ?_;rintro v ρ' L' hle ⟨rfl,rfl,rfl⟩<;>(try simp only[kA]))|(refine Za (.func 202) ?_;refine qC rfl rfl (Zo _ _ s4 1) ?_;rintro v ρ' L' hle ⟨rfl,rfl,rfl⟩<;>(try simp only[kA]))|(refine Za (.func 202) ?_;refine qC rfl rfl (Zo _ _ s4 4) ?_;rintro v ρ' L' hle ⟨rfl,rfl,rfl⟩<;>(try simp only[kA]))|(refine Za (.func 202) ?_;refine qC rfl rfl (Zo _ _ s4 8) ?_;rintro v ρ' L' hle ⟨rfl,rfl,rfl⟩<;>(try simp only[kA]))|refine zV ?_|intro _)
 refine lpG Nat [2,3,4,5,42,56] (λ z=>[(57,.int .u64 z)]) (λ z=>ρ') (λ z=>[]) (λ z=>z=0) (λ z=>0-z) 0 rfl ?_
 rintro j hI
 try simp only[kB] at hI ⊢
 try dsimp only at hI ⊢
 subst hI
 repeat' (first|refine zV ?_|intro _)
 exact qE (L':=[]) ⟨Hp.le_refl _,ZR hdb⟩
theorem read_4b5 (ρ:Hp)(a:Option Addr)(n c:Nat)(l:List UInt8)(h:SIn ρ Zk a n l)(hc:n<=c)(hb:n<=1000000)(k:Nat)(l1:List UInt8)(hl1:Zy 1 (l,0,false)=(k,l1,0,false))(lsn:Nat)(l2:List UInt8)(hl2:Zy 8 (l1,0,false)=(lsn,l2,0,false))(txn:Nat)(l3:List UInt8)(hl3:Zy 4 (l2,0,false)=(txn,l3,0,false))(prev:Nat)(l4:List UInt8)(hl4:Zy 8 (l3,0,false)=(prev,l4,0,false))(next:Nat)(l5:List UInt8)(hl5:Zy 8 (l4,0,false)=(next,l5,0,false))(hk4:k=4)(hno:okS (Zy 1 (l5,0,false)).2=false):Spec prog 135 [.slice a n c] ρ [] (λ z ρ' L'=>ρ.le ρ'/\Xb ρ' l z L'):=by
 have hI0:RdI ρ ⟨a,n,c⟩ l:=⟨h,hc,hb⟩
 have hln:=h.len
 have hdb:Yb l=false:=XC (by
  rw[XN hl1 hl2 hl3 hl4]
  unfold Wp
  rw[if_neg (show ¬((k:Nat):Int)=2 by omega),if_neg (show ¬((k:Nat):Int)=3 by omega),if_pos (show ((k:Nat):Int)=4 by omega)]
  unfold WS neD
  rw[hl5]
  exact st_many hno)
 refine Zb func135 rfl rfl rfl λ u R=>?_
 simp only[Zc,kA]
 repeat' (first|(refine Za (.func 202) ?_;refine qC rfl rfl (Ze _ _ ⟨a,n,c⟩ l hI0 1 256 rfl (by decide) hl1) ?_;rintro v ρ' L' hle ⟨rfl,rfl,hb1,s1,h1,rfl⟩<;>(try simp only[kA]))|(refine Za (.func 202) ?_;refine qC rfl rfl (Ze _ _ s1 l1 h1 8 18446744073709551616 rfl (by decide) hl2) ?_;rintro v ρ' L' hle ⟨rfl,rfl,hb2,s2,h2,rfl⟩<;>(try simp only[kA]))|(refine Za (.func 202) ?_;refine qC rfl rfl (Ze _ _ s2 l2 h2 4 4294967296 rfl (by decide) hl3) ?_;rintro v ρ' L' hle ⟨rfl,rfl,hb3,s3,h3,rfl⟩<;>(try simp only[kA]))|(refine Za (.func 202) ?_;refine qC rfl rfl (Ze _ _ s3 l3 h3 8 18446744073709551616 rfl (by decide) hl4) ?_;rintro v ρ' L' hle ⟨rfl,rfl,hb4,s4,h4,rfl⟩<;>(try simp only[kA]))|(refine Za (.func 202) ?_;refine qC rfl rfl (Ze _ _ s4 l4 h4 8 18446744073709551616 rfl (by decide) hl5) ?_;rintro v ρ' L' hle ⟨rfl,rfl,hb5,s5,h5,rfl⟩<;>(try simp only[kA]))|(refine Za (.func 202) ?_;refine qC rfl rfl (ZO _ _ s5 l5 h5 1 (by decide) hno) ?_;rintro v ρ' L' hle ⟨rfl,rfl,rfl⟩<;>(try simp only[kA]))|(refine Za (.func 202) ?_;refine qC rfl rfl (Zo _ _ s5 1) ?_;rintro v ρ' L' hle ⟨rfl,rfl,rfl⟩<;>(try simp only[kA]))|(refine Za (.func 202) ?_;refine qC rfl rfl (Zo _ _ s5 4) ?_;rintro v ρ' L' hle ⟨rfl,rfl,rfl⟩<;>(try simp only[kA]))|(refine Za (.func 202) ?_;refine qC rfl rfl (Zo _ _ s5 8) ?_;rintro v ρ' L' hle ⟨rfl,rfl,rfl⟩<;>(try simp only[kA]))|refine zV ?_|intro _)
 refine lpG Nat [2,3,4,5,42,56] (λ z=>[(57,.int .u64 z)]) (λ z=>ρ') (λ z=>[]) (λ z=>z=0) (λ z=>0-z) 0 rfl ?_
 rintro j hI
 try simp only[kB] at hI ⊢
 try dsimp only at hI ⊢
 subst hI
 repeat' (first|refine zV ?_|intro _)
 exact qE (L':=[]) ⟨Hp.le_refl _,ZR hdb⟩
end Go.Proofs.E
