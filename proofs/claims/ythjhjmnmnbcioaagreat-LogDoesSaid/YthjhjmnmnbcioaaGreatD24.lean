/- Laws of LogDoes. Part 24 of 30. -/
import Derived.Test.YthjhjmnmnbcioaaGreatD23
set_option linter.unusedVariables false
set_option linter.unusedSimpArgs false
set_option linter.unusedSectionVars false
namespace Go.Proofs.E
open Go Tryz
set_option maxRecDepth 4000
set_option maxHeartbeats 1000000
attribute [local irreducible] Yl TL TC TE Spec YL R1 Hp.le EnvLe TS TR YS Zt TP QP
theorem read_9b1 (ρ:Hp)(a:Option Addr)(n c:Nat)(l:List UInt8)(h:SIn ρ Zk a n l)(hc:n<=c)(hb:n<=1000000)(k:Nat)(l1:List UInt8)(hl1:Zy 1 (l,0,false)=(k,l1,0,false))(hk9:k=9)(hno:okS (Zy 8 (l1,0,false)).2=false):Spec prog 135 [.slice a n c] ρ [] (λ z ρ' L'=>ρ.le ρ'/\Xb ρ' l z L'):=by
 have hI0:RdI ρ ⟨a,n,c⟩ l:=⟨h,hc,hb⟩
 have hln:=h.len
 have hdb:Yb l=false:=bad2 hl1 hno
 refine Zb func135 rfl rfl rfl λ u R=>?_
 simp only[Zc,kA]
 repeat' (first|(refine Za (.func 202) ?_;refine qC rfl rfl (Ze _ _ ⟨a,n,c⟩ l hI0 1 256 rfl (by decide) hl1) ?_;rintro v ρ' L' hle ⟨rfl,rfl,hb1,s1,h1,rfl⟩<;>(try simp only[kA]))|(refine Za (.func 202) ?_;refine qC rfl rfl (ZO _ _ s1 l1 h1 8 (by decide) hno) ?_;rintro v ρ' L' hle ⟨rfl,rfl,rfl⟩<;>(try simp only[kA]))|(refine Za (.func 202) ?_;refine qC rfl rfl (Zo _ _ s1 1) ?_;rintro v ρ' L' hle ⟨rfl,rfl,rfl⟩<;>(try simp only[kA]))|(refine Za (.func 202) ?_;refine qC rfl rfl (Zo _ _ s1 4) ?_;rintro v ρ' L' hle ⟨rfl,rfl,rfl⟩<;>(try simp only[kA]))|(refine Za (.func 202) ?_;refine qC rfl rfl (Zo _ _ s1 8) ?_;rintro v ρ' L' hle ⟨rfl,rfl,rfl⟩<;>(try simp only[kA]))|refine zV ?_|intro _)
 refine lpG Nat [2,3,4,5,78] (λ z=>[(79,.int .u64 z)]) (λ z=>ρ') (λ z=>[]) (λ z=>z=0) (λ z=>0-z) 0 rfl ?_
 rintro j hI
 try simp only[kB] at hI ⊢
 try dsimp only at hI ⊢
 subst hI
 repeat' (first|(refine Za (.func 202) ?_;refine qC rfl rfl (Zo _ _ s1 1) ?_;rintro v ρ' L' hle ⟨rfl,rfl,rfl⟩<;>(try simp only[kA]))|refine zV ?_|intro _)
 refine lpG Nat [2,3,4,5,110] (λ z=>[(111,.int .u64 z)]) (λ z=>ρ') (λ z=>[]) (λ z=>z=0) (λ z=>0-z) 0 rfl ?_
 rintro j hI
 try simp only[kB] at hI ⊢
 try dsimp only at hI ⊢
 subst hI
 repeat' (first|refine zV ?_|intro _)
 exact qE (L':=[]) ⟨Hp.le_refl _,ZR hdb⟩
theorem read_9b2 (ρ:Hp)(a:Option Addr)(n c:Nat)(l:List UInt8)(h:SIn ρ Zk a n l)(hc:n<=c)(hb:n<=1000000)(k:Nat)(l1:List UInt8)(hl1:Zy 1 (l,0,false)=(k,l1,0,false))(lsn:Nat)(l2:List UInt8)(hl2:Zy 8 (l1,0,false)=(lsn,l2,0,false))(hk9:k=9)(hno:okS (Zy 4 (l2,0,false)).2=false):Spec prog 135 [.slice a n c] ρ [] (λ z ρ' L'=>ρ.le ρ'/\Xb ρ' l z L'):=by
 have hI0:RdI ρ ⟨a,n,c⟩ l:=⟨h,hc,hb⟩
 have hln:=h.len
 have hdb:Yb l=false:=bad3 hl1 hl2 hno
 refine Zb func135 rfl rfl rfl λ u R=>?_
 simp only[Zc,kA]
 repeat' (first|(refine Za (.func 202) ?_;refine qC rfl rfl (Ze _ _ ⟨a,n,c⟩ l hI0 1 256 rfl (by decide) hl1) ?_;rintro v ρ' L' hle ⟨rfl,rfl,hb1,s1,h1,rfl⟩<;>(try simp only[kA]))|(refine Za (.func 202) ?_;refine qC rfl rfl (Ze _ _ s1 l1 h1 8 18446744073709551616 rfl (by decide) hl2) ?_;rintro v ρ' L' hle ⟨rfl,rfl,hb2,s2,h2,rfl⟩<;>(try simp only[kA]))|(refine Za (.func 202) ?_;refine qC rfl rfl (ZO _ _ s2 l2 h2 4 (by decide) hno) ?_;rintro v ρ' L' hle ⟨rfl,rfl,rfl⟩<;>(try simp only[kA]))|(refine Za (.func 202) ?_;refine qC rfl rfl (Zo _ _ s2 1) ?_;rintro v ρ' L' hle ⟨rfl,rfl,rfl⟩<;>(try simp only[kA]))|(refine Za (.func 202) ?_;refine qC rfl rfl (Zo _ _ s2 4) ?_;rintro v ρ' L' hle ⟨rfl,rfl,rfl⟩<;>(try simp only[kA]))|(refine Za (.func 202) ?_;refine qC rfl rfl (Zo _ _ s2 8) ?_;rintro v ρ' L' hle ⟨rfl,rfl,rfl⟩<;>(try simp only[kA]))|refine zV ?_|intro _)
 refine lpG Nat [2,3,4,5,78] (λ z=>[(79,.int .u64 z)]) (λ z=>ρ') (λ z=>[]) (λ z=>z=0) (λ z=>0-z) 0 rfl ?_
 rintro j hI
 try simp only[kB] at hI ⊢
 try dsimp only at hI ⊢
 subst hI
 repeat' (first|(refine Za (.func 202) ?_;refine qC rfl rfl (Zo _ _ s2 1) ?_;rintro v ρ' L' hle ⟨rfl,rfl,rfl⟩<;>(try simp only[kA]))|refine zV ?_|intro _)
 refine lpG Nat [2,3,4,5,110] (λ z=>[(111,.int .u64 z)]) (λ z=>ρ') (λ z=>[]) (λ z=>z=0) (λ z=>0-z) 0 rfl ?_
 rintro j hI
 try simp only[kB] at hI ⊢
 try dsimp only at hI ⊢
 subst hI
 repeat' (first|refine zV ?_|intro _)
 exact qE (L':=[]) ⟨Hp.le_refl _,ZR hdb⟩
theorem read_9b3 (ρ:Hp)(a:Option Addr)(n c:Nat)(l:List UInt8)(h:SIn ρ Zk a n l)(hc:n<=c)(hb:n<=1000000)(k:Nat)(l1:List UInt8)(hl1:Zy 1 (l,0,false)=(k,l1,0,false))(lsn:Nat)(l2:List UInt8)(hl2:Zy 8 (l1,0,false)=(lsn,l2,0,false))(txn:Nat)(l3:List UInt8)(hl3:Zy 4 (l2,0,false)=(txn,l3,0,false))(hk9:k=9)(hno:okS (Zy 8 (l3,0,false)).2=false):Spec prog 135 [.slice a n c] ρ [] (λ z ρ' L'=>ρ.le ρ'/\Xb ρ' l z L'):=by
 have hI0:RdI ρ ⟨a,n,c⟩ l:=⟨h,hc,hb⟩
 have hln:=h.len
 have hdb:Yb l=false:=bad4 hl1 hl2 hl3 hno
 refine Zb func135 rfl rfl rfl λ u R=>?_
 simp only[Zc,kA]
 repeat' (first|(refine Za (.func 202) ?_;refine qC rfl rfl (Ze _ _ ⟨a,n,c⟩ l hI0 1 256 rfl (by decide) hl1) ?_;rintro v ρ' L' hle ⟨rfl,rfl,hb1,s1,h1,rfl⟩<;>(try simp only[kA]))|(refine Za (.func 202) ?_;refine qC rfl rfl (Ze _ _ s1 l1 h1 8 18446744073709551616 rfl (by decide) hl2) ?_;rintro v ρ' L' hle ⟨rfl,rfl,hb2,s2,h2,rfl⟩<;>(try simp only[kA]))|(refine Za (.func 202) ?_;refine qC rfl rfl (Ze _ _ s2 l2 h2 4 4294967296 rfl (by decide) hl3) ?_;rintro v ρ' L' hle ⟨rfl,rfl,hb3,s3,h3,rfl⟩<;>(try simp only[kA]))|(refine Za (.func 202) ?_;refine qC rfl rfl (ZO _ _ s3 l3 h3 8 (by decide) hno) ?_;rintro v ρ' L' hle ⟨rfl,rfl,rfl⟩<;>(try simp only[kA]))|(refine Za (.func 202) ?_;refine qC rfl rfl (Zo _ _ s3 1) ?_;rintro v ρ' L' hle ⟨rfl,rfl,rfl⟩<;>(try simp only[kA]))|(refine Za (.func 202) ?_;refine qC rfl rfl (Zo _ _ s3 4) ?_;rintro v ρ' L' hle ⟨rfl,rfl,rfl⟩<;>(try simp only[kA]))|(refine Za (.func 202) ?_;refine qC rfl rfl (Zo _ _ s3 8) ?_;rintro v ρ' L' hle ⟨rfl,rfl,rfl⟩<;>(try simp only[kA]))|refine zV ?_|intro _)
 refine lpG Nat [2,3,4,5,78] (λ z=>[(79,.int .u64 z)]) (λ z=>ρ') (λ z=>[]) (λ z=>z=0) (λ z=>0-z) 0 rfl ?_
 rintro j hI
 try simp only[kB] at hI ⊢
 try dsimp only at hI ⊢
 subst hI
 repeat' (first|(refine Za (.func 202) ?_;refine qC rfl rfl (Zo _ _ s3 1) ?_;rintro v ρ' L' hle ⟨rfl,rfl,rfl⟩<;>(try simp only[kA]))|refine zV ?_|intro _)
 refine lpG Nat [2,3,4,5,110] (λ z=>[(111,.int .u64 z)]) (λ z=>ρ') (λ z=>[]) (λ z=>z=0) (λ z=>0-z) 0 rfl ?_
 rintro j hI
 try simp only[kB] at hI ⊢
 try dsimp only at hI ⊢
 subst hI
 repeat' (first|refine zV ?_|intro _)
 exact qE (L':=[]) ⟨Hp.le_refl _,ZR hdb⟩
theorem read_9b4 (ρ:Hp)(a:Option Addr)(n c:Nat)(l:List UInt8)(h:SIn ρ Zk a n l)(hc:n<=c)(hb:n<=1000000)(k:Nat)(l1:List UInt8)(hl1:Zy 1 (l,0,false)=(k,l1,0,false))(lsn:Nat)(l2:List UInt8)(hl2:Zy 8 (l1,0,false)=(lsn,l2,0,false))(txn:Nat)(l3:List UInt8)(hl3:Zy 4 (l2,0,false)=(txn,l3,0,false))(prev:Nat)(l4:List UInt8)(hl4:Zy 8 (l3,0,false)=(prev,l4,0,false))(hk9:k=9)(hno:okS (Zy 4 (l4,0,false)).2=false):Spec prog 135 [.slice a n c] ρ [] (λ z ρ' L'=>ρ.le ρ'/\Xb ρ' l z L'):=by
 have hI0:RdI ρ ⟨a,n,c⟩ l:=⟨h,hc,hb⟩
 have hln:=h.len
 have hdb:Yb l=false:=XC (by
  rw[XN hl1 hl2 hl3 hl4]
  unfold Wp
  rw[if_neg (show ¬((k:Nat):Int)=2 by omega),if_neg (show ¬((k:Nat):Int)=3 by omega),if_neg (show ¬((k:Nat):Int)=4 by omega),if_neg (show ¬((k:Nat):Int)=5 by omega),if_pos (show ((k:Nat):Int)=9 by omega)]
  unfold WS cxD
  exact st_cdD (st_ctD hno))
 refine Zb func135 rfl rfl rfl λ u R=>?_
 simp only[Zc,kA]
 repeat' (first|(refine Za (.func 202) ?_;refine qC rfl rfl (Ze _ _ ⟨a,n,c⟩ l hI0 1 256 rfl (by decide) hl1) ?_;rintro v ρ' L' hle ⟨rfl,rfl,hb1,s1,h1,rfl⟩<;>(try simp only[kA]))|(refine Za (.func 202) ?_;refine qC rfl rfl (Ze _ _ s1 l1 h1 8 18446744073709551616 rfl (by decide) hl2) ?_;rintro v ρ' L' hle ⟨rfl,rfl,hb2,s2,h2,rfl⟩<;>(try simp only[kA]))|(refine Za (.func 202) ?_;refine qC rfl rfl (Ze _ _ s2 l2 h2 4 4294967296 rfl (by decide) hl3) ?_;rintro v ρ' L' hle ⟨rfl,rfl,hb3,s3,h3,rfl⟩<;>(try simp only[kA]))|(refine Za (.func 202) ?_;refine qC rfl rfl (Ze _ _ s3 l3 h3 8 18446744073709551616 rfl (by decide) hl4) ?_;rintro v ρ' L' hle ⟨rfl,rfl,hb4,s4,h4,rfl⟩<;>(try simp only[kA]))|(refine Za (.func 202) ?_;refine qC rfl rfl (ZO _ _ s4 l4 h4 4 (by decide) hno) ?_;rintro v ρ' L' hle ⟨rfl,rfl,rfl⟩<;>(try simp only[kA]))|(refine Za (.func 202) ?_;refine qC rfl rfl (Zo _ _ s4 1) ?_;rintro v ρ' L' hle ⟨rfl,rfl,rfl⟩<;>(try simp only[kA]))|(refine Za (.func 202) ?_;refine qC rfl rfl (Zo _ _ s4 4) ?_;rintro v ρ' L' hle ⟨rfl,rfl,rfl⟩<;>(try simp only[kA]))|(refine Za (.func 202) ?_;refine qC rfl rfl (Zo _ _ s4 8) ?_;rintro v ρ' L' hle ⟨rfl,rfl,rfl⟩<;>(try simp only[kA]))|refine zV ?_|intro _)
 refine lpG Nat [2,3,4,5,78] (λ z=>[(79,.int .u64 z)]) (λ z=>ρ') (λ z=>[]) (λ z=>z=0) (λ z=>0-z) 0 rfl ?_
 rintro j hI
 try simp only[kB] at hI ⊢
 try dsimp only at hI ⊢
 subst hI
 repeat' (first|(refine Za (.func 202) ?_;refine qC rfl rfl (Zo _ _ s4 1) ?_;rintro v ρ' L' hle ⟨rfl,rfl,rfl⟩<;>(try simp only[kA]))|refine zV ?_|intro _)
 refine lpG Nat [2,3,4,5,110] (λ z=>[(111,.int .u64 z)]) (λ z=>ρ') (λ z=>[]) (λ z=>z=0) (λ z=>0-z) 0 rfl ?_
 rintro j hI
 try simp only[kB] at hI ⊢
 try dsimp only at hI ⊢
 subst hI
 repeat' (first|refine zV ?_|intro _)
 exact qE (L':=[]) ⟨Hp.le_refl _,ZR hdb⟩
theorem read_9b5 (ρ:Hp)(a:Option Addr)(n c:Nat)(l:List UInt8)(h:SIn ρ Zk a n l)(hc:n<=c)(hb:n<=1000000)(k:Nat)(l1:List UInt8)(hl1:Zy 1 (l,0,false)=(k,l1,0,false))(lsn:Nat)(l2:List UInt8)(hl2:Zy 8 (l1,0,false)=(lsn,l2,0,false))(txn:Nat)(l3:List UInt8)(hl3:Zy 4 (l2,0,false)=(txn,l3,0,false))(prev:Nat)(l4:List UInt8)(hl4:Zy 8 (l3,0,false)=(prev,l4,0,false))(nx:Nat)(l5:List UInt8)(hl5:Zy 4 (l4,0,false)=(nx,l5,0,false))(hk9:k=9)(hno:okS (Zy 1 (l5,0,false)).2=false):Spec prog 135 [.slice a n c] ρ [] (λ z ρ' L'=>ρ.le ρ'/\Xb ρ' l z L'):=by
 have hI0:RdI ρ ⟨a,n,c⟩ l:=⟨h,hc,hb⟩
 have hln:=h.len
 have hdb:Yb l=false:=XC (by
  rw[XN hl1 hl2 hl3 hl4]
  unfold Wp
  rw[if_neg (show ¬((k:Nat):Int)=2 by omega),if_neg (show ¬((k:Nat):Int)=3 by omega),if_neg (show ¬((k:Nat):Int)=4 by omega),if_neg (show ¬((k:Nat):Int)=5 by omega),if_pos (show ((k:Nat):Int)=9 by omega)]
  unfold WS cxD
  rw[hl5]
  exact st_cdD (st_many hno))
 refine Zb func135 rfl rfl rfl λ u R=>?_
 simp only[Zc,kA]
 repeat' (first|(refine Za (.func 202) ?_;refine qC rfl rfl (Ze _ _ ⟨a,n,c⟩ l hI0 1 256 rfl (by decide) hl1) ?_;rintro v ρ' L' hle ⟨rfl,rfl,hb1,s1,h1,rfl⟩<;>(try simp only[kA]))|(refine Za (.func 202) ?_;refine qC rfl rfl (Ze _ _ s1 l1 h1 8 18446744073709551616 rfl (by decide) hl2) ?_;rintro v ρ' L' hle ⟨rfl,rfl,hb2,s2,h2,rfl⟩<;>(try simp only[kA]))|(refine Za (.func 202) ?_;refine qC rfl rfl (Ze _ _ s2 l2 h2 4 4294967296 rfl (by decide) hl3) ?_;rintro v ρ' L' hle ⟨rfl,rfl,hb3,s3,h3,rfl⟩<;>(try simp only[kA]))|(refine Za (.func 202) ?_;refine qC rfl rfl (Ze _ _ s3 l3 h3 8 18446744073709551616 rfl (by decide) hl4) ?_;rintro v ρ' L' hle ⟨rfl,rfl,hb4,s4,h4,rfl⟩<;>(try simp only[kA]))|(refine Za (.func 202) ?_;refine qC rfl rfl (Ze _ _ s4 l4 h4 4 4294967296 rfl (by decide) hl5) ?_;rintro v ρ' L' hle ⟨rfl,rfl,hb5,s5,h5,rfl⟩<;>(try simp only[kA]))|(refine Za (.func 202) ?_;refine qC rfl rfl (ZO _ _ s5 l5 h5 1 (by decide) hno) ?_;rintro v ρ' L' hle ⟨rfl,rfl,rfl⟩<;>(try simp only[kA]))|(refine Za (.func 202) ?_;refine qC rfl rfl (Zo _ _ s5 1) ?_;rintro v ρ' L' hle ⟨rfl,rfl,rfl⟩<;>(try simp only[kA]))|(refine Za (.func 202) ?_;refine qC rfl rfl (Zo _ _ s5 4) ?_;rintro v ρ' L' hle ⟨rfl,rfl,rfl⟩<;>(try simp only[kA]))|(refine Za (.func 202) ?_;refine qC rfl rfl (Zo _ _ s5 8) ?_;rintro v ρ' L' hle ⟨rfl,rfl,rfl⟩<;>(try simp only[kA]))|refine zV ?_|intro _)
 refine lpG Nat [2,3,4,5,78] (λ z=>[(79,.int .u64 z)]) (λ z=>ρ') (λ z=>[]) (λ z=>z=0) (λ z=>0-z) 0 rfl ?_
 rintro j hI
 try simp only[kB] at hI ⊢
 try dsimp only at hI ⊢
 subst hI
 repeat' (first|(refine Za (.func 202) ?_;refine qC rfl rfl (Zo _ _ s5 1) ?_;rintro v ρ' L' hle ⟨rfl,rfl,rfl⟩<;>(try simp only[kA]))|refine zV ?_|intro _)
 refine lpG Nat [2,3,4,5,110] (λ z=>[(111,.int .u64 z)]) (λ z=>ρ') (λ z=>[]) (λ z=>z=0) (λ z=>0-z) 0 rfl ?_
 rintro j hI
 try simp only[kB] at hI ⊢
 try dsimp only at hI ⊢
 subst hI
 repeat' (first|refine zV ?_|intro _)
 exact qE (L':=[]) ⟨Hp.le_refl _,ZR hdb⟩
theorem read12_spec (ρ:Hp)(a:Option Addr)(n c:Nat)(l:List UInt8)(h:SIn ρ Zk a n l)(hc:n<=c)(hb:n<=1000000):Spec prog 135 [.slice a n c] ρ [] (λ z ρ' L'=>ρ.le ρ'/\Xb ρ' l z L'):=by
 have hln:=h.len
 by_cases h0:n<1
 ·exact read_0 ρ a n c l h hc hb h0
 have h1:1<=n:=by omega
 obtain⟨k,l1,hk⟩:∃k l1,Zy 1 (l,0,false)=(k,l1,0,false):=⟨_,_,rdN_go (by omega)⟩
 by_cases k2:k=2
 ·exact read_2 ρ a n c l h hc hb h1 k l1 hk k2
 by_cases k3:k=3
 ·exact read_3 ρ a n c l h hc hb h1 k l1 hk k3
 by_cases k5:k=5
 ·exact read_5 ρ a n c l h hc hb h1 k l1 hk k5
 by_cases k4:k=4
 ·rcases YF 8 l1 with⟨lsn,l2,e2⟩|hno
  case' inr=>exact read_4b1 ρ a n c l h hc hb k l1 hk k4 hno
  rcases YF 4 l2 with⟨txn,l3,e3⟩|hno
  case' inr=>exact read_4b2 ρ a n c l h hc hb k l1 hk lsn l2 e2 k4 hno
  rcases YF 8 l3 with⟨prev,l4,e4⟩|hno
  case' inr=>exact read_4b3 ρ a n c l h hc hb k l1 hk lsn l2 e2 txn l3 e3 k4 hno
  rcases YF 8 l4 with⟨next,l5,e5⟩|hno
  case' inr=>exact read_4b4 ρ a n c l h hc hb k l1 hk lsn l2 e2 txn l3 e3 prev l4 e4 k4 hno
  rcases YF 1 l5 with⟨m,l6,e6⟩|hno
  case' inr=>exact read_4b5 ρ a n c l h hc hb k l1 hk lsn l2 e2 txn l3 e3 prev l4 e4 next l5 e5 k4 hno
  exact read_4g ρ a n c l h hc hb k l1 hk lsn l2 e2 txn l3 e3 prev l4 e4 next l5 e5 m l6 e6 k4
 by_cases k9:k=9
 ·rcases YF 8 l1 with⟨lsn,l2,e2⟩|hno
  case' inr=>exact read_9b1 ρ a n c l h hc hb k l1 hk k9 hno
  rcases YF 4 l2 with⟨txn,l3,e3⟩|hno
  case' inr=>exact read_9b2 ρ a n c l h hc hb k l1 hk lsn l2 e2 k9 hno
  rcases YF 8 l3 with⟨prev,l4,e4⟩|hno
  case' inr=>exact read_9b3 ρ a n c l h hc hb k l1 hk lsn l2 e2 txn l3 e3 k9 hno
  rcases YF 4 l4 with⟨nx,l5,e5⟩|hno
  case' inr=>exact read_9b4 ρ a n c l h hc hb k l1 hk lsn l2 e2 txn l3 e3 prev l4 e4 k9 hno
  rcases YF 1 l5 with⟨m,l6,e6⟩|hno
  case' inr=>exact read_9b5 ρ a n c l h hc hb k l1 hk lsn l2 e2 txn l3 e3 prev l4 e4 nx l5 e5 k9 hno
  exact read_9g ρ a n c l h hc hb k l1 hk lsn l2 e2 txn l3 e3 prev l4 e4 nx l5 e5 m l6 e6 k9
 exact read_o ρ a n c l h hc hb h1 k l1 hk ⟨k2,k3,k4,k5,k9⟩
structure Lf where
 lsn:Nat
 cost:Int
deriving DecidableEq
abbrev lfV (x:Lf):List Value:=[.int .u64 x.lsn,.int .i64 x.cost]
abbrev u64c (n:Nat):Value:=.int .u64 n
structure Tx where
 num:Int
 state:Int
 first:Nat
 last:Nat
 undo:Nat
 stack:List Lf
 marks:List Nat
 sv:SV
 mv:SV
abbrev txV (x:Tx):List Value:=[.int .i64 x.num,.int .i64 x.state,.int .u64 x.first,.int .u64 x.last,.int .u64 x.undo,.slice x.sv.a x.sv.n x.sv.c,.slice x.mv.a x.mv.n x.mv.c]
structure Tx.In (ρ:Hp)(x:Tx):Prop where
 s:AIn ρ 2 lfV x.sv.a x.sv.n x.stack
 m:SIn ρ u64c x.mv.a x.mv.n x.marks
 sb:x.sv.n<=200000000000000
 mb:x.mv.n<=200000000000000
 sc:x.sv.n<=x.sv.c
 mc:x.mv.n<=x.mv.c
theorem Tx.In.mono {ρ ρ' x}(h:Tx.In ρ x)(hle:ρ.le ρ'):Tx.In ρ' x:=⟨h.s.mono hle,h.m.mono hle,h.sb,h.mb,h.sc,h.mc⟩
structure Ros where
 next:Int
 txns:List Tx
structure RosIn (ρ:Hp)(v:SV)(r:Ros):Prop where
 at':AS ρ 7 txV v r.txns
 tx:∀x∈r.txns,Tx.In ρ x
theorem RosIn.mono {ρ ρ' v r}(h:RosIn ρ v r)(hle:ρ.le ρ'):RosIn ρ' v r:=⟨h.at'.mono hle,λ x hx=>(h.tx x hx).mono hle⟩
def tblB:Int->List CkP->Bool
 | _,[]=>true
 | last,p::r=>decide (last<p.page/\p.page<64/\1<=p.since/\p.since<=1099511627776) && tblB p.page r
def tblOk (d:List CkP):Bool:=tblB (-1) d
theorem RosIn.nil {ρ:Hp}:RosIn ρ WY ⟨0,[]⟩:=⟨AS.nil,by simp⟩
structure AtR (l:List CkP)(page:Int)(i:Nat)(there:Bool):Prop where
 le:i<=l.length
 hit:there=true->∃h:i<l.length,l[i].page=page
 lo:tblOk l=true->∀j (h:j<l.length),j<i->l[j].page<page
 hi:tblOk l=true->there=false->∀j (h:j<l.length),i<=j->page<l[j].page
def addP (page:Int)(lsn:Nat):List CkP->List CkP
 | []=>[⟨page,lsn⟩]
 | p::r=>if p.page<page then p::addP page lsn r else if p.page=page then p::r else ⟨page,lsn⟩::p::r
theorem addP_in {page:Int}{lsn:Nat}:∀{l:List CkP} {i:Nat} (h:i<l.length),(∀j (h:j<l.length),j<i->l[j].page<page)->l[i].page=page->addP page lsn l=l
 | p::r,0,h,_,he=>by simp at he;simp[addP,he]
 | p::r,i+1,h,hlt,he=>by
  have h0:=hlt 0 (by simp) (by omega)
  simp only[List.getElem_cons_zero] at h0
  rw[addP,if_pos h0,addP_in (i:=i) (by simpa using h) (λ j hj hji=>by have:=hlt (j+1) (by simpa using hj) (by omega);simpa using this) (by simpa using he)]
theorem addP_out {page:Int}{lsn:Nat}:∀{l:List CkP} {i:Nat} (h:i<=l.length),(∀j (h:j<l.length),j<i->l[j].page<page)->(∀j (h:j<l.length),i<=j->page<l[j].page)->addP page lsn l=l.take i++⟨page,lsn⟩::l.drop i
 | [],0,_,_,_=>rfl
 | p::r,0,_,_,hi=>by
  have h0:=hi 0 (by simp) (by omega)
  simp only[List.getElem_cons_zero] at h0
  rw[addP,if_neg (by omega),if_neg (by omega)];rfl
 | p::r,i+1,h,hlt,hi=>by
  have h0:=hlt 0 (by simp) (by omega)
  simp only[List.getElem_cons_zero] at h0
  rw[addP,if_pos h0,addP_out (i:=i) (by simpa using h) (λ j hj hji=>by have:=hlt (j+1) (by simpa using hj) (by omega);simpa using this) (λ j hj hji=>by have:=hi (j+1) (by simpa using hj) (by omega);simpa using this)]
  rfl
theorem AtR.add {l:List CkP}{page:Int}{lsn i:Nat}{there:Bool}(h:AtR l page i there)(ht:tblOk l=true):addP page lsn l=if there then l else l.take i++⟨page,lsn⟩::l.drop i:=by
 cases there with
 | true=>
  obtain⟨h1,h2⟩:=h.hit rfl
  rw[if_pos rfl]
  exact addP_in h1 (h.lo ht) h2
 | false=>
  rw[if_neg (by simp)]
  exact addP_out h.le (h.lo ht) (h.hi ht rfl)
def zRc:Rc:=⟨0,0,0,0,0,[],[],0,[],[]⟩
def zRV:RV:=⟨WY,WY,WY,WY⟩
theorem RcIn.zero {ρ:Hp}:RcIn ρ zRV zRc:=⟨AS.nil,by simp[zRc],AS.nil,AS.nil,AS.nil,by simp[zRc]⟩
structure CW (ρ:Hp)(v:CV)(c:Wm):Prop where
 r:AIn ρ 4 Ym v.ra v.rn c.rows
 k:AIn ρ 3 Xj v.ka v.kn c.kids
 rb:v.rn<=140737488355328
 kb:v.kn<=140737488355328
 rc:v.rn<=v.rc
 kc:v.kn<=v.kc
 row:∀r∈c.rows,Ys r
 kid:∀k∈c.kids,k.id<65536
structure AW (ρ:Hp)(sz:Nat){α:Type}(g:α->List Value)(s:SV)(l:List α):Prop where
 at':AIn ρ sz g s.a s.n l
 big:s.n<=140737488355328
 cap:s.n<=s.c
structure RcW (ρ:Hp)(v:RV)(r:Rc):Prop where
 i:AW ρ 7 imV v.i r.ims
 im:∀x∈r.ims,CW ρ x.bv x.b/\CW ρ x.av x.a
 s:AW ρ 6 YJ v.s r.steps
 t:AW ρ 5 Yh v.t r.txns
 d:AW ρ 2 YB v.d r.dirty
 sf:∀s∈r.steps,Ys s.row
theorem CW.mono {ρ ρ' v c}(h:CW ρ v c)(hle:ρ.le ρ'):CW ρ' v c:=⟨h.r.mono hle,h.k.mono hle,h.rb,h.kb,h.rc,h.kc,h.row,h.kid⟩
theorem AW.mono {ρ ρ':Hp}{sz:Nat}{α:Type}{g:α->List Value}{s:SV}{l:List α}(h:AW ρ sz g s l)(hle:ρ.le ρ'):AW ρ' sz g s l:=⟨h.at'.mono hle,h.big,h.cap⟩
theorem RcW.mono {ρ ρ' v r}(h:RcW ρ v r)(hle:ρ.le ρ'):RcW ρ' v r:=⟨h.i.mono hle,λ x hx=>⟨(h.im x hx).1.mono hle,(h.im x hx).2.mono hle⟩,h.s.mono hle,h.t.mono hle,h.d.mono hle,h.sf⟩
def shortR (r:Row):Row:=⟨r.t,r.id,r.val,r.note.take 9⟩
def fewC (c:Wm):Wm:=⟨c.kind,(c.rows.take 5).map shortR,c.kids.take 5⟩
theorem take_min9 (l:List UInt8):l.take (min (l.length:Int) 9).toNat=l.take 9:=by
 by_cases h:l.length<=9
 ·rw[show (min (l.length:Int) 9).toNat=l.length by omega,aT (aR _),aT h]
 ·rw[show (min (l.length:Int) 9).toNat=9 by omega]
structure CInW (ρ:Hp)(v:CV)(rows:List Row)(kids:List Kid):Prop where
 r:AIn ρ 4 Ym v.ra v.rn rows
 k:AIn ρ 3 Xj v.ka v.kn kids
 rb:v.rn<=9223372036854775807
 kb:v.kn<=9223372036854775807
 rc:v.rn<=v.rc
 kc:v.kn<=v.kc
theorem CInW.mono {ρ ρ' v rows kids}(h:CInW ρ v rows kids)(hle:ρ.le ρ'):CInW ρ' v rows kids:=⟨h.r.mono hle,h.k.mono hle,h.rb,h.kb,h.rc,h.kc⟩
theorem flatK_one (l:List Kid):((l.map Xj).flatten).all (·.oneCell')=true:=by
 induction l with
 | nil=>rfl
 | cons k r ih=>simp only[List.map_cons,aF,List.all_append,ih,Bool.and_true];rfl
theorem flatR_one (l:List Row):((l.map Ym).flatten).all (·.oneCell')=true:=by
 induction l with
 | nil=>rfl
 | cons k r ih=>simp only[List.map_cons,aF,List.all_append,ih,Bool.and_true];rfl
theorem take_five {α:Type}(l:List α)(n m:Nat)(h:l.length=n)(hm:m=min n 5):l.take m=l.take 5:=by
 by_cases h5:n<=5
 ·rw[show m=n by omega,aT (by omega),aT (by omega)]
 ·rw[show m=5 by omega]
theorem row_get {sp:List Value}:∀(acc:List Row) (k:Nat) (r:Row),acc[k]?=some r->((acc.map Ym).flatten++sp)[0+k*4+3]?=some (strV r.note)
 | [],k,r,h=>by cases h
 | a::t,0,r,h=>by cases h;rfl
 | a::t,k+1,r,h=>by
  have ih:=row_get (sp:=sp) t k r (by simpa using h)
  rw[show 0+(k+1)*4+3=(0+k*4+3)+4 by omega]
  simpa only [List.map_cons,aF,Ym,kA,List.getElem?_cons_succ] using ih
theorem row_set {sp:List Value}(s:List UInt8):∀(acc:List Row) (k:Nat) (r:Row),acc[k]?=some r->((acc.map Ym).flatten++sp).set (0+k*4+3) (strV s)=((acc.set k ⟨r.t,r.id,r.val,s⟩).map Ym).flatten++sp
 | [],k,r,h=>by cases h
 | a::t,0,r,h=>by cases h;rfl
 | a::t,k+1,r,h=>by
  have ih:=row_set (sp:=sp) s t k r (by simpa using h)
  rw[show 0+(k+1)*4+3=(0+k*4+3)+4 by omega]
  simp only[List.map_cons,aF,Ym,kA,List.set_cons_succ]
  rw[ih]
theorem row_setL {sp:List Value}(s:List UInt8){acc:List Row}{k:Nat}{r:Row}(h:acc[k]?=some r):SetL ((acc.map Ym).flatten++sp) (0+k*4+3) (strV s) (((acc.set k ⟨r.t,r.id,r.val,s⟩).map Ym).flatten++sp):=by
 have h1:=row_get (sp:=sp) acc k r h
 have hlt:0+k*4+3<((acc.map Ym).flatten++sp).length:=by
  rcases Nat.lt_or_ge (0+k*4+3) ((acc.map Ym).flatten++sp).length with hh|hh
  ·exact hh
  ·rw[List.getElem?_eq_none hh] at h1;cases h1
 refine⟨hlt, ?_⟩
 rw[<-row_set s acc k r h,List.set_eq_take_append_cons_drop,if_pos hlt]
 simp[stc]
theorem set_step (RS:List Row)(k:Nat)(h:k<RS.length):((RS.take k).map shortR++RS.drop k).set k (shortR RS[k])=(RS.take (k+1)).map shortR++RS.drop (k+1):=by
 rw[List.set_append_right _ _ (by simp;omega),List.drop_eq_getElem_cons h,aG h]
 rw[show k-((RS.take k).map shortR).length=0 by simp;omega]
 simp only[List.set_cons_zero,List.map_append,List.map_cons,List.map_nil,aA,kA]
theorem get_step (RS:List Row)(k:Nat)(h:k<RS.length):((RS.take k).map shortR++RS.drop k)[k]?=some RS[k]:=by
 rw[List.getElem?_append_right (by simp;omega),List.drop_eq_getElem_cons h]
 simp[show k-min k RS.length=0 by omega]
instance (priority:=1200) eqCkP {x y:CkP}:EqC prog 8 118 (.agg ⟨YB x⟩) (.agg ⟨YB y⟩) (decide (x=y)):=by
 have h:EqC prog 8 118 (.agg ⟨[.int .i64 x.page,.int .u64 x.since]⟩) (.agg ⟨[.int .i64 y.page,.int .u64 y.since]⟩) _:=inferInstance
 refine⟨λ d w hd=>?_⟩
 rw[h.out d w hd]
 congr 1
 obtain⟨t,i⟩:=x
 obtain⟨t',i'⟩:=y
 simp only[CkP.mk.injEq,Bool.and_true,Bool.decide_and]
 have e:((i:Int) == (i':Int))=decide (i=i'):=by
  by_cases h:i=i'
  ·subst h;simp
  ·rw[decide_eq_false h];simp only[beq_eq_false_iff_ne,ne_eq];omega
 rw[e]
 by_cases h1:t=t'<;>by_cases h2:i=i'<;>simp[h1,h2]
instance (priority:=1200) eqCkT {x y:CkT}:EqC prog 8 116 (.agg ⟨Yh x⟩) (.agg ⟨Yh y⟩) (decide (x=y)):=by
 have h:EqC prog 8 116 (.agg ⟨[.int .i64 x.txn,.int .u64 x.first,.int .u64 x.last,.int .u64 x.undo,.int .i64 x.state]⟩) (.agg ⟨[.int .i64 y.txn,.int .u64 y.first,.int .u64 y.last,.int .u64 y.undo,.int .i64 y.state]⟩) _:=inferInstance
 refine⟨λ d w hd=>?_⟩
 rw[h.out d w hd]
 congr 1
 obtain⟨t,a,b,c,s⟩:=x
 obtain⟨t',a',b',c',s'⟩:=y
 simp only[CkT.mk.injEq,Bool.and_true,Bool.decide_and]
 have e:∀i i':Nat,((i:Int) == (i':Int))=decide (i=i'):=λ i i'=>by
  by_cases h:i=i'
  ·subst h;simp
  ·rw[decide_eq_false h];simp only[beq_eq_false_iff_ne,ne_eq];omega
 rw[e,e,e]
 have e2:∀i i':Int,(i == i')=decide (i=i'):=λ i i'=>by
  by_cases h:i=i'<;>simp[h]
 rw[e2,e2]
instance (priority:=1200) eqStp {x y:Stp}:EqC prog 8 183 (.agg ⟨YJ x⟩) (.agg ⟨YJ y⟩) (decide (x=y)):=by
 have h:EqC prog 8 183 (.agg ⟨[.int .i64 x.kind,.int .i64 x.row.t,.int .u16 x.row.id,.int .i64 x.row.val,strV x.row.note,.int .i64 x.by']⟩) (.agg ⟨[.int .i64 y.kind,.int .i64 y.row.t,.int .u16 y.row.id,.int .i64 y.row.val,strV y.row.note,.int .i64 y.by']⟩) _:=inferInstance
 refine⟨λ d w hd=>?_⟩
 rw[h.out d w hd]
 congr 1
 obtain⟨k,⟨t,i,v,n⟩,b⟩:=x
 obtain⟨k',⟨t',i',v',n'⟩,b'⟩:=y
 simp only[Stp.mk.injEq,Row.mk.injEq,Bool.and_true,Bool.decide_and]
 have e:∀i i':Nat,((i:Int) == (i':Int))=decide (i=i'):=λ i i'=>by
  by_cases h:i=i'
  ·subst h;simp
  ·rw[decide_eq_false h];simp only[beq_eq_false_iff_ne,ne_eq];omega
 rw[e]
 have e2:∀i i':Int,(i == i')=decide (i=i'):=λ i i'=>by
  by_cases h:i=i'<;>simp[h]
 rw[e2,e2,e2,e2]
 simp only[Bool.and_assoc]
def imEq (x y:Im):Bool:=decide (x.page=y.page) && (decide (x.b=y.b) && decide (x.a=y.a))
theorem imEq_iff {x y:Im}:imEq x y=true↔x.plain=y.plain:=by
 obtain⟨p,bv,b,av,a⟩:=x
 obtain⟨p',bv',b',av',a'⟩:=y
 unfold imEq
 simp[Im.plain,aE]
theorem map_take_succ {α β:Type}(f:α->β)(l:List α)(k:Nat)(h:k<l.length):(l.map f).take (k+1)=(l.map f).take k++[f l[k]]:=by
 rw[aG (show k<(l.map f).length by simpa using h)]
 simp
theorem plain_eq {x y:Rc}(h1:x.kind=y.kind/\x.lsn=y.lsn/\x.txn=y.txn/\x.prev=y.prev/\x.next=y.next/\x.nextTxn=y.nextTxn):x.plain=y.plain↔(x.steps=y.steps/\x.txns=y.txns/\x.dirty=y.dirty/\x.ims.map Im.plain=y.ims.map Im.plain):=by
 obtain⟨k,l,t,p,n,i,s,nt,ts,d⟩:=x
 obtain⟨k',l',t',p',n',i',s',nt',ts',d'⟩:=y
 dsimp only at h1
 obtain⟨rfl,rfl,rfl,rfl,rfl,rfl⟩:=h1
 dsimp only[Rc.plain]
 constructor
 ·intro h
  injection h with a1 a2 a3 a4 a5 a6 a7 a8 a9 a10
  exact⟨a7,a9,a10,a6⟩
 ·rintro⟨rfl,rfl,rfl,e⟩
  rw[e]
def fewIm (x:Im):Im:=⟨x.page,Xo,fewC x.b,Xo,fewC x.a⟩
def shortS (s:Stp):Stp:=⟨s.kind,shortR s.row,s.by'⟩
def fewR (r:Rc):Rc:={ r with ims:=(r.ims.take 17).map fewIm,steps:=(r.steps.take 3).map shortS,txns:=r.txns.take 9,dirty:=r.dirty.take 65 }
theorem CW.few {ρ v c}(h:CW ρ v c):CInW ρ v c.rows c.kids:=⟨h.r,h.k,by have:=h.rb;omega,by have:=h.kb;omega,h.rc,h.kc⟩
theorem fewC_fit {ρ v c}(h:CW ρ v c){ρ' v'}(h':CIn ρ' v' (fewC c).rows (fewC c).kids):CI ρ' v' (fewC c):=⟨h',λ r hr=>by
  obtain⟨y,hy,rfl⟩:=List.mem_map.1 hr
  have:=h.row y (List.mem_of_mem_take hy)
  exact⟨this.id,this.val⟩,λ k hk=>h.kid k (List.mem_of_mem_take hk)⟩
theorem flat_one {α:Type}(g:α->List Value)(hg:∀x,(g x).all (·.oneCell')=true)(l:List α):((l.map g).flatten).all (·.oneCell')=true:=by
 induction l with
 | nil=>rfl
 | cons k r ih=>simp only[List.map_cons,aF,List.all_append,ih,Bool.and_true];exact hg k
theorem take_some {α:Type}(c:Nat)(l:List α)(n m:Nat)(h:l.length=n)(hm:m=min n c):l.take m=l.take c:=by
 by_cases h5:n<=c
 ·rw[show m=n by omega,aT (by omega),aT (by omega)]
 ·rw[show m=c by omega]
theorem stp_get {sp:List Value}:∀(acc:List Stp) (k:Nat) (r:Stp),acc[k]?=some r->((acc.map YJ).flatten++sp)[0+k*6+1+3]?=some (strV r.row.note)
 | [],k,r,h=>by cases h
 | a::t,0,r,h=>by cases h;rfl
 | a::t,k+1,r,h=>by
  have ih:=stp_get (sp:=sp) t k r (by simpa using h)
  rw[show 0+(k+1)*6+1+3=(0+k*6+1+3)+6 by omega]
  simpa only [List.map_cons,aF,YJ,kA,List.getElem?_cons_succ] using ih
def noteS (r:Stp)(s:List UInt8):Stp:=⟨r.kind,⟨r.row.t,r.row.id,r.row.val,s⟩,r.by'⟩
theorem stp_set {sp:List Value}(s:List UInt8):∀(acc:List Stp) (k:Nat) (r:Stp),acc[k]?=some r->((acc.map YJ).flatten++sp).set (0+k*6+1+3) (strV s)=((acc.set k (noteS r s)).map YJ).flatten++sp
 | [],k,r,h=>by cases h
 | a::t,0,r,h=>by cases h;rfl
 | a::t,k+1,r,h=>by
  have ih:=stp_set (sp:=sp) s t k r (by simpa using h)
  rw[show 0+(k+1)*6+1+3=(0+k*6+1+3)+6 by omega]
  simp only[List.map_cons,aF,YJ,kA,List.set_cons_succ]
  rw[ih]
theorem stp_setL {sp:List Value}(s:List UInt8){acc:List Stp}{k:Nat}{r:Stp}(h:acc[k]?=some r):SetL ((acc.map YJ).flatten++sp) (0+k*6+1+3) (strV s) (((acc.set k (noteS r s)).map YJ).flatten++sp):=by
 have h1:=stp_get (sp:=sp) acc k r h
 have hlt:0+k*6+1+3<((acc.map YJ).flatten++sp).length:=by
  rcases Nat.lt_or_ge (0+k*6+1+3) ((acc.map YJ).flatten++sp).length with hh|hh
  ·exact hh
  ·rw[List.getElem?_eq_none hh] at h1;cases h1
 refine⟨hlt, ?_⟩
 rw[<-stp_set s acc k r h,List.set_eq_take_append_cons_drop,if_pos hlt]
 simp[stc]
theorem set_stepG {α:Type}(f:α->α)(RS:List α)(k:Nat)(h:k<RS.length):((RS.take k).map f++RS.drop k).set k (f RS[k])=(RS.take (k+1)).map f++RS.drop (k+1):=by
 rw[List.set_append_right _ _ (by simp;omega),List.drop_eq_getElem_cons h,aG h]
 rw[show k-((RS.take k).map f).length=0 by simp;omega]
 simp only[List.set_cons_zero,List.map_append,List.map_cons,List.map_nil,aA,kA]
theorem get_stepG {α:Type}(f:α->α)(RS:List α)(k:Nat)(h:k<RS.length):((RS.take k).map f++RS.drop k)[k]?=some RS[k]:=by
 rw[List.getElem?_append_right (by simp;omega),List.drop_eq_getElem_cons h]
 simp[show k-min k RS.length=0 by omega]
structure RcO (ρ:Hp)(v:RV)(r:Rc)(s1 s2:List Value):Prop where
 i:AS ρ 7 imV v.i r.ims
 im:∀x∈r.ims,Im.In ρ x
 s:AS ρ 6 YJ v.s r.steps
 t:OwnS (.slice v.t.a v.t.n v.t.c) r.txns.length (r.txns.map Yh).flatten s1 5
 d:OwnS (.slice v.d.a v.d.n v.d.c) r.dirty.length (r.dirty.map YB).flatten s2 2
 tn:v.t.n=r.txns.length
 dn:v.d.n=r.dirty.length
 tb:v.t.n<=9
 db:v.d.n<=65
 sf:∀s∈r.steps,Ys s.row
theorem content16_spec (ρ:Hp)(w:CV)(c:Wm)(h:CInW ρ w c.rows c.kids) :
  Spec prog 99 [.agg ⟨XI c.kind w⟩] ρ [] (λ v ρ' L'=>ρ.le ρ'/\∃w',v=.agg ⟨XI c.kind w'⟩/\CIn ρ' w' (fewC c).rows (fewC c).kids/\L'=[]):=by
 obtain⟨kind,rows,kids⟩:=c
 obtain⟨ra,rn,rc,ka,kn,kc⟩:=w
 obtain⟨hr,hk,hrb,hkb,hrc,hkc⟩:=h
 dsimp only at hr hk hrb hkb hrc hkc
 have hrl:=hr.len
 have hkl:=hk.len
 dsimp only[fewC,XI]
 obtain⟨m,hm⟩:∃m,m=min kn 5:=⟨_,rfl⟩
 obtain⟨q,hq⟩:∃q,q=min rn 5:=⟨_,rfl⟩
 have hmt:(min (kn:Int) 5).toNat=m:=by omega
 have hqt:(min (rn:Int) 5).toNat=q:=by omega
 have hk5:=hk.take (hi':=m) (by omega)
 have hr5:=hr.take (hi':=q) (by omega)
 rw[take_five _ _ _ hkl hm] at hk5
 rw[take_five _ _ _ hrl hq] at hr5
 have hm5:m<=5:=by omega
 have hq5:q<=5:=by omega
 generalize kids.take 5=KS at *
 generalize rows.take 5=RS at *
 refine Zb func99 rfl rfl rfl λ u R=>?_
 simp only[Zc,kA]
 repeat' (first|refine zV ?_|intro _)
 rename_i b1 b2
 refine ctG ((Option Addr)×Nat×(List Value)×(Option Addr)×Nat×(List Value)) R [] (λ z=>[(1,.pointer (some ⟨b1,0,none⟩)),(2,.pointer (some ⟨b2,0,none⟩))]) (λ z=>ρ) (λ z=>[Zq (.slice z.1 q z.2.1) (RS.map Ym).flatten z.2.2.1 171,Zq (.slice z.2.2.2.1 m z.2.2.2.2.1) (KS.map Xj).flatten z.2.2.2.2.2 227,[(b1,.cells ⟨[.int .i64 kind,.slice z.1 q z.2.1,.slice z.2.2.2.1 m z.2.2.2.2.1]⟩ 88 (0,0))],[(b2,.cells ⟨[.int .i64 0,.slice none 0 0,.slice none 0 0]⟩ 88 (0,0))]]) (λ z=>OwnS (.slice z.1 q z.2.1) q (RS.map Ym).flatten z.2.2.1 4/\OwnS (.slice z.2.2.2.1 m z.2.2.2.2.1) m (KS.map Xj).flatten z.2.2.2.2.2 3) ?_ ?_
 ·refine tc_phase 19 (Zt _ _ ([[(b1,.cells ⟨[.int .i64 kind,.slice ra rn rc,.slice ka kn kc]⟩ 88 (0,0))]])) (by decide +kernel) (Xq (hT:=tk) (Hp.le_refl _)) ?_
  simp only[List.take_succ_cons,List.take_zero]
  all_goals (refine rFa 1 ?_;refine rLd 2 ?_;refine rFa 3 ?_;refine rLd 4 ?_;refine rBi 5 ?_;refine rBi 6 ?_;refine rSl 7 ?_;refine rFa 10 ?_;refine rLd 11 ?_;refine rFa 12 ?_;refine rLd 13 ?_;refine rBi 14 ?_;refine rBi 15 ?_;refine rSl 16 ?_)
  all_goals (refine rStep2 (i:=0) (j:=9) ?_ ?_<;>((try refine ZM ?_);(first|(refine qEf ?_;try intro _))<;>((try simp only[kA]);refine Yz ?_;refine Wn ?_)))
  all_goals (first|(refine rStep2 (i:=8) (j:=9) ?_ ?_<;>((try refine ZM ?_);(first|(simp only[hqt];refine ZH (n:=0) (xs:=[]) (sp:=[]) (ys:=(RS.map Ym).flatten) (m:=q) (sz:=4) rfl rfl (OwnS.zero _ 4) (hR:=by first|exact Zl|exact Zn Zl|exact Zn (Zn Zl)) (AIn.srcV hr5) (by rw[XG Ym 4 _ (λ x _=>rfl),hr5.len]) (flatR_one _) (by decide) rfl (by omega) (by omega) rfl (λ v1 sp1 hown1=>?_);simp only[Nat.zero_add,List.nil_append] at hown1 ⊢;obtain⟨a1,c1,rfl,hlen1⟩:=hown1.len)|(simp only[hmt];refine ZH (n:=0) (xs:=[]) (sp:=[]) (ys:=(KS.map Xj).flatten) (m:=m) (sz:=3) rfl rfl (OwnS.zero _ 3) (hR:=by first|exact Zl|exact Zn Zl|exact Zn (Zn Zl)) (AIn.srcV hk5) (by rw[XG Xj 3 _ (λ x _=>rfl),hk5.len]) (flatK_one _) (by decide) rfl (by omega) (by omega) rfl (λ v2 sp2 hown2=>?_);simp only[Nat.zero_add,List.nil_append] at hown2 ⊢;obtain⟨a2,c2,rfl,hlen2⟩:=hown2.len)|(refine qEf ?_;try intro _))<;>((try simp only[kA]);refine Yz ?_;refine Wn ?_)))|(refine WL (i:=0) ?_;((try refine ZM ?_);(first|(refine qEf ?_;try intro _))<;>((try simp only[kA]);refine Yz ?_;refine Wn ?_))))
  all_goals (first|refine rFa 18 ?_|(refine WL (i:=8) ?_;((try refine ZM ?_);(first|(simp only[hqt];refine ZH (n:=0) (xs:=[]) (sp:=[]) (ys:=(RS.map Ym).flatten) (m:=q) (sz:=4) rfl rfl (OwnS.zero _ 4) (hR:=by first|exact Zl|exact Zn Zl|exact Zn (Zn Zl)) (AIn.srcV hr5) (by rw[XG Ym 4 _ (λ x _=>rfl),hr5.len]) (flatR_one _) (by decide) rfl (by omega) (by omega) rfl (λ v1 sp1 hown1=>?_);simp only[Nat.zero_add,List.nil_append] at hown1 ⊢;obtain⟨a1,c1,rfl,hlen1⟩:=hown1.len)|(simp only[hmt];refine ZH (n:=0) (xs:=[]) (sp:=[]) (ys:=(KS.map Xj).flatten) (m:=m) (sz:=3) rfl rfl (OwnS.zero _ 3) (hR:=by first|exact Zl|exact Zn Zl|exact Zn (Zn Zl)) (AIn.srcV hk5) (by rw[XG Xj 3 _ (λ x _=>rfl),hk5.len]) (flatK_one _) (by decide) rfl (by omega) (by omega) rfl (λ v2 sp2 hown2=>?_);simp only[Nat.zero_add,List.nil_append] at hown2 ⊢;obtain⟨a2,c2,rfl,hlen2⟩:=hown2.len)|(refine qEf ?_;try intro _))<;>((try simp only[kA]);refine Yz ?_;refine Wn ?_))))
  all_goals (first|refine rFa 18 ?_|(refine WL (i:=9) ?_;((try refine ZM ?_);(first|(refine qEf ?_;try intro _))<;>((try simp only[kA]);refine Yz ?_;refine Wn ?_))))
  all_goals (refine WL (i:=17) ?_;((try refine ZM ?_);(first|(simp only[hqt];refine ZH (n:=0) (xs:=[]) (sp:=[]) (ys:=(RS.map Ym).flatten) (m:=q) (sz:=4) rfl rfl (OwnS.zero _ 4) (hR:=by first|exact Zl|exact Zn Zl|exact Zn (Zn Zl)) (AIn.srcV hr5) (by rw[XG Ym 4 _ (λ x _=>rfl),hr5.len]) (flatR_one _) (by decide) rfl (by omega) (by omega) rfl (λ v1 sp1 hown1=>?_);simp only[Nat.zero_add,List.nil_append] at hown1 ⊢;obtain⟨a1,c1,rfl,hlen1⟩:=hown1.len)|(simp only[hmt];refine ZH (n:=0) (xs:=[]) (sp:=[]) (ys:=(KS.map Xj).flatten) (m:=m) (sz:=3) rfl rfl (OwnS.zero _ 3) (hR:=by first|exact Zl|exact Zn Zl|exact Zn (Zn Zl)) (AIn.srcV hk5) (by rw[XG Xj 3 _ (λ x _=>rfl),hk5.len]) (flatK_one _) (by decide) rfl (by omega) (by omega) rfl (λ v2 sp2 hown2=>?_);simp only[Nat.zero_add,List.nil_append] at hown2 ⊢;obtain⟨a2,c2,rfl,hlen2⟩:=hown2.len)|(refine qEf ?_;try intro _))<;>((try simp only[kA]);refine Yz ?_;refine Wn ?_)))
  all_goals refine rDone ?_
  all_goals refine te_phase (fuel:=3) (m:=[true,true,true,true,true,true,true,true,true,true,true,true,true,true,true,true,true,true,true,false,false,false]) (Zt _ _ ([])) rfl rfl (Xq (hT:=tk) (Hp.le_refl _)) ?_
  all_goals (refine WL (i:=19) ?_;((try refine ZM ?_);(first|(refine qEf ?_;try intro _))<;>((try simp only[kA]);refine Yz ?_;refine Wn ?_)))
  all_goals refine rFa 20 ?_
  all_goals (refine WL (i:=21) ?_;((try refine ZM ?_);(first|(refine qEf ?_;try intro _))<;>((try simp only[kA]);refine Yz ?_;refine Wn ?_)))
  all_goals refine rDone ?_
  all_goals refine jnG ((a1,c1,sp1,a2,c2,sp2)) (⟨hown1,hown2⟩)
 ·rintro⟨a1,c1,sp1,a2,c2,sp2⟩ ⟨hown1,hown2⟩
  simp only[kA] at hown1 hown2 ⊢
  have hRl:=hr5.len
  repeat' (first|refine zV ?_|intro _)
  refine lpG (Nat×(List Row)) [1,2,26] (λ z=>[(27,.int .i64 z.1)]) (λ z=>ρ) (λ z=>[Zq (.slice a1 q c1) (z.2.map Ym).flatten sp1 171,[(b1,.cells ⟨[.int .i64 kind,.slice a1 q c1,.slice a2 m c2]⟩ 88 (0,0))]]) (λ z=>z.1<=q/\z.2=(RS.take z.1).map shortR++RS.drop z.1) (λ z=>q-z.1) (0,RS) ⟨aZ _,by simp⟩ ?_
  rintro⟨k,acc⟩ hI
  try simp only[kB] at hI ⊢
  try dsimp only at hI ⊢
  obtain⟨hk0,hacc⟩:=hI
  by_cases hlt:k<q
  ·have hal:acc.length=q:=by rw[hacc];simp;omega
   obtain⟨pb,pc,e1⟩:=hown1.pos (by omega)
   cases e1
   have hkR:k<RS.length:=by rw[hRl];exact hlt
   have hkv:=get_step RS k hkR
   have hset:=set_step RS k hkR
   rw[<-hacc] at hkv
   rw[<-hacc] at hset
   generalize RS[k]'hkR=r at *
   have hld:=row_get (sp:=sp1) acc k r hkv
   haveI hst:=row_setL (sp:=sp1) (r.note.take (min (r.note.length:Int) 9).toNat) hkv
   have e9:=take_min9 r.note
   repeat' (first|refine zV ?_|intro _)
   rw[show Zq (.slice (some ⟨pb,0,none⟩) q c1) ((acc.map Ym).flatten) sp1 171=[(pb,.cells ⟨(acc.map Ym).flatten++sp1⟩ 171 (0,0))] from rfl]
   refine tc_phase 20 (Zt _ _ ([[(pb,.cells ⟨(acc.map Ym).flatten++sp1⟩ 171 (0,0))],[(b1,.cells ⟨[.int .i64 kind,.slice (some ⟨pb,0,none⟩) q c1,.slice a2 m c2]⟩ 88 (0,0))]])) (by decide +kernel) (Xq (hT:=tk) (Hp.le_refl _)) ?_
   simp only[List.take_succ_cons,List.take_zero]
   all_goals (refine rFa 0 ?_;refine rLd 1 ?_;refine rMv 2 ?_;refine rFa 3 ?_;refine rLd 4 ?_;refine rMv 5 ?_;refine rIa 6 ?_;refine rFa 7 ?_;refine rLd 8 ?_;refine rFa 9 ?_;refine rLd 10 ?_;refine rMv 11 ?_;refine rIa 12 ?_;refine rFa 13 ?_;refine rLd 14 ?_;refine rBi 15 ?_;refine rBi 16 ?_;refine rSl 17 ?_;refine rIa 18 ?_;refine rFa 19 ?_;refine rDone ?_)
   all_goals refine te_phase (fuel:=1) (m:=[true,true,true,true,true,true,true,true,true,true,true,true,true,true,true,true,true,true,true,true,false]) (Zt _ _ ([])) rfl rfl (Xq (hT:=tk) (Hp.le_refl _)) ?_
   all_goals (refine WL (i:=20) ?_;((try refine ZM ?_);(first|(refine qEf ?_;try intro _))<;>((try simp only[kA]);refine Yz ?_;refine Wn ?_)))
   all_goals refine rDone ?_
   all_goals rw[e9]
   all_goals (repeat' (first|refine zV ?_|intro _))
   have hsr:(⟨r.t,r.id,r.val,r.note.take 9⟩:Row)=shortR r:=rfl
   rw[hsr]
   rw[<-show Zq (.slice (some ⟨pb,0,none⟩) q c1) (((acc.set k (shortR r)).map Ym).flatten) sp1 171=[(pb,.cells ⟨((acc.set k (shortR r)).map Ym).flatten++sp1⟩ 171 (0,0))] from rfl]
   refine rnG (k+1,acc.set k (shortR r)) (⟨hlt,hset⟩)
  ·have hkq:k=q:=by omega
   have hfin:acc=RS.map shortR:=by rw[hacc,aT (by omega),List.drop_eq_nil_of_le (by omega),aN]
   have hal:acc.length=q:=by rw[hfin];simp;omega
   have hown1':OwnS (.slice a1 q c1) q ((acc.map Ym).flatten) sp1 4:=by
    have hL:((acc.map Ym).flatten).length=((RS.map Ym).flatten).length:=by rw[XG Ym 4 _ (λ x _=>rfl),XG Ym 4 _ (λ x _=>rfl),hal,hRl]
    rcases hown1.out with⟨h1,h2,h3,h4⟩|⟨b,cap,h1,h2,h3,h4⟩
    ·exact⟨.inl ⟨h1,h2,List.eq_nil_of_length_eq_zero (by rw[hL,h3];rfl),h4⟩⟩
    ·exact⟨.inr ⟨b,cap,h1,by rw[hL];exact h2,by rw[hL];exact h3,h4⟩⟩
   refine XL (Zq (.slice a1 q c1) ((acc.map Ym).flatten) sp1 171) (λ ρ1 hle1 hfz1=>?_)
   obtain⟨a3,c3,e3,hc3,hA3⟩:=hown1'.aIn hal (λ x _=>rfl) hfz1
   cases e3
   refine XL (Zq (.slice a2 m c2) ((KS.map Xj).flatten) sp2 227) (λ ρ2 hle2 hfz2=>?_)
   obtain⟨a4,c4,e4,hc4,hA4⟩:=hown2.aIn hk5.len (λ x _=>rfl) hfz2
   cases e4
   repeat' (first|refine zV ?_|intro _)
   exact qE (L':=[]) ⟨Hp.le_trans hle1 hle2,⟨a1,q,c1,a2,m,c2⟩,rfl,⟨by rw[<-hfin];exact hA3.mono hle2,hA4,by dsimp only;omega,by dsimp only;omega,hc3,hc4⟩,rfl⟩
theorem few16_spec (ρ:Hp)(v:RV)(r:Rc)(h:RcW ρ v r):Spec prog 43 [.agg ⟨Yu v r⟩] ρ []
  (λ z ρ' L'=>ρ.le ρ'/\∃v' r' s1 s2,z=.agg ⟨Yu v' r'⟩/\RcO ρ' v' r' s1 s2/\r'.plain=fewR r/\L'=[Zq (.slice v'.t.a v'.t.n v'.t.c) (r'.txns.map Yh).flatten s1 116,Zq (.slice v'.d.a v'.d.n v'.d.c) (r'.dirty.map YB).flatten s2 118]):=by
 obtain⟨hi,him,hs,ht,hd,hsf⟩:=h
 have hsl:=hs.at'.len
 have hsb:=hs.big
 have htl:=ht.at'.len
 have htb:=ht.big
 have hdl:=hd.at'.len
 have hdb:=hd.big
 have cs:=hs.cap
 have ct:=ht.cap
 have cd:=hd.cap
 obtain⟨ms,hms⟩:∃m,m=min v.s.n 3:=⟨_,rfl⟩
 obtain⟨mt,hmt⟩:∃m,m=min v.t.n 9:=⟨_,rfl⟩
 obtain⟨md,hmd⟩:∃m,m=min v.d.n 65:=⟨_,rfl⟩
 have hsm:(min (v.s.n:Int) 3).toNat=ms:=by omega
 have htm:(min (v.t.n:Int) 9).toNat=mt:=by omega
 have hdm:(min (v.d.n:Int) 65).toNat=md:=by omega
 have hS:=hs.at'.take (hi':=ms) (by omega)
 have hT:=ht.at'.take (hi':=mt) (by omega)
 have hD:=hd.at'.take (hi':=md) (by omega)
 rw[take_some 3 _ _ _ hsl hms] at hS
 rw[take_some 9 _ _ _ htl hmt] at hT
 rw[take_some 65 _ _ _ hdl hmd] at hD
 have hSf:∀s∈r.steps.take 3,Ys s.row:=λ s hh=>hsf s (List.mem_of_mem_take hh)
 have hil:=hi.at'.len
 have hib:=hi.big
 refine Zb func43 rfl rfl rfl λ u R=>?_
 simp only[Zc,kA]
 repeat' (first|refine zV ?_|intro _)
 rename_i b1 b2
 refine lpG (Nat×Hp×Value×(List Value)×(List Im)) [1,2,8,9] (λ z=>[(10,.int .i64 z.1),(3,z.2.2.1)]) (λ z=>z.2.1) (λ z=>[Zq z.2.2.1 ((z.2.2.2.2.map imV).flatten) z.2.2.2.1 180]) (λ z=>z.1<=v.i.n/\ρ.le z.2.1/\OwnS z.2.2.1 z.2.2.2.2.length ((z.2.2.2.2.map imV).flatten) z.2.2.2.1 7/\z.2.2.2.2.map Im.plain=(r.ims.take (min z.1 17)).map fewIm/\(∀x∈z.2.2.2.2,Im.In z.2.1 x)) (λ z=>v.i.n-z.1) (0,ρ,.slice none 0 0,[],[]) ⟨aZ _,Hp.le_refl _,OwnS.nil 7,by simp,by simp⟩ ?_
 rintro⟨k,ρ1,vv,sp,acc⟩ hI
 try simp only[kB] at hI ⊢
 try dsimp only at hI ⊢
 obtain⟨hk,hle1,hown,hacc,hin⟩:=hI
 have hal:acc.length=min k 17:=by have:=congrArg List.length hacc;simp at this;omega
 obtain⟨va,vc,rfl,_⟩:=hown.slice
 by_cases hlt:k<v.i.n
 ·obtain⟨b,off,C,T,fr,e1,hb,hfit,hc⟩:=(hi.at'.mono hle1).get (show k<r.ims.length by omega)
  have hts:=aG (show k<r.ims.length by omega)
  obtain⟨hxb,hxa⟩:=him _ (aM (show k<r.ims.length by omega))
  generalize r.ims[k]'(by omega)=x at *
  rw[e1]
  by_cases h16:k<=16
  ·have hcb:=content16_spec ρ1 x.bv x.b (hxb.mono hle1).few
   have hca:=λ ρ2 (hle:ρ1.le ρ2)=>content16_spec ρ2 x.av x.a (hxa.mono (Hp.le_trans hle1 hle)).few
   repeat' (first|refine zV ?_|intro _)
   refine tpA [0,1,2,3,4,6,7] (.e 5 [] (.e 8 [9] (.e 10 [] (.e 11 [] (.f [12] .o))))) ([[(_,.cells ⟨imV x⟩ 180 (0,0))]]) ?_
   repeat' (refine iT ?_;first|refine rAb ?_|(refine rE ?_<;>((first|(refine Za (.func 99) ?_;refine qC rfl rfl (hcb) ?_;rintro v ρ' L' hle ⟨hl2,w2,rfl,hC2,rfl⟩<;>(try simp only[kA]))|(refine Za (.func 99) ?_;refine qC rfl rfl (hca _ hl2) ?_;rintro v ρ' L' hle ⟨hl3,w3,rfl,hC3,rfl⟩<;>(try simp only[kA]))|(refine Zp (css:=[[.int .i64 x.page,.int .i64 x.b.kind,.slice w2.ra w2.rn w2.rc,.slice w2.ka w2.kn w2.kc,.int .i64 x.a.kind,.slice w3.ra w3.rn w3.rc,.slice w3.ka w3.kn w3.kc]]) (sz:=7) rfl rfl rfl rfl (by simp) (by simp) rfl (λ bs=>?_);simp only[aF,List.flatten_nil,aN])|(refine ZH (ys:=[.int .i64 x.page,.int .i64 x.b.kind,.slice w2.ra w2.rn w2.rc,.slice w2.ka w2.kn w2.kc,.int .i64 x.a.kind,.slice w3.ra w3.rn w3.rc,.slice w3.ka w3.kn w3.kc]) (m:=1) rfl rfl hown (hR:=by infer_instance) (SrcV.lit) rfl rfl (by decide) rfl (by omega) (by omega) rfl (λ v' sp' hown'=>?_))|(refine qEf ?_;try intro _))<;>(try simp only[kA])<;>refine zN ?_)))
   all_goals (
    have hy:∃y:Im,(⟨x.page,w2,fewC x.b,w3,fewC x.a⟩:Im)=y:=⟨_,rfl⟩
    obtain⟨y,hy⟩:=hy
    have hyp:y.plain=fewIm x:=by rw[<-hy];rfl
    have hyi:Im.In ρ' y:=by rw[<-hy];exact⟨(fewC_fit hxb hC2).mono hl3,fewC_fit hxa hC3⟩
    have hyl:[.int .i64 x.page,.int .i64 x.b.kind,.slice w2.ra w2.rn w2.rc,.slice w2.ka w2.kn w2.kc,.int .i64 x.a.kind,.slice w3.ra w3.rn w3.rc,.slice w3.ka w3.kn w3.kc]=imV y:=by rw[<-hy];rfl
    rw[hyl] at hown' ⊢
    have hm:(acc.map imV).flatten++imV y=((acc++[y]).map imV).flatten:=by simp
    rw[hm] at hown' ⊢
    have hac2:(acc++[y]).map Im.plain=(r.ims.take (min (k+1) 17)).map fewIm:=by
     rw[List.map_append,hacc,show min k 17=k by omega,show min (k+1) 17=k+1 by omega,hts]
     simp[hyp]
    have hin2:∀z∈acc++[y],Im.In ρ' z:=λ z hz=>by
     rcases List.mem_append.1 hz with hz|hz
     ·exact (hin z hz).mono (Hp.le_trans hl2 hl3)
     ·rw[List.mem_singleton.1 hz];exact hyi
    have hown2:OwnS v' (acc++[y]).length (((acc++[y]).map imV).flatten) sp' 7:=by simpa using hown'
    obtain⟨va',vc',rfl,_⟩:=hown2.slice
    skip)
   all_goals (repeat' (first|refine zV ?_|intro _))
   all_goals rw[<-e1]
   all_goals refine rnG (k+1,_,_,sp',acc++[y]) (⟨hlt,Hp.le_trans hle1 (Hp.le_trans hl2 hl3),hown2,hac2,hin2⟩)
  ·have hacc':acc.map Im.plain=(r.ims.take (min (k+1) 17)).map fewIm:=by rw[hacc,show min k 17=17 by omega,show min (k+1) 17=17 by omega]
   repeat' (first|refine zV ?_|intro _)
   rw[<-e1]
   refine rnG (k+1,ρ1,_,sp,acc) (⟨hlt,hle1,hown,hacc',hin⟩)
 ·have hk2:k=v.i.n:=by omega
  have hacc2:acc.map Im.plain=(r.ims.take 17).map fewIm:=by rw[hacc,take_some 17 r.ims v.i.n (min k 17) hil (by omega)]
  have hρ:=hle1
  have hSl:=hS.len
  have hTl:=hT.len
  have hDl:=hD.len
  unfold fewR
  generalize hSS:r.steps.take 3=SS at *
  generalize hTT:r.txns.take 9=TT at *
  generalize hDD:r.dirty.take 65=DD at *
  refine XL (Zq (.slice va acc.length vc) ((acc.map imV).flatten) sp 180) (λ ρ2 hle2 hfz=>?_)
  obtain⟨sa,sc,e1,hsc,hAI⟩:=hown.aIn rfl (λ x _=>imV_len x) hfz
  cases e1
  have hρ:=Hp.le_trans hρ hle2
  clear hfz
  repeat' (first|(simp only[hsm];refine ZH (n:=0) (xs:=[]) (sp:=[]) (ys:=(SS.map YJ).flatten) (m:=ms) (sz:=6) rfl rfl (OwnS.zero _ 6) (hR:=Zl) (AIn.srcV (hS.mono hρ)) (by rw[XG YJ 6 _ (λ x _=>rfl),hSl]) (flat_one YJ stpV_one _) (by decide) rfl (by omega) (by omega) rfl (λ v1 sp1 hown1=>?_);simp only[Nat.zero_add,List.nil_append] at hown1 ⊢;obtain⟨a1,c1,rfl,hlen1⟩:=hown1.len)|refine zV ?_|intro _)
  refine lpG (Nat×(List Stp)) [1,2,44] (λ z=>[(45,.int .i64 z.1)]) (λ z=>ρ2) (λ z=>[Zq (.slice a1 ms c1) (z.2.map YJ).flatten sp1 183,[(b1,.cells ⟨[.int .i64 r.kind,.int .u64 r.lsn,.int .i64 r.txn,.int .u64 r.prev,.int .u64 r.next,.slice va acc.length vc,.slice a1 ms c1,.int .i64 r.nextTxn,.slice v.t.a v.t.n v.t.c,.slice v.d.a v.d.n v.d.c]⟩ 47 (0,0))]]) (λ z=>z.1<=ms/\z.2=(SS.take z.1).map shortS++SS.drop z.1) (λ z=>ms-z.1) (0,SS) ⟨aZ _,by simp⟩ ?_
  rintro⟨j,accS⟩ hI
  try simp only[kB] at hI ⊢
  try dsimp only at hI ⊢
  obtain⟨hj0,haccS⟩:=hI
  have halS:accS.length=ms:=by rw[haccS];simp;omega
  by_cases hlj:j<ms
  ·obtain⟨pb,pc,e1⟩:=hown1.pos (by omega)
   cases e1
   have hkR:j<SS.length:=by omega
   have hkv:=get_stepG shortS SS j hkR
   have hset:=set_stepG shortS SS j hkR
   rw[<-haccS] at hkv
   rw[<-haccS] at hset
   generalize SS[j]'hkR=x at *
   have hld:=stp_get (sp:=sp1) accS j x hkv
   haveI hst:=stp_setL (sp:=sp1) (x.row.note.take (min (x.row.note.length:Int) 9).toNat) hkv
   have e9:=take_min9 x.row.note
   repeat' (first|refine zV ?_|intro _)
   rw[show Zq (.slice (some ⟨pb,0,none⟩) ms c1) ((accS.map YJ).flatten) sp1 183=[(pb,.cells ⟨(accS.map YJ).flatten++sp1⟩ 183 (0,0))] from rfl]
   refine tc_phase 23 (Zt _ _ ([[(pb,.cells ⟨(accS.map YJ).flatten++sp1⟩ 183 (0,0))],[(b1,.cells ⟨[.int .i64 r.kind,.int .u64 r.lsn,.int .i64 r.txn,.int .u64 r.prev,.int .u64 r.next,.slice va acc.length vc,.slice (some ⟨pb,0,none⟩) ms c1,.int .i64 r.nextTxn,.slice v.t.a v.t.n v.t.c,.slice v.d.a v.d.n v.d.c]⟩ 47 (0,0))]])) (by decide +kernel) (Xq (hT:=tk) (Hp.le_refl _)) ?_
   simp only[List.take_succ_cons,List.take_zero]
   all_goals (refine rFa 0 ?_;refine rLd 1 ?_;refine rMv 2 ?_;refine rFa 3 ?_;refine rLd 4 ?_;refine rMv 5 ?_;refine rIa 6 ?_;refine rFa 7 ?_;refine rFa 8 ?_;refine rLd 9 ?_;refine rFa 10 ?_;refine rLd 11 ?_;refine rMv 12 ?_;refine rIa 13 ?_;refine rFa 14 ?_;refine rFa 15 ?_;refine rLd 16 ?_;refine rBi 17 ?_;refine rBi 18 ?_;refine rSl 19 ?_;refine rIa 20 ?_;refine rFa 21 ?_;refine rFa 22 ?_;refine rDone ?_)
   all_goals refine te_phase (fuel:=1) (m:=[true,true,true,true,true,true,true,true,true,true,true,true,true,true,true,true,true,true,true,true,true,true,true,false]) (Zt _ _ ([])) rfl rfl (Xq (hT:=tk) (Hp.le_refl _)) ?_
   all_goals (refine WL (i:=23) ?_;((try refine ZM ?_);(first|(refine qEf ?_;try intro _))<;>((try simp only[kA]);refine Yz ?_;refine Wn ?_)))
   all_goals refine rDone ?_
   all_goals rw[e9]
   all_goals (repeat' (first|refine zV ?_|intro _))
   have hsr:noteS x (x.row.note.take 9)=shortS x:=rfl
   rw[hsr]
   rw[<-show Zq (.slice (some ⟨pb,0,none⟩) ms c1) (((accS.set j (shortS x)).map YJ).flatten) sp1 183=[(pb,.cells ⟨((accS.set j (shortS x)).map YJ).flatten++sp1⟩ 183 (0,0))] from rfl]
   refine rnG (j+1,accS.set j (shortS x)) (⟨hlj,hset⟩)
  ·have hfin:accS=SS.map shortS:=by rw[haccS,aT (by omega),List.drop_eq_nil_of_le (by omega),aN]
   have hown1':OwnS (.slice a1 ms c1) ms ((accS.map YJ).flatten) sp1 6:=by
    have hL:((accS.map YJ).flatten).length=((SS.map YJ).flatten).length:=by rw[XG YJ 6 _ (λ x _=>rfl),XG YJ 6 _ (λ x _=>rfl),halS,hSl]
    rcases hown1.out with⟨h1,h2,h3,h4⟩|⟨b,cap,h1,h2,h3,h4⟩
    ·exact⟨.inl ⟨h1,h2,List.eq_nil_of_length_eq_zero (by rw[hL,h3];rfl),h4⟩⟩
    ·exact⟨.inr ⟨b,cap,h1,by rw[hL];exact h2,by rw[hL];exact h3,h4⟩⟩
   refine XL (Zq (.slice a1 ms c1) ((accS.map YJ).flatten) sp1 183) (λ ρ3 hle3 hfz=>?_)
   obtain⟨sa3,sc3,e3,hsc3,hAS⟩:=hown1'.aIn halS (λ x _=>stpV_len x) hfz
   cases e3
   have hρ:=Hp.le_trans hρ hle3
   clear hfz
   repeat' (first|(simp only[htm];refine ZH (n:=0) (xs:=[]) (sp:=[]) (ys:=(TT.map Yh).flatten) (m:=mt) (sz:=5) rfl rfl (OwnS.zero _ 5) (hR:=Zl) (AIn.srcV (hT.mono hρ)) (by rw[XG Yh 5 _ (λ x _=>rfl),hTl]) (flat_one Yh ckTV_one _) (by decide) rfl (by omega) (by omega) rfl (λ v4 sp4 hown4=>?_);simp only[Nat.zero_add,List.nil_append] at hown4 ⊢;obtain⟨a4,c4,rfl,hlen4⟩:=hown4.len)|(simp only[hdm];refine ZH (n:=0) (xs:=[]) (sp:=[]) (ys:=(DD.map YB).flatten) (m:=md) (sz:=2) rfl rfl (OwnS.zero _ 2) (hR:=Zl) (AIn.srcV (hD.mono hρ)) (by rw[XG YB 2 _ (λ x _=>rfl),hDl]) (flat_one YB ckPV_one _) (by decide) rfl (by omega) (by omega) rfl (λ v5 sp5 hown5=>?_);simp only[Nat.zero_add,List.nil_append] at hown5 ⊢;obtain⟨a5,c5,rfl,hlen5⟩:=hown5.len)|refine zV ?_|intro _)
   exact qE (L':=[Zq (.slice a4 mt c4) (TT.map Yh).flatten sp4 116,Zq (.slice a5 md c5) (DD.map YB).flatten sp5 118]) ⟨hρ,⟨⟨va,acc.length,vc⟩,⟨a1,ms,c1⟩,⟨a4,mt,c4⟩,⟨a5,md,c5⟩⟩,{ r with ims:=acc,steps:=accS,txns:=TT,dirty:=DD },sp4,sp5,rfl,⟨⟨hAI.mono hle3,by dsimp only;omega,hsc⟩,λ x hx=>(hin x hx).mono (Hp.le_trans hle2 hle3),⟨hAS,by dsimp only;omega,hsc3⟩,by dsimp only;rw[hTl];exact hown4,by dsimp only;rw[hDl];exact hown5,hTl.symm,hDl.symm,by dsimp only;omega,by dsimp only;omega,by rw[hfin];intro s hs2;obtain⟨y,hy,rfl⟩:=List.mem_map.1 hs2;exact⟨(hSf y hy).id,(hSf y hy).val⟩⟩,by rw[hfin,<-hacc2],rfl⟩
theorem rcF_of {ρ:Hp}{v:RV}{r:Rc}(h:RcIn ρ v r)(hs:∀s∈r.steps,StpF s):RcF r:=⟨λ x hx=>⟨⟨(h.im x hx).b.row,(h.im x hx).b.kid⟩,⟨(h.im x hx).a.row,(h.im x hx).a.kid⟩⟩,hs⟩
theorem few_stp {r r':Rc}(hp:r'.plain=fewR r)(hs:∀s∈r.steps,StpF s):∀s∈r'.steps,StpF s:=by
 have e:r'.steps=(r.steps.take 3).map shortS:=by have:=congrArg Rc.steps hp;exact this
 rw[e]
 intro s hh
 obtain⟨y,hy,rfl⟩:=List.mem_map.1 hh
 have f:=hs y (List.mem_of_mem_take hy)
 exact⟨⟨f.row.id,f.row.val⟩,f.by'⟩
structure Op16 where
 kind:Int
 n:Int
 res:Int
 txn:Int
 to:Nat
 ma:Nat
 near:Bool
 rv:RV
 rc:Rc
 kv:SV
abbrev WD (o:Op16):List Value:=[.int .i64 o.kind,.int .i64 o.n,.int .i64 o.res,.int .i64 o.txn,.int .u64 o.to,.int .u64 o.ma,.bool o.near,.int .i64 o.rc.kind,.int .u64 o.rc.lsn,.int .i64 o.rc.txn,.int .u64 o.rc.prev,.int .u64 o.rc.next,.slice o.rv.i.a o.rv.i.n o.rv.i.c,.slice o.rv.s.a o.rv.s.n o.rv.s.c,.int .i64 o.rc.nextTxn,.slice o.rv.t.a o.rv.t.n o.rv.t.c,.slice o.rv.d.a o.rv.d.n o.rv.d.c,.slice o.kv.a o.kv.n o.kv.c]
theorem OwnS.put {v:Value}{n sz:Nat}{xs ys sp:List Value}(h:OwnS v n xs sp sz)(hl:ys.length=xs.length):OwnS v n ys sp sz:=by
 rcases h.out with⟨h1,h2,h3,h4⟩|⟨b,cap,h1,h2,h3,h4⟩
 ·exact⟨.inl ⟨h1,h2,List.eq_nil_of_length_eq_zero (by rw[hl,h3];rfl),h4⟩⟩
 ·exact⟨.inr ⟨b,cap,h1,by rw[hl];exact h2,by rw[hl];exact h3,h4⟩⟩
theorem wrap_nn (x:Int):0<=IntKind.u64.wrap x:=by
 unfold IntKind.wrap
 exact Int.emod_nonneg x (by decide)
abbrev zrL:List Value:=[.int .i64 0,.int .u64 0,.int .i64 0,.int .u64 0,.int .u64 0,.slice none 0 0,.slice none 0 0,.int .i64 0,.slice none 0 0,.slice none 0 0]
theorem op16_rec (ρ:Hp)(o:Op16)(next:Nat)(hn:next<4000000000000)(hr:RcW ρ o.rv o.rc)(hst:∀s∈o.rc.steps,StpF s) :
  Spec prog 11 [.agg ⟨WD o⟩,.int .u64 (next:Nat)] ρ [] (λ z ρ' L'=>(ρ.le ρ'/\∃v' r',z=.agg ⟨Yu v' r'⟩/\RcIn ρ' v' r'/\RcF r')/\L'=[]):=by
 obtain⟨kind,n,res,txn,to,ma,near,rv,rc,kv⟩:=o
 dsimp only at hr hst
 refine Zb func11 rfl rfl rfl λ u R=>?_
 simp only[Zc,kA,WD]
 repeat' (first|(refine Za (.func 43) ?_;refine qC rfl rfl (few16_spec _ rv rc hr) ?_;rintro z ρ1 L1 hle1 ⟨hl1,⟨⟨ia,im,ic⟩,⟨sa,sn,sc⟩,⟨ta,tn,tc⟩,⟨da,dn,dc⟩⟩,r1,s1,s2,rfl,hF,hpl,rfl⟩;simp only[kA])|refine zW ?_|intro _)
 rename_i b2 b4 b5
 obtain⟨hFi,hFm,hFs,hFt,hFd,htn,hdn,htb,hdb,hsf⟩:=hF
 dsimp only at *
 subst htn hdn
 have hst1:=few_stp hpl hst
 clear hpl
 have fin:∀(p q a:Nat) (T:List CkT) (D:List CkP) {ρ2 ρ3:Hp},ρ1.le ρ2->ρ2.le ρ3->T.length=r1.txns.length->D.length=r1.dirty.length->(∀x∈Zq (.slice ta r1.txns.length tc) (T.map Yh).flatten s1 116,ρ2 x.1=some x.2)->(∀x∈Zq (.slice da r1.dirty.length dc) (D.map YB).flatten s2 118,ρ3 x.1=some x.2)->RcIn ρ3 ⟨⟨ia,im,ic⟩,⟨sa,sn,sc⟩,⟨ta,r1.txns.length,tc⟩,⟨da,r1.dirty.length,dc⟩⟩ ⟨r1.kind,a,r1.txn,p,q,r1.ims,r1.steps,r1.nextTxn,T,D⟩:=by
  intro p q a T D ρ2 ρ3 h2 h3 hT hD z2 z3
  have hFt2:=hFt.put (ys:=(T.map Yh).flatten) (by rw[flatN_len ckTV_len,flatN_len ckTV_len,hT])
  have hFd2:=hFd.put (ys:=(D.map YB).flatten) (by rw[flatN_len ckPV_len,flatN_len ckPV_len,hD])
  obtain⟨ta',tc',te,htc,hA⟩:=hFt2.aIn hT (λ _ _=>rfl) z2
  obtain⟨da',dc',de,hdc,hA2⟩:=hFd2.aIn hD (λ _ _=>rfl) z3
  cases te
  cases de
  have h13:=Hp.le_trans h2 h3
  exact⟨hFi.mono h13,λ x hx=>(hFm x hx).mono h13,hFs.mono h13,⟨hA.mono h3,by dsimp only;omega,htc⟩,⟨hA2,by dsimp only;omega,hdc⟩,hsf⟩
 cases near
 ·repeat' (first|refine zW ?_|intro _)
  refine ZB (Zq (.slice ta r1.txns.length tc) (r1.txns.map Yh).flatten s1 116) (λ ρ2 hl2 hz2=>?_)
  refine ZB (Zq (.slice da r1.dirty.length dc) (r1.dirty.map YB).flatten s2 118) (λ ρ3 hl3 hz3=>?_)
  exact qE (L':=[]) ⟨⟨Hp.le_trans hl1 (Hp.le_trans hl2 hl3),_,r1,rfl,fin r1.prev r1.next r1.lsn r1.txns r1.dirty hl2 hl3 rfl rfl hz2 hz3,rcF_of (fin r1.prev r1.next r1.lsn r1.txns r1.dirty hl2 hl3 rfl rfl hz2 hz3) hst1⟩,rfl⟩
 ·refine qCt ?_
  refine tc_seq ?_
  refine ctG Int R [] (λ z=>[(1,.int .u64 (next:Nat)),(4,.pointer (some ⟨b4,0,none⟩)),(5,.pointer (some ⟨b5,0,none⟩))]) (λ z=>ρ1) (λ z=>[[(b4,.cells ⟨zrL⟩ 47 (0,0))],[(b5,.cells ⟨[.int .i64 r1.kind,.int .u64 next,.int .i64 r1.txn,.int .u64 z,.int .u64 r1.next,.slice ia im ic,.slice sa sn sc,.int .i64 r1.nextTxn,.slice ta r1.txns.length tc,.slice da r1.dirty.length dc]⟩ 47 (0,0))],Zq (.slice ta r1.txns.length tc) ((r1.txns.map Yh).flatten) s1 116,Zq (.slice da r1.dirty.length dc) ((r1.dirty.map YB).flatten) s2 118]) (λ z=>0<=z) ?_ ?_
  ·repeat' (first|refine zW ?_|intro _)
   refine jnG (_) (Int.natCast_nonneg _)
  intro P hP
  simp only[kA]
  refine tc_seq ?_
  refine ctG Int R [] (λ z=>[(1,.int .u64 (next:Nat)),(4,.pointer (some ⟨b4,0,none⟩)),(5,.pointer (some ⟨b5,0,none⟩))]) (λ z=>ρ1) (λ z=>[[(b4,.cells ⟨zrL⟩ 47 (0,0))],[(b5,.cells ⟨[.int .i64 r1.kind,.int .u64 next,.int .i64 r1.txn,.int .u64 z,.int .u64 r1.next,.slice ia im ic,.slice sa sn sc,.int .i64 r1.nextTxn,.slice ta r1.txns.length tc,.slice da r1.dirty.length dc]⟩ 47 (0,0))],Zq (.slice ta r1.txns.length tc) ((r1.txns.map Yh).flatten) s1 116,Zq (.slice da r1.dirty.length dc) ((r1.dirty.map YB).flatten) s2 118]) (λ z=>0<=z) ?_ ?_
  ·repeat' (first|refine zW ?_|(refine zG (λ hb=>?_) (λ hb=>?_)<;>(try simp only[kH] at hb))|intro _)
   all_goals first|refine te_cut_g P hP ev_le ev_le rfl tk inferInstance|refine te_cut_g _ (wrap_nn (1+P.tmod ((next:Int)-1))) ev_le ev_le rfl tk inferInstance
  clear hP P
  intro P hP
  simp only[kA]
  refine tc_seq ?_
  refine ctG Int R [] (λ z=>[(1,.int .u64 (next:Nat)),(4,.pointer (some ⟨b4,0,none⟩)),(5,.pointer (some ⟨b5,0,none⟩))]) (λ z=>ρ1) (λ z=>[[(b4,.cells ⟨zrL⟩ 47 (0,0))],[(b5,.cells ⟨[.int .i64 r1.kind,.int .u64 next,.int .i64 r1.txn,.int .u64 P,.int .u64 z,.slice ia im ic,.slice sa sn sc,.int .i64 r1.nextTxn,.slice ta r1.txns.length tc,.slice da r1.dirty.length dc]⟩ 47 (0,0))],Zq (.slice ta r1.txns.length tc) ((r1.txns.map Yh).flatten) s1 116,Zq (.slice da r1.dirty.length dc) ((r1.dirty.map YB).flatten) s2 118]) (λ z=>0<=z) ?_ ?_
  ·repeat' (first|refine zW ?_|(refine zG (λ hb=>?_) (λ hb=>?_)<;>(try simp only[kH] at hb))|intro _)
   all_goals first|refine te_cut_g _ (Int.natCast_nonneg r1.next) ev_le ev_le rfl tk inferInstance|refine te_cut_g _ (Int.tmod_nonneg P (Int.natCast_nonneg r1.next)) ev_le ev_le rfl tk inferInstance
  intro Q hQ
  simp only[kA]
  obtain⟨p,rfl⟩:=Int.eq_ofNat_of_zero_le hP
  obtain⟨q,rfl⟩:=Int.eq_ofNat_of_zero_le hQ
  repeat' (first|refine zW ?_|intro _)
  refine lpG (Nat×(List CkT)) [4,5,45] (λ z=>[(46,.int .i64 z.1)]) (λ z=>ρ1) (λ z=>[[(b4,.cells ⟨zrL⟩ 47 (0,0))],[(b5,.cells ⟨[.int .i64 r1.kind,.int .u64 next,.int .i64 r1.txn,.int .u64 p,.int .u64 q,.slice ia im ic,.slice sa sn sc,.int .i64 r1.nextTxn,.slice ta r1.txns.length tc,.slice da r1.dirty.length dc]⟩ 47 (0,0))],Zq (.slice ta r1.txns.length tc) ((z.2.map Yh).flatten++((r1.txns.drop z.1).map Yh).flatten) s1 116,Zq (.slice da r1.dirty.length dc) ((r1.dirty.map YB).flatten) s2 118]) (λ z=>z.1<=r1.txns.length/\z.2.length=z.1) (λ z=>r1.txns.length-z.1) (0,[]) ⟨aZ _,rfl⟩ ?_
  rintro⟨j,A⟩ hI
  try simp only[kB] at hI ⊢
  try dsimp only at hI ⊢
  obtain⟨hj,hAl⟩:=hI
  by_cases hlt:j<r1.txns.length
  ·rcases hFt.out with⟨_,e2,_,_⟩|⟨pb,cap2,e2,_,_,_⟩
   ·omega
   cases e2
   have hx:=List.drop_eq_getElem_cons hlt
   generalize r1.txns[j]=y at *
   obtain⟨y0,y1,y2,y3,y4⟩:=y
   have hPl:((A.map Yh).flatten).length=0+j*5:=by rw[flatN_len ckTV_len,hAl];omega
   have hSe:∀c:Nat,[(pb,Obj.cells ⟨(A.map Yh).flatten++(.int .i64 y0::.int .u64 1::.int .u64 1::.int .u64 c::.int .i64 y4::(((r1.txns.drop (j+1)).map Yh).flatten++s1))⟩ 116 (0,0))]=Zq (.slice (some ⟨pb,0,none⟩) r1.txns.length tc) (((A++[(⟨y0,1,1,c,y4⟩:CkT)]).map Yh).flatten++((r1.txns.drop (j+1)).map Yh).flatten) s1 116:=by
    intro c
    show _=[(pb,Obj.cells ⟨(((A++[(⟨y0,1,1,c,y4⟩:CkT)]).map Yh).flatten++_)++s1⟩ 116 (0,0))]
    simp only[List.map_append,List.map_cons,List.map_nil,List.flatten_append,aF,List.flatten_nil,aN,aA,kA]
    rfl
   have hS0:Zq (.slice (some ⟨pb,0,none⟩) r1.txns.length tc) ((A.map Yh).flatten++((r1.txns.drop j).map Yh).flatten) s1 116=[(pb,Obj.cells ⟨(A.map Yh).flatten++(.int .i64 y0::.int .u64 y1::.int .u64 y2::.int .u64 y3::.int .i64 y4::(((r1.txns.drop (j+1)).map Yh).flatten++s1))⟩ 116 (0,0))]:=by
    rw[hx]
    show [(pb,Obj.cells ⟨_++s1⟩ 116 (0,0))]=_
    simp only[List.map_cons,aF,aA,kA]
   rw[hS0]
   have hg3:((A.map Yh).flatten++(.int .i64 y0::.int .u64 y1::.int .u64 y2::.int .u64 y3::.int .i64 y4::(((r1.txns.drop (j+1)).map Yh).flatten++s1)))[0+j*5+3]?=some (.int .u64 y3):=q_get hPl rfl
   have hmn:min (y3:Int) 1=((min y3 1:Nat):Int):=by omega
   repeat' (first|refine zW ?_|intro _)
   refine tpA [0,1,2,3,4,5,6,7,8,9,10,11,12,13] (.e 14 [15,16,17] (.e 18 [19,20] (.e 21 [22,23] (.e 24 [] .o)))) ([[(b5,.cells ⟨[.int .i64 r1.kind,.int .u64 next,.int .i64 r1.txn,.int .u64 p,.int .u64 q,.slice ia im ic,.slice sa sn sc,.int .i64 r1.nextTxn,.slice (some ⟨pb,0,none⟩) r1.txns.length tc,.slice da r1.dirty.length dc]⟩ 47 (0,0))]]) ?_
   repeat' (refine iT ?_;first|refine rA ?_|(refine rE ?_<;>((first|(refine tl_store_q (o:=0+j*5) (d:=1) (P:=(A.map Yh).flatten) rfl rfl hPl rfl ?_)|(refine tl_store_q (o:=0+j*5) (d:=2) (P:=(A.map Yh).flatten) rfl rfl hPl rfl ?_)|(refine tl_store_q (o:=0+j*5) (d:=3) (P:=(A.map Yh).flatten) rfl rfl hPl rfl ?_)|(refine i_qq ?_;refine qQ ?_)|refine qEf ?_)<;>(try simp only[kA])<;>refine zN ?_)))
   all_goals (repeat' (first|refine zW ?_|intro _))
   rw[hmn,hSe]
   refine rnG (j+1,A++[⟨y0,1,1,min y3 1,y4⟩]) (⟨hlt,by rw[aL,hAl];rfl⟩)
  have hjl:j=r1.txns.length:=by omega
  rw[hjl,List.drop_length,List.map_nil,List.flatten_nil,aN]
  repeat' (first|refine zW ?_|intro _)
  refine lpG (Nat×(List CkP)) [4,5,74] (λ z=>[(75,.int .i64 z.1)]) (λ z=>ρ1) (λ z=>[[(b4,.cells ⟨zrL⟩ 47 (0,0))],[(b5,.cells ⟨[.int .i64 r1.kind,.int .u64 next,.int .i64 r1.txn,.int .u64 p,.int .u64 q,.slice ia im ic,.slice sa sn sc,.int .i64 r1.nextTxn,.slice ta r1.txns.length tc,.slice da r1.dirty.length dc]⟩ 47 (0,0))],Zq (.slice ta r1.txns.length tc) ((A.map Yh).flatten) s1 116,Zq (.slice da r1.dirty.length dc) ((z.2.map YB).flatten++((r1.dirty.drop z.1).map YB).flatten) s2 118]) (λ z=>z.1<=r1.dirty.length/\z.2.length=z.1) (λ z=>r1.dirty.length-z.1) (0,[]) ⟨aZ _,rfl⟩ ?_
  rintro⟨i,B⟩ hI
  try simp only[kB] at hI ⊢
  try dsimp only at hI ⊢
  obtain⟨hi,hBl⟩:=hI
  by_cases hlt2:i<r1.dirty.length
  ·rcases hFd.out with⟨_,e2,_,_⟩|⟨pb,cap2,e2,_,_,_⟩
   ·omega
   cases e2
   have hx:=List.drop_eq_getElem_cons hlt2
   generalize r1.dirty[i]=y at *
   obtain⟨y0,y1⟩:=y
   have hPl:((B.map YB).flatten).length=0+i*2:=by rw[flatN_len ckPV_len,hBl];omega
   have hSe:[(pb,Obj.cells ⟨(B.map YB).flatten++(.int .i64 y0::.int .u64 1::(((r1.dirty.drop (i+1)).map YB).flatten++s2))⟩ 118 (0,0))]=Zq (.slice (some ⟨pb,0,none⟩) r1.dirty.length dc) (((B++[(⟨y0,1⟩:CkP)]).map YB).flatten++((r1.dirty.drop (i+1)).map YB).flatten) s2 118:=by
    show _=[(pb,Obj.cells ⟨(((B++[(⟨y0,1⟩:CkP)]).map YB).flatten++_)++s2⟩ 118 (0,0))]
    simp only[List.map_append,List.map_cons,List.map_nil,List.flatten_append,aF,List.flatten_nil,aN,aA,kA]
    rfl
   have hS0:Zq (.slice (some ⟨pb,0,none⟩) r1.dirty.length dc) ((B.map YB).flatten++((r1.dirty.drop i).map YB).flatten) s2 118=[(pb,Obj.cells ⟨(B.map YB).flatten++(.int .i64 y0::.int .u64 y1::(((r1.dirty.drop (i+1)).map YB).flatten++s2))⟩ 118 (0,0))]:=by
    rw[hx]
    show [(pb,Obj.cells ⟨_++s2⟩ 118 (0,0))]=_
    simp only[List.map_cons,aF,aA,kA]
   rw[hS0]
   repeat' (first|(refine tl_store_q (o:=0+i*2) (d:=1) (P:=(B.map YB).flatten) rfl rfl hPl rfl ?_)|refine zW ?_|intro _)
   rw[hSe]
   refine rnG (i+1,B++[⟨y0,1⟩]) (⟨hlt2,by rw[aL,hBl];rfl⟩)
  have hil:i=r1.dirty.length:=by omega
  rw[hil,List.drop_length,List.map_nil,List.flatten_nil,aN]
  repeat' (first|refine zW ?_|intro _)
  refine ZB (Zq (.slice ta r1.txns.length tc) (A.map Yh).flatten s1 116) (λ ρ2 hl2 hz2=>?_)
  refine ZB (Zq (.slice da r1.dirty.length dc) (B.map YB).flatten s2 118) (λ ρ3 hl3 hz3=>?_)
  exact qE (L':=[]) ⟨⟨Hp.le_trans hl1 (Hp.le_trans hl2 hl3),⟨⟨ia,im,ic⟩,⟨sa,sn,sc⟩,⟨ta,r1.txns.length,tc⟩,⟨da,r1.dirty.length,dc⟩⟩,⟨r1.kind,next,r1.txn,p,q,r1.ims,r1.steps,r1.nextTxn,A,B⟩,rfl,fin p q next A B hl2 hl3 (by omega) (by omega) hz2 hz3,rcF_of (fin p q next A B hl2 hl3 (by omega) (by omega) hz2 hz3) hst1⟩,rfl⟩
theorem base16_spec (ρ:Hp)(lb rb:Nat)(S:LgS)(v:Value) :
  Spec prog 68 [.pointer (some ⟨lb,0,none⟩)] ρ [ZU lb rb S v] (λ z ρ' L'=>z=.int .u64 (S.base:Nat)/\ρ'=ρ/\L'=[ZU lb rb S v]):=by
 refine Zb func68 rfl rfl rfl λ u R=>?_
 simp only[Zc,kA]
 repeat' (first|refine zW ?_|intro _)
 exact qE (L':=[ZU lb rb S v]) ⟨rfl,rfl,rfl⟩
theorem ntxn16_spec (ρ:Hp)(lb rb:Nat)(S:LgS)(v:Value) :
  Spec prog 70 [.pointer (some ⟨lb,0,none⟩)] ρ [ZU lb rb S v] (λ z ρ' L'=>z=.int .i64 S.nx/\ρ'=ρ/\L'=[ZU lb rb S v]):=by
 refine Zb func70 rfl rfl rfl λ u R=>?_
 simp only[Zc,kA]
 repeat' (first|refine zW ?_|intro _)
 exact qE (L':=[ZU lb rb S v]) ⟨rfl,rfl,rfl⟩
abbrev plL (l:List RR):List Rc:=l.map (λ x=>x.2.plain)
theorem costN_plain (r:Rc):Xh r.plain=Xh r:=by unfold Xh;rw[Vh,recB_plain]
theorem usedR_plain {l m:List RR}(h:plL l=plL m):ZI l=ZI m:=by
 have e:∀l:List RR,ZI l=((plL l).map Xh).sum:=λ l=>by
  unfold ZI plL
  rw[List.map_map]
  congr 1
  exact List.map_congr_left λ x _=>(costN_plain x.2).symm
 rw[e,e,h]
theorem plL_at {l m:List RR}(h:plL l=plL m){k:Nat}(hl:k<l.length)(hm:k<m.length):(l[k]).2.plain=(m[k]).2.plain:=by
 have g1:(plL l)[k]?=some (l[k]).2.plain:=by simp[plL,hl]
 have g2:(plL m)[k]?=some (m[k]).2.plain:=by simp[plL,hm]
 rw[h,g2] at g1
 exact (Option.some.inj g1).symm
theorem refnum16_spec (ρ:Hp)(a:Option Addr)(n c:Nat)(l:Bs)(h:SIn ρ Zk a n l)(hn:n<=8) :
  Spec prog 134 [.slice a n c] ρ [] (λ v ρ' L'=>v=.int .u64 (ZV l:Nat)/\ρ'=ρ/\L'=[]):=by
 have hl:=h.len
 refine Zb func134 rfl rfl rfl λ u R=>?_
 simp only[Zc,kA]
 repeat' (first|refine zV ?_|intro _)
 refine lpG (Nat×Nat) [2,6,7] (λ y=>[(8,.int .i64 y.1),(3,.int .u64 (y.2:Nat))]) (λ y=>ρ) (λ y=>[]) (λ y=>y.1<=n/\y.2=ZV (l.take y.1)) (λ y=>n-y.1) (0,0) ⟨aZ _,rfl⟩ ?_
 rintro⟨k,z⟩ hI
 try simp only[kB] at hI ⊢
 try dsimp only at hI ⊢
 obtain⟨hk,hz⟩:=hI
 by_cases hlt:k<n
 ·obtain⟨b,off,C,T,fr,rfl,hb,hc⟩:=h.get (show k<l.length by omega)
  have hzl:=unbe_take_lt l k (by omega) (by omega)
  rw[<-hz] at hzl
  have hs:=Vx l k (by omega)
  have hbt:l[k].toNat<256:=l[k].toNat_lt
  generalize l[k]=b8 at *
  simp only[Zk] at hc
  repeat' (first|refine zV ?_|intro _)
  have e:(z:Int)*256+(b8.toNat:Int)=((z*256+b8.toNat:Nat):Int):=by omega
  rw[e]
  refine rnG (k+1,z*256+b8.toNat) (⟨hlt,by dsimp only;rw[hs,hz]⟩)
 ·have hk2:k=n:=by omega
  subst hk2
  rw[aT (by omega)] at hz
  subst hz
  repeat' (first|refine zV ?_|intro _)
  exact qE ⟨rfl,rfl,rfl⟩
abbrev zML:List Value:=[.int .u64 0,.int .u64 0,.int .u64 0,.int .i64 0,.slice none 0 0]
abbrev mlV (ba ma fl:Nat)(nx:Nat)(v:Value):List Value:=[.int .u64 ba,.int .u64 ma,.int .u64 fl,.int .i64 nx,v]
theorem next_ref16 (ρ:Hp)(ba ma fl nx:Nat)(a:Option Addr)(n c:Nat)(hb:ba+n<18446744073709551616) :
  Spec prog 12 [.agg ⟨mlV ba ma fl nx (.slice a n c)⟩] ρ [] (λ v ρ' L'=>v=.int .u64 (ba+n:Nat)/\ρ'=ρ/\L'=[]):=by
 refine Zb func12 rfl rfl rfl λ u R=>?_
 simp only[Zc,kA]
 repeat' (first|refine zV ?_|intro _)
 rw[show ((ba:Nat):Int)+((n:Nat):Int)=((ba+n:Nat):Int) by omega]
 exact qE ⟨rfl,rfl,rfl⟩
def LgOk (first:Nat)(note:Bs)(ents:List Bs)(ma nx:Nat):Prop:=noteR note=some (ma,nx)/\EntsOk first ents/\ma<first+ents.length
theorem noteR_len {b:Bs}{ma nx:Nat}(h:noteR b=some (ma,nx)):(b.length=0/\ma=0/\nx=1)\/(b.length=12/\1<=nx/\nx<=1073741824/\ma=ZV (b.take 8)/\nx=ZV (b.drop 8)):=by
 unfold noteR at h
 split at h
 ·rename_i e;cases h;exact .inl ⟨e,rfl,rfl⟩
 ·split at h
  ·rename_i e2
   split at h
   ·rename_i e3;cases h;exact .inr ⟨e2,e3.1,e3.2,rfl,rfl⟩
   ·cases h
  ·cases h
structure ElsI (ρ:Hp)(ea:Option Addr)(en:Nat)(els:List BSl):Prop where
 at':SIn ρ slv ea en els
 bin:∀e∈els,BIn ρ e
 long:∀e∈els,e.l.length<=8000
 few:en<=1000
theorem note_lt {b:Bs}(h:b.length=12):ZV (b.take 8)<18446744073709551616/\ZV (b.drop 8)<4294967296:=by
 have h1:=Xy (b.take 8)
 have h2:=Xy (b.drop 8)
 rw[List.length_take,show min 8 b.length=8 by omega] at h1
 rw[List.length_drop,h] at h2
 exact⟨by simpa using h1,by simpa using h2⟩
theorem read16_note (ρ:Hp)(first:Nat)(a:Option Addr)(n c:Nat)(b:Bs)(h:SIn ρ Zk a n b)(hc:n<=c)(ea:Option Addr)(en ec:Nat)(els:List BSl)(hE:ElsI ρ ea en els)(hf:1<=first/\first<=1099511627776)(ma nx:Nat)(hno:noteR b=some (ma,nx)) :
  Spec prog 67 [.int .u64 first,.slice a n c,.slice ea en ec] ρ [] (λ z ρ' L'=>ρ.le ρ'/\L'=[]/\((EntsOk first (els.map BSl.l)/\ma<first+en/\∃ra rc l,z=.tuple ⟨[.agg ⟨mlV first ma (first+en-1) nx (.slice ra en rc)⟩,.bool true]⟩/\en<=rc/\AIn ρ' 10 rrV ra en l/\(∀x∈l,RcIn ρ' x.1 x.2)/\plL l=(els.map BSl.l).map XD) \/
   ((EntsOk first (els.map BSl.l)->first+en<=ma)/\z=.tuple ⟨[.agg ⟨zML⟩,.bool false]⟩))):=by
 have hbl:=h.len
 have hel:=hE.at'.len
 have hfw:=hE.few
 have hnl:=noteR_len hno
 clear hno
 obtain⟨ents,hents⟩:∃ents,ents=els.map BSl.l:=⟨_,rfl⟩
 have hlen:ents.length=en:=by rw[hents,List.length_map];exact hel
 have hget:∀q (h1:q<els.length) (h2:q<ents.length),ents[q]=(els[q]).l:=λ q h1 h2=>by subst hents;exact List.getElem_map _
 rw[<-hents]
 have hT0:=hE.at'
 have hT1:=hE.bin
 have hT2:=hE.long
 clear hents hE
 have hnx:1<=nx/\nx<=1073741824:=by omega
 refine Zb func67 rfl rfl rfl λ u R=>?_
 simp only[Zc,kA]
 have hbc:(b.length=0/\ma=0/\nx=1)\/(b.length=12/\ma=ZV (b.take 8)/\nx=ZV (b.drop 8)):=by
  rcases hnl with h|⟨h1,_,_,h2⟩
  ·exact .inl h
  ·exact .inr ⟨h1,h2⟩
 clear hnl
 rcases hbc with⟨hb0,hm0,hx0⟩|⟨hb12,hm2,hx2⟩
 case' inl=>
  have hn0:n=0:=by omega
  have hma:ma<18446744073709551616:=by omega
  subst hn0
  repeat' (first|refine zV ?_|intro _)
  show TC _ _ _ _ _ ([(_,Obj.cells ⟨mlV first 0 0 1 (.slice none 0 0)⟩ 38 (0,0))]::[(_,Obj.cells ⟨mlV 0 0 0 0 (.slice none 0 0)⟩ 38 (0,0))]::R)
  rw[show mlV first 0 0 1 (.slice none 0 0)=mlV first ma 0 nx (.slice none 0 0) by rw[hm0,hx0]]
  clear hm0 hx0
 case' inr=>
  have hn12:n=12:=by omega
  obtain⟨hma,hx3⟩:=note_lt hb12
  subst hn12
  have h8:=refnum16_spec ρ _ 8 c _ (h.take (show 8<=12 by omega)) (by decide)
  have h4:=h.sub (show 8<=12 by omega) (aR 12) hc
  rw[aT (by simp;omega)] at h4
  have h4:=λ c'=>refnum16_spec ρ _ 4 c' _ h4 (by decide)
  rw[<-hm2] at h8 hma
  rw[<-hx2] at hx3
  rw[<-hx2] at h4
  repeat' (first|refine zV ?_|intro _)
  refine tpA [0,1,3,4] (.e 2 [7] (.e 5 [6] (.e 8 [9] (.e 10 [] .o)))) ([]) ?_
  repeat' (refine iT ?_;first|refine rA ?_|(refine rE ?_<;>((first|(refine Za (.func 134) ?_;refine qR rfl rfl (h8) ?_;try simp only[kA])|(refine Za (.func 134) ?_;refine qR rfl rfl (h4 _) ?_;try simp only[kA])|refine qEf ?_)<;>(try simp only[kA])<;>refine zN ?_)))
  repeat' (first|refine zV ?_|intro _)
  show TC _ _ _ _ _ ([(_,Obj.cells ⟨mlV first ma 0 nx (.slice none 0 0)⟩ 38 (0,0))]::[(_,Obj.cells ⟨mlV 0 0 0 0 (.slice none 0 0)⟩ 38 (0,0))]::R)
  clear h8 h4
 all_goals
  rename_i b6 b8
  refine lpG (Nat×Hp×(List RR)×Value×(List Value)) [6,8,45,46] (λ z=>[(47,.int .i64 z.1),(7,.bool false)]) (λ z=>z.2.1) (λ z=>[(b8,.cells ⟨mlV first ma 0 nx z.2.2.2.1⟩ 38 (0,0))]::Zq z.2.2.2.1 (YD z.2.2.1) z.2.2.2.2 47::[[(b6,.cells ⟨mlV 0 0 0 0 (.slice none 0 0)⟩ 38 (0,0))]]) (λ z=>z.1<=en/\ρ.le z.2.1/\OwnS z.2.2.2.1 z.1 (YD z.2.2.1) z.2.2.2.2 10/\z.2.2.1.length=z.1/\(∀x∈z.2.2.1,RcIn z.2.1 x.1 x.2)/\plL z.2.2.1=(ents.take z.1).map XD/\(∀q (hq:q<z.1) (h2:q<ents.length),Yb (ents[q])=true/\(XD (ents[q])).lsn=first+q)) (λ z=>en-z.1) (0,ρ,[],.slice none 0 0,[]) ⟨aZ _,Hp.le_refl _,OwnS.nil 10,rfl,λ _ hx=>by simp at hx,rfl,λ q hq=>absurd hq (Nat.not_lt_zero _)⟩ ?_
  rintro⟨i,ρ1,l,v,sp⟩ hI
  try simp only[kB] at hI ⊢
  try dsimp only at hI ⊢
  obtain⟨hi,hl1,hown,hll,hrin,hpl,hgo⟩:=hI
  obtain⟨va,vc,rfl,hvc⟩:=hown.slice
  have hNx:=λ ρ2=>next_ref16 ρ2 first ma 0 nx va i vc (by omega)
  by_cases hlt:i<en
  ·have hil:i<els.length:=by omega
   have hge:=hget i hil (by omega)
   obtain⟨b,off,C,T,fr,e1,hb,hcx⟩:=(hT0.mono hl1).get hil
   have hbi:=(hT1 _ (aM hil)).mono hl1
   have hlg:=hT2 _ (aM hil)
   have hts:(ents.take (i+1)).map XD=(ents.take i).map XD++[XD (ents[i]'(by omega))]:=by
    rw[aG (show i<ents.length by omega),List.map_append];rfl
   have hgo':(∀q (hq:q<i+1) (h2:q<ents.length),Yb (ents[q])=true/\(XD (ents[q])).lsn=first+q)↔(Yb (ents[i]'(by omega))=true/\(XD (ents[i]'(by omega))).lsn=first+i):=by
    refine⟨λ h=>h i (by omega) (by omega),λ h q hq h2=>?_⟩
    by_cases e:q<i
    ·exact hgo q e h2
    ·obtain rfl:q=i:=by omega
     exact h
   have hent:EntsOk first ents->Yb (ents[i]'(by omega))=true/\(XD (ents[i]'(by omega))).lsn=first+i:=λ h=>h i (by omega)
   rw[hge] at hts hgo' hent
   rw[e1]
   generalize els[i]=e8 at *
   obtain⟨xa,xn,xc,xl⟩:=e8
   dsimp only at hlg hts hgo' hent hcx
   have hbl2:=hbi.s.len
   dsimp only at hbl2
   have hrd:=read12_spec ρ1 xa xn xc xl hbi.s hbi.le (by omega)
   repeat' (first|(refine Za (.func 135) ?_;refine qC rfl rfl hrd ?_;rintro v2 ρ2 L2 hle2 ⟨hl2,rv,rr,rfl,hri,hpr,rfl⟩;try simp only[kA])|refine zV ?_|intro _)
   rename_i b11
   have hls:(XD xl).lsn=rr.lsn:=by rw[<-hpr]
   rw[hls] at hgo' hent
   cases hd:Yb xl
   ·rw[hd] at hent
    refine tpA [0,1,2,3,4,5] (.e 6 [] (.f [7,8] .o)) ([[(b11,.cells ⟨Yu rv rr⟩ 47 (0,0))],[(b8,.cells ⟨mlV first ma 0 nx (.slice va i vc)⟩ 38 (0,0))]]) ?_
    repeat' (refine iT ?_;first|refine rA ?_|(refine rE ?_<;>((try refine ZM ?_);(first|(refine Za (.func 12) ?_;refine qR rfl rfl (hNx _) ?_;try simp only[kA]))<;>(try simp only[kA])<;>refine zN ?_)))
    repeat' (first|refine zV ?_|intro _)
    exact qE (L':=[]) ⟨Hp.le_trans hl1 hl2,rfl,.inr ⟨λ h=>absurd (hent h).1 (by simp),rfl⟩⟩
   ·rw[hd] at hent hgo'
    by_cases hq:rr.lsn=first+i
    ·refine tpA [0,1,2,3,4,5] (.e 6 [] (.f [7,8] .o)) ([[(b11,.cells ⟨Yu rv rr⟩ 47 (0,0))],[(b8,.cells ⟨mlV first ma 0 nx (.slice va i vc)⟩ 38 (0,0))]]) ?_
     repeat' (refine iT ?_;first|refine rA ?_|(refine rE ?_<;>((try refine ZM ?_);(first|(refine Za (.func 12) ?_;refine qR rfl rfl (hNx _) ?_;try simp only[kA]))<;>(try simp only[kA])<;>refine zN ?_)))
     repeat' (first|(refine Zp (css:=[Yu rv rr]) (sz:=10) rfl rfl rfl rfl (by simp) (by simp) rfl (λ bs=>?_);simp only[aF,List.flatten_nil,aN])|(refine ZH (ys:=Yu rv rr) (m:=1) (sz:=10) rfl rfl hown (hR:=by repeat (first|exact Zl|apply Zn)) SrcV.lit rfl rfl (by decide) rfl (by omega) (by omega) rfl (λ v' sp' hown'=>?_);obtain⟨va2,vc2,rfl,hvc2⟩:=hown'.slice)|refine zV ?_|intro _)
     rw[show YD l++Yu rv rr=YD (l++[(rv,rr)]) by rw[flatL_add];simp[YD]] at hown' ⊢
     rw[<-e1]
     have hri2:∀x∈l++[(rv,rr)],RcIn ρ2 x.1 x.2:=λ x hx=>by
      rcases List.mem_append.1 hx with hx|hx
      ·exact (hrin x hx).mono hl2
      ·rw[List.mem_singleton.1 hx];exact hri
     have hpl2:plL (l++[(rv,rr)])=(ents.take (i+1)).map XD:=by
      rw[hts,<-hpl,<-hpr];unfold plL;rw[List.map_append];rfl
     refine rnG (i+1,ρ2,l++[(rv,rr)],.slice va2 (i+1) vc2,sp') (⟨hlt,Hp.le_trans hl1 hl2,hown',by dsimp only;rw[aL,hll];rfl,hri2,hpl2,hgo'.2 ⟨rfl,hq⟩⟩)
    ·have hq2:¬((rr.lsn:Nat):Int)=((first+i:Nat):Int):=by omega
     refine tpA [0,1,2,3,4,5] (.e 6 [] (.f [7,8] .o)) ([[(b11,.cells ⟨Yu rv rr⟩ 47 (0,0))],[(b8,.cells ⟨mlV first ma 0 nx (.slice va i vc)⟩ 38 (0,0))]]) ?_
     repeat' (refine iT ?_;first|refine rA ?_|(refine rE ?_<;>((try refine ZM ?_);(first|(refine Za (.func 12) ?_;refine qR rfl rfl (hNx _) ?_;try simp only[kA]))<;>(try simp only[kA])<;>refine zN ?_)))
     repeat' (first|refine zV ?_|intro _)
     exact qE (L':=[]) ⟨Hp.le_trans hl1 hl2,rfl,.inr ⟨λ h=>absurd (hent h).2 hq,rfl⟩⟩
  ·have hie:i=en:=by omega
   subst hie
   rw[aT (by omega)] at hpl
   have hEO:EntsOk first ents:=λ q h2=>hgo q (by omega) h2
   by_cases hmx:ma<first+i
   ·have hsb:((first+i:Nat):Int)-1=((first+i-1:Nat):Int):=by omega
    repeat' (first|refine zV ?_|intro _)
    refine tpA [0,1,2] (.e 3 [] (.f [4] .o)) ([[(b8,.cells ⟨mlV first ma 0 nx (.slice va i vc)⟩ 38 (0,0))]]) ?_
    repeat' (refine iT ?_;first|refine rA ?_|(refine rE ?_<;>(refine Za (.func 12) ?_;refine qR rfl rfl (hNx _) ?_;try simp only[kA])<;>(try simp only[kA])<;>refine zN ?_))
    repeat' (first|(refine Za (.func 12) ?_;refine qR rfl rfl (hNx _) ?_;try simp only[kA])|refine zV ?_|intro _)
    rw[hsb]
    refine ZB (Zq (.slice va i vc) (YD l) sp 47) (λ ρ7 hl7 hz7=>?_)
    obtain⟨ra,rc,e7,hrc,hRA⟩:=hown.aIn (g:=rrV) (l:=l) hll (λ _ _=>rfl) hz7
    cases e7
    exact qE (L':=[]) ⟨Hp.le_trans hl1 hl7,rfl,.inl ⟨hEO,hmx,va,vc,l,rfl,hrc,hRA,λ x hx=>(hrin x hx).mono hl7,hpl⟩⟩
   ·repeat' (first|refine zV ?_|intro _)
    refine tpA [0,1,2] (.e 3 [] (.f [4] .o)) ([[(b8,.cells ⟨mlV first ma 0 nx (.slice va i vc)⟩ 38 (0,0))]]) ?_
    repeat' (refine iT ?_;first|refine rA ?_|(refine rE ?_<;>(refine Za (.func 12) ?_;refine qR rfl rfl (hNx _) ?_;try simp only[kA])<;>(try simp only[kA])<;>refine zN ?_))
    repeat' (first|refine zV ?_|intro _)
    exact qE (L':=[]) ⟨hl1,rfl,.inr ⟨λ _=>by omega,rfl⟩⟩
theorem read16_bad (ρ:Hp)(first:Nat)(a:Option Addr)(n c:Nat)(b:Bs)(h:SIn ρ Zk a n b)(hc:n<=c)(hn:n<=1000)(ea:Option Addr)(en ec:Nat)(hf:1<=first/\first<=1099511627776)(hno:noteR b=none) :
  Spec prog 67 [.int .u64 first,.slice a n c,.slice ea en ec] ρ [] (λ z ρ' L'=>ρ'=ρ/\L'=[]/\z=.tuple ⟨[.agg ⟨zML⟩,.bool false]⟩):=by
 have hbl:=h.len
 have hcs:b.length≠0/\(b.length≠12\/(b.length=12/\(ZV (b.drop 8)<1\/1073741824<ZV (b.drop 8)))):=by
  unfold noteR at hno
  split at hno
  ·cases hno
  ·rename_i e1
   refine⟨e1, ?_⟩
   split at hno
   ·rename_i e2
    split at hno
    ·cases hno
    ·rename_i e3;exact .inr ⟨e2,by omega⟩
   ·rename_i e2;exact .inl e2
 refine Zb func67 rfl rfl rfl λ u R=>?_
 simp only[Zc,kA]
 obtain⟨h0,hcs⟩:=hcs
 rcases hcs with h12|⟨hb12,hcs⟩
 ·repeat' (first|refine zV ?_|intro _)
  exact qE (L':=[]) ⟨rfl,rfl,rfl⟩
 ·have hn12:n=12:=by omega
  obtain⟨hma,hx3⟩:=note_lt hb12
  subst hn12
  have h8:=refnum16_spec ρ _ 8 c _ (h.take (show 8<=12 by omega)) (by decide)
  have h4:=h.sub (show 8<=12 by omega) (aR 12) hc
  rw[aT (by simp;omega)] at h4
  have h4:=λ c'=>refnum16_spec ρ _ 4 c' _ h4 (by decide)
  generalize ZV (b.take 8)=ma at *
  generalize ZV (b.drop 8)=nx at *
  rcases hcs with h1|h1
  all_goals
   repeat' (first|refine zV ?_|intro _)
   refine tpA [0,1,3,4] (.e 2 [7] (.e 5 [6] (.e 8 [9] (.e 10 [] .o)))) ([]) ?_
   repeat' (refine iT ?_;first|refine rA ?_|(refine rE ?_<;>((first|(refine Za (.func 134) ?_;refine qR rfl rfl (h8) ?_;try simp only[kA])|(refine Za (.func 134) ?_;refine qR rfl rfl (h4 _) ?_;try simp only[kA])|refine qEf ?_)<;>(try simp only[kA])<;>refine zN ?_)))
   repeat' (first|refine zV ?_|intro _)
   exact qE (L':=[]) ⟨rfl,rfl,rfl⟩
structure Rm (S:LgS)(D:DS)(t:Nat):Prop where
 good:Good S.R D
 ok:∀x∈S.recs,Yk x.2=true
 rf:∀x∈S.recs,RcF x.2
 lsn:∀i (h:i<S.recs.length),(S.recs[i]).2.lsn=S.base+i
 first:S.R.h.first=S.base
 base:1<=S.base
 fl:S.fl+1=S.next
 ents:S.R.ents=S.recs.map (λ x=>Yv x.2)
 used:ZI S.recs<=400
 size:S.R.h.size=450
 turn:S.R.h.turn<=t+1
 next:S.next<=t+1
theorem usedL_recs {l:List RR}(h:∀x∈l,Yk x.2=true):Yt (l.map (λ x=>Yv x.2))=ZI l:=by
 induction l with
 | nil=>rfl
 | cons x r ih=>
  have h1:=costN_ok (h x (by simp))
  have h2:=ih (λ y hy=>h y (by simp[hy]))
  simp only[Yt,ZI,List.map_cons,List.sum_cons] at h2 ⊢
  omega
theorem Wq:∀(l:List RR) (b fr:Nat),(∀i (h:i<l.length),(l[i]).2.lsn=b+i)->l.filter (λ x=>decide (fr<=x.2.lsn))=l.drop (fr-b)
 | [],_,_,_=>by simp
 | x::l,b,fr,h=>by
  have h0:=h 0 (by simp)
  have ih:=Wq l (b+1) fr (λ i hi=>by have:=h (i+1) (by simpa using hi);simp only[List.getElem_cons_succ] at this;omega)
  simp only[List.getElem_cons_zero] at h0
  rw[List.filter_cons]
  by_cases hb:fr<=b
  ·rw[if_pos (by simp;omega),ih,show fr-(b+1)=0 by omega,show fr-b=0 by omega];rfl
  ·rw[if_neg (by simp;omega),ih,show fr-b=(fr-(b+1))+1 by omega,List.drop_succ_cons]
theorem Rm.from {S:LgS}{D:DS}{t:Nat}(h:Rm S D t)(fr:Nat):ZS S fr=S.recs.drop (fr-S.base):=Wq _ _ _ h.lsn
theorem Rm.len {S:LgS}{D:DS}{t:Nat}(h:Rm S D t):S.R.ents.length=S.recs.length:=by rw[h.ents,List.length_map]
theorem Rm.fresh {D:DS}(g:Good ⟨Zz 450,[],0,false⟩ D):Rm (newLg ⟨Zz 450,[],0,false⟩) D 0:=
 ⟨g,by simp[newLg],by simp[newLg],by simp[newLg],rfl,aR _,rfl,rfl,by simp[newLg,ZI],rfl,by simp[newLg,Zz],by simp[LgS.next,newLg]⟩
theorem app_facts {S:LgS}{r:Rc}(h:appE S r 0=0):Yk r=true/\r.lsn=S.next/\ZI S.recs+Xh r<=400/\S.next≠1099511627776:=by
 unfold appE at h
 split at h
 ·omega
 ·rename_i h1
  split at h
  ·omega
  ·split at h
   ·omega
   ·exact⟨by simpa using h1,by omega,by omega,by omega⟩
theorem Rm.more {S:LgS}{D:DS}{t:Nat}(h:Rm S D t)(ht:t<=1000){x:RR}(ha:appE S x.2 0=0)(hf:RcF x.2) :
  ∃R' D' fl',(S.more x).flush ((S.more x).next-1) D=((S.more x).at R' fl',D',0)/\Rm ((S.more x).at R' fl') D' (t+1):=by
 obtain⟨h1,h2,h3,h4⟩:=app_facts ha
 have hl:=h.len
 have hn:(S.more x).next=S.next+1:=by simp[LgS.next,LgS.more];omega
 have hfl:(S.more x).fl=S.fl:=rfl
 have hall:∀i (hi:i<(S.more x).recs.length),((S.more x).recs[i]).2.lsn=S.base+i:=by
  intro i hi
  simp only[LgS.more,aL,aC,List.length_nil] at hi
  by_cases hlt:i<S.recs.length
  ·simp only[LgS.more]
   rw[List.getElem_append_left hlt];exact h.lsn i hlt
  ·simp only[LgS.more]
   rw[List.getElem_append_right (by omega)]
   simp only[show i-S.recs.length=0 by omega,List.getElem_cons_zero]
   rw[h2];unfold LgS.next;omega
 have hfr:ZS (S.more x) (S.fl+1)=[x]:=by
  have e:ZS (S.more x) (S.fl+1)=(S.more x).recs.drop (S.fl+1-S.base):=Wq _ _ _ hall
  have e2:S.fl+1-S.base=S.recs.length:=by have:=h.fl;unfold LgS.next at this;omega
  rw[e,e2];simp[LgS.more]
 have hus:S.R.used=ZI S.recs:=by rw[h.good.ro.ok.used,h.ents,usedL_recs h.ok]
 have hrn:S.R.next=S.next:=by unfold RgS.next LgS.next;rw[h.first,hl]
 obtain⟨R',D',e,g',e1,e2,_,_⟩:=flushL_good S.next [x] S.R D S.fl h.good (λ y hy=>by rw[List.mem_singleton.1 hy];exact h1) (by rw[hus,h.size,show ZI [x]=Xh x.2 by simp[ZI]];omega) (by rw[hrn];have:=h.next;simp;omega)
 have hup:upTo S.next [x]=[x]:=by unfold upTo;rw[List.takeWhile_cons,decide_eq_true (by omega)];rfl
 rw[hup] at e e2
 refine⟨R',D',x.2.lsn, ?_, ?_⟩
 ·unfold LgS.flush
  rw[if_neg (by omega),hn,Nat.add_sub_cancel,hfl,hfr,show (S.more x).R=S.R from rfl,e]
  rfl
 ·have hrec:((S.more x).at R' x.2.lsn).recs=S.recs++[x]:=rfl
  refine⟨g', ?_, ?_,hall, ?_,h.base, ?_, ?_, ?_, ?_, ?_, ?_⟩
  ·intro y hy
   rw[hrec] at hy
   rcases List.mem_append.1 hy with hy|hy
   ·exact h.ok y hy
   ·rw[List.mem_singleton.1 hy];exact h1
  ·intro y hy
   rw[hrec] at hy
   rcases List.mem_append.1 hy with hy|hy
   ·exact h.rf y hy
   ·rw[List.mem_singleton.1 hy];exact hf
  ·show R'.h.first=S.base
   rw[e1];exact h.first
  ·show x.2.lsn+1=(S.more x).next
   omega
  ·show R'.ents=(S.recs++[x]).map _
   rw[e2,h.ents];simp
  ·show ZI (S.recs++[x])<=400
   rw[usedR_add];simp[ZI] at h3 ⊢;omega
  ·show R'.h.size=450
   rw[e1];exact h.size
  ·show R'.h.turn<=t+1+1
   rw[e1];have:=h.turn;omega
  ·show (S.more x).next<=t+1+1
   have:=h.next;omega
theorem Rm.cut {S:LgS}{D:DS}{t:Nat}(h:Rm S D t)(ht:t<=1000){fr:Nat}(nx:Nat)(h1:S.base<=fr)(h2:fr<=S.fl+1) :
  ∃D',S.trunc fr 0 nx D=(S.cutTo (S.R.minus (fr-S.base) (Xc [0,nx] 2)) fr 0 nx (S.recs.drop (fr-S.base)),D',0)/\Rm (S.cutTo (S.R.minus (fr-S.base) (Xc [0,nx] 2)) fr 0 nx (S.recs.drop (fr-S.base))) D' (t+1):=by
 have hl:=h.len
 have hfl:=h.fl
 have hrn:S.R.next=S.next:=by unfold RgS.next LgS.next;rw[h.first,hl]
 have hn:=h.next
 have htn:=h.turn
 have hm:fr-S.base<=S.recs.length:=by unfold LgS.next at hfl;omega
 obtain⟨D',e,g⟩:=LgS.trunc_good (S:=S) (fr:=fr) (ma:=0) (nx:=nx) h.good (by omega) (by omega) (by omega)
 rw[h.from] at e
 have hnx:(S.cutTo (S.R.minus (fr-S.base) (Xc [0,nx] 2)) fr 0 nx (S.recs.drop (fr-S.base))).next=S.next:=by
  simp only[LgS.next,LgS.cutTo,List.length_drop];omega
 refine⟨D',e,g,λ x hx=>h.ok x (List.mem_of_mem_drop hx),λ x hx=>h.rf x (List.mem_of_mem_drop hx), ?_, ?_, ?_, ?_, ?_, ?_, ?_, ?_, ?_⟩
 ·intro i hi
  simp only[LgS.cutTo,List.length_drop] at hi
  simp only[LgS.cutTo,List.getElem_drop]
  rw[h.lsn];omega
 ·show S.R.h.first+(fr-S.base)=fr
  rw[h.first];omega
 ·show 1<=fr
  have:=h.base;omega
 ·rw[hnx];exact hfl
 ·show S.R.ents.drop _=(S.recs.drop _).map _
  rw[h.ents,List.map_drop]
 ·show ZI (S.recs.drop _)<=400
  have:=usedR_add (S.recs.take (fr-S.base)) (S.recs.drop (fr-S.base))
  rw[List.take_append_drop] at this
  have:=h.used;omega
 ·exact h.size
 ·show S.R.h.turn+1<=t+1+1
  omega
 ·rw[hnx];omega
theorem be_take_succ8 (n x j:Nat)(h:j<n):(be n x).take (j+1)=(be n x).take j++[UInt8.ofNat (x / 256 ^ (n-1-j))]:=by
 induction n generalizing j with
 | zero=>omega
 | succ n ih=>
  rw[be]
  cases j with
  | zero=>simp
  | succ j=>
   rw[List.take_succ_cons,List.take_succ_cons,ih j (by omega)]
   simp only[List.cons_append]
   rw[show n-1-j=n+1-1-(j+1) by omega]
theorem high_spec (ρ:Hp)(z:Int)(n:Nat)(h0:0<=z)(hz:z<18446744073709551616)(hn:n<=8) :
  Spec prog 114 [.int .u64 z,.int .i64 n] ρ [] (λ v ρ' L'=>ρ.le ρ'/\∃a c,v=.slice a n c/\n<=c/\SIn ρ' Zk a n (be n z.toNat)/\L'=[]):=by
 obtain⟨x,rfl⟩:∃x:Nat,z=x:=⟨z.toNat,by omega⟩
 simp only[Int.toNat_natCast]
 refine Zb func114 rfl rfl rfl λ u R=>?_
 simp only[Zc,kA]
 repeat' (first|refine zV ?_|intro _)
 rw[show ((n:Int)-1)=(n:Int)-1-((0:Nat):Int) by omega]
 refine lpG (Nat×Value×(List Value)) [0,4] (λ z=>[(6,.int .i64 ((n:Int)-1-(z.1:Int))),(5,z.2.1)]) (λ z=>ρ) (λ z=>[Zq z.2.1 (((be n x).take z.1).map Zk) z.2.2 5]) (λ z=>z.1<=n/\OwnS z.2.1 z.1 (((be n x).take z.1).map Zk) z.2.2 1) (λ z=>n-z.1) (0,.slice none 0 0,[]) ⟨aZ _,OwnS.nil 1⟩ ?_
 rintro⟨j,v,sp⟩ hI
 try simp only[kB] at hI ⊢
 try dsimp only at hI ⊢
 obtain⟨hj,hown⟩:=hI
 by_cases hj8:j<n
 ·have hsh:=shr_byte x (n-1-j)
  have hts:=be_take_succ8 n x j hj8
  have hxx:((be n x).take j).map Zk++[Zk (UInt8.ofNat (x / 256 ^ (n-1-j)))]=((be n x).take (j+1)).map Zk:=by rw[hts];simp
  obtain⟨va,vc,rfl,_⟩:=hown.slice
  repeat' (first|(refine iSr ?_;refine tl_y (y_shr (c:=8*(n-1-j)) rfl rfl (by omega) (by simp only[IntKind.bits];omega)) rfl rfl ?_)|(refine iCv ?_;refine tl_y (y_conv (k:=.u8) rfl) rfl rfl ?_;rw[hsh])|(refine Zg rfl rfl rfl rfl (by simp) rfl rfl (λ _=>?_))|(refine ZH (ys:=[Zk (UInt8.ofNat (x / 256 ^ (n-1-j)))]) (m:=1) rfl rfl hown (hR:=by infer_instance) SrcV.lit rfl rfl (by decide) rfl (by omega) (by omega) rfl (λ v2 sp2 hown2=>?_);rw[hxx] at hown2 ⊢)|refine zV ?_|intro _)
  have e7:((n:Int)-1-(j:Int)-1)=(n:Int)-1-((j+1:Nat):Int):=by omega
  rw[e7]
  refine rnG (j+1,v2,sp2) (⟨hj8,hown2⟩)
 ·obtain rfl:j=n:=by omega
  rw[show (be j x).take j=be j x from aT (by rw[Zd];exact aR _)] at hown ⊢
  obtain⟨va,vc,rfl,_⟩:=hown.slice
  repeat' (first|refine zV ?_|intro _)
  refine ZB (Zq (.slice va j vc) ((be j x).map Zk) sp 5) (λ ρ3 hle3 hfz=>?_)
  obtain⟨a3,c3,e3,hc3,hs3⟩:=hown.sIn hfz
  cases e3
  exact qE ⟨hle3,va,vc,rfl,hc3,hs3,rfl⟩
section
variable {x:Cx}{Q:Exit->Act->World->Prop}{E:Env}{ρ:Hp}{L L1:SH}{ops:Array Oper}{rest:List Oper}{ty:TypeId}{pos:String}{af:Array Edge}
theorem Xx {d t e m cx:Nat}{s y:Operand}{v:Value}{X Y:List UInt8}{sp:List Value}{a:Option Addr}[hS:ZN x.P t e][hZ:Zs x.P e 1][hB:Zf x.P e 1][hz:Zi x.P e (.int .u8 0)]
  (hs:ev E s=some v) (hy:ev E y=some (.slice a m cx)) (hown:OwnS v X.length (X.map Zk) sp 1) (hsr:SIn ρ Zk a m Y) (hb:X.length+Y.length<=100000) (hd:Nat.blt d x.N=true)
  (k:∀va vc sp',OwnS (.slice va (X++Y).length vc) (X++Y).length ((X++Y).map Zk) sp' 1->TL x ops rest Q ((d,.slice va (X++Y).length vc)::E) ρ (Zq (.slice va (X++Y).length vc) ((X++Y).map Zk) sp' e::L1)) (hR:Rem (Zq v (X.map Zk) sp e) L L1:=by infer_instance) :
  TL x ops (⟨some d,.call { callee:=.builtin .append,args:=#[s,y],argTypes:=#[t,t] },ty,pos,af,none⟩::rest) Q E ρ L:=by
 have hl:=hsr.len
 refine ZH (ys:=Y.map Zk) (sz:=1) (by':=1) hs hy hown (hR:=hR) (SIn.srcV hsr) (by simpa using hl) (Yr _) (by decide) rfl (by omega) (by omega) hd (λ v' sp' h'=>?_)
 rw[<-List.map_append] at h' ⊢
 rw[show X.length+m=(X++Y).length by rw[aL,hl]] at h'
 obtain⟨va,vc,rfl,_⟩:=h'.slice
 exact k va vc sp' h'
theorem tl_appL {d t e cx:Nat}{s y:Operand}{v:Value}{X:List UInt8}{b:UInt8}{sp:List Value}{a:Option Addr}[hS:ZN x.P t e][hZ:Zs x.P e 1][hB:Zf x.P e 1][hz:Zi x.P e (.int .u8 0)]
  (hs:ev E s=some v) (hy:ev E y=some (.slice a 1 cx)) (hown:OwnS v X.length (X.map Zk) sp 1) (hsr:SrcV x ρ L1 a [Zk b]) (hb:X.length+1<=100000) (hd:Nat.blt d x.N=true)
  (k:∀va vc sp',OwnS (.slice va (X++[b]).length vc) (X++[b]).length ((X++[b]).map Zk) sp' 1->TL x ops rest Q ((d,.slice va (X++[b]).length vc)::E) ρ (Zq (.slice va (X++[b]).length vc) ((X++[b]).map Zk) sp' e::L1)) (hR:Rem (Zq v (X.map Zk) sp e) L L1:=by infer_instance) :
  TL x ops (⟨some d,.call { callee:=.builtin .append,args:=#[s,y],argTypes:=#[t,t] },ty,pos,af,none⟩::rest) Q E ρ L:=by
 refine ZH (ys:=[Zk b]) (sz:=1) (by':=1) (m:=1) hs hy hown (hR:=hR) hsr rfl rfl (by decide) rfl (by omega) (by omega) hd (λ v' sp' h'=>?_)
 rw[show X.map Zk++[Zk b]=(X++[b]).map Zk by simp] at h' ⊢
 rw[show X.length+1=(X++[b]).length by simp] at h'
 obtain⟨va,vc,rfl,_⟩:=h'.slice
 exact k va vc sp' h'
end
end Go.Proofs.E
