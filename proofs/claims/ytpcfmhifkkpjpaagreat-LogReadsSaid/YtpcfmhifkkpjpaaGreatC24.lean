/- Laws of LogReads. Part 24 of 28. -/
import Derived.Test.YtpcfmhifkkpjpaaGreatC23
namespace Go.Proofs.E
open Go
set_option linter.unusedVariables false
set_option linter.unusedSimpArgs false
set_option linter.unusedSectionVars false
set_option maxRecDepth 4000
set_option maxHeartbeats 1000000
attribute [local irreducible] Yl TL TC TE Spec ZI R1 Hp.le EnvLe TS TR YS Zp
theorem read_9b1 (ρ:Hp)(a:Option Addr)(n c:Nat)(l:List UInt8)(h:SIn ρ Zo a n l)(hc:n≤c)(hb:n≤1000000)(k:Nat)(l1:List UInt8)(hl1:ZC 1 (l,0,false)=(k,l1,0,false))(hk9:k=9)(hno:okS (ZC 8 (l1,0,false)).2=false):Spec Tryz.prog 189 [.slice a n c] ρ [] (fun z ρ' L'=>ρ.le ρ'∧Xc ρ' l z L'):=by
 have hI0:RdI ρ ⟨a,n,c⟩ l:=⟨h,hc,hb⟩
 have hln:=h.len
 have hdb:Ye l=false:=bad2 hl1 hno
 refine Zb Tryz.func189 rfl rfl rfl fun u R=>?_
 simp only[Zd,kA]
 repeat' (first|(refine Za (.func 258) ?_;refine qC rfl rfl (Zg _ _ ⟨a,n,c⟩ l hI0 1 256 rfl (by decide) hl1) ?_;rintro v ρ' L' hle ⟨rfl,rfl,hb1,s1,h1,rfl⟩<;>(try simp only[kA]))|(refine Za (.func 258) ?_;refine qC rfl rfl (ZP _ _ s1 l1 h1 8 (by decide) hno) ?_;rintro v ρ' L' hle ⟨rfl,rfl,rfl⟩<;>(try simp only[kA]))|(refine Za (.func 258) ?_;refine qC rfl rfl (Zu _ _ s1 1) ?_;rintro v ρ' L' hle ⟨rfl,rfl,rfl⟩<;>(try simp only[kA]))|(refine Za (.func 258) ?_;refine qC rfl rfl (Zu _ _ s1 4) ?_;rintro v ρ' L' hle ⟨rfl,rfl,rfl⟩<;>(try simp only[kA]))|(refine Za (.func 258) ?_;refine qC rfl rfl (Zu _ _ s1 8) ?_;rintro v ρ' L' hle ⟨rfl,rfl,rfl⟩<;>(try simp only[kA]))|refine zV ?_|intro _)
 refine Zi [(2,_),(3,_),(4,_),(5,_),(78,_)] (fun (ζ:(Nat))=>[(79,.int .u64 ζ)]) (fun (ζ:(Nat))=>ρ') (fun (ζ:(Nat))=>[]) (fun (ζ:(Nat))=>ζ=0) (fun (ζ:(Nat))=>0-ζ) (0) (rfl) Zc Zc rfl tk ?_
 rintro j hI
 try simp only[kA,List.append_assoc] at hI ⊢
 try dsimp only at hI ⊢
 subst hI
 repeat' (first|(refine Za (.func 258) ?_;refine qC rfl rfl (Zu _ _ s1 1) ?_;rintro v ρ' L' hle ⟨rfl,rfl,rfl⟩<;>(try simp only[kA]))|refine zV ?_|intro _)
 refine Zi [(2,_),(3,_),(4,_),(5,_),(110,_)] (fun (ζ:(Nat))=>[(111,.int .u64 ζ)]) (fun (ζ:(Nat))=>ρ') (fun (ζ:(Nat))=>[]) (fun (ζ:(Nat))=>ζ=0) (fun (ζ:(Nat))=>0-ζ) (0) (rfl) Zc Zc rfl tk ?_
 rintro j hI
 try simp only[kA,List.append_assoc] at hI ⊢
 try dsimp only at hI ⊢
 subst hI
 repeat' (first|refine zV ?_|intro _)
 exact qE (L':=[]) ⟨Hp.le_refl _,ZU hdb⟩
theorem read_9b2 (ρ:Hp)(a:Option Addr)(n c:Nat)(l:List UInt8)(h:SIn ρ Zo a n l)(hc:n≤c)(hb:n≤1000000)(k:Nat)(l1:List UInt8)(hl1:ZC 1 (l,0,false)=(k,l1,0,false))(lsn:Nat)(l2:List UInt8)(hl2:ZC 8 (l1,0,false)=(lsn,l2,0,false))(hk9:k=9)(hno:okS (ZC 4 (l2,0,false)).2=false):Spec Tryz.prog 189 [.slice a n c] ρ [] (fun z ρ' L'=>ρ.le ρ'∧Xc ρ' l z L'):=by
 have hI0:RdI ρ ⟨a,n,c⟩ l:=⟨h,hc,hb⟩
 have hln:=h.len
 have hdb:Ye l=false:=bad3 hl1 hl2 hno
 refine Zb Tryz.func189 rfl rfl rfl fun u R=>?_
 simp only[Zd,kA]
 repeat' (first|(refine Za (.func 258) ?_;refine qC rfl rfl (Zg _ _ ⟨a,n,c⟩ l hI0 1 256 rfl (by decide) hl1) ?_;rintro v ρ' L' hle ⟨rfl,rfl,hb1,s1,h1,rfl⟩<;>(try simp only[kA]))|(refine Za (.func 258) ?_;refine qC rfl rfl (Zg _ _ s1 l1 h1 8 18446744073709551616 rfl (by decide) hl2) ?_;rintro v ρ' L' hle ⟨rfl,rfl,hb2,s2,h2,rfl⟩<;>(try simp only[kA]))|(refine Za (.func 258) ?_;refine qC rfl rfl (ZP _ _ s2 l2 h2 4 (by decide) hno) ?_;rintro v ρ' L' hle ⟨rfl,rfl,rfl⟩<;>(try simp only[kA]))|(refine Za (.func 258) ?_;refine qC rfl rfl (Zu _ _ s2 1) ?_;rintro v ρ' L' hle ⟨rfl,rfl,rfl⟩<;>(try simp only[kA]))|(refine Za (.func 258) ?_;refine qC rfl rfl (Zu _ _ s2 4) ?_;rintro v ρ' L' hle ⟨rfl,rfl,rfl⟩<;>(try simp only[kA]))|(refine Za (.func 258) ?_;refine qC rfl rfl (Zu _ _ s2 8) ?_;rintro v ρ' L' hle ⟨rfl,rfl,rfl⟩<;>(try simp only[kA]))|refine zV ?_|intro _)
 refine Zi [(2,_),(3,_),(4,_),(5,_),(78,_)] (fun (ζ:(Nat))=>[(79,.int .u64 ζ)]) (fun (ζ:(Nat))=>ρ') (fun (ζ:(Nat))=>[]) (fun (ζ:(Nat))=>ζ=0) (fun (ζ:(Nat))=>0-ζ) (0) (rfl) Zc Zc rfl tk ?_
 rintro j hI
 try simp only[kA,List.append_assoc] at hI ⊢
 try dsimp only at hI ⊢
 subst hI
 repeat' (first|(refine Za (.func 258) ?_;refine qC rfl rfl (Zu _ _ s2 1) ?_;rintro v ρ' L' hle ⟨rfl,rfl,rfl⟩<;>(try simp only[kA]))|refine zV ?_|intro _)
 refine Zi [(2,_),(3,_),(4,_),(5,_),(110,_)] (fun (ζ:(Nat))=>[(111,.int .u64 ζ)]) (fun (ζ:(Nat))=>ρ') (fun (ζ:(Nat))=>[]) (fun (ζ:(Nat))=>ζ=0) (fun (ζ:(Nat))=>0-ζ) (0) (rfl) Zc Zc rfl tk ?_
 rintro j hI
 try simp only[kA,List.append_assoc] at hI ⊢
 try dsimp only at hI ⊢
 subst hI
 repeat' (first|refine zV ?_|intro _)
 exact qE (L':=[]) ⟨Hp.le_refl _,ZU hdb⟩
theorem read_9b3 (ρ:Hp)(a:Option Addr)(n c:Nat)(l:List UInt8)(h:SIn ρ Zo a n l)(hc:n≤c)(hb:n≤1000000)(k:Nat)(l1:List UInt8)(hl1:ZC 1 (l,0,false)=(k,l1,0,false))(lsn:Nat)(l2:List UInt8)(hl2:ZC 8 (l1,0,false)=(lsn,l2,0,false))(txn:Nat)(l3:List UInt8)(hl3:ZC 4 (l2,0,false)=(txn,l3,0,false))(hk9:k=9)(hno:okS (ZC 8 (l3,0,false)).2=false):Spec Tryz.prog 189 [.slice a n c] ρ [] (fun z ρ' L'=>ρ.le ρ'∧Xc ρ' l z L'):=by
 have hI0:RdI ρ ⟨a,n,c⟩ l:=⟨h,hc,hb⟩
 have hln:=h.len
 have hdb:Ye l=false:=bad4 hl1 hl2 hl3 hno
 refine Zb Tryz.func189 rfl rfl rfl fun u R=>?_
 simp only[Zd,kA]
 repeat' (first|(refine Za (.func 258) ?_;refine qC rfl rfl (Zg _ _ ⟨a,n,c⟩ l hI0 1 256 rfl (by decide) hl1) ?_;rintro v ρ' L' hle ⟨rfl,rfl,hb1,s1,h1,rfl⟩<;>(try simp only[kA]))|(refine Za (.func 258) ?_;refine qC rfl rfl (Zg _ _ s1 l1 h1 8 18446744073709551616 rfl (by decide) hl2) ?_;rintro v ρ' L' hle ⟨rfl,rfl,hb2,s2,h2,rfl⟩<;>(try simp only[kA]))|(refine Za (.func 258) ?_;refine qC rfl rfl (Zg _ _ s2 l2 h2 4 4294967296 rfl (by decide) hl3) ?_;rintro v ρ' L' hle ⟨rfl,rfl,hb3,s3,h3,rfl⟩<;>(try simp only[kA]))|(refine Za (.func 258) ?_;refine qC rfl rfl (ZP _ _ s3 l3 h3 8 (by decide) hno) ?_;rintro v ρ' L' hle ⟨rfl,rfl,rfl⟩<;>(try simp only[kA]))|(refine Za (.func 258) ?_;refine qC rfl rfl (Zu _ _ s3 1) ?_;rintro v ρ' L' hle ⟨rfl,rfl,rfl⟩<;>(try simp only[kA]))|(refine Za (.func 258) ?_;refine qC rfl rfl (Zu _ _ s3 4) ?_;rintro v ρ' L' hle ⟨rfl,rfl,rfl⟩<;>(try simp only[kA]))|(refine Za (.func 258) ?_;refine qC rfl rfl (Zu _ _ s3 8) ?_;rintro v ρ' L' hle ⟨rfl,rfl,rfl⟩<;>(try simp only[kA]))|refine zV ?_|intro _)
 refine Zi [(2,_),(3,_),(4,_),(5,_),(78,_)] (fun (ζ:(Nat))=>[(79,.int .u64 ζ)]) (fun (ζ:(Nat))=>ρ') (fun (ζ:(Nat))=>[]) (fun (ζ:(Nat))=>ζ=0) (fun (ζ:(Nat))=>0-ζ) (0) (rfl) Zc Zc rfl tk ?_
 rintro j hI
 try simp only[kA,List.append_assoc] at hI ⊢
 try dsimp only at hI ⊢
 subst hI
 repeat' (first|(refine Za (.func 258) ?_;refine qC rfl rfl (Zu _ _ s3 1) ?_;rintro v ρ' L' hle ⟨rfl,rfl,rfl⟩<;>(try simp only[kA]))|refine zV ?_|intro _)
 refine Zi [(2,_),(3,_),(4,_),(5,_),(110,_)] (fun (ζ:(Nat))=>[(111,.int .u64 ζ)]) (fun (ζ:(Nat))=>ρ') (fun (ζ:(Nat))=>[]) (fun (ζ:(Nat))=>ζ=0) (fun (ζ:(Nat))=>0-ζ) (0) (rfl) Zc Zc rfl tk ?_
 rintro j hI
 try simp only[kA,List.append_assoc] at hI ⊢
 try dsimp only at hI ⊢
 subst hI
 repeat' (first|refine zV ?_|intro _)
 exact qE (L':=[]) ⟨Hp.le_refl _,ZU hdb⟩
theorem read_9b4 (ρ:Hp)(a:Option Addr)(n c:Nat)(l:List UInt8)(h:SIn ρ Zo a n l)(hc:n≤c)(hb:n≤1000000)(k:Nat)(l1:List UInt8)(hl1:ZC 1 (l,0,false)=(k,l1,0,false))(lsn:Nat)(l2:List UInt8)(hl2:ZC 8 (l1,0,false)=(lsn,l2,0,false))(txn:Nat)(l3:List UInt8)(hl3:ZC 4 (l2,0,false)=(txn,l3,0,false))(prev:Nat)(l4:List UInt8)(hl4:ZC 8 (l3,0,false)=(prev,l4,0,false))(hk9:k=9)(hno:okS (ZC 4 (l4,0,false)).2=false):Spec Tryz.prog 189 [.slice a n c] ρ [] (fun z ρ' L'=>ρ.le ρ'∧Xc ρ' l z L'):=by
 have hI0:RdI ρ ⟨a,n,c⟩ l:=⟨h,hc,hb⟩
 have hln:=h.len
 have hdb:Ye l=false:=Xz (by
  rw[XO hl1 hl2 hl3 hl4]
  unfold Wt
  rw[if_neg (show ¬((k:Nat):Int)=2 by omega),if_neg (show ¬((k:Nat):Int)=3 by omega),if_neg (show ¬((k:Nat):Int)=4 by omega),if_neg (show ¬((k:Nat):Int)=5 by omega),if_pos (show ((k:Nat):Int)=9 by omega)]
  unfold WV cxD
  exact st_cdD (st_ctD hno))
 refine Zb Tryz.func189 rfl rfl rfl fun u R=>?_
 simp only[Zd,kA]
 repeat' (first|(refine Za (.func 258) ?_;refine qC rfl rfl (Zg _ _ ⟨a,n,c⟩ l hI0 1 256 rfl (by decide) hl1) ?_;rintro v ρ' L' hle ⟨rfl,rfl,hb1,s1,h1,rfl⟩<;>(try simp only[kA]))|(refine Za (.func 258) ?_;refine qC rfl rfl (Zg _ _ s1 l1 h1 8 18446744073709551616 rfl (by decide) hl2) ?_;rintro v ρ' L' hle ⟨rfl,rfl,hb2,s2,h2,rfl⟩<;>(try simp only[kA]))|(refine Za (.func 258) ?_;refine qC rfl rfl (Zg _ _ s2 l2 h2 4 4294967296 rfl (by decide) hl3) ?_;rintro v ρ' L' hle ⟨rfl,rfl,hb3,s3,h3,rfl⟩<;>(try simp only[kA]))|(refine Za (.func 258) ?_;refine qC rfl rfl (Zg _ _ s3 l3 h3 8 18446744073709551616 rfl (by decide) hl4) ?_;rintro v ρ' L' hle ⟨rfl,rfl,hb4,s4,h4,rfl⟩<;>(try simp only[kA]))|(refine Za (.func 258) ?_;refine qC rfl rfl (ZP _ _ s4 l4 h4 4 (by decide) hno) ?_;rintro v ρ' L' hle ⟨rfl,rfl,rfl⟩<;>(try simp only[kA]))|(refine Za (.func 258) ?_;refine qC rfl rfl (Zu _ _ s4 1) ?_;rintro v ρ' L' hle ⟨rfl,rfl,rfl⟩<;>(try simp only[kA]))|(refine Za (.func 258) ?_;refine qC rfl rfl (Zu _ _ s4 4) ?_;rintro v ρ' L' hle ⟨rfl,rfl,rfl⟩<;>(try simp only[kA]))|(refine Za (.func 258) ?_;refine qC rfl rfl (Zu _ _ s4 8) ?_;rintro v ρ' L' hle ⟨rfl,rfl,rfl⟩<;>(try simp only[kA]))|refine zV ?_|intro _)
 refine Zi [(2,_),(3,_),(4,_),(5,_),(78,_)] (fun (ζ:(Nat))=>[(79,.int .u64 ζ)]) (fun (ζ:(Nat))=>ρ') (fun (ζ:(Nat))=>[]) (fun (ζ:(Nat))=>ζ=0) (fun (ζ:(Nat))=>0-ζ) (0) (rfl) Zc Zc rfl tk ?_
 rintro j hI
 try simp only[kA,List.append_assoc] at hI ⊢
 try dsimp only at hI ⊢
 subst hI
 repeat' (first|(refine Za (.func 258) ?_;refine qC rfl rfl (Zu _ _ s4 1) ?_;rintro v ρ' L' hle ⟨rfl,rfl,rfl⟩<;>(try simp only[kA]))|refine zV ?_|intro _)
 refine Zi [(2,_),(3,_),(4,_),(5,_),(110,_)] (fun (ζ:(Nat))=>[(111,.int .u64 ζ)]) (fun (ζ:(Nat))=>ρ') (fun (ζ:(Nat))=>[]) (fun (ζ:(Nat))=>ζ=0) (fun (ζ:(Nat))=>0-ζ) (0) (rfl) Zc Zc rfl tk ?_
 rintro j hI
 try simp only[kA,List.append_assoc] at hI ⊢
 try dsimp only at hI ⊢
 subst hI
 repeat' (first|refine zV ?_|intro _)
 exact qE (L':=[]) ⟨Hp.le_refl _,ZU hdb⟩
theorem read_9b5 (ρ:Hp)(a:Option Addr)(n c:Nat)(l:List UInt8)(h:SIn ρ Zo a n l)(hc:n≤c)(hb:n≤1000000)(k:Nat)(l1:List UInt8)(hl1:ZC 1 (l,0,false)=(k,l1,0,false))(lsn:Nat)(l2:List UInt8)(hl2:ZC 8 (l1,0,false)=(lsn,l2,0,false))(txn:Nat)(l3:List UInt8)(hl3:ZC 4 (l2,0,false)=(txn,l3,0,false))(prev:Nat)(l4:List UInt8)(hl4:ZC 8 (l3,0,false)=(prev,l4,0,false))(nx:Nat)(l5:List UInt8)(hl5:ZC 4 (l4,0,false)=(nx,l5,0,false))(hk9:k=9)(hno:okS (ZC 1 (l5,0,false)).2=false):Spec Tryz.prog 189 [.slice a n c] ρ [] (fun z ρ' L'=>ρ.le ρ'∧Xc ρ' l z L'):=by
 have hI0:RdI ρ ⟨a,n,c⟩ l:=⟨h,hc,hb⟩
 have hln:=h.len
 have hdb:Ye l=false:=Xz (by
  rw[XO hl1 hl2 hl3 hl4]
  unfold Wt
  rw[if_neg (show ¬((k:Nat):Int)=2 by omega),if_neg (show ¬((k:Nat):Int)=3 by omega),if_neg (show ¬((k:Nat):Int)=4 by omega),if_neg (show ¬((k:Nat):Int)=5 by omega),if_pos (show ((k:Nat):Int)=9 by omega)]
  unfold WV cxD
  rw[hl5]
  exact st_cdD (st_many hno))
 refine Zb Tryz.func189 rfl rfl rfl fun u R=>?_
 simp only[Zd,kA]
 repeat' (first|(refine Za (.func 258) ?_;refine qC rfl rfl (Zg _ _ ⟨a,n,c⟩ l hI0 1 256 rfl (by decide) hl1) ?_;rintro v ρ' L' hle ⟨rfl,rfl,hb1,s1,h1,rfl⟩<;>(try simp only[kA]))|(refine Za (.func 258) ?_;refine qC rfl rfl (Zg _ _ s1 l1 h1 8 18446744073709551616 rfl (by decide) hl2) ?_;rintro v ρ' L' hle ⟨rfl,rfl,hb2,s2,h2,rfl⟩<;>(try simp only[kA]))|(refine Za (.func 258) ?_;refine qC rfl rfl (Zg _ _ s2 l2 h2 4 4294967296 rfl (by decide) hl3) ?_;rintro v ρ' L' hle ⟨rfl,rfl,hb3,s3,h3,rfl⟩<;>(try simp only[kA]))|(refine Za (.func 258) ?_;refine qC rfl rfl (Zg _ _ s3 l3 h3 8 18446744073709551616 rfl (by decide) hl4) ?_;rintro v ρ' L' hle ⟨rfl,rfl,hb4,s4,h4,rfl⟩<;>(try simp only[kA]))|(refine Za (.func 258) ?_;refine qC rfl rfl (Zg _ _ s4 l4 h4 4 4294967296 rfl (by decide) hl5) ?_;rintro v ρ' L' hle ⟨rfl,rfl,hb5,s5,h5,rfl⟩<;>(try simp only[kA]))|(refine Za (.func 258) ?_;refine qC rfl rfl (ZP _ _ s5 l5 h5 1 (by decide) hno) ?_;rintro v ρ' L' hle ⟨rfl,rfl,rfl⟩<;>(try simp only[kA]))|(refine Za (.func 258) ?_;refine qC rfl rfl (Zu _ _ s5 1) ?_;rintro v ρ' L' hle ⟨rfl,rfl,rfl⟩<;>(try simp only[kA]))|(refine Za (.func 258) ?_;refine qC rfl rfl (Zu _ _ s5 4) ?_;rintro v ρ' L' hle ⟨rfl,rfl,rfl⟩<;>(try simp only[kA]))|(refine Za (.func 258) ?_;refine qC rfl rfl (Zu _ _ s5 8) ?_;rintro v ρ' L' hle ⟨rfl,rfl,rfl⟩<;>(try simp only[kA]))|refine zV ?_|intro _)
 refine Zi [(2,_),(3,_),(4,_),(5,_),(78,_)] (fun (ζ:(Nat))=>[(79,.int .u64 ζ)]) (fun (ζ:(Nat))=>ρ') (fun (ζ:(Nat))=>[]) (fun (ζ:(Nat))=>ζ=0) (fun (ζ:(Nat))=>0-ζ) (0) (rfl) Zc Zc rfl tk ?_
 rintro j hI
 try simp only[kA,List.append_assoc] at hI ⊢
 try dsimp only at hI ⊢
 subst hI
 repeat' (first|(refine Za (.func 258) ?_;refine qC rfl rfl (Zu _ _ s5 1) ?_;rintro v ρ' L' hle ⟨rfl,rfl,rfl⟩<;>(try simp only[kA]))|refine zV ?_|intro _)
 refine Zi [(2,_),(3,_),(4,_),(5,_),(110,_)] (fun (ζ:(Nat))=>[(111,.int .u64 ζ)]) (fun (ζ:(Nat))=>ρ') (fun (ζ:(Nat))=>[]) (fun (ζ:(Nat))=>ζ=0) (fun (ζ:(Nat))=>0-ζ) (0) (rfl) Zc Zc rfl tk ?_
 rintro j hI
 try simp only[kA,List.append_assoc] at hI ⊢
 try dsimp only at hI ⊢
 subst hI
 repeat' (first|refine zV ?_|intro _)
 exact qE (L':=[]) ⟨Hp.le_refl _,ZU hdb⟩
theorem read12_spec (ρ:Hp)(a:Option Addr)(n c:Nat)(l:List UInt8)(h:SIn ρ Zo a n l)(hc:n≤c)(hb:n≤1000000):Spec Tryz.prog 189 [.slice a n c] ρ [] (fun z ρ' L'=>ρ.le ρ'∧Xc ρ' l z L'):=by
 have hln:=h.len
 by_cases h0:n<1
 ·exact read_0 ρ a n c l h hc hb h0
 have h1:1≤n:=by omega
 obtain⟨k,l1,hk⟩:∃k l1,ZC 1 (l,0,false)=(k,l1,0,false):=⟨_,_,rdN_go (by omega)⟩
 by_cases k2:k=2
 ·exact read_2 ρ a n c l h hc hb h1 k l1 hk k2
 by_cases k3:k=3
 ·exact read_3 ρ a n c l h hc hb h1 k l1 hk k3
 by_cases k5:k=5
 ·exact read_5 ρ a n c l h hc hb h1 k l1 hk k5
 by_cases k4:k=4
 ·rcases YG 8 l1 with⟨lsn,l2,e2⟩|hno
  case' inr=>exact read_4b1 ρ a n c l h hc hb k l1 hk k4 hno
  rcases YG 4 l2 with⟨txn,l3,e3⟩|hno
  case' inr=>exact read_4b2 ρ a n c l h hc hb k l1 hk lsn l2 e2 k4 hno
  rcases YG 8 l3 with⟨prev,l4,e4⟩|hno
  case' inr=>exact read_4b3 ρ a n c l h hc hb k l1 hk lsn l2 e2 txn l3 e3 k4 hno
  rcases YG 8 l4 with⟨next,l5,e5⟩|hno
  case' inr=>exact read_4b4 ρ a n c l h hc hb k l1 hk lsn l2 e2 txn l3 e3 prev l4 e4 k4 hno
  rcases YG 1 l5 with⟨m,l6,e6⟩|hno
  case' inr=>exact read_4b5 ρ a n c l h hc hb k l1 hk lsn l2 e2 txn l3 e3 prev l4 e4 next l5 e5 k4 hno
  exact read_4g ρ a n c l h hc hb k l1 hk lsn l2 e2 txn l3 e3 prev l4 e4 next l5 e5 m l6 e6 k4
 by_cases k9:k=9
 ·rcases YG 8 l1 with⟨lsn,l2,e2⟩|hno
  case' inr=>exact read_9b1 ρ a n c l h hc hb k l1 hk k9 hno
  rcases YG 4 l2 with⟨txn,l3,e3⟩|hno
  case' inr=>exact read_9b2 ρ a n c l h hc hb k l1 hk lsn l2 e2 k9 hno
  rcases YG 8 l3 with⟨prev,l4,e4⟩|hno
  case' inr=>exact read_9b3 ρ a n c l h hc hb k l1 hk lsn l2 e2 txn l3 e3 k9 hno
  rcases YG 4 l4 with⟨nx,l5,e5⟩|hno
  case' inr=>exact read_9b4 ρ a n c l h hc hb k l1 hk lsn l2 e2 txn l3 e3 prev l4 e4 k9 hno
  rcases YG 1 l5 with⟨m,l6,e6⟩|hno
  case' inr=>exact read_9b5 ρ a n c l h hc hb k l1 hk lsn l2 e2 txn l3 e3 prev l4 e4 nx l5 e5 k9 hno
  exact read_9g ρ a n c l h hc hb k l1 hk lsn l2 e2 txn l3 e3 prev l4 e4 nx l5 e5 m l6 e6 k9
 exact read_o ρ a n c l h hc hb h1 k l1 hk ⟨k2,k3,k4,k5,k9⟩
structure Lf where
 lsn:Nat
 cost:Int
deriving DecidableEq
abbrev lfV (x:Lf):List Value:=[.int .u64 x.lsn,.int .i64 x.cost]
abbrev u64c (n:Nat):Value:=.int .u64 n
structure Tx where
 num:Int
 state:Int
 first:Nat
 last:Nat
 undo:Nat
 stack:List Lf
 marks:List Nat
 sv:SV
 mv:SV
abbrev txV (x:Tx):List Value:=[.int .i64 x.num,.int .i64 x.state,.int .u64 x.first,.int .u64 x.last,.int .u64 x.undo,.slice x.sv.a x.sv.n x.sv.c,.slice x.mv.a x.mv.n x.mv.c]
structure Tx.In (ρ:Hp)(x:Tx):Prop where
 s:AIn ρ 2 lfV x.sv.a x.sv.n x.stack
 m:SIn ρ u64c x.mv.a x.mv.n x.marks
 sb:x.sv.n≤200000000000000
 mb:x.mv.n≤200000000000000
 sc:x.sv.n≤x.sv.c
 mc:x.mv.n≤x.mv.c
theorem Tx.In.mono {ρ ρ' x}(h:Tx.In ρ x)(hle:ρ.le ρ'):Tx.In ρ' x:=⟨h.s.mono hle,h.m.mono hle,h.sb,h.mb,h.sc,h.mc⟩
structure Ros where
 next:Int
 txns:List Tx
structure RosIn (ρ:Hp)(v:SV)(r:Ros):Prop where
 at':AS ρ 7 txV v r.txns
 tx:∀x∈r.txns,Tx.In ρ x
theorem RosIn.mono {ρ ρ' v r}(h:RosIn ρ v r)(hle:ρ.le ρ'):RosIn ρ' v r:=⟨h.at'.mono hle,fun x hx=>(h.tx x hx).mono hle⟩
def tblB:Int→List CkP→Bool
 | _,[]=>true
 | last,p::r=>decide (last<p.page∧p.page<64∧1≤p.since∧p.since≤1099511627776) && tblB p.page r
def tblOk (d:List CkP):Bool:=tblB (-1) d
theorem RosIn.nil {ρ:Hp}:RosIn ρ Vb ⟨0,[]⟩:=⟨AS.nil,by simp⟩
structure AtR (l:List CkP)(page:Int)(i:Nat)(there:Bool):Prop where
 le:i≤l.length
 hit:there=true→∃h:i<l.length,l[i].page=page
 lo:tblOk l=true→∀j (h:j<l.length),j<i→l[j].page<page
 hi:tblOk l=true→there=false→∀j (h:j<l.length),i≤j→page<l[j].page
end Go.Proofs.E
namespace Go.Proofs.E
open Go
set_option linter.unusedVariables false
set_option linter.unusedSimpArgs false
set_option linter.unusedSectionVars false
set_option maxRecDepth 4000
set_option maxHeartbeats 1000000
attribute [local irreducible] Yl TL TC TE Spec ZI R1 Hp.le EnvLe TS TR YS Zp TP QP
def addP (page:Int)(lsn:Nat):List CkP→List CkP
 | []=>[⟨page,lsn⟩]
 | p::r=>if p.page<page then p::addP page lsn r else if p.page=page then p::r else ⟨page,lsn⟩::p::r
theorem addP_in {page:Int}{lsn:Nat}:∀{l:List CkP} {i:Nat} (h:i<l.length),(∀j (h:j<l.length),j<i→l[j].page<page)→l[i].page=page→addP page lsn l=l
 | p::r,0,h,_,he=>by simp at he;simp[addP,he]
 | p::r,i+1,h,hlt,he=>by
  have h0:=hlt 0 (by simp) (by omega)
  simp only[List.getElem_cons_zero] at h0
  rw[addP,if_pos h0,addP_in (i:=i) (by simpa using h) (fun j hj hji=>by have:=hlt (j+1) (by simpa using hj) (by omega);simpa using this) (by simpa using he)]
theorem addP_out {page:Int}{lsn:Nat}:∀{l:List CkP} {i:Nat} (h:i≤l.length),(∀j (h:j<l.length),j<i→l[j].page<page)→(∀j (h:j<l.length),i≤j→page<l[j].page)→addP page lsn l=l.take i++⟨page,lsn⟩::l.drop i
 | [],0,_,_,_=>rfl
 | p::r,0,_,_,hi=>by
  have h0:=hi 0 (by simp) (by omega)
  simp only[List.getElem_cons_zero] at h0
  rw[addP,if_neg (by omega),if_neg (by omega)];rfl
 | p::r,i+1,h,hlt,hi=>by
  have h0:=hlt 0 (by simp) (by omega)
  simp only[List.getElem_cons_zero] at h0
  rw[addP,if_pos h0,addP_out (i:=i) (by simpa using h) (fun j hj hji=>by have:=hlt (j+1) (by simpa using hj) (by omega);simpa using this) (fun j hj hji=>by have:=hi (j+1) (by simpa using hj) (by omega);simpa using this)]
  rfl
theorem AtR.add {l:List CkP}{page:Int}{lsn i:Nat}{there:Bool}(h:AtR l page i there)(ht:tblOk l=true):addP page lsn l=if there then l else l.take i++⟨page,lsn⟩::l.drop i:=by
 cases there with
 | true=>
  obtain⟨h1,h2⟩:=h.hit rfl
  rw[if_pos rfl]
  exact addP_in h1 (h.lo ht) h2
 | false=>
  rw[if_neg (by simp)]
  exact addP_out h.le (h.lo ht) (h.hi ht rfl)
def zRc:Rc:=⟨0,0,0,0,0,[],[],0,[],[]⟩
def zRV:RV:=⟨Vb,Vb,Vb,Vb⟩
theorem RcIn.zero {ρ:Hp}:RcIn ρ zRV zRc:=⟨AS.nil,by simp[zRc],AS.nil,AS.nil,AS.nil,by simp[zRc]⟩
end Go.Proofs.E
namespace Go.Proofs.E
open Go
set_option linter.unusedVariables false
set_option linter.unusedSimpArgs false
set_option linter.unusedSectionVars false
set_option maxRecDepth 4000
set_option maxHeartbeats 1000000
attribute [local irreducible] Yl TL TC TE Spec ZI R1 Hp.le EnvLe TS TR YS Zp
structure CW (ρ:Hp)(v:CV)(c:Wq):Prop where
 r:AIn ρ 4 Yq v.ra v.rn c.rows
 k:AIn ρ 3 Xl v.ka v.kn c.kids
 rb:v.rn≤140737488355328
 kb:v.kn≤140737488355328
 rc:v.rn≤v.rc
 kc:v.kn≤v.kc
 row:∀r∈c.rows,Yx r
 kid:∀k∈c.kids,k.id<65536
structure AW (ρ:Hp)(sz:Nat){α:Type}(g:α→List Value)(s:SV)(l:List α):Prop where
 at':AIn ρ sz g s.a s.n l
 big:s.n≤140737488355328
 cap:s.n≤s.c
structure RcW (ρ:Hp)(v:RV)(r:Rc):Prop where
 i:AW ρ 7 imV v.i r.ims
 im:∀x∈r.ims,CW ρ x.bv x.b∧CW ρ x.av x.a
 s:AW ρ 6 YK v.s r.steps
 t:AW ρ 5 YM v.t r.txns
 d:AW ρ 2 Xq v.d r.dirty
 sf:∀s∈r.steps,Yx s.row
theorem CW.mono {ρ ρ' v c}(h:CW ρ v c)(hle:ρ.le ρ'):CW ρ' v c:=⟨h.r.mono hle,h.k.mono hle,h.rb,h.kb,h.rc,h.kc,h.row,h.kid⟩
theorem AW.mono {ρ ρ':Hp}{sz:Nat}{α:Type}{g:α→List Value}{s:SV}{l:List α}(h:AW ρ sz g s l)(hle:ρ.le ρ'):AW ρ' sz g s l:=⟨h.at'.mono hle,h.big,h.cap⟩
theorem RcW.mono {ρ ρ' v r}(h:RcW ρ v r)(hle:ρ.le ρ'):RcW ρ' v r:=⟨h.i.mono hle,fun x hx=>⟨(h.im x hx).1.mono hle,(h.im x hx).2.mono hle⟩,h.s.mono hle,h.t.mono hle,h.d.mono hle,h.sf⟩
def shortR (r:Row):Row:=⟨r.t,r.id,r.val,r.note.take 9⟩
def fewC (c:Wq):Wq:=⟨c.kind,(c.rows.take 5).map shortR,c.kids.take 5⟩
theorem take_min9 (l:List UInt8):l.take (min (l.length:Int) 9).toNat=l.take 9:=by
 by_cases h:l.length≤9
 ·rw[show (min (l.length:Int) 9).toNat=l.length by omega,List.take_of_length_le (Nat.le_refl _),List.take_of_length_le h]
 ·rw[show (min (l.length:Int) 9).toNat=9 by omega]
structure CInW (ρ:Hp)(v:CV)(rows:List Row)(kids:List Kid):Prop where
 r:AIn ρ 4 Yq v.ra v.rn rows
 k:AIn ρ 3 Xl v.ka v.kn kids
 rb:v.rn≤9223372036854775807
 kb:v.kn≤9223372036854775807
 rc:v.rn≤v.rc
 kc:v.kn≤v.kc
theorem CInW.mono {ρ ρ' v rows kids}(h:CInW ρ v rows kids)(hle:ρ.le ρ'):CInW ρ' v rows kids:=⟨h.r.mono hle,h.k.mono hle,h.rb,h.kb,h.rc,h.kc⟩
theorem flatK_one (l:List Kid):((l.map Xl).flatten).all (·.oneCell')=true:=by
 induction l with
 | nil=>rfl
 | cons k r ih=>simp only[List.map_cons,List.flatten_cons,List.all_append,ih,Bool.and_true];rfl
theorem flatR_one (l:List Row):((l.map Yq).flatten).all (·.oneCell')=true:=by
 induction l with
 | nil=>rfl
 | cons k r ih=>simp only[List.map_cons,List.flatten_cons,List.all_append,ih,Bool.and_true];rfl
theorem take_five {α:Type}(l:List α)(n m:Nat)(h:l.length=n)(hm:m=min n 5):l.take m=l.take 5:=by
 by_cases h5:n≤5
 ·rw[show m=n by omega,List.take_of_length_le (by omega),List.take_of_length_le (by omega)]
 ·rw[show m=5 by omega]
theorem row_get {sp:List Value}:∀(acc:List Row) (k:Nat) (r:Row),acc[k]?=some r→((acc.map Yq).flatten++sp)[0+k*4+3]?=some (strV r.note)
 | [],k,r,h=>by cases h
 | a::t,0,r,h=>by cases h;rfl
 | a::t,k+1,r,h=>by
  have ih:=row_get (sp:=sp) t k r (by simpa using h)
  rw[show 0+(k+1)*4+3=(0+k*4+3)+4 by omega]
  simpa only [List.map_cons,List.flatten_cons,Yq,kA,List.getElem?_cons_succ] using ih
theorem row_set {sp:List Value}(s:List UInt8):∀(acc:List Row) (k:Nat) (r:Row),acc[k]?=some r→((acc.map Yq).flatten++sp).set (0+k*4+3) (strV s)=((acc.set k ⟨r.t,r.id,r.val,s⟩).map Yq).flatten++sp
 | [],k,r,h=>by cases h
 | a::t,0,r,h=>by cases h;rfl
 | a::t,k+1,r,h=>by
  have ih:=row_set (sp:=sp) s t k r (by simpa using h)
  rw[show 0+(k+1)*4+3=(0+k*4+3)+4 by omega]
  simp only[List.map_cons,List.flatten_cons,Yq,kA,List.set_cons_succ]
  rw[ih]
theorem row_setL {sp:List Value}(s:List UInt8){acc:List Row}{k:Nat}{r:Row}(h:acc[k]?=some r):SetL ((acc.map Yq).flatten++sp) (0+k*4+3) (strV s) (((acc.set k ⟨r.t,r.id,r.val,s⟩).map Yq).flatten++sp):=by
 have h1:=row_get (sp:=sp) acc k r h
 have hlt:0+k*4+3<((acc.map Yq).flatten++sp).length:=by
  rcases Nat.lt_or_ge (0+k*4+3) ((acc.map Yq).flatten++sp).length with hh|hh
  ·exact hh
  ·rw[List.getElem?_eq_none hh] at h1;cases h1
 refine⟨hlt, ?_⟩
 rw[←row_set s acc k r h,List.set_eq_take_append_cons_drop,if_pos hlt]
 simp[stc]
theorem set_step (RS:List Row)(k:Nat)(h:k<RS.length):((RS.take k).map shortR++RS.drop k).set k (shortR RS[k])=(RS.take (k+1)).map shortR++RS.drop (k+1):=by
 rw[List.set_append_right _ _ (by simp;omega),List.drop_eq_getElem_cons h,List.take_succ_eq_append_getElem h]
 rw[show k-((RS.take k).map shortR).length=0 by simp;omega]
 simp only[List.set_cons_zero,List.map_append,List.map_cons,List.map_nil,List.append_assoc,kA]
theorem get_step (RS:List Row)(k:Nat)(h:k<RS.length):((RS.take k).map shortR++RS.drop k)[k]?=some RS[k]:=by
 rw[List.getElem?_append_right (by simp;omega),List.drop_eq_getElem_cons h]
 simp[show k-min k RS.length=0 by omega]
instance (priority:=1200) eqCkP {x y:CkP}:EqC Tryz.prog 8 108 (.agg ⟨Xq x⟩) (.agg ⟨Xq y⟩) (decide (x=y)):=by
 have h:EqC Tryz.prog 8 108 (.agg ⟨[.int .i64 x.page,.int .u64 x.since]⟩) (.agg ⟨[.int .i64 y.page,.int .u64 y.since]⟩) _:=inferInstance
 refine⟨fun d w hd=>?_⟩
 rw[h.out d w hd]
 congr 1
 obtain⟨t,i⟩:=x
 obtain⟨t',i'⟩:=y
 simp only[CkP.mk.injEq,Bool.and_true,Bool.decide_and]
 have e:((i:Int) == (i':Int))=decide (i=i'):=by
  by_cases h:i=i'
  ·subst h;simp
  ·rw[decide_eq_false h];simp only[beq_eq_false_iff_ne,ne_eq];omega
 rw[e]
 by_cases h1:t=t'<;>by_cases h2:i=i'<;>simp[h1,h2]
end Go.Proofs.E
namespace Go.Proofs.E
open Go
set_option linter.unusedVariables false
set_option linter.unusedSimpArgs false
set_option linter.unusedSectionVars false
set_option maxRecDepth 4000
set_option maxHeartbeats 1000000
attribute [local irreducible] Yl TL TC TE Spec ZI R1 Hp.le EnvLe TS TR YS Zp TP QP
instance (priority:=1200) eqCkT {x y:CkT}:EqC Tryz.prog 8 187 (.agg ⟨YM x⟩) (.agg ⟨YM y⟩) (decide (x=y)):=by
 have h:EqC Tryz.prog 8 187 (.agg ⟨[.int .i64 x.txn,.int .u64 x.first,.int .u64 x.last,.int .u64 x.undo,.int .i64 x.state]⟩) (.agg ⟨[.int .i64 y.txn,.int .u64 y.first,.int .u64 y.last,.int .u64 y.undo,.int .i64 y.state]⟩) _:=inferInstance
 refine⟨fun d w hd=>?_⟩
 rw[h.out d w hd]
 congr 1
 obtain⟨t,a,b,c,s⟩:=x
 obtain⟨t',a',b',c',s'⟩:=y
 simp only[CkT.mk.injEq,Bool.and_true,Bool.decide_and]
 have e:∀i i':Nat,((i:Int) == (i':Int))=decide (i=i'):=fun i i'=>by
  by_cases h:i=i'
  ·subst h;simp
  ·rw[decide_eq_false h];simp only[beq_eq_false_iff_ne,ne_eq];omega
 rw[e,e,e]
 have e2:∀i i':Int,(i == i')=decide (i=i'):=fun i i'=>by
  by_cases h:i=i'<;>simp[h]
 rw[e2,e2]
instance (priority:=1200) eqStp {x y:Stp}:EqC Tryz.prog 8 173 (.agg ⟨YK x⟩) (.agg ⟨YK y⟩) (decide (x=y)):=by
 have h:EqC Tryz.prog 8 173 (.agg ⟨[.int .i64 x.kind,.int .i64 x.row.t,.int .u16 x.row.id,.int .i64 x.row.val,strV x.row.note,.int .i64 x.by']⟩) (.agg ⟨[.int .i64 y.kind,.int .i64 y.row.t,.int .u16 y.row.id,.int .i64 y.row.val,strV y.row.note,.int .i64 y.by']⟩) _:=inferInstance
 refine⟨fun d w hd=>?_⟩
 rw[h.out d w hd]
 congr 1
 obtain⟨k,⟨t,i,v,n⟩,b⟩:=x
 obtain⟨k',⟨t',i',v',n'⟩,b'⟩:=y
 simp only[Stp.mk.injEq,Row.mk.injEq,Bool.and_true,Bool.decide_and]
 have e:∀i i':Nat,((i:Int) == (i':Int))=decide (i=i'):=fun i i'=>by
  by_cases h:i=i'
  ·subst h;simp
  ·rw[decide_eq_false h];simp only[beq_eq_false_iff_ne,ne_eq];omega
 rw[e]
 have e2:∀i i':Int,(i == i')=decide (i=i'):=fun i i'=>by
  by_cases h:i=i'<;>simp[h]
 rw[e2,e2,e2,e2]
 simp only[Bool.and_assoc]
end Go.Proofs.E
namespace Go.Proofs.E
open Go
set_option linter.unusedVariables false
set_option linter.unusedSimpArgs false
set_option linter.unusedSectionVars false
set_option maxRecDepth 4000
set_option maxHeartbeats 1000000
attribute [local irreducible] Yl TL TC TE Spec ZI R1 Hp.le EnvLe TS TR YS Zp
def imEq (x y:Im):Bool:=decide (x.page=y.page) && (decide (x.b=y.b) && decide (x.a=y.a))
theorem imEq_iff {x y:Im}:imEq x y=true↔x.plain=y.plain:=by
 obtain⟨p,bv,b,av,a⟩:=x
 obtain⟨p',bv',b',av',a'⟩:=y
 unfold imEq
 simp[Im.plain,Bool.and_eq_true]
theorem map_take_succ {α β:Type}(f:α→β)(l:List α)(k:Nat)(h:k<l.length):(l.map f).take (k+1)=(l.map f).take k++[f l[k]]:=by
 rw[List.take_succ_eq_append_getElem (show k<(l.map f).length by simpa using h)]
 simp
theorem plain_eq {x y:Rc}(h1:x.kind=y.kind∧x.lsn=y.lsn∧x.txn=y.txn∧x.prev=y.prev∧x.next=y.next∧x.nextTxn=y.nextTxn):x.plain=y.plain↔(x.steps=y.steps∧x.txns=y.txns∧x.dirty=y.dirty∧x.ims.map Im.plain=y.ims.map Im.plain):=by
 obtain⟨k,l,t,p,n,i,s,nt,ts,d⟩:=x
 obtain⟨k',l',t',p',n',i',s',nt',ts',d'⟩:=y
 dsimp only at h1
 obtain⟨rfl,rfl,rfl,rfl,rfl,rfl⟩:=h1
 dsimp only[Rc.plain]
 constructor
 ·intro h
  injection h with a1 a2 a3 a4 a5 a6 a7 a8 a9 a10
  exact⟨a7,a9,a10,a6⟩
 ·rintro⟨rfl,rfl,rfl,e⟩
  rw[e]
def fewIm (x:Im):Im:=⟨x.page,Xn,fewC x.b,Xn,fewC x.a⟩
def shortS (s:Stp):Stp:=⟨s.kind,shortR s.row,s.by'⟩
def fewR (r:Rc):Rc:={ r with ims:=(r.ims.take 17).map fewIm,steps:=(r.steps.take 3).map shortS,txns:=r.txns.take 9,dirty:=r.dirty.take 65 }
theorem CW.few {ρ v c}(h:CW ρ v c):CInW ρ v c.rows c.kids:=⟨h.r,h.k,by have:=h.rb;omega,by have:=h.kb;omega,h.rc,h.kc⟩
theorem fewC_fit {ρ v c}(h:CW ρ v c){ρ' v'}(h':CIn ρ' v' (fewC c).rows (fewC c).kids):CI ρ' v' (fewC c):=⟨h',fun r hr=>by
  obtain⟨y,hy,rfl⟩:=List.mem_map.1 hr
  have:=h.row y (List.mem_of_mem_take hy)
  exact⟨this.id,this.val⟩,fun k hk=>h.kid k (List.mem_of_mem_take hk)⟩
theorem flat_one {α:Type}(g:α→List Value)(hg:∀x,(g x).all (·.oneCell')=true)(l:List α):((l.map g).flatten).all (·.oneCell')=true:=by
 induction l with
 | nil=>rfl
 | cons k r ih=>simp only[List.map_cons,List.flatten_cons,List.all_append,ih,Bool.and_true];exact hg k
theorem take_some {α:Type}(c:Nat)(l:List α)(n m:Nat)(h:l.length=n)(hm:m=min n c):l.take m=l.take c:=by
 by_cases h5:n≤c
 ·rw[show m=n by omega,List.take_of_length_le (by omega),List.take_of_length_le (by omega)]
 ·rw[show m=c by omega]
theorem stp_get {sp:List Value}:∀(acc:List Stp) (k:Nat) (r:Stp),acc[k]?=some r→((acc.map YK).flatten++sp)[0+k*6+1+3]?=some (strV r.row.note)
 | [],k,r,h=>by cases h
 | a::t,0,r,h=>by cases h;rfl
 | a::t,k+1,r,h=>by
  have ih:=stp_get (sp:=sp) t k r (by simpa using h)
  rw[show 0+(k+1)*6+1+3=(0+k*6+1+3)+6 by omega]
  simpa only [List.map_cons,List.flatten_cons,YK,kA,List.getElem?_cons_succ] using ih
def noteS (r:Stp)(s:List UInt8):Stp:=⟨r.kind,⟨r.row.t,r.row.id,r.row.val,s⟩,r.by'⟩
theorem stp_set {sp:List Value}(s:List UInt8):∀(acc:List Stp) (k:Nat) (r:Stp),acc[k]?=some r→((acc.map YK).flatten++sp).set (0+k*6+1+3) (strV s)=((acc.set k (noteS r s)).map YK).flatten++sp
 | [],k,r,h=>by cases h
 | a::t,0,r,h=>by cases h;rfl
 | a::t,k+1,r,h=>by
  have ih:=stp_set (sp:=sp) s t k r (by simpa using h)
  rw[show 0+(k+1)*6+1+3=(0+k*6+1+3)+6 by omega]
  simp only[List.map_cons,List.flatten_cons,YK,kA,List.set_cons_succ]
  rw[ih]
theorem stp_setL {sp:List Value}(s:List UInt8){acc:List Stp}{k:Nat}{r:Stp}(h:acc[k]?=some r):SetL ((acc.map YK).flatten++sp) (0+k*6+1+3) (strV s) (((acc.set k (noteS r s)).map YK).flatten++sp):=by
 have h1:=stp_get (sp:=sp) acc k r h
 have hlt:0+k*6+1+3<((acc.map YK).flatten++sp).length:=by
  rcases Nat.lt_or_ge (0+k*6+1+3) ((acc.map YK).flatten++sp).length with hh|hh
  ·exact hh
  ·rw[List.getElem?_eq_none hh] at h1;cases h1
 refine⟨hlt, ?_⟩
 rw[←stp_set s acc k r h,List.set_eq_take_append_cons_drop,if_pos hlt]
 simp[stc]
theorem set_stepG {α:Type}(f:α→α)(RS:List α)(k:Nat)(h:k<RS.length):((RS.take k).map f++RS.drop k).set k (f RS[k])=(RS.take (k+1)).map f++RS.drop (k+1):=by
 rw[List.set_append_right _ _ (by simp;omega),List.drop_eq_getElem_cons h,List.take_succ_eq_append_getElem h]
 rw[show k-((RS.take k).map f).length=0 by simp;omega]
 simp only[List.set_cons_zero,List.map_append,List.map_cons,List.map_nil,List.append_assoc,kA]
theorem get_stepG {α:Type}(f:α→α)(RS:List α)(k:Nat)(h:k<RS.length):((RS.take k).map f++RS.drop k)[k]?=some RS[k]:=by
 rw[List.getElem?_append_right (by simp;omega),List.drop_eq_getElem_cons h]
 simp[show k-min k RS.length=0 by omega]
end Go.Proofs.E
namespace Go.Proofs.E
open Go
set_option linter.unusedVariables false
set_option linter.unusedSimpArgs false
set_option linter.unusedSectionVars false
set_option maxRecDepth 4000
set_option maxHeartbeats 1000000
attribute [local irreducible] Yl TL TC TE Spec ZI R1 Hp.le EnvLe TS TR YS Zp TP QP
structure RcO (ρ:Hp)(v:RV)(r:Rc)(s1 s2:List Value):Prop where
 i:AS ρ 7 imV v.i r.ims
 im:∀x∈r.ims,Im.In ρ x
 s:AS ρ 6 YK v.s r.steps
 t:OwnS (.slice v.t.a v.t.n v.t.c) r.txns.length (r.txns.map YM).flatten s1 5
 d:OwnS (.slice v.d.a v.d.n v.d.c) r.dirty.length (r.dirty.map Xq).flatten s2 2
 tn:v.t.n=r.txns.length
 dn:v.d.n=r.dirty.length
 tb:v.t.n≤9
 db:v.d.n≤65
 sf:∀s∈r.steps,Yx s.row
theorem content16_spec (ρ:Hp)(w:CV)(c:Wq)(h:CInW ρ w c.rows c.kids) :
  Spec Tryz.prog 77 [.agg ⟨XI c.kind w⟩] ρ [] (fun v ρ' L'=>ρ.le ρ'∧∃w',v=.agg ⟨XI c.kind w'⟩∧CIn ρ' w' (fewC c).rows (fewC c).kids∧L'=[]):=by
 obtain⟨kind,rows,kids⟩:=c
 obtain⟨ra,rn,rc,ka,kn,kc⟩:=w
 obtain⟨hr,hk,hrb,hkb,hrc,hkc⟩:=h
 dsimp only at hr hk hrb hkb hrc hkc
 have hrl:=hr.len
 have hkl:=hk.len
 dsimp only[fewC,XI]
 obtain⟨m,hm⟩:∃m,m=min kn 5:=⟨_,rfl⟩
 obtain⟨q,hq⟩:∃q,q=min rn 5:=⟨_,rfl⟩
 have hmt:(min (kn:Int) 5).toNat=m:=by omega
 have hqt:(min (rn:Int) 5).toNat=q:=by omega
 have hk5:=hk.take (hi':=m) (by omega)
 have hr5:=hr.take (hi':=q) (by omega)
 rw[take_five _ _ _ hkl hm] at hk5
 rw[take_five _ _ _ hrl hq] at hr5
 have hm5:m≤5:=by omega
 have hq5:q≤5:=by omega
 generalize kids.take 5=KS at *
 generalize rows.take 5=RS at *
 refine Zb Tryz.func77 rfl rfl rfl fun u R=>?_
 simp only[Zd,kA]
 repeat' (first|refine zV ?_|intro _)
 rename_i b1 b2
 refine tc_cut_k R [] (fun (ζ:(Option Addr)×(Nat)×(List Value)×(Option Addr)×(Nat)×(List Value))=>[(1,.pointer (some ⟨b1,0,none⟩)),(2,.pointer (some ⟨b2,0,none⟩))]) (fun (ζ:(Option Addr)×(Nat)×(List Value)×(Option Addr)×(Nat)×(List Value))=>ρ) (fun (ζ:(Option Addr)×(Nat)×(List Value)×(Option Addr)×(Nat)×(List Value))=>[Zz (.slice ζ.1 q ζ.2.1) (RS.map Yq).flatten ζ.2.2.1 171,Zz (.slice ζ.2.2.2.1 m ζ.2.2.2.2.1) (KS.map Xl).flatten ζ.2.2.2.2.2 238,[(b1,.cells ⟨[.int .i64 kind,.slice ζ.1 q ζ.2.1,.slice ζ.2.2.2.1 m ζ.2.2.2.2.1]⟩ 112 (0,0))],[(b2,.cells ⟨[.int .i64 0,.slice none 0 0,.slice none 0 0]⟩ 112 (0,0))]]) (fun (ζ:(Option Addr)×(Nat)×(List Value)×(Option Addr)×(Nat)×(List Value))=>OwnS (.slice ζ.1 q ζ.2.1) q (RS.map Yq).flatten ζ.2.2.1 4∧OwnS (.slice ζ.2.2.2.1 m ζ.2.2.2.2.1) m (KS.map Xl).flatten ζ.2.2.2.2.2 3) Zc ?_ ?_
 ·refine tc_phase 19 (Zp _ _ ([[(b1,.cells ⟨[.int .i64 kind,.slice ra rn rc,.slice ka kn kc]⟩ 112 (0,0))]])) (by decide +kernel) (XG (hT:=tk) (Hp.le_refl _)) ?_
  simp only[List.take_succ_cons,List.take_zero]
  all_goals (refine rFa 1 ?_;refine rLd 2 ?_;refine rFa 3 ?_;refine rLd 4 ?_;refine rBi 5 ?_;refine rBi 6 ?_;refine rSl 7 ?_;refine rFa 10 ?_;refine rLd 11 ?_;refine rFa 12 ?_;refine rLd 13 ?_;refine rBi 14 ?_;refine rBi 15 ?_;refine rSl 16 ?_)
  all_goals (refine rStep2 (i:=0) (j:=9) ?_ ?_<;>((try refine Zn ?_);(first|(refine Yj ?_;try intro _))<;>((try simp only[kA]);refine Zj ?_;refine WO ?_)))
  all_goals (first|(refine rStep2 (i:=8) (j:=9) ?_ ?_<;>((try refine Zn ?_);(first|(simp only[hqt];refine ZK (n:=0) (xs:=[]) (sp:=[]) (ys:=(RS.map Yq).flatten) (m:=q) (sz:=4) rfl rfl (OwnS.zero _ 4) (hR:=by first|exact Zq|exact Zs Zq|exact Zs (Zs Zq)) (AIn.srcV hr5) (by rw[XF Yq 4 _ (fun x _=>rfl),hr5.len]) (flatR_one _) (by decide) rfl (by omega) (by omega) rfl (fun v1 sp1 hown1=>?_);simp only[Nat.zero_add,List.nil_append] at hown1 ⊢;obtain⟨a1,c1,rfl,hlen1⟩:=hown1.len)|(simp only[hmt];refine ZK (n:=0) (xs:=[]) (sp:=[]) (ys:=(KS.map Xl).flatten) (m:=m) (sz:=3) rfl rfl (OwnS.zero _ 3) (hR:=by first|exact Zq|exact Zs Zq|exact Zs (Zs Zq)) (AIn.srcV hk5) (by rw[XF Xl 3 _ (fun x _=>rfl),hk5.len]) (flatK_one _) (by decide) rfl (by omega) (by omega) rfl (fun v2 sp2 hown2=>?_);simp only[Nat.zero_add,List.nil_append] at hown2 ⊢;obtain⟨a2,c2,rfl,hlen2⟩:=hown2.len)|(refine Yj ?_;try intro _))<;>((try simp only[kA]);refine Zj ?_;refine WO ?_)))|(refine Vv (i:=0) ?_;((try refine Zn ?_);(first|(refine Yj ?_;try intro _))<;>((try simp only[kA]);refine Zj ?_;refine WO ?_))))
  all_goals (first|refine rFa 18 ?_|(refine Vv (i:=8) ?_;((try refine Zn ?_);(first|(simp only[hqt];refine ZK (n:=0) (xs:=[]) (sp:=[]) (ys:=(RS.map Yq).flatten) (m:=q) (sz:=4) rfl rfl (OwnS.zero _ 4) (hR:=by first|exact Zq|exact Zs Zq|exact Zs (Zs Zq)) (AIn.srcV hr5) (by rw[XF Yq 4 _ (fun x _=>rfl),hr5.len]) (flatR_one _) (by decide) rfl (by omega) (by omega) rfl (fun v1 sp1 hown1=>?_);simp only[Nat.zero_add,List.nil_append] at hown1 ⊢;obtain⟨a1,c1,rfl,hlen1⟩:=hown1.len)|(simp only[hmt];refine ZK (n:=0) (xs:=[]) (sp:=[]) (ys:=(KS.map Xl).flatten) (m:=m) (sz:=3) rfl rfl (OwnS.zero _ 3) (hR:=by first|exact Zq|exact Zs Zq|exact Zs (Zs Zq)) (AIn.srcV hk5) (by rw[XF Xl 3 _ (fun x _=>rfl),hk5.len]) (flatK_one _) (by decide) rfl (by omega) (by omega) rfl (fun v2 sp2 hown2=>?_);simp only[Nat.zero_add,List.nil_append] at hown2 ⊢;obtain⟨a2,c2,rfl,hlen2⟩:=hown2.len)|(refine Yj ?_;try intro _))<;>((try simp only[kA]);refine Zj ?_;refine WO ?_))))
  all_goals (first|refine rFa 18 ?_|(refine Vv (i:=9) ?_;((try refine Zn ?_);(first|(refine Yj ?_;try intro _))<;>((try simp only[kA]);refine Zj ?_;refine WO ?_))))
  all_goals (refine Vv (i:=17) ?_;((try refine Zn ?_);(first|(simp only[hqt];refine ZK (n:=0) (xs:=[]) (sp:=[]) (ys:=(RS.map Yq).flatten) (m:=q) (sz:=4) rfl rfl (OwnS.zero _ 4) (hR:=by first|exact Zq|exact Zs Zq|exact Zs (Zs Zq)) (AIn.srcV hr5) (by rw[XF Yq 4 _ (fun x _=>rfl),hr5.len]) (flatR_one _) (by decide) rfl (by omega) (by omega) rfl (fun v1 sp1 hown1=>?_);simp only[Nat.zero_add,List.nil_append] at hown1 ⊢;obtain⟨a1,c1,rfl,hlen1⟩:=hown1.len)|(simp only[hmt];refine ZK (n:=0) (xs:=[]) (sp:=[]) (ys:=(KS.map Xl).flatten) (m:=m) (sz:=3) rfl rfl (OwnS.zero _ 3) (hR:=by first|exact Zq|exact Zs Zq|exact Zs (Zs Zq)) (AIn.srcV hk5) (by rw[XF Xl 3 _ (fun x _=>rfl),hk5.len]) (flatK_one _) (by decide) rfl (by omega) (by omega) rfl (fun v2 sp2 hown2=>?_);simp only[Nat.zero_add,List.nil_append] at hown2 ⊢;obtain⟨a2,c2,rfl,hlen2⟩:=hown2.len)|(refine Yj ?_;try intro _))<;>((try simp only[kA]);refine Zj ?_;refine WO ?_)))
  all_goals refine rDone ?_
  all_goals refine te_phase (fuel:=3) (m:=[true,true,true,true,true,true,true,true,true,true,true,true,true,true,true,true,true,true,true,false,false,false]) (Zp _ _ ([])) rfl rfl (XG (hT:=tk) (Hp.le_refl _)) ?_
  all_goals (refine Vv (i:=19) ?_;((try refine Zn ?_);(first|(refine Yj ?_;try intro _))<;>((try simp only[kA]);refine Zj ?_;refine WO ?_)))
  all_goals refine rFa 20 ?_
  all_goals (refine Vv (i:=21) ?_;((try refine Zn ?_);(first|(refine Yj ?_;try intro _))<;>((try simp only[kA]);refine Zj ?_;refine WO ?_)))
  all_goals refine rDone ?_
  all_goals refine te_cut_g ((a1,c1,sp1,a2,c2,sp2)) (⟨hown1,hown2⟩) Zc Zc rfl tk inferInstance
 ·rintro⟨a1,c1,sp1,a2,c2,sp2⟩ ⟨hown1,hown2⟩
  simp only[kA] at hown1 hown2 ⊢
  have hRl:=hr5.len
  repeat' (first|refine zV ?_|intro _)
  refine Zi [(1,_),(2,_),(26,_)] (fun (ζ:(Nat)×(List Row))=>[(27,.int .i64 ζ.1)]) (fun (ζ:(Nat)×(List Row))=>ρ) (fun (ζ:(Nat)×(List Row))=>[Zz (.slice a1 q c1) (ζ.2.map Yq).flatten sp1 171,[(b1,.cells ⟨[.int .i64 kind,.slice a1 q c1,.slice a2 m c2]⟩ 112 (0,0))]]) (fun (ζ:(Nat)×(List Row))=>ζ.1≤q∧ζ.2=(RS.take ζ.1).map shortR++RS.drop ζ.1) (fun (ζ:(Nat)×(List Row))=>q-ζ.1) ((0,RS)) (⟨Nat.zero_le _,by simp⟩) Zc Zc rfl tk ?_
  rintro⟨k,acc⟩ hI
  try simp only[kA,List.append_assoc] at hI ⊢
  try dsimp only at hI ⊢
  obtain⟨hk0,hacc⟩:=hI
  by_cases hlt:k<q
  ·have hal:acc.length=q:=by rw[hacc];simp;omega
   obtain⟨pb,pc,e1⟩:=hown1.pos (by omega)
   cases e1
   have hkR:k<RS.length:=by rw[hRl];exact hlt
   have hkv:=get_step RS k hkR
   have hset:=set_step RS k hkR
   rw[←hacc] at hkv
   rw[←hacc] at hset
   generalize RS[k]'hkR=r at *
   have hld:=row_get (sp:=sp1) acc k r hkv
   haveI hst:=row_setL (sp:=sp1) (r.note.take (min (r.note.length:Int) 9).toNat) hkv
   have e9:=take_min9 r.note
   repeat' (first|refine zV ?_|intro _)
   rw[show Zz (.slice (some ⟨pb,0,none⟩) q c1) ((acc.map Yq).flatten) sp1 171=[(pb,.cells ⟨(acc.map Yq).flatten++sp1⟩ 171 (0,0))] from rfl]
   refine tc_phase 20 (Zp _ _ ([[(pb,.cells ⟨(acc.map Yq).flatten++sp1⟩ 171 (0,0))],[(b1,.cells ⟨[.int .i64 kind,.slice (some ⟨pb,0,none⟩) q c1,.slice a2 m c2]⟩ 112 (0,0))]])) (by decide +kernel) (XG (hT:=tk) (Hp.le_refl _)) ?_
   simp only[List.take_succ_cons,List.take_zero]
   all_goals (refine rFa 0 ?_;refine rLd 1 ?_;refine rMv 2 ?_;refine rFa 3 ?_;refine rLd 4 ?_;refine rMv 5 ?_;refine rIa 6 ?_;refine rFa 7 ?_;refine rLd 8 ?_;refine rFa 9 ?_;refine rLd 10 ?_;refine rMv 11 ?_;refine rIa 12 ?_;refine rFa 13 ?_;refine rLd 14 ?_;refine rBi 15 ?_;refine rBi 16 ?_;refine rSl 17 ?_;refine rIa 18 ?_;refine rFa 19 ?_;refine rDone ?_)
   all_goals refine te_phase (fuel:=1) (m:=[true,true,true,true,true,true,true,true,true,true,true,true,true,true,true,true,true,true,true,true,false]) (Zp _ _ ([])) rfl rfl (XG (hT:=tk) (Hp.le_refl _)) ?_
   all_goals (refine Vv (i:=20) ?_;((try refine Zn ?_);(first|(refine Yj ?_;try intro _))<;>((try simp only[kA]);refine Zj ?_;refine WO ?_)))
   all_goals refine rDone ?_
   all_goals rw[e9]
   all_goals (repeat' (first|refine zV ?_|intro _))
   have hsr:(⟨r.t,r.id,r.val,r.note.take 9⟩:Row)=shortR r:=rfl
   rw[hsr]
   rw[←show Zz (.slice (some ⟨pb,0,none⟩) q c1) (((acc.set k (shortR r)).map Yq).flatten) sp1 171=[(pb,.cells ⟨((acc.set k (shortR r)).map Yq).flatten++sp1⟩ 171 (0,0))] from rfl]
   refine Ze (k+1,acc.set k (shortR r)) (⟨hlt,hset⟩) Zc Zc rfl tk inferInstance (by first|omega|(dsimp only;omega))
  ·have hkq:k=q:=by omega
   have hfin:acc=RS.map shortR:=by rw[hacc,List.take_of_length_le (by omega),List.drop_eq_nil_of_le (by omega),List.append_nil]
   have hal:acc.length=q:=by rw[hfin];simp;omega
   have hown1':OwnS (.slice a1 q c1) q ((acc.map Yq).flatten) sp1 4:=by
    have hL:((acc.map Yq).flatten).length=((RS.map Yq).flatten).length:=by rw[XF Yq 4 _ (fun x _=>rfl),XF Yq 4 _ (fun x _=>rfl),hal,hRl]
    rcases hown1.out with⟨h1,h2,h3,h4⟩|⟨b,cap,h1,h2,h3,h4⟩
    ·exact⟨.inl ⟨h1,h2,List.eq_nil_of_length_eq_zero (by rw[hL,h3];rfl),h4⟩⟩
    ·exact⟨.inr ⟨b,cap,h1,by rw[hL];exact h2,by rw[hL];exact h3,h4⟩⟩
   refine XM (Zz (.slice a1 q c1) ((acc.map Yq).flatten) sp1 171) (fun ρ1 hle1 hfz1=>?_)
   obtain⟨a3,c3,e3,hc3,hA3⟩:=hown1'.aIn hal (fun x _=>rfl) hfz1
   cases e3
   refine XM (Zz (.slice a2 m c2) ((KS.map Xl).flatten) sp2 238) (fun ρ2 hle2 hfz2=>?_)
   obtain⟨a4,c4,e4,hc4,hA4⟩:=hown2.aIn hk5.len (fun x _=>rfl) hfz2
   cases e4
   repeat' (first|refine zV ?_|intro _)
   exact qE (L':=[]) ⟨Hp.le_trans hle1 hle2,⟨a1,q,c1,a2,m,c2⟩,rfl,⟨by rw[←hfin];exact hA3.mono hle2,hA4,by dsimp only;omega,by dsimp only;omega,hc3,hc4⟩,rfl⟩
theorem few16_spec (ρ:Hp)(v:RV)(r:Rc)(h:RcW ρ v r):Spec Tryz.prog 14 [.agg ⟨YV v r⟩] ρ []
  (fun z ρ' L'=>ρ.le ρ'∧∃v' r' s1 s2,z=.agg ⟨YV v' r'⟩∧RcO ρ' v' r' s1 s2∧r'.plain=fewR r∧L'=[Zz (.slice v'.t.a v'.t.n v'.t.c) (r'.txns.map YM).flatten s1 187,Zz (.slice v'.d.a v'.d.n v'.d.c) (r'.dirty.map Xq).flatten s2 108]):=by
 obtain⟨hi,him,hs,ht,hd,hsf⟩:=h
 have hsl:=hs.at'.len
 have hsb:=hs.big
 have htl:=ht.at'.len
 have htb:=ht.big
 have hdl:=hd.at'.len
 have hdb:=hd.big
 have cs:=hs.cap
 have ct:=ht.cap
 have cd:=hd.cap
 obtain⟨ms,hms⟩:∃m,m=min v.s.n 3:=⟨_,rfl⟩
 obtain⟨mt,hmt⟩:∃m,m=min v.t.n 9:=⟨_,rfl⟩
 obtain⟨md,hmd⟩:∃m,m=min v.d.n 65:=⟨_,rfl⟩
 have hsm:(min (v.s.n:Int) 3).toNat=ms:=by omega
 have htm:(min (v.t.n:Int) 9).toNat=mt:=by omega
 have hdm:(min (v.d.n:Int) 65).toNat=md:=by omega
 have hS:=hs.at'.take (hi':=ms) (by omega)
 have hT:=ht.at'.take (hi':=mt) (by omega)
 have hD:=hd.at'.take (hi':=md) (by omega)
 rw[take_some 3 _ _ _ hsl hms] at hS
 rw[take_some 9 _ _ _ htl hmt] at hT
 rw[take_some 65 _ _ _ hdl hmd] at hD
 have hSf:∀s∈r.steps.take 3,Yx s.row:=fun s hh=>hsf s (List.mem_of_mem_take hh)
 have hil:=hi.at'.len
 have hib:=hi.big
 refine Zb Tryz.func14 rfl rfl rfl fun u R=>?_
 simp only[Zd,kA]
 repeat' (first|refine zV ?_|intro _)
 rename_i b1 b2
 refine Zi [(1,_),(2,_),(8,_),(9,_)] (fun (ζ:(Nat)×(Hp)×(Value)×(List Value)×(List Im))=>[(10,.int .i64 ζ.1),(3,ζ.2.2.1)]) (fun (ζ:(Nat)×(Hp)×(Value)×(List Value)×(List Im))=>ζ.2.1) (fun (ζ:(Nat)×(Hp)×(Value)×(List Value)×(List Im))=>[Zz ζ.2.2.1 ((ζ.2.2.2.2.map imV).flatten) ζ.2.2.2.1 165]) (fun (ζ:(Nat)×(Hp)×(Value)×(List Value)×(List Im))=>ζ.1≤v.i.n∧ρ.le ζ.2.1∧OwnS ζ.2.2.1 ζ.2.2.2.2.length ((ζ.2.2.2.2.map imV).flatten) ζ.2.2.2.1 7∧ζ.2.2.2.2.map Im.plain=(r.ims.take (min ζ.1 17)).map fewIm∧(∀x∈ζ.2.2.2.2,Im.In ζ.2.1 x)) (fun (ζ:(Nat)×(Hp)×(Value)×(List Value)×(List Im))=>v.i.n-ζ.1) ((0,ρ,.slice none 0 0,[],[])) (⟨Nat.zero_le _,Hp.le_refl _,OwnS.nil 7,by simp,by simp⟩) Zc Zc rfl tk ?_
 rintro⟨k,ρ1,vv,sp,acc⟩ hI
 try simp only[kA,List.append_assoc] at hI ⊢
 try dsimp only at hI ⊢
 obtain⟨hk,hle1,hown,hacc,hin⟩:=hI
 have hal:acc.length=min k 17:=by have:=congrArg List.length hacc;simp at this;omega
 obtain⟨va,vc,rfl,_⟩:=hown.slice
 by_cases hlt:k<v.i.n
 ·obtain⟨b,off,C,T,fr,e1,hb,hfit,hc⟩:=(hi.at'.mono hle1).get (show k<r.ims.length by omega)
  have hts:=List.take_succ_eq_append_getElem (show k<r.ims.length by omega)
  obtain⟨hxb,hxa⟩:=him _ (List.getElem_mem (show k<r.ims.length by omega))
  generalize r.ims[k]'(by omega)=x at *
  rw[e1]
  by_cases h16:k≤16
  ·have hcb:=content16_spec ρ1 x.bv x.b (hxb.mono hle1).few
   have hca:=fun ρ2 (hle:ρ1.le ρ2)=>content16_spec ρ2 x.av x.a (hxa.mono (Hp.le_trans hle1 hle)).few
   repeat' (first|refine zV ?_|intro _)
   refine tpA [0,1,2,3,4,6,7] (.e 5 [] (.e 8 [9] (.e 10 [] (.e 11 [] (.f [12] .o))))) ([[(_,.cells ⟨imV x⟩ 165 (0,0))]]) ?_
   repeat' (refine iT ?_;first|refine rAb ?_|((refine iE ?_;refine rE ?_)<;>((try refine Zn ?_);(first|(refine Za (.func 77) ?_;refine qC rfl rfl (hcb) ?_;rintro v ρ' L' hle ⟨hl2,w2,rfl,hC2,rfl⟩<;>(try simp only[kA]))|(refine Za (.func 77) ?_;refine qC rfl rfl (hca _ hl2) ?_;rintro v ρ' L' hle ⟨hl3,w3,rfl,hC3,rfl⟩<;>(try simp only[kA]))|(refine Zv (css:=[[.int .i64 x.page,.int .i64 x.b.kind,.slice w2.ra w2.rn w2.rc,.slice w2.ka w2.kn w2.kc,.int .i64 x.a.kind,.slice w3.ra w3.rn w3.rc,.slice w3.ka w3.kn w3.kc]]) (sz:=7) rfl rfl rfl rfl (by simp) (by simp) rfl (fun bs=>?_);simp only[List.flatten_cons,List.flatten_nil,List.append_nil])|(refine ZK (ys:=[.int .i64 x.page,.int .i64 x.b.kind,.slice w2.ra w2.rn w2.rc,.slice w2.ka w2.kn w2.kc,.int .i64 x.a.kind,.slice w3.ra w3.rn w3.rc,.slice w3.ka w3.kn w3.kc]) (m:=1) rfl rfl hown (hR:=by infer_instance) (SrcV.lit) rfl rfl (by decide) rfl (by omega) (by omega) rfl (fun v' sp' hown'=>?_))|(refine Yj ?_;try intro _))<;>((try simp only[kA]);refine Zj ?_;refine rN ?_))))
   all_goals (
    have hy:∃y:Im,(⟨x.page,w2,fewC x.b,w3,fewC x.a⟩:Im)=y:=⟨_,rfl⟩
    obtain⟨y,hy⟩:=hy
    have hyp:y.plain=fewIm x:=by rw[←hy];rfl
    have hyi:Im.In ρ' y:=by rw[←hy];exact⟨(fewC_fit hxb hC2).mono hl3,fewC_fit hxa hC3⟩
    have hyl:[.int .i64 x.page,.int .i64 x.b.kind,.slice w2.ra w2.rn w2.rc,.slice w2.ka w2.kn w2.kc,.int .i64 x.a.kind,.slice w3.ra w3.rn w3.rc,.slice w3.ka w3.kn w3.kc]=imV y:=by rw[←hy];rfl
    rw[hyl] at hown' ⊢
    have hm:(acc.map imV).flatten++imV y=((acc++[y]).map imV).flatten:=by simp
    rw[hm] at hown' ⊢
    have hac2:(acc++[y]).map Im.plain=(r.ims.take (min (k+1) 17)).map fewIm:=by
     rw[List.map_append,hacc,show min k 17=k by omega,show min (k+1) 17=k+1 by omega,hts]
     simp[hyp]
    have hin2:∀z∈acc++[y],Im.In ρ' z:=fun z hz=>by
     rcases List.mem_append.1 hz with hz|hz
     ·exact (hin z hz).mono (Hp.le_trans hl2 hl3)
     ·rw[List.mem_singleton.1 hz];exact hyi
    have hown2:OwnS v' (acc++[y]).length (((acc++[y]).map imV).flatten) sp' 7:=by simpa using hown'
    obtain⟨va',vc',rfl,_⟩:=hown2.slice
    skip)
   all_goals (repeat' (first|refine zV ?_|intro _))
   all_goals rw[←e1]
   all_goals refine Ze (k+1,_,_,sp',acc++[y]) (⟨hlt,Hp.le_trans hle1 (Hp.le_trans hl2 hl3),hown2,hac2,hin2⟩) Zc Zc rfl tk inferInstance (by first|omega|(dsimp only;omega))
  ·have hacc':acc.map Im.plain=(r.ims.take (min (k+1) 17)).map fewIm:=by rw[hacc,show min k 17=17 by omega,show min (k+1) 17=17 by omega]
   repeat' (first|refine zV ?_|intro _)
   rw[←e1]
   refine Ze (k+1,ρ1,_,sp,acc) (⟨hlt,hle1,hown,hacc',hin⟩) Zc Zc rfl tk inferInstance (by first|omega|(dsimp only;omega))
 ·have hk2:k=v.i.n:=by omega
  have hacc2:acc.map Im.plain=(r.ims.take 17).map fewIm:=by rw[hacc,take_some 17 r.ims v.i.n (min k 17) hil (by omega)]
  have hρ:=hle1
  have hSl:=hS.len
  have hTl:=hT.len
  have hDl:=hD.len
  unfold fewR
  generalize hSS:r.steps.take 3=SS at *
  generalize hTT:r.txns.take 9=TT at *
  generalize hDD:r.dirty.take 65=DD at *
  refine XM (Zz (.slice va acc.length vc) ((acc.map imV).flatten) sp 165) (fun ρ2 hle2 hfz=>?_)
  obtain⟨sa,sc,e1,hsc,hAI⟩:=hown.aIn rfl (fun x _=>imV_len x) hfz
  cases e1
  have hρ:=Hp.le_trans hρ hle2
  clear hfz
  repeat' (first|(simp only[hsm];refine ZK (n:=0) (xs:=[]) (sp:=[]) (ys:=(SS.map YK).flatten) (m:=ms) (sz:=6) rfl rfl (OwnS.zero _ 6) (hR:=Zq) (AIn.srcV (hS.mono hρ)) (by rw[XF YK 6 _ (fun x _=>rfl),hSl]) (flat_one YK stpV_one _) (by decide) rfl (by omega) (by omega) rfl (fun v1 sp1 hown1=>?_);simp only[Nat.zero_add,List.nil_append] at hown1 ⊢;obtain⟨a1,c1,rfl,hlen1⟩:=hown1.len)|refine zV ?_|intro _)
  refine Zi [(1,_),(2,_),(44,_)] (fun (ζ:(Nat)×(List Stp))=>[(45,.int .i64 ζ.1)]) (fun (ζ:(Nat)×(List Stp))=>ρ2) (fun (ζ:(Nat)×(List Stp))=>[Zz (.slice a1 ms c1) (ζ.2.map YK).flatten sp1 173,[(b1,.cells ⟨[.int .i64 r.kind,.int .u64 r.lsn,.int .i64 r.txn,.int .u64 r.prev,.int .u64 r.next,.slice va acc.length vc,.slice a1 ms c1,.int .i64 r.nextTxn,.slice v.t.a v.t.n v.t.c,.slice v.d.a v.d.n v.d.c]⟩ 39 (0,0))]]) (fun (ζ:(Nat)×(List Stp))=>ζ.1≤ms∧ζ.2=(SS.take ζ.1).map shortS++SS.drop ζ.1) (fun (ζ:(Nat)×(List Stp))=>ms-ζ.1) ((0,SS)) (⟨Nat.zero_le _,by simp⟩) Zc Zc rfl tk ?_
  rintro⟨j,accS⟩ hI
  try simp only[kA,List.append_assoc] at hI ⊢
  try dsimp only at hI ⊢
  obtain⟨hj0,haccS⟩:=hI
  have halS:accS.length=ms:=by rw[haccS];simp;omega
  by_cases hlj:j<ms
  ·obtain⟨pb,pc,e1⟩:=hown1.pos (by omega)
   cases e1
   have hkR:j<SS.length:=by omega
   have hkv:=get_stepG shortS SS j hkR
   have hset:=set_stepG shortS SS j hkR
   rw[←haccS] at hkv
   rw[←haccS] at hset
   generalize SS[j]'hkR=x at *
   have hld:=stp_get (sp:=sp1) accS j x hkv
   haveI hst:=stp_setL (sp:=sp1) (x.row.note.take (min (x.row.note.length:Int) 9).toNat) hkv
   have e9:=take_min9 x.row.note
   repeat' (first|refine zV ?_|intro _)
   rw[show Zz (.slice (some ⟨pb,0,none⟩) ms c1) ((accS.map YK).flatten) sp1 173=[(pb,.cells ⟨(accS.map YK).flatten++sp1⟩ 173 (0,0))] from rfl]
   refine tc_phase 23 (Zp _ _ ([[(pb,.cells ⟨(accS.map YK).flatten++sp1⟩ 173 (0,0))],[(b1,.cells ⟨[.int .i64 r.kind,.int .u64 r.lsn,.int .i64 r.txn,.int .u64 r.prev,.int .u64 r.next,.slice va acc.length vc,.slice (some ⟨pb,0,none⟩) ms c1,.int .i64 r.nextTxn,.slice v.t.a v.t.n v.t.c,.slice v.d.a v.d.n v.d.c]⟩ 39 (0,0))]])) (by decide +kernel) (XG (hT:=tk) (Hp.le_refl _)) ?_
   simp only[List.take_succ_cons,List.take_zero]
   all_goals (refine rFa 0 ?_;refine rLd 1 ?_;refine rMv 2 ?_;refine rFa 3 ?_;refine rLd 4 ?_;refine rMv 5 ?_;refine rIa 6 ?_;refine rFa 7 ?_;refine rFa 8 ?_;refine rLd 9 ?_;refine rFa 10 ?_;refine rLd 11 ?_;refine rMv 12 ?_;refine rIa 13 ?_;refine rFa 14 ?_;refine rFa 15 ?_;refine rLd 16 ?_;refine rBi 17 ?_;refine rBi 18 ?_;refine rSl 19 ?_;refine rIa 20 ?_;refine rFa 21 ?_;refine rFa 22 ?_;refine rDone ?_)
   all_goals refine te_phase (fuel:=1) (m:=[true,true,true,true,true,true,true,true,true,true,true,true,true,true,true,true,true,true,true,true,true,true,true,false]) (Zp _ _ ([])) rfl rfl (XG (hT:=tk) (Hp.le_refl _)) ?_
   all_goals (refine Vv (i:=23) ?_;((try refine Zn ?_);(first|(refine Yj ?_;try intro _))<;>((try simp only[kA]);refine Zj ?_;refine WO ?_)))
   all_goals refine rDone ?_
   all_goals rw[e9]
   all_goals (repeat' (first|refine zV ?_|intro _))
   have hsr:noteS x (x.row.note.take 9)=shortS x:=rfl
   rw[hsr]
   rw[←show Zz (.slice (some ⟨pb,0,none⟩) ms c1) (((accS.set j (shortS x)).map YK).flatten) sp1 173=[(pb,.cells ⟨((accS.set j (shortS x)).map YK).flatten++sp1⟩ 173 (0,0))] from rfl]
   refine Ze (j+1,accS.set j (shortS x)) (⟨hlj,hset⟩) Zc Zc rfl tk inferInstance (by first|omega|(dsimp only;omega))
  ·have hfin:accS=SS.map shortS:=by rw[haccS,List.take_of_length_le (by omega),List.drop_eq_nil_of_le (by omega),List.append_nil]
   have hown1':OwnS (.slice a1 ms c1) ms ((accS.map YK).flatten) sp1 6:=by
    have hL:((accS.map YK).flatten).length=((SS.map YK).flatten).length:=by rw[XF YK 6 _ (fun x _=>rfl),XF YK 6 _ (fun x _=>rfl),halS,hSl]
    rcases hown1.out with⟨h1,h2,h3,h4⟩|⟨b,cap,h1,h2,h3,h4⟩
    ·exact⟨.inl ⟨h1,h2,List.eq_nil_of_length_eq_zero (by rw[hL,h3];rfl),h4⟩⟩
    ·exact⟨.inr ⟨b,cap,h1,by rw[hL];exact h2,by rw[hL];exact h3,h4⟩⟩
   refine XM (Zz (.slice a1 ms c1) ((accS.map YK).flatten) sp1 173) (fun ρ3 hle3 hfz=>?_)
   obtain⟨sa3,sc3,e3,hsc3,hAS⟩:=hown1'.aIn halS (fun x _=>stpV_len x) hfz
   cases e3
   have hρ:=Hp.le_trans hρ hle3
   clear hfz
   repeat' (first|(simp only[htm];refine ZK (n:=0) (xs:=[]) (sp:=[]) (ys:=(TT.map YM).flatten) (m:=mt) (sz:=5) rfl rfl (OwnS.zero _ 5) (hR:=Zq) (AIn.srcV (hT.mono hρ)) (by rw[XF YM 5 _ (fun x _=>rfl),hTl]) (flat_one YM ckTV_one _) (by decide) rfl (by omega) (by omega) rfl (fun v4 sp4 hown4=>?_);simp only[Nat.zero_add,List.nil_append] at hown4 ⊢;obtain⟨a4,c4,rfl,hlen4⟩:=hown4.len)|(simp only[hdm];refine ZK (n:=0) (xs:=[]) (sp:=[]) (ys:=(DD.map Xq).flatten) (m:=md) (sz:=2) rfl rfl (OwnS.zero _ 2) (hR:=Zq) (AIn.srcV (hD.mono hρ)) (by rw[XF Xq 2 _ (fun x _=>rfl),hDl]) (flat_one Xq ckPV_one _) (by decide) rfl (by omega) (by omega) rfl (fun v5 sp5 hown5=>?_);simp only[Nat.zero_add,List.nil_append] at hown5 ⊢;obtain⟨a5,c5,rfl,hlen5⟩:=hown5.len)|refine zV ?_|intro _)
   exact qE (L':=[Zz (.slice a4 mt c4) (TT.map YM).flatten sp4 187,Zz (.slice a5 md c5) (DD.map Xq).flatten sp5 108]) ⟨hρ,⟨⟨va,acc.length,vc⟩,⟨a1,ms,c1⟩,⟨a4,mt,c4⟩,⟨a5,md,c5⟩⟩,{ r with ims:=acc,steps:=accS,txns:=TT,dirty:=DD },sp4,sp5,rfl,⟨⟨hAI.mono hle3,by dsimp only;omega,hsc⟩,fun x hx=>(hin x hx).mono (Hp.le_trans hle2 hle3),⟨hAS,by dsimp only;omega,hsc3⟩,by dsimp only;rw[hTl];exact hown4,by dsimp only;rw[hDl];exact hown5,hTl.symm,hDl.symm,by dsimp only;omega,by dsimp only;omega,by rw[hfin];intro s hs2;obtain⟨y,hy,rfl⟩:=List.mem_map.1 hs2;exact⟨(hSf y hy).id,(hSf y hy).val⟩⟩,by rw[hfin,←hacc2],rfl⟩
theorem OwnS.put {v:Value}{n sz:Nat}{xs ys sp:List Value}(h:OwnS v n xs sp sz)(hl:ys.length=xs.length):OwnS v n ys sp sz:=by
 rcases h.out with⟨h1,h2,h3,h4⟩|⟨b,cap,h1,h2,h3,h4⟩
 ·exact⟨.inl ⟨h1,h2,List.eq_nil_of_length_eq_zero (by rw[hl,h3];rfl),h4⟩⟩
 ·exact⟨.inr ⟨b,cap,h1,by rw[hl];exact h2,by rw[hl];exact h3,h4⟩⟩
end Go.Proofs.E
namespace Go.Proofs.E
open Go
set_option linter.unusedVariables false
set_option linter.unusedSimpArgs false
set_option linter.unusedSectionVars false
set_option maxRecDepth 4000
set_option maxHeartbeats 1000000
attribute [local irreducible] Yl TL TC TE Spec ZI R1 Hp.le EnvLe TS TR YS Zp
theorem base16_spec (ρ:Hp)(lb rb:Nat)(S:LgS)(v:Value) :
  Spec Tryz.prog 30 [.pointer (some ⟨lb,0,none⟩)] ρ [Ym lb rb S v] (fun z ρ' L'=>z=.int .u64 (S.base:Nat)∧ρ'=ρ∧L'=[Ym lb rb S v]):=by
 refine Zb Tryz.func30 rfl rfl rfl fun u R=>?_
 simp only[Zd,kA]
 repeat' (first|refine zW ?_|intro _)
 exact qE (L':=[Ym lb rb S v]) ⟨rfl,rfl,rfl⟩
theorem ntxn16_spec (ρ:Hp)(lb rb:Nat)(S:LgS)(v:Value) :
  Spec Tryz.prog 33 [.pointer (some ⟨lb,0,none⟩)] ρ [Ym lb rb S v] (fun z ρ' L'=>z=.int .i64 S.nx∧ρ'=ρ∧L'=[Ym lb rb S v]):=by
 refine Zb Tryz.func33 rfl rfl rfl fun u R=>?_
 simp only[Zd,kA]
 repeat' (first|refine zW ?_|intro _)
 exact qE (L':=[Ym lb rb S v]) ⟨rfl,rfl,rfl⟩
abbrev plL (l:List RR):List Rc:=l.map (fun x=>x.2.plain)
theorem costN_plain (r:Rc):Wb r.plain=Wb r:=by unfold Wb;rw[Vj,recB_plain]
theorem usedR_plain {l m:List RR}(h:plL l=plL m):Yh l=Yh m:=by
 have e:∀l:List RR,Yh l=((plL l).map Wb).sum:=fun l=>by
  unfold Yh plL
  rw[List.map_map]
  congr 1
  exact List.map_congr_left fun x _=>(costN_plain x.2).symm
 rw[e,e,h]
theorem plL_at {l m:List RR}(h:plL l=plL m){k:Nat}(hl:k<l.length)(hm:k<m.length):(l[k]).2.plain=(m[k]).2.plain:=by
 have g1:(plL l)[k]?=some (l[k]).2.plain:=by simp[plL,hl]
 have g2:(plL m)[k]?=some (m[k]).2.plain:=by simp[plL,hm]
 rw[h,g2] at g1
 exact (Option.some.inj g1).symm
end Go.Proofs.E
namespace Go.Proofs.E
open Go
set_option linter.unusedVariables false
set_option linter.unusedSimpArgs false
set_option linter.unusedSectionVars false
set_option maxRecDepth 4000
set_option maxHeartbeats 1000000
attribute [local irreducible] Yl TL TC TE Spec ZI R1 Hp.le EnvLe TS TR YS Zp TP QP
theorem refnum16_spec (ρ:Hp)(a:Option Addr)(n c:Nat)(l:Bs)(h:SIn ρ Zo a n l)(hn:n≤8) :
  Spec Tryz.prog 188 [.slice a n c] ρ [] (fun v ρ' L'=>v=.int .u64 (ZY l:Nat)∧ρ'=ρ∧L'=[]):=by
 have hl:=h.len
 refine Zb Tryz.func188 rfl rfl rfl fun u R=>?_
 simp only[Zd,kA]
 repeat' (first|refine zV ?_|intro _)
 refine Zi [(2,_),(6,_),(7,_)] (fun (ζ:(Nat)×(Nat))=>[(8,.int .i64 ζ.1),(3,.int .u64 (ζ.2:Nat))]) (fun (ζ:(Nat)×(Nat))=>ρ) (fun (ζ:(Nat)×(Nat))=>[]) (fun (ζ:(Nat)×(Nat))=>ζ.1≤n∧ζ.2=ZY (l.take ζ.1)) (fun (ζ:(Nat)×(Nat))=>n-ζ.1) ((0,0)) (⟨Nat.zero_le _,rfl⟩) Zc Zc rfl tk ?_
 rintro⟨k,z⟩ hI
 try simp only[kA,List.append_assoc] at hI ⊢
 try dsimp only at hI ⊢
 obtain⟨hk,hz⟩:=hI
 by_cases hlt:k<n
 ·obtain⟨b,off,C,T,fr,rfl,hb,hc⟩:=h.get (show k<l.length by omega)
  have hzl:=unbe_take_lt l k (by omega) (by omega)
  rw[←hz] at hzl
  have hs:=Vy l k (by omega)
  have hbt:l[k].toNat<256:=l[k].toNat_lt
  generalize l[k]=b8 at *
  simp only[Zo] at hc
  repeat' (first|refine zV ?_|intro _)
  have e:(z:Int)*256+(b8.toNat:Int)=((z*256+b8.toNat:Nat):Int):=by omega
  rw[e]
  refine Ze (k+1,z*256+b8.toNat) (⟨hlt,by dsimp only;rw[hs,hz]⟩) Zc Zc rfl tk inferInstance (by first|omega|(dsimp only;omega))
 ·have hk2:k=n:=by omega
  subst hk2
  rw[List.take_of_length_le (by omega)] at hz
  subst hz
  repeat' (first|refine zV ?_|intro _)
  exact qE ⟨rfl,rfl,rfl⟩
abbrev zML:List Value:=[.int .u64 0,.int .u64 0,.int .u64 0,.int .i64 0,.slice none 0 0]
abbrev mlV (ba ma fl:Nat)(nx:Nat)(v:Value):List Value:=[.int .u64 ba,.int .u64 ma,.int .u64 fl,.int .i64 nx,v]
theorem next_ref16 (ρ:Hp)(ba ma fl nx:Nat)(a:Option Addr)(n c:Nat)(hb:ba+n<18446744073709551616) :
  Spec Tryz.prog 48 [.agg ⟨mlV ba ma fl nx (.slice a n c)⟩] ρ [] (fun v ρ' L'=>v=.int .u64 (ba+n:Nat)∧ρ'=ρ∧L'=[]):=by
 refine Zb Tryz.func48 rfl rfl rfl fun u R=>?_
 simp only[Zd,kA]
 repeat' (first|refine zV ?_|intro _)
 rw[show ((ba:Nat):Int)+((n:Nat):Int)=((ba+n:Nat):Int) by omega]
 exact qE ⟨rfl,rfl,rfl⟩
def LgOk (first:Nat)(note:Bs)(ents:List Bs)(ma nx:Nat):Prop:=noteR note=some (ma,nx)∧EntsOk first ents∧ma<first+ents.length
theorem noteR_len {b:Bs}{ma nx:Nat}(h:noteR b=some (ma,nx)):(b.length=0∧ma=0∧nx=1)∨(b.length=12∧1≤nx∧nx≤1073741824∧ma=ZY (b.take 8)∧nx=ZY (b.drop 8)):=by
 unfold noteR at h
 split at h
 ·rename_i e;cases h;exact .inl ⟨e,rfl,rfl⟩
 ·split at h
  ·rename_i e2
   split at h
   ·rename_i e3;cases h;exact .inr ⟨e2,e3.1,e3.2,rfl,rfl⟩
   ·cases h
  ·cases h
structure ElsI (ρ:Hp)(ea:Option Addr)(en:Nat)(els:List BSl):Prop where
 at':SIn ρ slv ea en els
 bin:∀e∈els,BIn ρ e
 long:∀e∈els,e.l.length≤8000
 few:en≤1000
theorem note_lt {b:Bs}(h:b.length=12):ZY (b.take 8)<18446744073709551616∧ZY (b.drop 8)<4294967296:=by
 have h1:=Xw (b.take 8)
 have h2:=Xw (b.drop 8)
 rw[List.length_take,show min 8 b.length=8 by omega] at h1
 rw[List.length_drop,h] at h2
 exact⟨by simpa using h1,by simpa using h2⟩
theorem read16_note (ρ:Hp)(first:Nat)(a:Option Addr)(n c:Nat)(b:Bs)(h:SIn ρ Zo a n b)(hc:n≤c)(ea:Option Addr)(en ec:Nat)(els:List BSl)(hE:ElsI ρ ea en els)(hf:1≤first∧first≤1099511627776)(ma nx:Nat)(hno:noteR b=some (ma,nx)) :
  Spec Tryz.prog 101 [.int .u64 first,.slice a n c,.slice ea en ec] ρ [] (fun z ρ' L'=>ρ.le ρ'∧L'=[]∧((EntsOk first (els.map BSl.l)∧ma<first+en∧∃ra rc l,z=.tuple ⟨[.agg ⟨mlV first ma (first+en-1) nx (.slice ra en rc)⟩,.bool true]⟩∧en≤rc∧AIn ρ' 10 rrV ra en l∧(∀x∈l,RcIn ρ' x.1 x.2)∧plL l=(els.map BSl.l).map XC) ∨
   ((EntsOk first (els.map BSl.l)→first+en≤ma)∧z=.tuple ⟨[.agg ⟨zML⟩,.bool false]⟩))):=by
 have hbl:=h.len
 have hel:=hE.at'.len
 have hfw:=hE.few
 have hnl:=noteR_len hno
 clear hno
 obtain⟨ents,hents⟩:∃ents,ents=els.map BSl.l:=⟨_,rfl⟩
 have hlen:ents.length=en:=by rw[hents,List.length_map];exact hel
 have hget:∀q (h1:q<els.length) (h2:q<ents.length),ents[q]=(els[q]).l:=fun q h1 h2=>by subst hents;exact List.getElem_map _
 rw[←hents]
 have hT0:=hE.at'
 have hT1:=hE.bin
 have hT2:=hE.long
 clear hents hE
 have hnx:1≤nx∧nx≤1073741824:=by omega
 refine Zb Tryz.func101 rfl rfl rfl fun u R=>?_
 simp only[Zd,kA]
 have hbc:(b.length=0∧ma=0∧nx=1)∨(b.length=12∧ma=ZY (b.take 8)∧nx=ZY (b.drop 8)):=by
  rcases hnl with h|⟨h1,_,_,h2⟩
  ·exact .inl h
  ·exact .inr ⟨h1,h2⟩
 clear hnl
 rcases hbc with⟨hb0,hm0,hx0⟩|⟨hb12,hm2,hx2⟩
 case' inl=>
  have hn0:n=0:=by omega
  have hma:ma<18446744073709551616:=by omega
  subst hn0
  repeat' (first|refine zV ?_|intro _)
  show TC _ _ _ _ _ ([(_,Obj.cells ⟨mlV first 0 0 1 (.slice none 0 0)⟩ 49 (0,0))]::[(_,Obj.cells ⟨mlV 0 0 0 0 (.slice none 0 0)⟩ 49 (0,0))]::R)
  rw[show mlV first 0 0 1 (.slice none 0 0)=mlV first ma 0 nx (.slice none 0 0) by rw[hm0,hx0]]
  clear hm0 hx0
 case' inr=>
  have hn12:n=12:=by omega
  obtain⟨hma,hx3⟩:=note_lt hb12
  subst hn12
  have h8:=refnum16_spec ρ _ 8 c _ (h.take (show 8≤12 by omega)) (by decide)
  have h4:=h.sub (show 8≤12 by omega) (Nat.le_refl 12) hc
  rw[List.take_of_length_le (by simp;omega)] at h4
  have h4:=fun c'=>refnum16_spec ρ _ 4 c' _ h4 (by decide)
  rw[←hm2] at h8 hma
  rw[←hx2] at hx3
  rw[←hx2] at h4
  repeat' (first|refine zV ?_|intro _)
  refine tpA [0,1,3,4] (.e 2 [7] (.e 5 [6] (.e 8 [9] (.e 10 [] .o)))) ([]) ?_
  repeat' (refine iT ?_;first|refine rA ?_|((refine iE ?_;refine rE ?_)<;>((try refine Zn ?_);(first|(refine Za (.func 188) ?_;refine qR rfl rfl (h8) ?_;try simp only[kA])|(refine Za (.func 188) ?_;refine qR rfl rfl (h4 _) ?_;try simp only[kA])|(refine Yj ?_;try intro _))<;>((try simp only[kA]);refine Zj ?_;refine rN ?_))))
  repeat' (first|refine zV ?_|intro _)
  show TC _ _ _ _ _ ([(_,Obj.cells ⟨mlV first ma 0 nx (.slice none 0 0)⟩ 49 (0,0))]::[(_,Obj.cells ⟨mlV 0 0 0 0 (.slice none 0 0)⟩ 49 (0,0))]::R)
  clear h8 h4
 all_goals
  rename_i b6 b8
  refine Zi [(6,_),(8,_),(45,_),(46,_)] (fun (ζ:(Nat)×(Hp)×(List RR)×(Value)×(List Value))=>[(47,.int .i64 ζ.1),(7,.bool false)]) (fun (ζ:(Nat)×(Hp)×(List RR)×(Value)×(List Value))=>ζ.2.1) (fun (ζ:(Nat)×(Hp)×(List RR)×(Value)×(List Value))=>[(b8,.cells ⟨mlV first ma 0 nx ζ.2.2.2.1⟩ 49 (0,0))]::Zz ζ.2.2.2.1 (Xr ζ.2.2.1) ζ.2.2.2.2 39::[[(b6,.cells ⟨mlV 0 0 0 0 (.slice none 0 0)⟩ 49 (0,0))]]) (fun (ζ:(Nat)×(Hp)×(List RR)×(Value)×(List Value))=>ζ.1≤en∧ρ.le ζ.2.1∧OwnS ζ.2.2.2.1 ζ.1 (Xr ζ.2.2.1) ζ.2.2.2.2 10∧ζ.2.2.1.length=ζ.1∧(∀x∈ζ.2.2.1,RcIn ζ.2.1 x.1 x.2)∧plL ζ.2.2.1=(ents.take ζ.1).map XC∧(∀q (hq:q<ζ.1) (h2:q<ents.length),Ye (ents[q])=true∧(XC (ents[q])).lsn=first+q)) (fun (ζ:(Nat)×(Hp)×(List RR)×(Value)×(List Value))=>en-ζ.1) ((0,ρ,[],.slice none 0 0,[])) (⟨Nat.zero_le _,Hp.le_refl _,OwnS.nil 10,rfl,fun _ hx=>by simp at hx,rfl,fun q hq=>absurd hq (Nat.not_lt_zero _)⟩) Zc Zc rfl tk ?_
  rintro⟨i,ρ1,l,v,sp⟩ hI
  try simp only[kA,List.append_assoc] at hI ⊢
  try dsimp only at hI ⊢
  obtain⟨hi,hl1,hown,hll,hrin,hpl,hgo⟩:=hI
  obtain⟨va,vc,rfl,hvc⟩:=hown.slice
  have hNx:=fun ρ2=>next_ref16 ρ2 first ma 0 nx va i vc (by omega)
  by_cases hlt:i<en
  ·have hil:i<els.length:=by omega
   have hge:=hget i hil (by omega)
   obtain⟨b,off,C,T,fr,e1,hb,hcx⟩:=(hT0.mono hl1).get hil
   have hbi:=(hT1 _ (List.getElem_mem hil)).mono hl1
   have hlg:=hT2 _ (List.getElem_mem hil)
   have hts:(ents.take (i+1)).map XC=(ents.take i).map XC++[XC (ents[i]'(by omega))]:=by
    rw[List.take_succ_eq_append_getElem (show i<ents.length by omega),List.map_append];rfl
   have hgo':(∀q (hq:q<i+1) (h2:q<ents.length),Ye (ents[q])=true∧(XC (ents[q])).lsn=first+q)↔(Ye (ents[i]'(by omega))=true∧(XC (ents[i]'(by omega))).lsn=first+i):=by
    refine⟨fun h=>h i (by omega) (by omega),fun h q hq h2=>?_⟩
    by_cases e:q<i
    ·exact hgo q e h2
    ·obtain rfl:q=i:=by omega
     exact h
   have hent:EntsOk first ents→Ye (ents[i]'(by omega))=true∧(XC (ents[i]'(by omega))).lsn=first+i:=fun h=>h i (by omega)
   rw[hge] at hts hgo' hent
   rw[e1]
   generalize els[i]=e8 at *
   obtain⟨xa,xn,xc,xl⟩:=e8
   dsimp only at hlg hts hgo' hent hcx
   have hbl2:=hbi.s.len
   dsimp only at hbl2
   have hrd:=read12_spec ρ1 xa xn xc xl hbi.s hbi.le (by omega)
   repeat' (first|(refine Za (.func 189) ?_;refine qC rfl rfl hrd ?_;rintro v2 ρ2 L2 hle2 ⟨hl2,rv,rr,rfl,hri,hpr,rfl⟩;try simp only[kA])|refine zV ?_|intro _)
   rename_i b11
   have hls:(XC xl).lsn=rr.lsn:=by rw[←hpr]
   rw[hls] at hgo' hent
   cases hd:Ye xl
   ·rw[hd] at hent
    refine tpA [0,1,2,3,4,5] (.e 6 [] (.f [7,8] .o)) ([[(b11,.cells ⟨YV rv rr⟩ 39 (0,0))],[(b8,.cells ⟨mlV first ma 0 nx (.slice va i vc)⟩ 49 (0,0))]]) ?_
    repeat' (refine iT ?_;first|refine rA ?_|((refine iE ?_;refine rE ?_)<;>((try refine Zn ?_);(first|(refine Za (.func 48) ?_;refine qR rfl rfl (hNx _) ?_;try simp only[kA])|(refine Yj ?_;try intro _))<;>((try simp only[kA]);refine Zj ?_;refine rN ?_))))
    repeat' (first|refine zV ?_|intro _)
    exact qE (L':=[]) ⟨Hp.le_trans hl1 hl2,rfl,.inr ⟨fun h=>absurd (hent h).1 (by simp),rfl⟩⟩
   ·rw[hd] at hent hgo'
    by_cases hq:rr.lsn=first+i
    ·refine tpA [0,1,2,3,4,5] (.e 6 [] (.f [7,8] .o)) ([[(b11,.cells ⟨YV rv rr⟩ 39 (0,0))],[(b8,.cells ⟨mlV first ma 0 nx (.slice va i vc)⟩ 49 (0,0))]]) ?_
     repeat' (refine iT ?_;first|refine rA ?_|((refine iE ?_;refine rE ?_)<;>((try refine Zn ?_);(first|(refine Za (.func 48) ?_;refine qR rfl rfl (hNx _) ?_;try simp only[kA])|(refine Yj ?_;try intro _))<;>((try simp only[kA]);refine Zj ?_;refine rN ?_))))
     repeat' (first|(refine Zv (css:=[YV rv rr]) (sz:=10) rfl rfl rfl rfl (by simp) (by simp) rfl (fun bs=>?_);simp only[List.flatten_cons,List.flatten_nil,List.append_nil])|(refine ZK (ys:=YV rv rr) (m:=1) (sz:=10) rfl rfl hown (hR:=by repeat (first|exact Zq|apply Zs)) SrcV.lit rfl rfl (by decide) rfl (by omega) (by omega) rfl (fun v' sp' hown'=>?_);obtain⟨va2,vc2,rfl,hvc2⟩:=hown'.slice)|refine zV ?_|intro _)
     rw[show Xr l++YV rv rr=Xr (l++[(rv,rr)]) by rw[flatL_add];simp[Xr]] at hown' ⊢
     rw[←e1]
     have hri2:∀x∈l++[(rv,rr)],RcIn ρ2 x.1 x.2:=fun x hx=>by
      rcases List.mem_append.1 hx with hx|hx
      ·exact (hrin x hx).mono hl2
      ·rw[List.mem_singleton.1 hx];exact hri
     have hpl2:plL (l++[(rv,rr)])=(ents.take (i+1)).map XC:=by
      rw[hts,←hpl,←hpr];unfold plL;rw[List.map_append];rfl
     refine Ze (i+1,ρ2,l++[(rv,rr)],.slice va2 (i+1) vc2,sp') (⟨hlt,Hp.le_trans hl1 hl2,hown',by dsimp only;rw[List.length_append,hll];rfl,hri2,hpl2,hgo'.2 ⟨rfl,hq⟩⟩) Zc Zc rfl tk inferInstance (by first|omega|(dsimp only;omega))
    ·have hq2:¬((rr.lsn:Nat):Int)=((first+i:Nat):Int):=by omega
     refine tpA [0,1,2,3,4,5] (.e 6 [] (.f [7,8] .o)) ([[(b11,.cells ⟨YV rv rr⟩ 39 (0,0))],[(b8,.cells ⟨mlV first ma 0 nx (.slice va i vc)⟩ 49 (0,0))]]) ?_
     repeat' (refine iT ?_;first|refine rA ?_|((refine iE ?_;refine rE ?_)<;>((try refine Zn ?_);(first|(refine Za (.func 48) ?_;refine qR rfl rfl (hNx _) ?_;try simp only[kA])|(refine Yj ?_;try intro _))<;>((try simp only[kA]);refine Zj ?_;refine rN ?_))))
     repeat' (first|refine zV ?_|intro _)
     exact qE (L':=[]) ⟨Hp.le_trans hl1 hl2,rfl,.inr ⟨fun h=>absurd (hent h).2 hq,rfl⟩⟩
  ·have hie:i=en:=by omega
   subst hie
   rw[List.take_of_length_le (by omega)] at hpl
   have hEO:EntsOk first ents:=fun q h2=>hgo q (by omega) h2
   by_cases hmx:ma<first+i
   ·have hsb:((first+i:Nat):Int)-1=((first+i-1:Nat):Int):=by omega
    repeat' (first|refine zV ?_|intro _)
    refine tpA [0,1,2] (.e 3 [] (.f [4] .o)) ([[(b8,.cells ⟨mlV first ma 0 nx (.slice va i vc)⟩ 49 (0,0))]]) ?_
    repeat' (refine iT ?_;first|refine rA ?_|((refine iE ?_;refine rE ?_)<;>((try refine Zn ?_);(first|(refine Za (.func 48) ?_;refine qR rfl rfl (hNx _) ?_;try simp only[kA])|(refine Yj ?_;try intro _))<;>((try simp only[kA]);refine Zj ?_;refine rN ?_))))
    repeat' (first|(refine Za (.func 48) ?_;refine qR rfl rfl (hNx _) ?_;try simp only[kA])|refine zV ?_|intro _)
    rw[hsb]
    refine ZM (Zz (.slice va i vc) (Xr l) sp 39) (fun ρ7 hl7 hz7=>?_)
    obtain⟨ra,rc,e7,hrc,hRA⟩:=hown.aIn (g:=rrV) (l:=l) hll (fun _ _=>rfl) hz7
    cases e7
    exact qE (L':=[]) ⟨Hp.le_trans hl1 hl7,rfl,.inl ⟨hEO,hmx,va,vc,l,rfl,hrc,hRA,fun x hx=>(hrin x hx).mono hl7,hpl⟩⟩
   ·repeat' (first|refine zV ?_|intro _)
    refine tpA [0,1,2] (.e 3 [] (.f [4] .o)) ([[(b8,.cells ⟨mlV first ma 0 nx (.slice va i vc)⟩ 49 (0,0))]]) ?_
    repeat' (refine iT ?_;first|refine rA ?_|((refine iE ?_;refine rE ?_)<;>((try refine Zn ?_);(first|(refine Za (.func 48) ?_;refine qR rfl rfl (hNx _) ?_;try simp only[kA])|(refine Yj ?_;try intro _))<;>((try simp only[kA]);refine Zj ?_;refine rN ?_))))
    repeat' (first|refine zV ?_|intro _)
    exact qE (L':=[]) ⟨hl1,rfl,.inr ⟨fun _=>by omega,rfl⟩⟩
theorem read16_bad (ρ:Hp)(first:Nat)(a:Option Addr)(n c:Nat)(b:Bs)(h:SIn ρ Zo a n b)(hc:n≤c)(hn:n≤1000)(ea:Option Addr)(en ec:Nat)(hf:1≤first∧first≤1099511627776)(hno:noteR b=none) :
  Spec Tryz.prog 101 [.int .u64 first,.slice a n c,.slice ea en ec] ρ [] (fun z ρ' L'=>ρ'=ρ∧L'=[]∧z=.tuple ⟨[.agg ⟨zML⟩,.bool false]⟩):=by
 have hbl:=h.len
 have hcs:b.length≠0∧(b.length≠12∨(b.length=12∧(ZY (b.drop 8)<1∨1073741824<ZY (b.drop 8)))):=by
  unfold noteR at hno
  split at hno
  ·cases hno
  ·rename_i e1
   refine⟨e1, ?_⟩
   split at hno
   ·rename_i e2
    split at hno
    ·cases hno
    ·rename_i e3;exact .inr ⟨e2,by omega⟩
   ·rename_i e2;exact .inl e2
 refine Zb Tryz.func101 rfl rfl rfl fun u R=>?_
 simp only[Zd,kA]
 obtain⟨h0,hcs⟩:=hcs
 rcases hcs with h12|⟨hb12,hcs⟩
 ·repeat' (first|refine zV ?_|intro _)
  exact qE (L':=[]) ⟨rfl,rfl,rfl⟩
 ·have hn12:n=12:=by omega
  obtain⟨hma,hx3⟩:=note_lt hb12
  subst hn12
  have h8:=refnum16_spec ρ _ 8 c _ (h.take (show 8≤12 by omega)) (by decide)
  have h4:=h.sub (show 8≤12 by omega) (Nat.le_refl 12) hc
  rw[List.take_of_length_le (by simp;omega)] at h4
  have h4:=fun c'=>refnum16_spec ρ _ 4 c' _ h4 (by decide)
  generalize ZY (b.take 8)=ma at *
  generalize ZY (b.drop 8)=nx at *
  rcases hcs with h1|h1
  all_goals
   repeat' (first|refine zV ?_|intro _)
   refine tpA [0,1,3,4] (.e 2 [7] (.e 5 [6] (.e 8 [9] (.e 10 [] .o)))) ([]) ?_
   repeat' (refine iT ?_;first|refine rA ?_|((refine iE ?_;refine rE ?_)<;>((try refine Zn ?_);(first|(refine Za (.func 188) ?_;refine qR rfl rfl (h8) ?_;try simp only[kA])|(refine Za (.func 188) ?_;refine qR rfl rfl (h4 _) ?_;try simp only[kA])|(refine Yj ?_;try intro _))<;>((try simp only[kA]);refine Zj ?_;refine rN ?_))))
   repeat' (first|refine zV ?_|intro _)
   exact qE (L':=[]) ⟨rfl,rfl,rfl⟩
end Go.Proofs.E
namespace Go.Proofs.E
open Go
set_option linter.unusedVariables false
set_option linter.unusedSimpArgs false
set_option linter.unusedSectionVars false
set_option maxRecDepth 4000
set_option maxHeartbeats 1000000
attribute [local irreducible] Yl TL TC TE Spec ZI R1 Hp.le EnvLe TS TR YS Zp
structure Rm (S:LgS)(D:DS)(t:Nat):Prop where
 good:Good S.R D
 ok:∀x∈S.recs,Yt x.2=true
 rf:∀x∈S.recs,RcF x.2
 lsn:∀i (h:i<S.recs.length),(S.recs[i]).2.lsn=S.base+i
 first:S.R.h.first=S.base
 base:1≤S.base
 fl:S.fl+1=S.next
 ents:S.R.ents=S.recs.map (fun x=>YF x.2)
 used:Yh S.recs≤400
 size:S.R.h.size=450
 turn:S.R.h.turn≤t+1
 next:S.next≤t+1
theorem usedL_recs {l:List RR}(h:∀x∈l,Yt x.2=true):Yy (l.map (fun x=>YF x.2))=Yh l:=by
 induction l with
 | nil=>rfl
 | cons x r ih=>
  have h1:=costN_ok (h x (by simp))
  have h2:=ih (fun y hy=>h y (by simp[hy]))
  simp only[Yy,Yh,List.map_cons,List.sum_cons] at h2 ⊢
  omega
theorem filt_drop:∀(l:List RR) (b fr:Nat),(∀i (h:i<l.length),(l[i]).2.lsn=b+i)→l.filter (fun x=>decide (fr≤x.2.lsn))=l.drop (fr-b)
 | [],_,_,_=>by simp
 | x::l,b,fr,h=>by
  have h0:=h 0 (by simp)
  have ih:=filt_drop l (b+1) fr (fun i hi=>by have:=h (i+1) (by simpa using hi);simp only[List.getElem_cons_succ] at this;omega)
  simp only[List.getElem_cons_zero] at h0
  rw[List.filter_cons]
  by_cases hb:fr≤b
  ·rw[if_pos (by simp;omega),ih,show fr-(b+1)=0 by omega,show fr-b=0 by omega];rfl
  ·rw[if_neg (by simp;omega),ih,show fr-b=(fr-(b+1))+1 by omega,List.drop_succ_cons]
theorem Rm.from {S:LgS}{D:DS}{t:Nat}(h:Rm S D t)(fr:Nat):XJ S fr=S.recs.drop (fr-S.base):=filt_drop _ _ _ h.lsn
theorem Rm.len {S:LgS}{D:DS}{t:Nat}(h:Rm S D t):S.R.ents.length=S.recs.length:=by rw[h.ents,List.length_map]
theorem Rm.fresh {D:DS}(g:Good ⟨ZF 450,[],0,false⟩ D):Rm (newLg ⟨ZF 450,[],0,false⟩) D 0:=
 ⟨g,by simp[newLg],by simp[newLg],by simp[newLg],rfl,Nat.le_refl _,rfl,rfl,by simp[newLg,Yh],rfl,by simp[newLg,ZF],by simp[LgS.next,newLg]⟩
theorem app_facts {S:LgS}{r:Rc}(h:appE S r 0=0):Yt r=true∧r.lsn=S.next∧Yh S.recs+Wb r≤400∧S.next≠1099511627776:=by
 unfold appE at h
 split at h
 ·omega
 ·rename_i h1
  split at h
  ·omega
  ·split at h
   ·omega
   ·exact⟨by simpa using h1,by omega,by omega,by omega⟩
theorem Rm.more {S:LgS}{D:DS}{t:Nat}(h:Rm S D t)(ht:t≤1000){x:RR}(ha:appE S x.2 0=0)(hf:RcF x.2) :
  ∃R' D' fl',(S.more x).flush ((S.more x).next-1) D=((S.more x).at R' fl',D',0)∧Rm ((S.more x).at R' fl') D' (t+1):=by
 obtain⟨h1,h2,h3,h4⟩:=app_facts ha
 have hl:=h.len
 have hn:(S.more x).next=S.next+1:=by simp[LgS.next,LgS.more];omega
 have hfl:(S.more x).fl=S.fl:=rfl
 have hall:∀i (hi:i<(S.more x).recs.length),((S.more x).recs[i]).2.lsn=S.base+i:=by
  intro i hi
  simp only[LgS.more,List.length_append,List.length_cons,List.length_nil] at hi
  by_cases hlt:i<S.recs.length
  ·simp only[LgS.more]
   rw[List.getElem_append_left hlt];exact h.lsn i hlt
  ·simp only[LgS.more]
   rw[List.getElem_append_right (by omega)]
   simp only[show i-S.recs.length=0 by omega,List.getElem_cons_zero]
   rw[h2];unfold LgS.next;omega
 have hfr:XJ (S.more x) (S.fl+1)=[x]:=by
  have e:XJ (S.more x) (S.fl+1)=(S.more x).recs.drop (S.fl+1-S.base):=filt_drop _ _ _ hall
  have e2:S.fl+1-S.base=S.recs.length:=by have:=h.fl;unfold LgS.next at this;omega
  rw[e,e2];simp[LgS.more]
 have hus:S.R.used=Yh S.recs:=by rw[h.good.ro.ok.used,h.ents,usedL_recs h.ok]
 have hrn:S.R.next=S.next:=by unfold RgS.next LgS.next;rw[h.first,hl]
 obtain⟨R',D',e,g',e1,e2,_,_⟩:=flushL_good S.next [x] S.R D S.fl h.good (fun y hy=>by rw[List.mem_singleton.1 hy];exact h1) (by rw[hus,h.size,show Yh [x]=Wb x.2 by simp[Yh]];omega) (by rw[hrn];have:=h.next;simp;omega)
 have hup:upTo S.next [x]=[x]:=by unfold upTo;rw[List.takeWhile_cons,decide_eq_true (by omega)];rfl
 rw[hup] at e e2
 refine⟨R',D',x.2.lsn, ?_, ?_⟩
 ·unfold LgS.flush
  rw[if_neg (by omega),hn,Nat.add_sub_cancel,hfl,hfr,show (S.more x).R=S.R from rfl,e]
  rfl
 ·have hrec:((S.more x).at R' x.2.lsn).recs=S.recs++[x]:=rfl
  refine⟨g', ?_, ?_,hall, ?_,h.base, ?_, ?_, ?_, ?_, ?_, ?_⟩
  ·intro y hy
   rw[hrec] at hy
   rcases List.mem_append.1 hy with hy|hy
   ·exact h.ok y hy
   ·rw[List.mem_singleton.1 hy];exact h1
  ·intro y hy
   rw[hrec] at hy
   rcases List.mem_append.1 hy with hy|hy
   ·exact h.rf y hy
   ·rw[List.mem_singleton.1 hy];exact hf
  ·show R'.h.first=S.base
   rw[e1];exact h.first
  ·show x.2.lsn+1=(S.more x).next
   omega
  ·show R'.ents=(S.recs++[x]).map _
   rw[e2,h.ents];simp
  ·show Yh (S.recs++[x])≤400
   rw[usedR_add];simp[Yh] at h3 ⊢;omega
  ·show R'.h.size=450
   rw[e1];exact h.size
  ·show R'.h.turn≤t+1+1
   rw[e1];have:=h.turn;omega
  ·show (S.more x).next≤t+1+1
   have:=h.next;omega
theorem Rm.cut {S:LgS}{D:DS}{t:Nat}(h:Rm S D t)(ht:t≤1000){fr:Nat}(nx:Nat)(h1:S.base≤fr)(h2:fr≤S.fl+1) :
  ∃D',S.trunc fr 0 nx D=(S.cutTo (S.R.minus (fr-S.base) (noteL [0,nx] 2)) fr 0 nx (S.recs.drop (fr-S.base)),D',0)∧Rm (S.cutTo (S.R.minus (fr-S.base) (noteL [0,nx] 2)) fr 0 nx (S.recs.drop (fr-S.base))) D' (t+1):=by
 have hl:=h.len
 have hfl:=h.fl
 have hrn:S.R.next=S.next:=by unfold RgS.next LgS.next;rw[h.first,hl]
 have hn:=h.next
 have htn:=h.turn
 have hm:fr-S.base≤S.recs.length:=by unfold LgS.next at hfl;omega
 obtain⟨D',e,g⟩:=LgS.trunc_good (S:=S) (fr:=fr) (ma:=0) (nx:=nx) h.good (by omega) (by omega) (by omega)
 rw[h.from] at e
 have hnx:(S.cutTo (S.R.minus (fr-S.base) (noteL [0,nx] 2)) fr 0 nx (S.recs.drop (fr-S.base))).next=S.next:=by
  simp only[LgS.next,LgS.cutTo,List.length_drop];omega
 refine⟨D',e,g,fun x hx=>h.ok x (List.mem_of_mem_drop hx),fun x hx=>h.rf x (List.mem_of_mem_drop hx), ?_, ?_, ?_, ?_, ?_, ?_, ?_, ?_, ?_⟩
 ·intro i hi
  simp only[LgS.cutTo,List.length_drop] at hi
  simp only[LgS.cutTo,List.getElem_drop]
  rw[h.lsn];omega
 ·show S.R.h.first+(fr-S.base)=fr
  rw[h.first];omega
 ·show 1≤fr
  have:=h.base;omega
 ·rw[hnx];exact hfl
 ·show S.R.ents.drop _=(S.recs.drop _).map _
  rw[h.ents,List.map_drop]
 ·show Yh (S.recs.drop _)≤400
  have:=usedR_add (S.recs.take (fr-S.base)) (S.recs.drop (fr-S.base))
  rw[List.take_append_drop] at this
  have:=h.used;omega
 ·exact h.size
 ·show S.R.h.turn+1≤t+1+1
  omega
 ·rw[hnx];omega
theorem be_take_succ8 (n x j:Nat)(h:j<n):(be n x).take (j+1)=(be n x).take j++[UInt8.ofNat (x / 256 ^ (n-1-j))]:=by
 induction n generalizing j with
 | zero=>omega
 | succ n ih=>
  rw[be]
  cases j with
  | zero=>simp
  | succ j=>
   rw[List.take_succ_cons,List.take_succ_cons,ih j (by omega)]
   simp only[List.cons_append]
   rw[show n-1-j=n+1-1-(j+1) by omega]
theorem high_spec (ρ:Hp)(z:Int)(n:Nat)(h0:0≤z)(hz:z<18446744073709551616)(hn:n≤8) :
  Spec Tryz.prog 88 [.int .u64 z,.int .i64 n] ρ [] (fun v ρ' L'=>ρ.le ρ'∧∃a c,v=.slice a n c∧n≤c∧SIn ρ' Zo a n (be n z.toNat)∧L'=[]):=by
 obtain⟨x,rfl⟩:∃x:Nat,z=x:=⟨z.toNat,by omega⟩
 simp only[Int.toNat_natCast]
 refine Zb Tryz.func88 rfl rfl rfl fun u R=>?_
 simp only[Zd,kA]
 repeat' (first|refine zV ?_|intro _)
 rw[show ((n:Int)-1)=(n:Int)-1-((0:Nat):Int) by omega]
 refine Zi [(0,_),(4,_)] (fun (ζ:(Nat)×(Value)×(List Value))=>[(6,.int .i64 ((n:Int)-1-(ζ.1:Int))),(5,ζ.2.1)]) (fun (ζ:(Nat)×(Value)×(List Value))=>ρ) (fun (ζ:(Nat)×(Value)×(List Value))=>[Zz ζ.2.1 (((be n x).take ζ.1).map Zo) ζ.2.2 5]) (fun (ζ:(Nat)×(Value)×(List Value))=>ζ.1≤n∧OwnS ζ.2.1 ζ.1 (((be n x).take ζ.1).map Zo) ζ.2.2 1) (fun (ζ:(Nat)×(Value)×(List Value))=>n-ζ.1) ((0,.slice none 0 0,[])) (⟨Nat.zero_le _,OwnS.nil 1⟩) Zc Zc rfl tk ?_
 rintro⟨j,v,sp⟩ hI
 try simp only[kA,List.append_assoc] at hI ⊢
 try dsimp only at hI ⊢
 obtain⟨hj,hown⟩:=hI
 by_cases hj8:j<n
 ·have hsh:=shr_byte x (n-1-j)
  have hts:=be_take_succ8 n x j hj8
  have hxx:((be n x).take j).map Zo++[Zo (UInt8.ofNat (x / 256 ^ (n-1-j)))]=((be n x).take (j+1)).map Zo:=by rw[hts];simp
  obtain⟨va,vc,rfl,_⟩:=hown.slice
  repeat' (first|(refine iSr ?_;refine tl_y (y_shr (c:=8*(n-1-j)) rfl rfl (by omega) (by simp only[IntKind.bits];omega)) rfl rfl ?_)|(refine iCv ?_;refine tl_y (y_conv (k:=.u8) rfl) rfl rfl ?_;rw[hsh])|(refine Zm rfl rfl rfl rfl (by simp) rfl rfl (fun _=>?_))|(refine ZK (ys:=[Zo (UInt8.ofNat (x / 256 ^ (n-1-j)))]) (m:=1) rfl rfl hown (hR:=by infer_instance) SrcV.lit rfl rfl (by decide) rfl (by omega) (by omega) rfl (fun v2 sp2 hown2=>?_);rw[hxx] at hown2 ⊢)|refine zV ?_|intro _)
  have e7:((n:Int)-1-(j:Int)-1)=(n:Int)-1-((j+1:Nat):Int):=by omega
  rw[e7]
  refine Ze (j+1,v2,sp2) (⟨hj8,hown2⟩) Zc Zc rfl tk inferInstance (by first|omega|(dsimp only;omega))
 ·obtain rfl:j=n:=by omega
  rw[show (be j x).take j=be j x from List.take_of_length_le (by rw[Zf];exact Nat.le_refl _)] at hown ⊢
  obtain⟨va,vc,rfl,_⟩:=hown.slice
  repeat' (first|refine zV ?_|intro _)
  refine ZM (Zz (.slice va j vc) ((be j x).map Zo) sp 5) (fun ρ3 hle3 hfz=>?_)
  obtain⟨a3,c3,e3,hc3,hs3⟩:=hown.sIn hfz
  cases e3
  exact qE ⟨hle3,va,vc,rfl,hc3,hs3,rfl⟩
section
variable {x:Cx}{Q:Exit→Act→World→Prop}{E:Env}{ρ:Hp}{L L1:SH}{ops:Array Oper}{rest:List Oper}{ty:TypeId}{pos:String}{af:Array Edge}
theorem Xv {d t e m cx:Nat}{s y:Operand}{v:Value}{X Y:List UInt8}{sp:List Value}{a:Option Addr}[hS:ZR x.P t e][hZ:Zx x.P e 1][hB:Zh x.P e 1][hz:Zl x.P e (.int .u8 0)]
  (hs:ev E s=some v) (hy:ev E y=some (.slice a m cx)) (hown:OwnS v X.length (X.map Zo) sp 1) (hsr:SIn ρ Zo a m Y) (hb:X.length+Y.length≤100000) (hd:Nat.blt d x.N=true)
  (k:∀va vc sp',OwnS (.slice va (X++Y).length vc) (X++Y).length ((X++Y).map Zo) sp' 1→TL x ops rest Q ((d,.slice va (X++Y).length vc)::E) ρ (Zz (.slice va (X++Y).length vc) ((X++Y).map Zo) sp' e::L1)) (hR:Rem (Zz v (X.map Zo) sp e) L L1:=by infer_instance) :
  TL x ops (⟨some d,.call { callee:=.builtin .append,args:=#[s,y],argTypes:=#[t,t] },ty,pos,af,none⟩::rest) Q E ρ L:=by
 have hl:=hsr.len
 refine ZK (ys:=Y.map Zo) (sz:=1) (by':=1) hs hy hown (hR:=hR) (SIn.srcV hsr) (by simpa using hl) (Yn _) (by decide) rfl (by omega) (by omega) hd (fun v' sp' h'=>?_)
 rw[←List.map_append] at h' ⊢
 rw[show X.length+m=(X++Y).length by rw[List.length_append,hl]] at h'
 obtain⟨va,vc,rfl,_⟩:=h'.slice
 exact k va vc sp' h'
theorem tl_appL {d t e cx:Nat}{s y:Operand}{v:Value}{X:List UInt8}{b:UInt8}{sp:List Value}{a:Option Addr}[hS:ZR x.P t e][hZ:Zx x.P e 1][hB:Zh x.P e 1][hz:Zl x.P e (.int .u8 0)]
  (hs:ev E s=some v) (hy:ev E y=some (.slice a 1 cx)) (hown:OwnS v X.length (X.map Zo) sp 1) (hsr:SrcV x ρ L1 a [Zo b]) (hb:X.length+1≤100000) (hd:Nat.blt d x.N=true)
  (k:∀va vc sp',OwnS (.slice va (X++[b]).length vc) (X++[b]).length ((X++[b]).map Zo) sp' 1→TL x ops rest Q ((d,.slice va (X++[b]).length vc)::E) ρ (Zz (.slice va (X++[b]).length vc) ((X++[b]).map Zo) sp' e::L1)) (hR:Rem (Zz v (X.map Zo) sp e) L L1:=by infer_instance) :
  TL x ops (⟨some d,.call { callee:=.builtin .append,args:=#[s,y],argTypes:=#[t,t] },ty,pos,af,none⟩::rest) Q E ρ L:=by
 refine ZK (ys:=[Zo b]) (sz:=1) (by':=1) (m:=1) hs hy hown (hR:=hR) hsr rfl rfl (by decide) rfl (by omega) (by omega) hd (fun v' sp' h'=>?_)
 rw[show X.map Zo++[Zo b]=(X++[b]).map Zo by simp] at h' ⊢
 rw[show X.length+1=(X++[b]).length by simp] at h'
 obtain⟨va,vc,rfl,_⟩:=h'.slice
 exact k va vc sp' h'
end
end Go.Proofs.E
namespace Go.Proofs.E
open Go
set_option linter.unusedVariables false
set_option linter.unusedSimpArgs false
set_option linter.unusedSectionVars false
set_option maxRecDepth 4000
set_option maxHeartbeats 1000000
attribute [local irreducible] Yl TL TC TE Spec ZI R1 Hp.le EnvLe TS TR YS Zp TP QP
theorem stepped_spec (ρ:Hp)(s:Stp)(hs:YT s=true)(hf:Yx s.row) :
  Spec Tryz.prog 90 [.agg ⟨YK s⟩] ρ [] (fun v ρ' L'=>ρ.le ρ'∧∃a c,v=.slice a (XA s).length c∧(XA s).length≤c∧SIn ρ' Zo a (XA s).length (XA s)∧L'=[]):=by
 obtain⟨hk4,hr23,hkt⟩:=step_kinds hs
 have hid:=hf.id
 have hkB:=tB_eq (t:=s.kind) (by omega) (by omega)
 refine Zb Tryz.func90 rfl rfl rfl fun u R=>?_
 simp only[Zd,kA]
 by_cases h23:s.kind=2∨s.kind=3
 ·have hst:XA s=[tB s.kind]++ZG s.row:=by unfold XA;rw[if_pos h23];rfl
  have hrr:=fun ρ=>rowR6_spec ρ s.row (hr23 h23) hid
  have hrl:=rowB_le (hr23 h23)
  rcases h23 with e|e
  all_goals (repeat' (first|(refine Zm rfl rfl rfl rfl (by simp) rfl rfl (fun bs=>?_);simp only[hkB])|refine zV ?_|intro _))
  all_goals rename_i b1
  all_goals rw[show ([(bs,Obj.cells ⟨[Zo (tB s.kind)]⟩ 5 (0,0))]:List (Nat×Obj))=Zz (.slice (some ⟨bs,0,none⟩) 1 1) ([tB s.kind].map Zo) [] 5 from rfl]
  all_goals have hown:WQ (.slice (some ⟨bs,0,none⟩) 1 1) [tB s.kind] []:=⟨.inr ⟨bs,1,rfl,rfl,rfl,Nat.le_refl _⟩⟩
  all_goals generalize Value.slice (some ⟨bs,0,none⟩) 1 1=w0 at *
  all_goals obtain⟨X0,hX0⟩:∃X0,[tB s.kind]=X0:=⟨_,rfl⟩
  all_goals have hX0l:X0.length=1:=by rw[←hX0];rfl
  all_goals rw[hX0] at hown ⊢
  all_goals obtain⟨va,vc,rfl,_⟩:=hown.slice
  all_goals (repeat' (first|(refine Za (.func 170) ?_;refine qC rfl rfl (hrr _) ?_;rintro v2 ρ2 L2 hle0 ⟨hle2,sp2,hown2,rfl⟩;simp only[kA];refine ZS _ (h:=Rem.here) (fun ρ3 hle3 hfz=>?_);obtain⟨a3,c3,rfl,hc3,hs3⟩:=hown2.sIn hfz;clear hfz)|(refine Xv (Y:=ZG s.row) rfl rfl hown (by first|exact hs3|exact SIn.mono hs3 (by assumption)) (by (try simp[Zf])<;>omega) rfl (fun va vc sp' hown=>?_))|refine zV ?_|intro _))
  all_goals rw[hst,hX0]
  all_goals (refine ZM (Xg (.slice va (X0++ZG s.row).length vc) (X0++ZG s.row) sp') (h:=by repeat (first|exact Zq|apply Zs)) (fun ρ6 hle6 hfz=>?_))
  all_goals obtain⟨a6,c6,e6,hc6,hs6⟩:=hown.sIn hfz
  all_goals cases e6
  all_goals exact qE (L':=[]) ⟨Hp.le_trans hle2 (Hp.le_trans hle3 hle6),va,vc,rfl,hc6,hs6,rfl⟩
 ·have hkt:=hkt h23
  have htB:=tB_eq (t:=s.row.t) (by omega) (by omega)
  have hst:XA s=[tB s.kind]++[tB s.row.t]++be 2 s.row.id++(if s.kind=1 then be 8 (vN s.by') else []):=by unfold XA;rw[if_neg h23];simp
  have hvl:=vN_lt s.by'
  repeat' (first|(refine Zm rfl rfl rfl rfl (by simp) rfl rfl (fun bs=>?_);simp only[hkB])|refine zV ?_|intro _)
  rename_i b1
  rw[show ([(bs,Obj.cells ⟨[Zo (tB s.kind)]⟩ 5 (0,0))]:List (Nat×Obj))=Zz (.slice (some ⟨bs,0,none⟩) 1 1) ([tB s.kind].map Zo) [] 5 from rfl]
  have hown:WQ (.slice (some ⟨bs,0,none⟩) 1 1) [tB s.kind] []:=⟨.inr ⟨bs,1,rfl,rfl,rfl,Nat.le_refl _⟩⟩
  generalize Value.slice (some ⟨bs,0,none⟩) 1 1=w0 at *
  obtain⟨X0,hX0⟩:∃X0,[tB s.kind]=X0:=⟨_,rfl⟩
  have hX0l:X0.length=1:=by rw[←hX0];rfl
  rw[hX0] at hown ⊢
  obtain⟨va,vc,rfl,_⟩:=hown.slice
  repeat' (first|refine zV ?_|intro _)
  refine tc_cut_k R [] (fun (ζ:(Hp)×(Value)×(List Value))=>[(1,.pointer (some ⟨b1,0,none⟩)),(2,.slice none 0 0),(3,ζ.2.1)]) (fun (ζ:(Hp)×(Value)×(List Value))=>ζ.1) (fun (ζ:(Hp)×(Value)×(List Value))=>[Xg ζ.2.1 (X0++[tB s.row.t]++be 2 s.row.id) ζ.2.2,[(b1,.cells ⟨YK s⟩ 173 (0,0))]]) (fun (ζ:(Hp)×(Value)×(List Value))=>ρ.le ζ.1∧WQ ζ.2.1 (X0++[tB s.row.t]++be 2 s.row.id) ζ.2.2) Zc ?_ ?_
  ·refine tpA [0,1,2,3,4,5,8,9,10,11,12] (.e 6 [] (.e 7 [] (.e 13 [] (.e 14 [] (.f [15] .o))))) ([[(b1,.cells ⟨YK s⟩ 173 (0,0))]]) ?_
   repeat' (refine iT ?_;first|refine rA ?_|((refine iE ?_;refine rE ?_)<;>((try refine Zn ?_);(first|(refine Zm rfl rfl rfl rfl (by simp) rfl rfl (fun bs=>?_);simp only[htB])|(refine tl_appL (b:=tB s.row.t) rfl rfl hown SrcV.lit (by (try simp[Zf])<;>omega) rfl (fun va vc sp' hown=>?_))|(refine Za (.func 88) ?_;refine qC rfl rfl (high_spec _ (s.row.id:Int) 2 (by omega) (by omega) (by decide)) ?_;rintro v ρ' L' hle ⟨hl2,a2,c2,rfl,hc2,hs2,rfl⟩<;>(try simp only[kA]);(simp only[Int.toNat_natCast] at hs2))|(refine Xv (Y:=be 2 s.row.id) rfl rfl hown (by first|exact hs2|exact SIn.mono hs2 (by assumption)) (by (try simp[Zf])<;>omega) rfl (fun va vc sp' hown=>?_))|(refine Yj ?_;try intro _))<;>((try simp only[kA]);refine Zj ?_;refine rN ?_))))
   all_goals refine te_cut_g ((_,_,_)) (⟨hl2,hown⟩) Zc Zc rfl tk inferInstance
  ·rintro⟨ρ1,w,sp⟩ ⟨hle1,hown⟩
   simp only[kA] at hle1 ⊢
   dsimp only at hown
   obtain⟨va,vc,rfl,_⟩:=hown.slice
   by_cases h1:s.kind=1
   ·rw[if_pos h1] at hst
    repeat' (first|(simp only[vN_eq];refine Za (.func 88) ?_;refine qC rfl rfl (high_spec _ (vN s.by':Int) 8 (by omega) (by omega) (by decide)) ?_;rintro v3 ρ3 L3 hle0 ⟨hl3,a3,c3,rfl,hc3,hs3,rfl⟩;simp only[Int.toNat_natCast] at hs3;simp only[kA])|(refine Xv (Y:=be 8 (vN s.by')) rfl rfl hown (by first|exact hs3|exact SIn.mono hs3 (by assumption)) (by (try simp[Zf])<;>omega) rfl (fun va vc sp' hown=>?_))|refine zV ?_|intro _)
    rw[hst,hX0]
    refine ZM (Xg (.slice va (X0++[tB s.row.t]++be 2 s.row.id++be 8 (vN s.by')).length vc) (X0++[tB s.row.t]++be 2 s.row.id++be 8 (vN s.by')) sp') (h:=by repeat (first|exact Zq|apply Zs)) (fun ρ6 hle6 hfz=>?_)
    obtain⟨a6,c6,e6,hc6,hs6⟩:=hown.sIn hfz
    cases e6
    exact qE (L':=[]) ⟨Hp.le_trans hle1 (Hp.le_trans hl3 hle6),va,vc,rfl,hc6,hs6,rfl⟩
   ·rw[if_neg h1,List.append_nil] at hst
    repeat' (first|refine zV ?_|intro _)
    rw[hst,hX0]
    refine ZM (Xg (.slice va (X0++[tB s.row.t]++be 2 s.row.id).length vc) (X0++[tB s.row.t]++be 2 s.row.id) sp) (h:=by repeat (first|exact Zq|apply Zs)) (fun ρ6 hle6 hfz=>?_)
    obtain⟨a6,c6,e6,hc6,hs6⟩:=hown.sIn hfz
    cases e6
    exact qE (L':=[]) ⟨Hp.le_trans hle1 hle6,va,vc,rfl,hc6,hs6,rfl⟩
end Go.Proofs.E
