/- Laws of LogReads. Part 22 of 28. -/
import Derived.Test.YtpcfmhifkkpjpaaGreatC21
namespace Go.Proofs.E
open Go
set_option linter.unusedVariables false
set_option linter.unusedSimpArgs false
set_option linter.unusedSectionVars false
set_option maxRecDepth 4000
set_option maxHeartbeats 1000000
attribute [local irreducible] Yl TL TC TE Spec ZI R1 Hp.le EnvLe TS TR YS Zp
theorem read_4b1 (ρ:Hp)(a:Option Addr)(n c:Nat)(l:List UInt8)(h:SIn ρ Zo a n l)(hc:n≤c)(hb:n≤1000000)(k:Nat)(l1:List UInt8)(hl1:ZC 1 (l,0,false)=(k,l1,0,false))(hk4:k=4)(hno:okS (ZC 8 (l1,0,false)).2=false):Spec Tryz.prog 189 [.slice a n c] ρ [] (fun z ρ' L'=>ρ.le ρ'∧Xc ρ' l z L'):=by
 have hI0:RdI ρ ⟨a,n,c⟩ l:=⟨h,hc,hb⟩
 have hln:=h.len
 have hdb:Ye l=false:=bad2 hl1 hno
 refine Zb Tryz.func189 rfl rfl rfl fun u R=>?_
 simp only[Zd,kA]
 repeat' (first|(refine Za (.func 258) ?_;refine qC rfl rfl (Zg _ _ ⟨a,n,c⟩ l hI0 1 256 rfl (by decide) hl1) ?_;rintro v ρ' L' hle ⟨rfl,rfl,hb1,s1,h1,rfl⟩<;>(try simp only[kA]))|(refine Za (.func 258) ?_;refine qC rfl rfl (ZP _ _ s1 l1 h1 8 (by decide) hno) ?_;rintro v ρ' L' hle ⟨rfl,rfl,rfl⟩<;>(try simp only[kA]))|(refine Za (.func 258) ?_;refine qC rfl rfl (Zu _ _ s1 1) ?_;rintro v ρ' L' hle ⟨rfl,rfl,rfl⟩<;>(try simp only[kA]))|(refine Za (.func 258) ?_;refine qC rfl rfl (Zu _ _ s1 4) ?_;rintro v ρ' L' hle ⟨rfl,rfl,rfl⟩<;>(try simp only[kA]))|(refine Za (.func 258) ?_;refine qC rfl rfl (Zu _ _ s1 8) ?_;rintro v ρ' L' hle ⟨rfl,rfl,rfl⟩<;>(try simp only[kA]))|refine zV ?_|intro _)
 refine Zi [(2,_),(3,_),(4,_),(5,_),(42,_),(56,_)] (fun (ζ:(Nat))=>[(57,.int .u64 ζ)]) (fun (ζ:(Nat))=>ρ') (fun (ζ:(Nat))=>[]) (fun (ζ:(Nat))=>ζ=0) (fun (ζ:(Nat))=>0-ζ) (0) (rfl) Zc Zc rfl tk ?_
 rintro j hI
 try simp only[kA,List.append_assoc] at hI ⊢
 try dsimp only at hI ⊢
 subst hI
 repeat' (first|refine zV ?_|intro _)
 exact qE (L':=[]) ⟨Hp.le_refl _,ZU hdb⟩
theorem read_4b2 (ρ:Hp)(a:Option Addr)(n c:Nat)(l:List UInt8)(h:SIn ρ Zo a n l)(hc:n≤c)(hb:n≤1000000)(k:Nat)(l1:List UInt8)(hl1:ZC 1 (l,0,false)=(k,l1,0,false))(lsn:Nat)(l2:List UInt8)(hl2:ZC 8 (l1,0,false)=(lsn,l2,0,false))(hk4:k=4)(hno:okS (ZC 4 (l2,0,false)).2=false):Spec Tryz.prog 189 [.slice a n c] ρ [] (fun z ρ' L'=>ρ.le ρ'∧Xc ρ' l z L'):=by
 have hI0:RdI ρ ⟨a,n,c⟩ l:=⟨h,hc,hb⟩
 have hln:=h.len
 have hdb:Ye l=false:=bad3 hl1 hl2 hno
 refine Zb Tryz.func189 rfl rfl rfl fun u R=>?_
 simp only[Zd,kA]
 repeat' (first|(refine Za (.func 258) ?_;refine qC rfl rfl (Zg _ _ ⟨a,n,c⟩ l hI0 1 256 rfl (by decide) hl1) ?_;rintro v ρ' L' hle ⟨rfl,rfl,hb1,s1,h1,rfl⟩<;>(try simp only[kA]))|(refine Za (.func 258) ?_;refine qC rfl rfl (Zg _ _ s1 l1 h1 8 18446744073709551616 rfl (by decide) hl2) ?_;rintro v ρ' L' hle ⟨rfl,rfl,hb2,s2,h2,rfl⟩<;>(try simp only[kA]))|(refine Za (.func 258) ?_;refine qC rfl rfl (ZP _ _ s2 l2 h2 4 (by decide) hno) ?_;rintro v ρ' L' hle ⟨rfl,rfl,rfl⟩<;>(try simp only[kA]))|(refine Za (.func 258) ?_;refine qC rfl rfl (Zu _ _ s2 1) ?_;rintro v ρ' L' hle ⟨rfl,rfl,rfl⟩<;>(try simp only[kA]))|(refine Za (.func 258) ?_;refine qC rfl rfl (Zu _ _ s2 4) ?_;rintro v ρ' L' hle ⟨rfl,rfl,rfl⟩<;>(try simp only[kA]))|(refine Za (.func 258) ?_;refine qC rfl rfl (Zu _ _ s2 8) ?_;rintro v ρ' L' hle ⟨rfl,rfl,rfl⟩<;>(try simp only[kA]))|refine zV ?_|intro _)
 refine Zi [(2,_),(3,_),(4,_),(5,_),(42,_),(56,_)] (fun (ζ:(Nat))=>[(57,.int .u64 ζ)]) (fun (ζ:(Nat))=>ρ') (fun (ζ:(Nat))=>[]) (fun (ζ:(Nat))=>ζ=0) (fun (ζ:(Nat))=>0-ζ) (0) (rfl) Zc Zc rfl tk ?_
 rintro j hI
 try simp only[kA,List.append_assoc] at hI ⊢
 try dsimp only at hI ⊢
 subst hI
 repeat' (first|refine zV ?_|intro _)
 exact qE (L':=[]) ⟨Hp.le_refl _,ZU hdb⟩
theorem read_4b3 (ρ:Hp)(a:Option Addr)(n c:Nat)(l:List UInt8)(h:SIn ρ Zo a n l)(hc:n≤c)(hb:n≤1000000)(k:Nat)(l1:List UInt8)(hl1:ZC 1 (l,0,false)=(k,l1,0,false))(lsn:Nat)(l2:List UInt8)(hl2:ZC 8 (l1,0,false)=(lsn,l2,0,false))(txn:Nat)(l3:List UInt8)(hl3:ZC 4 (l2,0,false)=(txn,l3,0,false))(hk4:k=4)(hno:okS (ZC 8 (l3,0,false)).2=false):Spec Tryz.prog 189 [.slice a n c] ρ [] (fun z ρ' L'=>ρ.le ρ'∧Xc ρ' l z L'):=by
 have hI0:RdI ρ ⟨a,n,c⟩ l:=⟨h,hc,hb⟩
 have hln:=h.len
 have hdb:Ye l=false:=bad4 hl1 hl2 hl3 hno
 refine Zb Tryz.func189 rfl rfl rfl fun u R=>?_
 simp only[Zd,kA]
 repeat' (first|(refine Za (.func 258) ?_;refine qC rfl rfl (Zg _ _ ⟨a,n,c⟩ l hI0 1 256 rfl (by decide) hl1) ?_;rintro v ρ' L' hle ⟨rfl,rfl,hb1,s1,h1,rfl⟩<;>(try simp only[kA]))|(refine Za (.func 258) ?_;refine qC rfl rfl (Zg _ _ s1 l1 h1 8 18446744073709551616 rfl (by decide) hl2) ?_;rintro v ρ' L' hle ⟨rfl,rfl,hb2,s2,h2,rfl⟩<;>(try simp only[kA]))|(refine Za (.func 258) ?_;refine qC rfl rfl (Zg _ _ s2 l2 h2 4 4294967296 rfl (by decide) hl3) ?_;rintro v ρ' L' hle ⟨rfl,rfl,hb3,s3,h3,rfl⟩<;>(try simp only[kA]))|(refine Za (.func 258) ?_;refine qC rfl rfl (ZP _ _ s3 l3 h3 8 (by decide) hno) ?_;rintro v ρ' L' hle ⟨rfl,rfl,rfl⟩<;>(try simp only[kA]))|(refine Za (.func 258) ?_;refine qC rfl rfl (Zu _ _ s3 1) ?_;rintro v ρ' L' hle ⟨rfl,rfl,rfl⟩<;>(try simp only[kA]))|(refine Za (.func 258) ?_;refine qC rfl rfl (Zu _ _ s3 4) ?_;rintro v ρ' L' hle ⟨rfl,rfl,rfl⟩<;>(try simp only[kA]))|(refine Za (.func 258) ?_;refine qC rfl rfl (Zu _ _ s3 8) ?_;rintro v ρ' L' hle ⟨rfl,rfl,rfl⟩<;>(try simp only[kA]))|refine zV ?_|intro _)
 refine Zi [(2,_),(3,_),(4,_),(5,_),(42,_),(56,_)] (fun (ζ:(Nat))=>[(57,.int .u64 ζ)]) (fun (ζ:(Nat))=>ρ') (fun (ζ:(Nat))=>[]) (fun (ζ:(Nat))=>ζ=0) (fun (ζ:(Nat))=>0-ζ) (0) (rfl) Zc Zc rfl tk ?_
 rintro j hI
 try simp only[kA,List.append_assoc] at hI ⊢
 try dsimp only at hI ⊢
 subst hI
 repeat' (first|refine zV ?_|intro _)
 exact qE (L':=[]) ⟨Hp.le_refl _,ZU hdb⟩
theorem read_4b4 (ρ:Hp)(a:Option Addr)(n c:Nat)(l:List UInt8)(h:SIn ρ Zo a n l)(hc:n≤c)(hb:n≤1000000)(k:Nat)(l1:List UInt8)(hl1:ZC 1 (l,0,false)=(k,l1,0,false))(lsn:Nat)(l2:List UInt8)(hl2:ZC 8 (l1,0,false)=(lsn,l2,0,false))(txn:Nat)(l3:List UInt8)(hl3:ZC 4 (l2,0,false)=(txn,l3,0,false))(prev:Nat)(l4:List UInt8)(hl4:ZC 8 (l3,0,false)=(prev,l4,0,false))(hk4:k=4)(hno:okS (ZC 8 (l4,0,false)).2=false):Spec Tryz.prog 189 [.slice a n c] ρ [] (fun z ρ' L'=>ρ.le ρ'∧Xc ρ' l z L'):=by
 have hI0:RdI ρ ⟨a,n,c⟩ l:=⟨h,hc,hb⟩
 have hln:=h.len
 have hdb:Ye l=false:=Xz (by
  rw[XO hl1 hl2 hl3 hl4]
  unfold Wt
  rw[if_neg (show ¬((k:Nat):Int)=2 by omega),if_neg (show ¬((k:Nat):Int)=3 by omega),if_pos (show ((k:Nat):Int)=4 by omega)]
  unfold WV neD
  exact st_doD hno)
 refine Zb Tryz.func189 rfl rfl rfl fun u R=>?_
 simp only[Zd,kA]
 repeat' (first|(refine Za (.func 258) ?_;refine qC rfl rfl (Zg _ _ ⟨a,n,c⟩ l hI0 1 256 rfl (by decide) hl1) ?_;rintro v ρ' L' hle ⟨rfl,rfl,hb1,s1,h1,rfl⟩<;>(try simp only[kA]))|(refine Za (.func 258) ?_;refine qC rfl rfl (Zg _ _ s1 l1 h1 8 18446744073709551616 rfl (by decide) hl2) ?_;rintro v ρ' L' hle ⟨rfl,rfl,hb2,s2,h2,rfl⟩<;>(try simp only[kA]))|(refine Za (.func 258) ?_;refine qC rfl rfl (Zg _ _ s2 l2 h2 4 4294967296 rfl (by decide) hl3) ?_;rintro v ρ' L' hle ⟨rfl,rfl,hb3,s3,h3,rfl⟩<;>(try simp only[kA]))|(refine Za (.func 258) ?_;refine qC rfl rfl (Zg _ _ s3 l3 h3 8 18446744073709551616 rfl (by decide) hl4) ?_;rintro v ρ' L' hle ⟨rfl,rfl,hb4,s4,h4,rfl⟩<;>(try simp only[kA]))|(refine Za (.func 258) ?_;refine qC rfl rfl (ZP _ _ s4 l4 h4 8 (by decide) hno) ?_;rintro v ρ' L' hle ⟨rfl,rfl,rfl⟩<;>(try simp only[kA]))|(refine Za (.func 258) ?_;refine qC rfl rfl (Zu _ _ s4 1) ?_;rintro v ρ' L' hle ⟨rfl,rfl,rfl⟩<;>(try simp only[kA]))|(refine Za (.func 258) ?_;refine qC rfl rfl (Zu _ _ s4 4) ?_;rintro v ρ' L' hle ⟨rfl,rfl,rfl⟩<;>(try simp only[kA]))|(refine Za (.func 258) ?_;refine qC rfl rfl (Zu _ _ s4 8) ?_;rintro v ρ' L' hle ⟨rfl,rfl,rfl⟩<;>(try simp only[kA]))|refine zV ?_|intro _)
 refine Zi [(2,_),(3,_),(4,_),(5,_),(42,_),(56,_)] (fun (ζ:(Nat))=>[(57,.int .u64 ζ)]) (fun (ζ:(Nat))=>ρ') (fun (ζ:(Nat))=>[]) (fun (ζ:(Nat))=>ζ=0) (fun (ζ:(Nat))=>0-ζ) (0) (rfl) Zc Zc rfl tk ?_
 rintro j hI
 try simp only[kA,List.append_assoc] at hI ⊢
 try dsimp only at hI ⊢
 subst hI
 repeat' (first|refine zV ?_|intro _)
 exact qE (L':=[]) ⟨Hp.le_refl _,ZU hdb⟩
theorem read_4b5 (ρ:Hp)(a:Option Addr)(n c:Nat)(l:List UInt8)(h:SIn ρ Zo a n l)(hc:n≤c)(hb:n≤1000000)(k:Nat)(l1:List UInt8)(hl1:ZC 1 (l,0,false)=(k,l1,0,false))(lsn:Nat)(l2:List UInt8)(hl2:ZC 8 (l1,0,false)=(lsn,l2,0,false))(txn:Nat)(l3:List UInt8)(hl3:ZC 4 (l2,0,false)=(txn,l3,0,false))(prev:Nat)(l4:List UInt8)(hl4:ZC 8 (l3,0,false)=(prev,l4,0,false))(next:Nat)(l5:List UInt8)(hl5:ZC 8 (l4,0,false)=(next,l5,0,false))(hk4:k=4)(hno:okS (ZC 1 (l5,0,false)).2=false):Spec Tryz.prog 189 [.slice a n c] ρ [] (fun z ρ' L'=>ρ.le ρ'∧Xc ρ' l z L'):=by
 have hI0:RdI ρ ⟨a,n,c⟩ l:=⟨h,hc,hb⟩
 have hln:=h.len
 have hdb:Ye l=false:=Xz (by
  rw[XO hl1 hl2 hl3 hl4]
  unfold Wt
  rw[if_neg (show ¬((k:Nat):Int)=2 by omega),if_neg (show ¬((k:Nat):Int)=3 by omega),if_pos (show ((k:Nat):Int)=4 by omega)]
  unfold WV neD
  rw[hl5]
  exact st_many hno)
 refine Zb Tryz.func189 rfl rfl rfl fun u R=>?_
 simp only[Zd,kA]
 repeat' (first|(refine Za (.func 258) ?_;refine qC rfl rfl (Zg _ _ ⟨a,n,c⟩ l hI0 1 256 rfl (by decide) hl1) ?_;rintro v ρ' L' hle ⟨rfl,rfl,hb1,s1,h1,rfl⟩<;>(try simp only[kA]))|(refine Za (.func 258) ?_;refine qC rfl rfl (Zg _ _ s1 l1 h1 8 18446744073709551616 rfl (by decide) hl2) ?_;rintro v ρ' L' hle ⟨rfl,rfl,hb2,s2,h2,rfl⟩<;>(try simp only[kA]))|(refine Za (.func 258) ?_;refine qC rfl rfl (Zg _ _ s2 l2 h2 4 4294967296 rfl (by decide) hl3) ?_;rintro v ρ' L' hle ⟨rfl,rfl,hb3,s3,h3,rfl⟩<;>(try simp only[kA]))|(refine Za (.func 258) ?_;refine qC rfl rfl (Zg _ _ s3 l3 h3 8 18446744073709551616 rfl (by decide) hl4) ?_;rintro v ρ' L' hle ⟨rfl,rfl,hb4,s4,h4,rfl⟩<;>(try simp only[kA]))|(refine Za (.func 258) ?_;refine qC rfl rfl (Zg _ _ s4 l4 h4 8 18446744073709551616 rfl (by decide) hl5) ?_;rintro v ρ' L' hle ⟨rfl,rfl,hb5,s5,h5,rfl⟩<;>(try simp only[kA]))|(refine Za (.func 258) ?_;refine qC rfl rfl (ZP _ _ s5 l5 h5 1 (by decide) hno) ?_;rintro v ρ' L' hle ⟨rfl,rfl,rfl⟩<;>(try simp only[kA]))|(refine Za (.func 258) ?_;refine qC rfl rfl (Zu _ _ s5 1) ?_;rintro v ρ' L' hle ⟨rfl,rfl,rfl⟩<;>(try simp only[kA]))|(refine Za (.func 258) ?_;refine qC rfl rfl (Zu _ _ s5 4) ?_;rintro v ρ' L' hle ⟨rfl,rfl,rfl⟩<;>(try simp only[kA]))|(refine Za (.func 258) ?_;refine qC rfl rfl (Zu _ _ s5 8) ?_;rintro v ρ' L' hle ⟨rfl,rfl,rfl⟩<;>(try simp only[kA]))|refine zV ?_|intro _)
 refine Zi [(2,_),(3,_),(4,_),(5,_),(42,_),(56,_)] (fun (ζ:(Nat))=>[(57,.int .u64 ζ)]) (fun (ζ:(Nat))=>ρ') (fun (ζ:(Nat))=>[]) (fun (ζ:(Nat))=>ζ=0) (fun (ζ:(Nat))=>0-ζ) (0) (rfl) Zc Zc rfl tk ?_
 rintro j hI
 try simp only[kA,List.append_assoc] at hI ⊢
 try dsimp only at hI ⊢
 subst hI
 repeat' (first|refine zV ?_|intro _)
 exact qE (L':=[]) ⟨Hp.le_refl _,ZU hdb⟩
end Go.Proofs.E
