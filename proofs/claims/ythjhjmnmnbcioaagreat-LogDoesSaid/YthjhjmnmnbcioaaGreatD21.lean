/- Laws of LogDoes. Part 21 of 30. -/
import Derived.Test.YthjhjmnmnbcioaaGreatD20
set_option linter.unusedVariables false
set_option linter.unusedSimpArgs false
set_option linter.unusedSectionVars false
namespace Go.Proofs.E
open Go Tryz
set_option maxRecDepth 4000
set_option maxHeartbeats 1000000
attribute [local irreducible] Yl TL TC TE Spec YL R1 Hp.le EnvLe TS TR YS Zt TP QP
theorem Vu (k:Nat)(l:List UInt8):(∃x l1,Zy k (l,0,false)=(x,l1,0,false))\/okS (Zy k (l,0,false)).2=false:=by
 by_cases h:k<=l.length
 ·exact .inl ⟨_,_,rdN_go h⟩
 ·exact .inr (rdN_no (by omega))
theorem read_og (ρ:Hp)(a:Option Addr)(n c:Nat)(l:List UInt8)(h:SIn ρ Zk a n l)(hc:n<=c)(hb:n<=1000000)(k:Nat)(l1:List UInt8)(hl1:Zy 1 (l,0,false)=(k,l1,0,false))(lsn:Nat)(l2:List UInt8)(hl2:Zy 8 (l1,0,false)=(lsn,l2,0,false))(txn:Nat)(l3:List UInt8)(hl3:Zy 4 (l2,0,false)=(txn,l3,0,false))(prev:Nat)(l4:List UInt8)(hl4:Zy 8 (l3,0,false)=(prev,l4,0,false))(hkn:k≠2/\k≠3/\k≠4/\k≠5/\k≠9):Spec prog 135 [.slice a n c] ρ [] (λ z ρ' L'=>ρ.le ρ'/\Xb ρ' l z L'):=by
 have hI0:RdI ρ ⟨a,n,c⟩ l:=⟨h,hc,hb⟩
 have hln:=h.len
 refine Zb func135 rfl rfl rfl λ u R=>?_
 simp only[Zc,kA]
 repeat' (first|(refine Za (.func 202) ?_;refine qC rfl rfl (Ze _ _ ⟨a,n,c⟩ l hI0 1 256 rfl (by decide) hl1) ?_;rintro v ρ' L' hle ⟨rfl,rfl,hb1,s1,h1,rfl⟩<;>(try simp only[kA]))|(refine Za (.func 202) ?_;refine qC rfl rfl (Ze _ _ s1 l1 h1 8 18446744073709551616 rfl (by decide) hl2) ?_;rintro v ρ' L' hle ⟨rfl,rfl,hb2,s2,h2,rfl⟩<;>(try simp only[kA]))|(refine Za (.func 202) ?_;refine qC rfl rfl (Ze _ _ s2 l2 h2 4 4294967296 rfl (by decide) hl3) ?_;rintro v ρ' L' hle ⟨rfl,rfl,hb3,s3,h3,rfl⟩<;>(try simp only[kA]))|(refine Za (.func 202) ?_;refine qC rfl rfl (Ze _ _ s3 l3 h3 8 18446744073709551616 rfl (by decide) hl4) ?_;rintro v ρ' L' hle ⟨rfl,rfl,hb4,s4,h4,rfl⟩<;>(try simp only[kA]))|refine zV ?_|intro _)
 have hr:RcIn ρ' zeV (⟨k,lsn,txn,prev,0,[],[],0,[],[]⟩:Rc):=nilIn
 have hlr:=h4.at'.len
 have hR:=Wk ρ' zeV (⟨k,lsn,txn,prev,0,[],[],0,[],[]⟩:Rc) hr
 have hd:Vq l=((⟨k,lsn,txn,prev,0,[],[],0,[],[]⟩:Rc).plain,l4,0,false):=by
  rw[XN hl1 hl2 hl3 hl4]
  unfold Wp
  rw[if_neg (show ¬((k:Nat):Int)=2 by omega),if_neg (show ¬((k:Nat):Int)=3 by omega),if_neg (show ¬((k:Nat):Int)=4 by omega),if_neg (show ¬((k:Nat):Int)=5 by omega),if_neg (show ¬((k:Nat):Int)=9 by omega)]
  rfl
 by_cases hz:0<s4.n
 ·rw[decide_eq_true (show (s4.n:Int) > 0 by omega)]
  repeat' (first|refine zV ?_|intro _)
  exact qE (L':=[]) (hle:=Hp.le_refl _) ⟨Hp.le_refl _,ZR (read_rest hd (λ e=>by rw[e] at hlr;simp at hlr;omega))⟩
 ·rw[decide_eq_false (show ¬(s4.n:Int) > 0 by omega)]
  obtain rfl:l4=[]:=List.eq_nil_of_length_eq_zero (by omega)
  cases hok:Yk (⟨k,lsn,txn,prev,0,[],[],0,[],[]⟩:Rc)
  ·rw[hok] at hR
   repeat' (first|(refine Za (.func 46) ?_;refine qC rfl rfl (hR) ?_;rintro v ρ' L' hle ⟨rfl,rfl,rfl⟩<;>(try simp only[kA]))|refine zV ?_|intro _)
   exact qE (L':=[]) (hle:=Hp.le_refl _) ⟨Hp.le_refl _,ZR (read_right hd hok)⟩
  ·rw[hok] at hR
   repeat' (first|(refine Za (.func 46) ?_;refine qC rfl rfl (hR) ?_;rintro v ρ' L' hle ⟨rfl,rfl,rfl⟩<;>(try simp only[kA]))|refine zV ?_|intro _)
   exact qE (L':=[]) (hle:=Hp.le_refl _) ⟨Hp.le_refl _,(read_yes hr hd hok).2⟩
theorem read_ob1 (ρ:Hp)(a:Option Addr)(n c:Nat)(l:List UInt8)(h:SIn ρ Zk a n l)(hc:n<=c)(hb:n<=1000000)(k:Nat)(l1:List UInt8)(hl1:Zy 1 (l,0,false)=(k,l1,0,false))(hkn:k≠2/\k≠3/\k≠4/\k≠5/\k≠9)(hno:okS (Zy 8 (l1,0,false)).2=false):Spec prog 135 [.slice a n c] ρ [] (λ z ρ' L'=>ρ.le ρ'/\Xb ρ' l z L'):=by
 have hI0:RdI ρ ⟨a,n,c⟩ l:=⟨h,hc,hb⟩
 have hln:=h.len
 have hdb:Yb l=false:=bad2 hl1 hno
 refine Zb func135 rfl rfl rfl λ u R=>?_
 simp only[Zc,kA]
 repeat' (first|(refine Za (.func 202) ?_;refine qC rfl rfl (Ze _ _ ⟨a,n,c⟩ l hI0 1 256 rfl (by decide) hl1) ?_;rintro v ρ' L' hle ⟨rfl,rfl,hb1,s1,h1,rfl⟩<;>(try simp only[kA]))|(refine Za (.func 202) ?_;refine qR rfl rfl (ZO _ _ s1 l1 h1 8 (by decide) hno) ?_;try simp only[kA])|(refine Za (.func 202) ?_;refine qR rfl rfl (Zo _ _ s1 4) ?_;try simp only[kA])|(refine Za (.func 202) ?_;refine qR rfl rfl (Zo _ _ s1 8) ?_;try simp only[kA])|refine zV ?_|intro _)
 exact qE (L':=[]) ⟨Hp.le_refl _,ZR hdb⟩
theorem read_ob2 (ρ:Hp)(a:Option Addr)(n c:Nat)(l:List UInt8)(h:SIn ρ Zk a n l)(hc:n<=c)(hb:n<=1000000)(k:Nat)(l1:List UInt8)(hl1:Zy 1 (l,0,false)=(k,l1,0,false))(lsn:Nat)(l2:List UInt8)(hl2:Zy 8 (l1,0,false)=(lsn,l2,0,false))(hkn:k≠2/\k≠3/\k≠4/\k≠5/\k≠9)(hno:okS (Zy 4 (l2,0,false)).2=false):Spec prog 135 [.slice a n c] ρ [] (λ z ρ' L'=>ρ.le ρ'/\Xb ρ' l z L'):=by
 have hI0:RdI ρ ⟨a,n,c⟩ l:=⟨h,hc,hb⟩
 have hln:=h.len
 have hdb:Yb l=false:=bad3 hl1 hl2 hno
 refine Zb func135 rfl rfl rfl λ u R=>?_
 simp only[Zc,kA]
 repeat' (first|(refine Za (.func 202) ?_;refine qC rfl rfl (Ze _ _ ⟨a,n,c⟩ l hI0 1 256 rfl (by decide) hl1) ?_;rintro v ρ' L' hle ⟨rfl,rfl,hb1,s1,h1,rfl⟩<;>(try simp only[kA]))|(refine Za (.func 202) ?_;refine qC rfl rfl (Ze _ _ s1 l1 h1 8 18446744073709551616 rfl (by decide) hl2) ?_;rintro v ρ' L' hle ⟨rfl,rfl,hb2,s2,h2,rfl⟩<;>(try simp only[kA]))|(refine Za (.func 202) ?_;refine qR rfl rfl (ZO _ _ s2 l2 h2 4 (by decide) hno) ?_;try simp only[kA])|(refine Za (.func 202) ?_;refine qR rfl rfl (Zo _ _ s2 4) ?_;try simp only[kA])|(refine Za (.func 202) ?_;refine qR rfl rfl (Zo _ _ s2 8) ?_;try simp only[kA])|refine zV ?_|intro _)
 exact qE (L':=[]) ⟨Hp.le_refl _,ZR hdb⟩
theorem read_ob3 (ρ:Hp)(a:Option Addr)(n c:Nat)(l:List UInt8)(h:SIn ρ Zk a n l)(hc:n<=c)(hb:n<=1000000)(k:Nat)(l1:List UInt8)(hl1:Zy 1 (l,0,false)=(k,l1,0,false))(lsn:Nat)(l2:List UInt8)(hl2:Zy 8 (l1,0,false)=(lsn,l2,0,false))(txn:Nat)(l3:List UInt8)(hl3:Zy 4 (l2,0,false)=(txn,l3,0,false))(hkn:k≠2/\k≠3/\k≠4/\k≠5/\k≠9)(hno:okS (Zy 8 (l3,0,false)).2=false):Spec prog 135 [.slice a n c] ρ [] (λ z ρ' L'=>ρ.le ρ'/\Xb ρ' l z L'):=by
 have hI0:RdI ρ ⟨a,n,c⟩ l:=⟨h,hc,hb⟩
 have hln:=h.len
 have hdb:Yb l=false:=bad4 hl1 hl2 hl3 hno
 refine Zb func135 rfl rfl rfl λ u R=>?_
 simp only[Zc,kA]
 repeat' (first|(refine Za (.func 202) ?_;refine qC rfl rfl (Ze _ _ ⟨a,n,c⟩ l hI0 1 256 rfl (by decide) hl1) ?_;rintro v ρ' L' hle ⟨rfl,rfl,hb1,s1,h1,rfl⟩<;>(try simp only[kA]))|(refine Za (.func 202) ?_;refine qC rfl rfl (Ze _ _ s1 l1 h1 8 18446744073709551616 rfl (by decide) hl2) ?_;rintro v ρ' L' hle ⟨rfl,rfl,hb2,s2,h2,rfl⟩<;>(try simp only[kA]))|(refine Za (.func 202) ?_;refine qC rfl rfl (Ze _ _ s2 l2 h2 4 4294967296 rfl (by decide) hl3) ?_;rintro v ρ' L' hle ⟨rfl,rfl,hb3,s3,h3,rfl⟩<;>(try simp only[kA]))|(refine Za (.func 202) ?_;refine qR rfl rfl (ZO _ _ s3 l3 h3 8 (by decide) hno) ?_;try simp only[kA])|(refine Za (.func 202) ?_;refine qR rfl rfl (Zo _ _ s3 4) ?_;try simp only[kA])|(refine Za (.func 202) ?_;refine qR rfl rfl (Zo _ _ s3 8) ?_;try simp only[kA])|refine zV ?_|intro _)
 exact qE (L':=[]) ⟨Hp.le_refl _,ZR hdb⟩
theorem read_o (ρ:Hp)(a:Option Addr)(n c:Nat)(l:List UInt8)(h:SIn ρ Zk a n l)(hc:n<=c)(hb:n<=1000000)(h1:1<=n)(k:Nat)(l1:List UInt8)(hl1:Zy 1 (l,0,false)=(k,l1,0,false))(hkn:k≠2/\k≠3/\k≠4/\k≠5/\k≠9):Spec prog 135 [.slice a n c] ρ [] (λ z ρ' L'=>ρ.le ρ'/\Xb ρ' l z L'):=by
 rcases Vu 8 l1 with⟨lsn,l2,hl2⟩|hno
 case' inr=>exact read_ob1 ρ a n c l h hc hb k l1 hl1 hkn hno
 rcases Vu 4 l2 with⟨txn,l3,hl3⟩|hno
 case' inr=>exact read_ob2 ρ a n c l h hc hb k l1 hl1 lsn l2 hl2 hkn hno
 rcases Vu 8 l3 with⟨prev,l4,hl4⟩|hno
 case' inr=>exact read_ob3 ρ a n c l h hc hb k l1 hl1 lsn l2 hl2 txn l3 hl3 hkn hno
 exact read_og ρ a n c l h hc hb k l1 hl1 lsn l2 hl2 txn l3 hl3 prev l4 hl4 hkn
theorem read_3g (ρ:Hp)(a:Option Addr)(n c:Nat)(l:List UInt8)(h:SIn ρ Zk a n l)(hc:n<=c)(hb:n<=1000000)(k:Nat)(l1:List UInt8)(hl1:Zy 1 (l,0,false)=(k,l1,0,false))(lsn:Nat)(l2:List UInt8)(hl2:Zy 8 (l1,0,false)=(lsn,l2,0,false))(txn:Nat)(l3:List UInt8)(hl3:Zy 4 (l2,0,false)=(txn,l3,0,false))(prev:Nat)(l4:List UInt8)(hl4:Zy 8 (l3,0,false)=(prev,l4,0,false))(next:Nat)(l5:List UInt8)(hl5:Zy 8 (l4,0,false)=(next,l5,0,false))(hkn:k=3):Spec prog 135 [.slice a n c] ρ [] (λ z ρ' L'=>ρ.le ρ'/\Xb ρ' l z L'):=by
 have hI0:RdI ρ ⟨a,n,c⟩ l:=⟨h,hc,hb⟩
 have hln:=h.len
 refine Zb func135 rfl rfl rfl λ u R=>?_
 simp only[Zc,kA]
 repeat' (first|(refine Za (.func 202) ?_;refine qC rfl rfl (Ze _ _ ⟨a,n,c⟩ l hI0 1 256 rfl (by decide) hl1) ?_;rintro v ρ' L' hle ⟨rfl,rfl,hb1,s1,h1,rfl⟩<;>(try simp only[kA]))|(refine Za (.func 202) ?_;refine qC rfl rfl (Ze _ _ s1 l1 h1 8 18446744073709551616 rfl (by decide) hl2) ?_;rintro v ρ' L' hle ⟨rfl,rfl,hb2,s2,h2,rfl⟩<;>(try simp only[kA]))|(refine Za (.func 202) ?_;refine qC rfl rfl (Ze _ _ s2 l2 h2 4 4294967296 rfl (by decide) hl3) ?_;rintro v ρ' L' hle ⟨rfl,rfl,hb3,s3,h3,rfl⟩<;>(try simp only[kA]))|(refine Za (.func 202) ?_;refine qC rfl rfl (Ze _ _ s3 l3 h3 8 18446744073709551616 rfl (by decide) hl4) ?_;rintro v ρ' L' hle ⟨rfl,rfl,hb4,s4,h4,rfl⟩<;>(try simp only[kA]))|(refine Za (.func 202) ?_;refine qC rfl rfl (Ze _ _ s4 l4 h4 8 18446744073709551616 rfl (by decide) hl5) ?_;rintro v ρ' L' hle ⟨rfl,rfl,hb5,s5,h5,rfl⟩<;>(try simp only[kA]))|refine zV ?_|intro _)
 have hr:RcIn ρ' zeV (⟨k,lsn,txn,prev,next,[],[],0,[],[]⟩:Rc):=nilIn
 have hlr:=h5.at'.len
 have hR:=Wk ρ' zeV (⟨k,lsn,txn,prev,next,[],[],0,[],[]⟩:Rc) hr
 have hd:Vq l=((⟨k,lsn,txn,prev,next,[],[],0,[],[]⟩:Rc).plain,l5,0,false):=by
  rw[XN hl1 hl2 hl3 hl4]
  unfold Wp
  rw[if_neg (show ¬((k:Nat):Int)=2 by omega),if_pos (show ((k:Nat):Int)=3 by omega)]
  unfold neD
  rw[hl5]
  rfl
 by_cases hz:0<s5.n
 ·rw[decide_eq_true (show (s5.n:Int) > 0 by omega)]
  repeat' (first|refine zV ?_|intro _)
  exact qE (L':=[]) (hle:=Hp.le_refl _) ⟨Hp.le_refl _,ZR (read_rest hd (λ e=>by rw[e] at hlr;simp at hlr;omega))⟩
 ·rw[decide_eq_false (show ¬(s5.n:Int) > 0 by omega)]
  obtain rfl:l5=[]:=List.eq_nil_of_length_eq_zero (by omega)
  cases hok:Yk (⟨k,lsn,txn,prev,next,[],[],0,[],[]⟩:Rc)
  ·rw[hok] at hR
   repeat' (first|(refine Za (.func 46) ?_;refine qC rfl rfl (hR) ?_;rintro v ρ' L' hle ⟨rfl,rfl,rfl⟩<;>(try simp only[kA]))|refine zV ?_|intro _)
   exact qE (L':=[]) (hle:=Hp.le_refl _) ⟨Hp.le_refl _,ZR (read_right hd hok)⟩
  ·rw[hok] at hR
   repeat' (first|(refine Za (.func 46) ?_;refine qC rfl rfl (hR) ?_;rintro v ρ' L' hle ⟨rfl,rfl,rfl⟩<;>(try simp only[kA]))|refine zV ?_|intro _)
   exact qE (L':=[]) (hle:=Hp.le_refl _) ⟨Hp.le_refl _,(read_yes hr hd hok).2⟩
theorem read_3b1 (ρ:Hp)(a:Option Addr)(n c:Nat)(l:List UInt8)(h:SIn ρ Zk a n l)(hc:n<=c)(hb:n<=1000000)(k:Nat)(l1:List UInt8)(hl1:Zy 1 (l,0,false)=(k,l1,0,false))(hkn:k=3)(hno:okS (Zy 8 (l1,0,false)).2=false):Spec prog 135 [.slice a n c] ρ [] (λ z ρ' L'=>ρ.le ρ'/\Xb ρ' l z L'):=by
 have hI0:RdI ρ ⟨a,n,c⟩ l:=⟨h,hc,hb⟩
 have hln:=h.len
 have hdb:Yb l=false:=bad2 hl1 hno
 refine Zb func135 rfl rfl rfl λ u R=>?_
 simp only[Zc,kA]
 repeat' (first|(refine Za (.func 202) ?_;refine qC rfl rfl (Ze _ _ ⟨a,n,c⟩ l hI0 1 256 rfl (by decide) hl1) ?_;rintro v ρ' L' hle ⟨rfl,rfl,hb1,s1,h1,rfl⟩<;>(try simp only[kA]))|(refine Za (.func 202) ?_;refine qR rfl rfl (ZO _ _ s1 l1 h1 8 (by decide) hno) ?_;try simp only[kA])|(refine Za (.func 202) ?_;refine qR rfl rfl (Zo _ _ s1 4) ?_;try simp only[kA])|(refine Za (.func 202) ?_;refine qR rfl rfl (Zo _ _ s1 8) ?_;try simp only[kA])|refine zV ?_|intro _)
 exact qE (L':=[]) ⟨Hp.le_refl _,ZR hdb⟩
theorem read_3b2 (ρ:Hp)(a:Option Addr)(n c:Nat)(l:List UInt8)(h:SIn ρ Zk a n l)(hc:n<=c)(hb:n<=1000000)(k:Nat)(l1:List UInt8)(hl1:Zy 1 (l,0,false)=(k,l1,0,false))(lsn:Nat)(l2:List UInt8)(hl2:Zy 8 (l1,0,false)=(lsn,l2,0,false))(hkn:k=3)(hno:okS (Zy 4 (l2,0,false)).2=false):Spec prog 135 [.slice a n c] ρ [] (λ z ρ' L'=>ρ.le ρ'/\Xb ρ' l z L'):=by
 have hI0:RdI ρ ⟨a,n,c⟩ l:=⟨h,hc,hb⟩
 have hln:=h.len
 have hdb:Yb l=false:=bad3 hl1 hl2 hno
 refine Zb func135 rfl rfl rfl λ u R=>?_
 simp only[Zc,kA]
 repeat' (first|(refine Za (.func 202) ?_;refine qC rfl rfl (Ze _ _ ⟨a,n,c⟩ l hI0 1 256 rfl (by decide) hl1) ?_;rintro v ρ' L' hle ⟨rfl,rfl,hb1,s1,h1,rfl⟩<;>(try simp only[kA]))|(refine Za (.func 202) ?_;refine qC rfl rfl (Ze _ _ s1 l1 h1 8 18446744073709551616 rfl (by decide) hl2) ?_;rintro v ρ' L' hle ⟨rfl,rfl,hb2,s2,h2,rfl⟩<;>(try simp only[kA]))|(refine Za (.func 202) ?_;refine qR rfl rfl (ZO _ _ s2 l2 h2 4 (by decide) hno) ?_;try simp only[kA])|(refine Za (.func 202) ?_;refine qR rfl rfl (Zo _ _ s2 4) ?_;try simp only[kA])|(refine Za (.func 202) ?_;refine qR rfl rfl (Zo _ _ s2 8) ?_;try simp only[kA])|refine zV ?_|intro _)
 exact qE (L':=[]) ⟨Hp.le_refl _,ZR hdb⟩
theorem read_3b3 (ρ:Hp)(a:Option Addr)(n c:Nat)(l:List UInt8)(h:SIn ρ Zk a n l)(hc:n<=c)(hb:n<=1000000)(k:Nat)(l1:List UInt8)(hl1:Zy 1 (l,0,false)=(k,l1,0,false))(lsn:Nat)(l2:List UInt8)(hl2:Zy 8 (l1,0,false)=(lsn,l2,0,false))(txn:Nat)(l3:List UInt8)(hl3:Zy 4 (l2,0,false)=(txn,l3,0,false))(hkn:k=3)(hno:okS (Zy 8 (l3,0,false)).2=false):Spec prog 135 [.slice a n c] ρ [] (λ z ρ' L'=>ρ.le ρ'/\Xb ρ' l z L'):=by
 have hI0:RdI ρ ⟨a,n,c⟩ l:=⟨h,hc,hb⟩
 have hln:=h.len
 have hdb:Yb l=false:=bad4 hl1 hl2 hl3 hno
 refine Zb func135 rfl rfl rfl λ u R=>?_
 simp only[Zc,kA]
 repeat' (first|(refine Za (.func 202) ?_;refine qC rfl rfl (Ze _ _ ⟨a,n,c⟩ l hI0 1 256 rfl (by decide) hl1) ?_;rintro v ρ' L' hle ⟨rfl,rfl,hb1,s1,h1,rfl⟩<;>(try simp only[kA]))|(refine Za (.func 202) ?_;refine qC rfl rfl (Ze _ _ s1 l1 h1 8 18446744073709551616 rfl (by decide) hl2) ?_;rintro v ρ' L' hle ⟨rfl,rfl,hb2,s2,h2,rfl⟩<;>(try simp only[kA]))|(refine Za (.func 202) ?_;refine qC rfl rfl (Ze _ _ s2 l2 h2 4 4294967296 rfl (by decide) hl3) ?_;rintro v ρ' L' hle ⟨rfl,rfl,hb3,s3,h3,rfl⟩<;>(try simp only[kA]))|(refine Za (.func 202) ?_;refine qR rfl rfl (ZO _ _ s3 l3 h3 8 (by decide) hno) ?_;try simp only[kA])|(refine Za (.func 202) ?_;refine qR rfl rfl (Zo _ _ s3 4) ?_;try simp only[kA])|(refine Za (.func 202) ?_;refine qR rfl rfl (Zo _ _ s3 8) ?_;try simp only[kA])|refine zV ?_|intro _)
 exact qE (L':=[]) ⟨Hp.le_refl _,ZR hdb⟩
theorem read_3b4 (ρ:Hp)(a:Option Addr)(n c:Nat)(l:List UInt8)(h:SIn ρ Zk a n l)(hc:n<=c)(hb:n<=1000000)(k:Nat)(l1:List UInt8)(hl1:Zy 1 (l,0,false)=(k,l1,0,false))(lsn:Nat)(l2:List UInt8)(hl2:Zy 8 (l1,0,false)=(lsn,l2,0,false))(txn:Nat)(l3:List UInt8)(hl3:Zy 4 (l2,0,false)=(txn,l3,0,false))(prev:Nat)(l4:List UInt8)(hl4:Zy 8 (l3,0,false)=(prev,l4,0,false))(hkn:k=3)(hno:okS (Zy 8 (l4,0,false)).2=false):Spec prog 135 [.slice a n c] ρ [] (λ z ρ' L'=>ρ.le ρ'/\Xb ρ' l z L'):=by
 have hI0:RdI ρ ⟨a,n,c⟩ l:=⟨h,hc,hb⟩
 have hln:=h.len
 have hdb:Yb l=false:=XC (by
  rw[XN hl1 hl2 hl3 hl4]
  unfold Wp
  rw[if_neg (show ¬((k:Nat):Int)=2 by omega),if_pos (show ((k:Nat):Int)=3 by omega)]
  unfold neD
  exact hno)
 refine Zb func135 rfl rfl rfl λ u R=>?_
 simp only[Zc,kA]
 repeat' (first|(refine Za (.func 202) ?_;refine qC rfl rfl (Ze _ _ ⟨a,n,c⟩ l hI0 1 256 rfl (by decide) hl1) ?_;rintro v ρ' L' hle ⟨rfl,rfl,hb1,s1,h1,rfl⟩<;>(try simp only[kA]))|(refine Za (.func 202) ?_;refine qC rfl rfl (Ze _ _ s1 l1 h1 8 18446744073709551616 rfl (by decide) hl2) ?_;rintro v ρ' L' hle ⟨rfl,rfl,hb2,s2,h2,rfl⟩<;>(try simp only[kA]))|(refine Za (.func 202) ?_;refine qC rfl rfl (Ze _ _ s2 l2 h2 4 4294967296 rfl (by decide) hl3) ?_;rintro v ρ' L' hle ⟨rfl,rfl,hb3,s3,h3,rfl⟩<;>(try simp only[kA]))|(refine Za (.func 202) ?_;refine qC rfl rfl (Ze _ _ s3 l3 h3 8 18446744073709551616 rfl (by decide) hl4) ?_;rintro v ρ' L' hle ⟨rfl,rfl,hb4,s4,h4,rfl⟩<;>(try simp only[kA]))|(refine Za (.func 202) ?_;refine qR rfl rfl (ZO _ _ s4 l4 h4 8 (by decide) hno) ?_;try simp only[kA])|(refine Za (.func 202) ?_;refine qR rfl rfl (Zo _ _ s4 4) ?_;try simp only[kA])|(refine Za (.func 202) ?_;refine qR rfl rfl (Zo _ _ s4 8) ?_;try simp only[kA])|refine zV ?_|intro _)
 exact qE (L':=[]) ⟨Hp.le_refl _,ZR hdb⟩
theorem read_3 (ρ:Hp)(a:Option Addr)(n c:Nat)(l:List UInt8)(h:SIn ρ Zk a n l)(hc:n<=c)(hb:n<=1000000)(h1:1<=n)(k:Nat)(l1:List UInt8)(hl1:Zy 1 (l,0,false)=(k,l1,0,false))(hkn:k=3):Spec prog 135 [.slice a n c] ρ [] (λ z ρ' L'=>ρ.le ρ'/\Xb ρ' l z L'):=by
 rcases Vu 8 l1 with⟨lsn,l2,hl2⟩|hno
 case' inr=>exact read_3b1 ρ a n c l h hc hb k l1 hl1 hkn hno
 rcases Vu 4 l2 with⟨txn,l3,hl3⟩|hno
 case' inr=>exact read_3b2 ρ a n c l h hc hb k l1 hl1 lsn l2 hl2 hkn hno
 rcases Vu 8 l3 with⟨prev,l4,hl4⟩|hno
 case' inr=>exact read_3b3 ρ a n c l h hc hb k l1 hl1 lsn l2 hl2 txn l3 hl3 hkn hno
 rcases Vu 8 l4 with⟨next,l5,hl5⟩|hno
 case' inr=>exact read_3b4 ρ a n c l h hc hb k l1 hl1 lsn l2 hl2 txn l3 hl3 prev l4 hl4 hkn hno
 exact read_3g ρ a n c l h hc hb k l1 hl1 lsn l2 hl2 txn l3 hl3 prev l4 hl4 next l5 hl5 hkn
theorem read_2g (ρ:Hp)(a:Option Addr)(n c:Nat)(l:List UInt8)(h:SIn ρ Zk a n l)(hc:n<=c)(hb:n<=1000000)(k:Nat)(l1:List UInt8)(hl1:Zy 1 (l,0,false)=(k,l1,0,false))(lsn:Nat)(l2:List UInt8)(hl2:Zy 8 (l1,0,false)=(lsn,l2,0,false))(txn:Nat)(l3:List UInt8)(hl3:Zy 4 (l2,0,false)=(txn,l3,0,false))(prev:Nat)(l4:List UInt8)(hl4:Zy 8 (l3,0,false)=(prev,l4,0,false))(hkn:k=2):Spec prog 135 [.slice a n c] ρ [] (λ z ρ' L'=>ρ.le ρ'/\Xb ρ' l z L'):=by
 have hI0:RdI ρ ⟨a,n,c⟩ l:=⟨h,hc,hb⟩
 have hln:=h.len
 refine Zb func135 rfl rfl rfl λ u R=>?_
 simp only[Zc,kA]
 repeat' (first|(refine Za (.func 202) ?_;refine qC rfl rfl (Ze _ _ ⟨a,n,c⟩ l hI0 1 256 rfl (by decide) hl1) ?_;rintro v ρ' L' hle ⟨rfl,rfl,hb1,s1,h1,rfl⟩<;>(try simp only[kA]))|(refine Za (.func 202) ?_;refine qC rfl rfl (Ze _ _ s1 l1 h1 8 18446744073709551616 rfl (by decide) hl2) ?_;rintro v ρ' L' hle ⟨rfl,rfl,hb2,s2,h2,rfl⟩<;>(try simp only[kA]))|(refine Za (.func 202) ?_;refine qC rfl rfl (Ze _ _ s2 l2 h2 4 4294967296 rfl (by decide) hl3) ?_;rintro v ρ' L' hle ⟨rfl,rfl,hb3,s3,h3,rfl⟩<;>(try simp only[kA]))|(refine Za (.func 202) ?_;refine qC rfl rfl (Ze _ _ s3 l3 h3 8 18446744073709551616 rfl (by decide) hl4) ?_;rintro v ρ' L' hle ⟨rfl,rfl,hb4,s4,h4,rfl⟩<;>(try simp only[kA]))|(refine Za (.func 203) ?_;refine qC rfl rfl (images_true _ _ s4 l4 h4) ?_;rintro v ρ' L' hle ⟨hz1,sv,xs,rfl,hxs,hxi,⟨s6,l6,hq,h6,rfl⟩|⟨hno6,s6,rfl⟩⟩<;>(try simp only[kA]))|refine zV ?_|intro _)
 ·skip
  have hr:RcIn ρ' ⟨sv,⟨none,0,0⟩,⟨none,0,0⟩,⟨none,0,0⟩⟩ (⟨k,lsn,txn,prev,0,xs,[],0,[],[]⟩:Rc):=imsIn hxs hxi
  have hlr:=h6.at'.len
  have hR:=Wk ρ' ⟨sv,⟨none,0,0⟩,⟨none,0,0⟩,⟨none,0,0⟩⟩ (⟨k,lsn,txn,prev,0,xs,[],0,[],[]⟩:Rc) hr
  have hd:Vq l=((⟨k,lsn,txn,prev,0,xs,[],0,[],[]⟩:Rc).plain,l6,0,false):=by
   rw[XN hl1 hl2 hl3 hl4]
   unfold Wp
   rw[if_pos (show ((k:Nat):Int)=2 by omega)]
   unfold chD
   rw[show decide (((k:Nat):Int)=2)=true from decide_eq_true (by omega)]
   rw[hq]
   first|done|rfl
  by_cases hz:0<s6.n
  ·rw[decide_eq_true (show (s6.n:Int) > 0 by omega)]
   repeat' (first|refine zV ?_|intro _)
   exact qE (L':=[]) (hle:=hz1) ⟨hz1,ZR (read_rest hd (λ e=>by rw[e] at hlr;simp at hlr;omega))⟩
  ·rw[decide_eq_false (show ¬(s6.n:Int) > 0 by omega)]
   obtain rfl:l6=[]:=List.eq_nil_of_length_eq_zero (by omega)
   cases hok:Yk (⟨k,lsn,txn,prev,0,xs,[],0,[],[]⟩:Rc)
   ·rw[hok] at hR
    repeat' (first|(refine Za (.func 46) ?_;refine qC rfl rfl (hR) ?_;rintro v ρ' L' hle ⟨rfl,rfl,rfl⟩<;>(try simp only[kA]))|refine zV ?_|intro _)
    exact qE (L':=[]) (hle:=hz1) ⟨hz1,ZR (read_right hd hok)⟩
   ·rw[hok] at hR
    repeat' (first|(refine Za (.func 46) ?_;refine qC rfl rfl (hR) ?_;rintro v ρ' L' hle ⟨rfl,rfl,rfl⟩<;>(try simp only[kA]))|refine zV ?_|intro _)
    exact qE (L':=[]) (hle:=hz1) ⟨hz1,(read_yes hr hd hok).2⟩
 ·exact qE (L':=[]) (hle:=hz1) ⟨hz1,ZR (XC (by
   rw[XN hl1 hl2 hl3 hl4]
   unfold Wp
   rw[if_pos (show ((k:Nat):Int)=2 by omega)]
   unfold chD
   rw[show decide (((k:Nat):Int)=2)=true from decide_eq_true (by omega)]
   exact hno6))⟩
theorem read_2b1 (ρ:Hp)(a:Option Addr)(n c:Nat)(l:List UInt8)(h:SIn ρ Zk a n l)(hc:n<=c)(hb:n<=1000000)(k:Nat)(l1:List UInt8)(hl1:Zy 1 (l,0,false)=(k,l1,0,false))(hkn:k=2)(hno:okS (Zy 8 (l1,0,false)).2=false):Spec prog 135 [.slice a n c] ρ [] (λ z ρ' L'=>ρ.le ρ'/\Xb ρ' l z L'):=by
 have hI0:RdI ρ ⟨a,n,c⟩ l:=⟨h,hc,hb⟩
 have hln:=h.len
 have hdb:Yb l=false:=bad2 hl1 hno
 refine Zb func135 rfl rfl rfl λ u R=>?_
 simp only[Zc,kA]
 repeat' (first|(refine Za (.func 202) ?_;refine qC rfl rfl (Ze _ _ ⟨a,n,c⟩ l hI0 1 256 rfl (by decide) hl1) ?_;rintro v ρ' L' hle ⟨rfl,rfl,hb1,s1,h1,rfl⟩<;>(try simp only[kA]))|(refine Za (.func 202) ?_;refine qR rfl rfl (ZO _ _ s1 l1 h1 8 (by decide) hno) ?_;try simp only[kA])|(refine Za (.func 202) ?_;refine qR rfl rfl (Zo _ _ s1 4) ?_;try simp only[kA])|(refine Za (.func 202) ?_;refine qR rfl rfl (Zo _ _ s1 8) ?_;try simp only[kA])|(refine Za (.func 203) ?_;refine qR rfl rfl (WX _ _ s1 true) ?_;try simp only[kA])|refine zV ?_|intro _)
 exact qE (L':=[]) ⟨Hp.le_refl _,ZR hdb⟩
theorem read_2b2 (ρ:Hp)(a:Option Addr)(n c:Nat)(l:List UInt8)(h:SIn ρ Zk a n l)(hc:n<=c)(hb:n<=1000000)(k:Nat)(l1:List UInt8)(hl1:Zy 1 (l,0,false)=(k,l1,0,false))(lsn:Nat)(l2:List UInt8)(hl2:Zy 8 (l1,0,false)=(lsn,l2,0,false))(hkn:k=2)(hno:okS (Zy 4 (l2,0,false)).2=false):Spec prog 135 [.slice a n c] ρ [] (λ z ρ' L'=>ρ.le ρ'/\Xb ρ' l z L'):=by
 have hI0:RdI ρ ⟨a,n,c⟩ l:=⟨h,hc,hb⟩
 have hln:=h.len
 have hdb:Yb l=false:=bad3 hl1 hl2 hno
 refine Zb func135 rfl rfl rfl λ u R=>?_
 simp only[Zc,kA]
 repeat' (first|(refine Za (.func 202) ?_;refine qC rfl rfl (Ze _ _ ⟨a,n,c⟩ l hI0 1 256 rfl (by decide) hl1) ?_;rintro v ρ' L' hle ⟨rfl,rfl,hb1,s1,h1,rfl⟩<;>(try simp only[kA]))|(refine Za (.func 202) ?_;refine qC rfl rfl (Ze _ _ s1 l1 h1 8 18446744073709551616 rfl (by decide) hl2) ?_;rintro v ρ' L' hle ⟨rfl,rfl,hb2,s2,h2,rfl⟩<;>(try simp only[kA]))|(refine Za (.func 202) ?_;refine qR rfl rfl (ZO _ _ s2 l2 h2 4 (by decide) hno) ?_;try simp only[kA])|(refine Za (.func 202) ?_;refine qR rfl rfl (Zo _ _ s2 4) ?_;try simp only[kA])|(refine Za (.func 202) ?_;refine qR rfl rfl (Zo _ _ s2 8) ?_;try simp only[kA])|(refine Za (.func 203) ?_;refine qR rfl rfl (WX _ _ s2 true) ?_;try simp only[kA])|refine zV ?_|intro _)
 exact qE (L':=[]) ⟨Hp.le_refl _,ZR hdb⟩
theorem read_2b3 (ρ:Hp)(a:Option Addr)(n c:Nat)(l:List UInt8)(h:SIn ρ Zk a n l)(hc:n<=c)(hb:n<=1000000)(k:Nat)(l1:List UInt8)(hl1:Zy 1 (l,0,false)=(k,l1,0,false))(lsn:Nat)(l2:List UInt8)(hl2:Zy 8 (l1,0,false)=(lsn,l2,0,false))(txn:Nat)(l3:List UInt8)(hl3:Zy 4 (l2,0,false)=(txn,l3,0,false))(hkn:k=2)(hno:okS (Zy 8 (l3,0,false)).2=false):Spec prog 135 [.slice a n c] ρ [] (λ z ρ' L'=>ρ.le ρ'/\Xb ρ' l z L'):=by
 have hI0:RdI ρ ⟨a,n,c⟩ l:=⟨h,hc,hb⟩
 have hln:=h.len
 have hdb:Yb l=false:=bad4 hl1 hl2 hl3 hno
 refine Zb func135 rfl rfl rfl λ u R=>?_
 simp only[Zc,kA]
 repeat' (first|(refine Za (.func 202) ?_;refine qC rfl rfl (Ze _ _ ⟨a,n,c⟩ l hI0 1 256 rfl (by decide) hl1) ?_;rintro v ρ' L' hle ⟨rfl,rfl,hb1,s1,h1,rfl⟩<;>(try simp only[kA]))|(refine Za (.func 202) ?_;refine qC rfl rfl (Ze _ _ s1 l1 h1 8 18446744073709551616 rfl (by decide) hl2) ?_;rintro v ρ' L' hle ⟨rfl,rfl,hb2,s2,h2,rfl⟩<;>(try simp only[kA]))|(refine Za (.func 202) ?_;refine qC rfl rfl (Ze _ _ s2 l2 h2 4 4294967296 rfl (by decide) hl3) ?_;rintro v ρ' L' hle ⟨rfl,rfl,hb3,s3,h3,rfl⟩<;>(try simp only[kA]))|(refine Za (.func 202) ?_;refine qR rfl rfl (ZO _ _ s3 l3 h3 8 (by decide) hno) ?_;try simp only[kA])|(refine Za (.func 202) ?_;refine qR rfl rfl (Zo _ _ s3 4) ?_;try simp only[kA])|(refine Za (.func 202) ?_;refine qR rfl rfl (Zo _ _ s3 8) ?_;try simp only[kA])|(refine Za (.func 203) ?_;refine qR rfl rfl (WX _ _ s3 true) ?_;try simp only[kA])|refine zV ?_|intro _)
 exact qE (L':=[]) ⟨Hp.le_refl _,ZR hdb⟩
theorem read_2 (ρ:Hp)(a:Option Addr)(n c:Nat)(l:List UInt8)(h:SIn ρ Zk a n l)(hc:n<=c)(hb:n<=1000000)(h1:1<=n)(k:Nat)(l1:List UInt8)(hl1:Zy 1 (l,0,false)=(k,l1,0,false))(hkn:k=2):Spec prog 135 [.slice a n c] ρ [] (λ z ρ' L'=>ρ.le ρ'/\Xb ρ' l z L'):=by
 rcases Vu 8 l1 with⟨lsn,l2,hl2⟩|hno
 case' inr=>exact read_2b1 ρ a n c l h hc hb k l1 hl1 hkn hno
 rcases Vu 4 l2 with⟨txn,l3,hl3⟩|hno
 case' inr=>exact read_2b2 ρ a n c l h hc hb k l1 hl1 lsn l2 hl2 hkn hno
 rcases Vu 8 l3 with⟨prev,l4,hl4⟩|hno
 case' inr=>exact read_2b3 ρ a n c l h hc hb k l1 hl1 lsn l2 hl2 txn l3 hl3 hkn hno
 exact read_2g ρ a n c l h hc hb k l1 hl1 lsn l2 hl2 txn l3 hl3 prev l4 hl4 hkn
theorem read_5g (ρ:Hp)(a:Option Addr)(n c:Nat)(l:List UInt8)(h:SIn ρ Zk a n l)(hc:n<=c)(hb:n<=1000000)(k:Nat)(l1:List UInt8)(hl1:Zy 1 (l,0,false)=(k,l1,0,false))(lsn:Nat)(l2:List UInt8)(hl2:Zy 8 (l1,0,false)=(lsn,l2,0,false))(txn:Nat)(l3:List UInt8)(hl3:Zy 4 (l2,0,false)=(txn,l3,0,false))(prev:Nat)(l4:List UInt8)(hl4:Zy 8 (l3,0,false)=(prev,l4,0,false))(next:Nat)(l5:List UInt8)(hl5:Zy 8 (l4,0,false)=(next,l5,0,false))(hkn:k=5):Spec prog 135 [.slice a n c] ρ [] (λ z ρ' L'=>ρ.le ρ'/\Xb ρ' l z L'):=by
 have hI0:RdI ρ ⟨a,n,c⟩ l:=⟨h,hc,hb⟩
 have hln:=h.len
 refine Zb func135 rfl rfl rfl λ u R=>?_
 simp only[Zc,kA]
 repeat' (first|(refine Za (.func 202) ?_;refine qC rfl rfl (Ze _ _ ⟨a,n,c⟩ l hI0 1 256 rfl (by decide) hl1) ?_;rintro v ρ' L' hle ⟨rfl,rfl,hb1,s1,h1,rfl⟩<;>(try simp only[kA]))|(refine Za (.func 202) ?_;refine qC rfl rfl (Ze _ _ s1 l1 h1 8 18446744073709551616 rfl (by decide) hl2) ?_;rintro v ρ' L' hle ⟨rfl,rfl,hb2,s2,h2,rfl⟩<;>(try simp only[kA]))|(refine Za (.func 202) ?_;refine qC rfl rfl (Ze _ _ s2 l2 h2 4 4294967296 rfl (by decide) hl3) ?_;rintro v ρ' L' hle ⟨rfl,rfl,hb3,s3,h3,rfl⟩<;>(try simp only[kA]))|(refine Za (.func 202) ?_;refine qC rfl rfl (Ze _ _ s3 l3 h3 8 18446744073709551616 rfl (by decide) hl4) ?_;rintro v ρ' L' hle ⟨rfl,rfl,hb4,s4,h4,rfl⟩<;>(try simp only[kA]))|(refine Za (.func 202) ?_;refine qC rfl rfl (Ze _ _ s4 l4 h4 8 18446744073709551616 rfl (by decide) hl5) ?_;rintro v ρ' L' hle ⟨rfl,rfl,hb5,s5,h5,rfl⟩<;>(try simp only[kA]))|(refine Za (.func 203) ?_;refine qC rfl rfl (images_false _ _ s5 l5 h5) ?_;rintro v ρ' L' hle ⟨hz1,sv,xs,rfl,hxs,hxi,⟨s6,l6,hq,h6,rfl⟩|⟨hno6,s6,rfl⟩⟩<;>(try simp only[kA]))|refine zV ?_|intro _)
 ·skip
  have hr:RcIn ρ' ⟨sv,⟨none,0,0⟩,⟨none,0,0⟩,⟨none,0,0⟩⟩ (⟨k,lsn,txn,prev,next,xs,[],0,[],[]⟩:Rc):=imsIn hxs hxi
  have hlr:=h6.at'.len
  have hR:=Wk ρ' ⟨sv,⟨none,0,0⟩,⟨none,0,0⟩,⟨none,0,0⟩⟩ (⟨k,lsn,txn,prev,next,xs,[],0,[],[]⟩:Rc) hr
  have hd:Vq l=((⟨k,lsn,txn,prev,next,xs,[],0,[],[]⟩:Rc).plain,l6,0,false):=by
   rw[XN hl1 hl2 hl3 hl4]
   unfold Wp
   rw[if_neg (show ¬((k:Nat):Int)=2 by omega),if_neg (show ¬((k:Nat):Int)=3 by omega),if_neg (show ¬((k:Nat):Int)=4 by omega),if_pos (show ((k:Nat):Int)=5 by omega)]
   unfold WS neD
   rw[hl5]
   unfold chD
   dsimp only
   rw[show decide (((k:Nat):Int)=2)=false from decide_eq_false (by omega)]
   rw[hq]
   first|done|rfl
  by_cases hz:0<s6.n
  ·rw[decide_eq_true (show (s6.n:Int) > 0 by omega)]
   repeat' (first|refine zV ?_|intro _)
   exact qE (L':=[]) (hle:=hz1) ⟨hz1,ZR (read_rest hd (λ e=>by rw[e] at hlr;simp at hlr;omega))⟩
  ·rw[decide_eq_false (show ¬(s6.n:Int) > 0 by omega)]
   obtain rfl:l6=[]:=List.eq_nil_of_length_eq_zero (by omega)
   cases hok:Yk (⟨k,lsn,txn,prev,next,xs,[],0,[],[]⟩:Rc)
   ·rw[hok] at hR
    repeat' (first|(refine Za (.func 46) ?_;refine qC rfl rfl (hR) ?_;rintro v ρ' L' hle ⟨rfl,rfl,rfl⟩<;>(try simp only[kA]))|refine zV ?_|intro _)
    exact qE (L':=[]) (hle:=hz1) ⟨hz1,ZR (read_right hd hok)⟩
   ·rw[hok] at hR
    repeat' (first|(refine Za (.func 46) ?_;refine qC rfl rfl (hR) ?_;rintro v ρ' L' hle ⟨rfl,rfl,rfl⟩<;>(try simp only[kA]))|refine zV ?_|intro _)
    exact qE (L':=[]) (hle:=hz1) ⟨hz1,(read_yes hr hd hok).2⟩
 ·exact qE (L':=[]) (hle:=hz1) ⟨hz1,ZR (XC (by
   rw[XN hl1 hl2 hl3 hl4]
   unfold Wp
   rw[if_neg (show ¬((k:Nat):Int)=2 by omega),if_neg (show ¬((k:Nat):Int)=3 by omega),if_neg (show ¬((k:Nat):Int)=4 by omega),if_pos (show ((k:Nat):Int)=5 by omega)]
   unfold WS neD
   rw[hl5]
   unfold chD
   dsimp only
   rw[show decide (((k:Nat):Int)=2)=false from decide_eq_false (by omega)]
   exact hno6))⟩
theorem read_5b1 (ρ:Hp)(a:Option Addr)(n c:Nat)(l:List UInt8)(h:SIn ρ Zk a n l)(hc:n<=c)(hb:n<=1000000)(k:Nat)(l1:List UInt8)(hl1:Zy 1 (l,0,false)=(k,l1,0,false))(hkn:k=5)(hno:okS (Zy 8 (l1,0,false)).2=false):Spec prog 135 [.slice a n c] ρ [] (λ z ρ' L'=>ρ.le ρ'/\Xb ρ' l z L'):=by
 have hI0:RdI ρ ⟨a,n,c⟩ l:=⟨h,hc,hb⟩
 have hln:=h.len
 have hdb:Yb l=false:=bad2 hl1 hno
 refine Zb func135 rfl rfl rfl λ u R=>?_
 simp only[Zc,kA]
 repeat' (first|(refine Za (.func 202) ?_;refine qC rfl rfl (Ze _ _ ⟨a,n,c⟩ l hI0 1 256 rfl (by decide) hl1) ?_;rintro v ρ' L' hle ⟨rfl,rfl,hb1,s1,h1,rfl⟩<;>(try simp only[kA]))|(refine Za (.func 202) ?_;refine qR rfl rfl (ZO _ _ s1 l1 h1 8 (by decide) hno) ?_;try simp only[kA])|(refine Za (.func 202) ?_;refine qR rfl rfl (Zo _ _ s1 4) ?_;try simp only[kA])|(refine Za (.func 202) ?_;refine qR rfl rfl (Zo _ _ s1 8) ?_;try simp only[kA])|(refine Za (.func 203) ?_;refine qR rfl rfl (WX _ _ s1 false) ?_;try simp only[kA])|refine zV ?_|intro _)
 exact qE (L':=[]) ⟨Hp.le_refl _,ZR hdb⟩
theorem read_5b2 (ρ:Hp)(a:Option Addr)(n c:Nat)(l:List UInt8)(h:SIn ρ Zk a n l)(hc:n<=c)(hb:n<=1000000)(k:Nat)(l1:List UInt8)(hl1:Zy 1 (l,0,false)=(k,l1,0,false))(lsn:Nat)(l2:List UInt8)(hl2:Zy 8 (l1,0,false)=(lsn,l2,0,false))(hkn:k=5)(hno:okS (Zy 4 (l2,0,false)).2=false):Spec prog 135 [.slice a n c] ρ [] (λ z ρ' L'=>ρ.le ρ'/\Xb ρ' l z L'):=by
 have hI0:RdI ρ ⟨a,n,c⟩ l:=⟨h,hc,hb⟩
 have hln:=h.len
 have hdb:Yb l=false:=bad3 hl1 hl2 hno
 refine Zb func135 rfl rfl rfl λ u R=>?_
 simp only[Zc,kA]
 repeat' (first|(refine Za (.func 202) ?_;refine qC rfl rfl (Ze _ _ ⟨a,n,c⟩ l hI0 1 256 rfl (by decide) hl1) ?_;rintro v ρ' L' hle ⟨rfl,rfl,hb1,s1,h1,rfl⟩<;>(try simp only[kA]))|(refine Za (.func 202) ?_;refine qC rfl rfl (Ze _ _ s1 l1 h1 8 18446744073709551616 rfl (by decide) hl2) ?_;rintro v ρ' L' hle ⟨rfl,rfl,hb2,s2,h2,rfl⟩<;>(try simp only[kA]))|(refine Za (.func 202) ?_;refine qR rfl rfl (ZO _ _ s2 l2 h2 4 (by decide) hno) ?_;try simp only[kA])|(refine Za (.func 202) ?_;refine qR rfl rfl (Zo _ _ s2 4) ?_;try simp only[kA])|(refine Za (.func 202) ?_;refine qR rfl rfl (Zo _ _ s2 8) ?_;try simp only[kA])|(refine Za (.func 203) ?_;refine qR rfl rfl (WX _ _ s2 false) ?_;try simp only[kA])|refine zV ?_|intro _)
 exact qE (L':=[]) ⟨Hp.le_refl _,ZR hdb⟩
theorem read_5b3 (ρ:Hp)(a:Option Addr)(n c:Nat)(l:List UInt8)(h:SIn ρ Zk a n l)(hc:n<=c)(hb:n<=1000000)(k:Nat)(l1:List UInt8)(hl1:Zy 1 (l,0,false)=(k,l1,0,false))(lsn:Nat)(l2:List UInt8)(hl2:Zy 8 (l1,0,false)=(lsn,l2,0,false))(txn:Nat)(l3:List UInt8)(hl3:Zy 4 (l2,0,false)=(txn,l3,0,false))(hkn:k=5)(hno:okS (Zy 8 (l3,0,false)).2=false):Spec prog 135 [.slice a n c] ρ [] (λ z ρ' L'=>ρ.le ρ'/\Xb ρ' l z L'):=by
 have hI0:RdI ρ ⟨a,n,c⟩ l:=⟨h,hc,hb⟩
 have hln:=h.len
 have hdb:Yb l=false:=bad4 hl1 hl2 hl3 hno
 refine Zb func135 rfl rfl rfl λ u R=>?_
 simp only[Zc,kA]
 repeat' (first|(refine Za (.func 202) ?_;refine qC rfl rfl (Ze _ _ ⟨a,n,c⟩ l hI0 1 256 rfl (by decide) hl1) ?_;rintro v ρ' L' hle ⟨rfl,rfl,hb1,s1,h1,rfl⟩<;>(try simp only[kA]))|(refine Za (.func 202) ?_;refine qC rfl rfl (Ze _ _ s1 l1 h1 8 18446744073709551616 rfl (by decide) hl2) ?_;rintro v ρ' L' hle ⟨rfl,rfl,hb2,s2,h2,rfl⟩<;>(try simp only[kA]))|(refine Za (.func 202) ?_;refine qC rfl rfl (Ze _ _ s2 l2 h2 4 4294967296 rfl (by decide) hl3) ?_;rintro v ρ' L' hle ⟨rfl,rfl,hb3,s3,h3,rfl⟩<;>(try simp only[kA]))|(refine Za (.func 202) ?_;refine qR rfl rfl (ZO _ _ s3 l3 h3 8 (by decide) hno) ?_;try simp only[kA])|(refine Za (.func 202) ?_;refine qR rfl rfl (Zo _ _ s3 4) ?_;try simp only[kA])|(refine Za (.func 202) ?_;refine qR rfl rfl (Zo _ _ s3 8) ?_;try simp only[kA])|(refine Za (.func 203) ?_;refine qR rfl rfl (WX _ _ s3 false) ?_;try simp only[kA])|refine zV ?_|intro _)
 exact qE (L':=[]) ⟨Hp.le_refl _,ZR hdb⟩
theorem read_5b4 (ρ:Hp)(a:Option Addr)(n c:Nat)(l:List UInt8)(h:SIn ρ Zk a n l)(hc:n<=c)(hb:n<=1000000)(k:Nat)(l1:List UInt8)(hl1:Zy 1 (l,0,false)=(k,l1,0,false))(lsn:Nat)(l2:List UInt8)(hl2:Zy 8 (l1,0,false)=(lsn,l2,0,false))(txn:Nat)(l3:List UInt8)(hl3:Zy 4 (l2,0,false)=(txn,l3,0,false))(prev:Nat)(l4:List UInt8)(hl4:Zy 8 (l3,0,false)=(prev,l4,0,false))(hkn:k=5)(hno:okS (Zy 8 (l4,0,false)).2=false):Spec prog 135 [.slice a n c] ρ [] (λ z ρ' L'=>ρ.le ρ'/\Xb ρ' l z L'):=by
 have hI0:RdI ρ ⟨a,n,c⟩ l:=⟨h,hc,hb⟩
 have hln:=h.len
 have hdb:Yb l=false:=XC (by
  rw[XN hl1 hl2 hl3 hl4]
  unfold Wp
  rw[if_neg (show ¬((k:Nat):Int)=2 by omega),if_neg (show ¬((k:Nat):Int)=3 by omega),if_neg (show ¬((k:Nat):Int)=4 by omega),if_pos (show ((k:Nat):Int)=5 by omega)]
  unfold WS neD
  exact st_chD hno)
 refine Zb func135 rfl rfl rfl λ u R=>?_
 simp only[Zc,kA]
 repeat' (first|(refine Za (.func 202) ?_;refine qC rfl rfl (Ze _ _ ⟨a,n,c⟩ l hI0 1 256 rfl (by decide) hl1) ?_;rintro v ρ' L' hle ⟨rfl,rfl,hb1,s1,h1,rfl⟩<;>(try simp only[kA]))|(refine Za (.func 202) ?_;refine qC rfl rfl (Ze _ _ s1 l1 h1 8 18446744073709551616 rfl (by decide) hl2) ?_;rintro v ρ' L' hle ⟨rfl,rfl,hb2,s2,h2,rfl⟩<;>(try simp only[kA]))|(refine Za (.func 202) ?_;refine qC rfl rfl (Ze _ _ s2 l2 h2 4 4294967296 rfl (by decide) hl3) ?_;rintro v ρ' L' hle ⟨rfl,rfl,hb3,s3,h3,rfl⟩<;>(try simp only[kA]))|(refine Za (.func 202) ?_;refine qC rfl rfl (Ze _ _ s3 l3 h3 8 18446744073709551616 rfl (by decide) hl4) ?_;rintro v ρ' L' hle ⟨rfl,rfl,hb4,s4,h4,rfl⟩<;>(try simp only[kA]))|(refine Za (.func 202) ?_;refine qR rfl rfl (ZO _ _ s4 l4 h4 8 (by decide) hno) ?_;try simp only[kA])|(refine Za (.func 202) ?_;refine qR rfl rfl (Zo _ _ s4 4) ?_;try simp only[kA])|(refine Za (.func 202) ?_;refine qR rfl rfl (Zo _ _ s4 8) ?_;try simp only[kA])|(refine Za (.func 203) ?_;refine qR rfl rfl (WX _ _ s4 false) ?_;try simp only[kA])|refine zV ?_|intro _)
 exact qE (L':=[]) ⟨Hp.le_refl _,ZR hdb⟩
theorem read_5 (ρ:Hp)(a:Option Addr)(n c:Nat)(l:List UInt8)(h:SIn ρ Zk a n l)(hc:n<=c)(hb:n<=1000000)(h1:1<=n)(k:Nat)(l1:List UInt8)(hl1:Zy 1 (l,0,false)=(k,l1,0,false))(hkn:k=5):Spec prog 135 [.slice a n c] ρ [] (λ z ρ' L'=>ρ.le ρ'/\Xb ρ' l z L'):=by
 rcases Vu 8 l1 with⟨lsn,l2,hl2⟩|hno
 case' inr=>exact read_5b1 ρ a n c l h hc hb k l1 hl1 hkn hno
 rcases Vu 4 l2 with⟨txn,l3,hl3⟩|hno
 case' inr=>exact read_5b2 ρ a n c l h hc hb k l1 hl1 lsn l2 hl2 hkn hno
 rcases Vu 8 l3 with⟨prev,l4,hl4⟩|hno
 case' inr=>exact read_5b3 ρ a n c l h hc hb k l1 hl1 lsn l2 hl2 txn l3 hl3 hkn hno
 rcases Vu 8 l4 with⟨next,l5,hl5⟩|hno
 case' inr=>exact read_5b4 ρ a n c l h hc hb k l1 hl1 lsn l2 hl2 txn l3 hl3 prev l4 hl4 hkn hno
 exact read_5g ρ a n c l h hc hb k l1 hl1 lsn l2 hl2 txn l3 hl3 prev l4 hl4 next l5 hl5 hkn
end Go.Proofs.E
