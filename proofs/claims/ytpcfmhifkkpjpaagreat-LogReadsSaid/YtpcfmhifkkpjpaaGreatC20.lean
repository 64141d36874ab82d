/- Laws of LogReads. Part 20 of 28. -/
import Derived.Test.YtpcfmhifkkpjpaaGreatC19
namespace Go.Proofs.E
open Go
set_option linter.unusedVariables false
set_option linter.unusedSimpArgs false
set_option linter.unusedSectionVars false
set_option maxRecDepth 4000
set_option maxHeartbeats 1000000
attribute [local irreducible] Yl TL TC TE Spec ZI R1 Hp.le EnvLe TS TR YS Zp
theorem st_manyD {α:Type}{f:Yc→α×Yc}{s:Yc}(h:okS s=false):okS (YA f s).2=false:=st_many (Vx h)
theorem st_hdP {k l t:Nat}{s:Yc}(h:okS s=false):okS (hdP k l t s).2=false:=Vx h
theorem st_hdT {k l:Nat}{s:Yc}(h:okS s=false):okS (hdT k l s).2=false:=st_hdP (Vx h)
theorem st_hdL {k:Nat}{s:Yc}(h:okS s=false):okS (hdL k s).2=false:=st_hdT (Vx h)
theorem st_chD {r:Rc}{s:Yc}(h:okS s=false):okS (chD r s).2=false:=st_manyD h
theorem st_neD {r:Rc}{s:Yc}(h:okS s=false):okS (neD r s).2=false:=Vx h
theorem st_doD {r:Rc}{s:Yc}(h:okS s=false):okS (doD r s).2=false:=st_manyD h
theorem st_cxD {r:Rc}{s:Yc}(h:okS s=false):okS (cxD r s).2=false:=Vx h
theorem st_ctD {r:Rc}{s:Yc}(h:okS s=false):okS (ctD r s).2=false:=st_manyD h
theorem st_cdD {r:Rc}{s:Yc}(h:okS s=false):okS (cdD r s).2=false:=st_manyD h
theorem st_tailD {r:Rc}{s:Yc}(h:okS s=false):okS (Wt r s).2=false:=by
 unfold Wt
 split
 ·exact st_chD h
 split
 ·exact st_neD h
 split
 ·exact st_doD (st_neD h)
 split
 ·exact st_chD (st_neD h)
 split
 ·exact st_cdD (st_ctD (st_cxD h))
 ·exact h
theorem Xz {l:List UInt8}(h:okS (Vq l).2=false):Ye l=false:=by unfold Ye;rw[h];rfl
theorem dec_head {l:List UInt8}(h:okS (headD (l,0,false)).2=false):Ye l=false:=Xz (st_tailD h)
theorem head1 {l l1:List UInt8}{k:Nat}(h:ZC 1 (l,0,false)=(k,l1,0,false)):headD (l,0,false)=hdL k (l1,0,false):=by unfold headD;rw[h]
theorem head2 {k n:Nat}{l1 l2:List UInt8}(h:ZC 8 (l1,0,false)=(n,l2,0,false)):hdL k (l1,0,false)=hdT k n (l2,0,false):=by unfold hdL;rw[h]
theorem head3 {k n t:Nat}{l1 l2:List UInt8}(h:ZC 4 (l1,0,false)=(t,l2,0,false)):hdT k n (l1,0,false)=hdP k n t (l2,0,false):=by unfold hdT;rw[h]
theorem head4 {k n t p:Nat}{l1 l2:List UInt8}(h:ZC 8 (l1,0,false)=(p,l2,0,false)):hdP k n t (l1,0,false)=(⟨k,n,t,p,0,[],[],0,[],[]⟩,l2,0,false):=by unfold hdP;rw[h]
theorem bad2 {l l1:List UInt8}{k:Nat}(h:ZC 1 (l,0,false)=(k,l1,0,false))(e:okS (ZC 8 (l1,0,false)).2=false):Ye l=false:=dec_head (by rw[head1 h];exact st_hdT e)
theorem bad3 {l l1 l2:List UInt8}{k n:Nat}(h:ZC 1 (l,0,false)=(k,l1,0,false))(h2:ZC 8 (l1,0,false)=(n,l2,0,false))(e:okS (ZC 4 (l2,0,false)).2=false):Ye l=false:=dec_head (by rw[head1 h,head2 h2];exact st_hdP e)
theorem bad4 {l l1 l2 l3:List UInt8}{k n t:Nat}(h:ZC 1 (l,0,false)=(k,l1,0,false))(h2:ZC 8 (l1,0,false)=(n,l2,0,false))(h3:ZC 4 (l2,0,false)=(t,l3,0,false))(e:okS (ZC 8 (l3,0,false)).2=false):Ye l=false:=dec_head (by rw[head1 h,head2 h2,head3 h3];exact e)
theorem XO {l l1 l2 l3 l4:List UInt8}{k n t p:Nat}(h:ZC 1 (l,0,false)=(k,l1,0,false))(h2:ZC 8 (l1,0,false)=(n,l2,0,false))(h3:ZC 4 (l2,0,false)=(t,l3,0,false))(h4:ZC 8 (l3,0,false)=(p,l4,0,false)):Vq l=Wt ⟨k,n,t,p,0,[],[],0,[],[]⟩ (l4,0,false):=by
 unfold Vq;rw[head1 h,head2 h2,head3 h3,head4 h4]
abbrev zeV:RV:=⟨⟨none,0,0⟩,⟨none,0,0⟩,⟨none,0,0⟩,⟨none,0,0⟩⟩
def Xc (ρ':Hp)(l:List UInt8)(z:Value)(L':SH):Prop:=∃v r,z=.tuple ⟨[.agg ⟨YV v r⟩,.bool (Ye l)]⟩∧RcIn ρ' v r∧r.plain=XC l∧L'=[]
theorem ZU {ρ':Hp}{l:List UInt8}(h:Ye l=false):Xc ρ' l (.tuple ⟨[.agg ⟨YV zeV zeroRc⟩,.bool false]⟩) []:=⟨zeV,zeroRc,by rw[h],⟨AS.nil,by simp[zeroRc],AS.nil,AS.nil,AS.nil,by simp[zeroRc]⟩,by unfold XC;rw[h];rfl,rfl⟩
theorem read_yes {ρ':Hp}{l:List UInt8}{v:RV}{r:Rc}(hr:RcIn ρ' v r)(hd:Vq l=(r.plain,[],0,false))(hok:Yt r=true):Ye l=true∧Xc ρ' l (.tuple ⟨[.agg ⟨YV v r⟩,.bool true]⟩) []:=by
 have e:Ye l=true:=by unfold Ye;rw[hd];simp only[Vj,hok];rfl
 exact⟨e,v,r,by rw[e],hr,by unfold XC;rw[if_pos e,hd],rfl⟩
theorem read_rest {l l2:List UInt8}{r:Rc}(hd:Vq l=(r,l2,0,false))(hl:l2≠[]):Ye l=false:=by
 unfold Ye
 rw[hd]
 have:l2.length≠0:=fun e=>hl (List.eq_nil_of_length_eq_zero e)
 simp[this]
theorem read_right {l l2:List UInt8}{r:Rc}(hd:Vq l=(r.plain,l2,0,false))(hok:Yt r=false):Ye l=false:=by
 unfold Ye
 rw[hd]
 simp[Vj,hok]
theorem Va (ρ:Hp)(rb:Nat)(s:SV)(two:Bool):Spec Tryz.prog 259 [.pointer (some ⟨rb,0,none⟩),.bool two] ρ [rdB rb s true] (fun z ρ' L'=>z=.slice none 0 0∧ρ'=ρ∧L'=[rdB rb s true]):=by
 refine Zb Tryz.func259 rfl rfl rfl fun u R=>?_
 simp only[Zd,kA]
 repeat' (first|(refine Za (.func 258) ?_;refine qC rfl rfl (Zu _ rb s 1) ?_;rintro v ρ' L' hle ⟨rfl,rfl,rfl⟩<;>(try simp only[kA]))|refine zV ?_|intro _)
 refine Zi [(0,_),(1,_),(8,_)] (fun (ζ:(Nat))=>[(9,.int .u64 ζ),(5,.slice none 0 0),(4,.slice none 0 0)]) (fun (ζ:(Nat))=>ρ') (fun (ζ:(Nat))=>[rdB rb s true]) (fun (ζ:(Nat))=>ζ=0) (fun (ζ:(Nat))=>0-ζ) (0) (rfl) Zc Zc rfl tk ?_
 rintro k hI
 try simp only[kA,List.append_assoc] at hI ⊢
 try dsimp only at hI ⊢
 subst hI
 repeat' (first|refine zV ?_|intro _)
 exact qE (L':=[rdB rb s true]) ⟨rfl,rfl,rfl⟩
theorem nilIn {ρ:Hp}{k lsn prev next:Nat}{txn:Int}:RcIn ρ zeV ⟨k,lsn,txn,prev,next,[],[],0,[],[]⟩:=⟨AS.nil,by simp,AS.nil,AS.nil,AS.nil,by simp⟩
theorem imsIn {ρ:Hp}{k lsn prev next:Nat}{txn:Int}{sv:SV}{xs:List Im}(h:AS ρ 7 imV sv xs)(hi:∀x∈xs,Im.In ρ x):RcIn ρ ⟨sv,⟨none,0,0⟩,⟨none,0,0⟩,⟨none,0,0⟩⟩ ⟨k,lsn,txn,prev,next,xs,[],0,[],[]⟩:=⟨h,hi,AS.nil,AS.nil,AS.nil,by simp⟩
theorem read_0 (ρ:Hp)(a:Option Addr)(n c:Nat)(l:List UInt8)(h:SIn ρ Zo a n l)(hc:n≤c)(hb:n≤1000000)(h0:n<1):Spec Tryz.prog 189 [.slice a n c] ρ [] (fun z ρ' L'=>ρ.le ρ'∧Xc ρ' l z L'):=by
 have hln:=h.len
 have hno:Ye l=false:=dec_head (st_hdL (rdN_no (by omega)))
 refine Zb Tryz.func189 rfl rfl rfl fun u R=>?_
 simp only[Zd,kA]
 repeat' (first|(refine Za (.func 258) ?_;refine qR rfl rfl (num_no _ _ ⟨a,n,c⟩ 1 h0) ?_;try simp only[kA])|(refine Za (.func 258) ?_;refine qR rfl rfl (Zu _ _ ⟨a,n,c⟩ 8) ?_;try simp only[kA])|(refine Za (.func 258) ?_;refine qR rfl rfl (Zu _ _ ⟨a,n,c⟩ 4) ?_;try simp only[kA])|refine zV ?_|intro _)
 exact qE (L':=[]) ⟨Hp.le_refl _,ZU hno⟩
theorem Zg (ρ:Hp)(rb:Nat)(s:SV)(l:List UInt8)(h:RdI ρ s l)(k B:Nat)(hB:256 ^ k=B)(h8:k≤8){x:Nat}{l1:List UInt8}(hk:ZC k (l,0,false)=(x,l1,0,false)):Spec Tryz.prog 258 [.pointer (some ⟨rb,0,none⟩),.int .i64 k] ρ [rdB rb s false]
  (fun z ρ' L'=>z=.int .u64 (x:Nat)∧ρ'=ρ∧x<B∧∃s2,RdI ρ' s2 l1∧L'=[rdB rb s2 false]):=by
 refine (Wd ρ rb s l h k B hB h8).mono ?_
 rintro z ρ' L' _ ⟨y,q1,q2,q3,⟨s2,l2,q4,q5,q6⟩|⟨_,q4,_⟩⟩
 ·rw[hk] at q4
  have e1:=(Prod.mk.inj q4).1
  have e2:=(Prod.mk.inj (Prod.mk.inj q4).2).1
  subst e1;subst e2
  exact⟨q1,q2,q3,s2,q5,q6⟩
 ·rw[hk] at q4;cases q4
theorem ZP (ρ:Hp)(rb:Nat)(s:SV)(l:List UInt8)(h:RdI ρ s l)(k:Nat)(h8:k≤8)(hk:okS (ZC k (l,0,false)).2=false):Spec Tryz.prog 258 [.pointer (some ⟨rb,0,none⟩),.int .i64 k] ρ [rdB rb s false]
  (fun z ρ' L'=>z=.int .u64 0∧ρ'=ρ∧L'=[rdB rb s true]):=by
 have hl:=h.at'.len
 by_cases hn:s.n<k
 ·exact num_no ρ rb s k hn
 ·rw[rdN_go (by omega)] at hk;cases hk
theorem stpIn {ρ:Hp}{k lsn prev next:Nat}{txn:Int}{sv:SV}{xs:List Stp}(h:AS ρ 6 YK sv xs)(hi:∀x∈xs,Yx x.row):RcIn ρ ⟨⟨none,0,0⟩,sv,⟨none,0,0⟩,⟨none,0,0⟩⟩ ⟨k,lsn,txn,prev,next,[],xs,0,[],[]⟩:=⟨AS.nil,by simp,h,AS.nil,AS.nil,hi⟩
theorem read_4g (ρ:Hp)(a:Option Addr)(n c:Nat)(l:List UInt8)(h:SIn ρ Zo a n l)(hc:n≤c)(hb:n≤1000000)(k:Nat)(l1:List UInt8)(hl1:ZC 1 (l,0,false)=(k,l1,0,false))(lsn:Nat)(l2:List UInt8)(hl2:ZC 8 (l1,0,false)=(lsn,l2,0,false))(txn:Nat)(l3:List UInt8)(hl3:ZC 4 (l2,0,false)=(txn,l3,0,false))(prev:Nat)(l4:List UInt8)(hl4:ZC 8 (l3,0,false)=(prev,l4,0,false))(next:Nat)(l5:List UInt8)(hl5:ZC 8 (l4,0,false)=(next,l5,0,false))(m:Nat)(l6:List UInt8)(hl6:ZC 1 (l5,0,false)=(m,l6,0,false))(hk4:k=4):Spec Tryz.prog 189 [.slice a n c] ρ [] (fun z ρ' L'=>ρ.le ρ'∧Xc ρ' l z L'):=by
 have hI0:RdI ρ ⟨a,n,c⟩ l:=⟨h,hc,hb⟩
 have hln:=h.len
 have hmd:Vq l=((⟨k,lsn,txn,prev,next,[],(ZQ WB m (l6,0,false)).1,0,[],[]⟩:Rc),(ZQ WB m (l6,0,false)).2):=by
  rw[XO hl1 hl2 hl3 hl4]
  unfold Wt
  rw[if_neg (show ¬((k:Nat):Int)=2 by omega),if_neg (show ¬((k:Nat):Int)=3 by omega),if_pos (show ((k:Nat):Int)=4 by omega)]
  unfold WV neD
  rw[hl5]
  unfold doD YA
  rw[hl6]
 refine Zb Tryz.func189 rfl rfl rfl fun u R=>?_
 simp only[Zd,kA]
 repeat' (first|(refine Za (.func 258) ?_;refine qC rfl rfl (Zg _ _ ⟨a,n,c⟩ l hI0 1 256 rfl (by decide) hl1) ?_;rintro v ρ' L' hle ⟨rfl,rfl,hb1,s1,h1,rfl⟩<;>(try simp only[kA]))|(refine Za (.func 258) ?_;refine qC rfl rfl (Zg _ _ s1 l1 h1 8 18446744073709551616 rfl (by decide) hl2) ?_;rintro v ρ' L' hle ⟨rfl,rfl,hb2,s2,h2,rfl⟩<;>(try simp only[kA]))|(refine Za (.func 258) ?_;refine qC rfl rfl (Zg _ _ s2 l2 h2 4 4294967296 rfl (by decide) hl3) ?_;rintro v ρ' L' hle ⟨rfl,rfl,hb3,s3,h3,rfl⟩<;>(try simp only[kA]))|(refine Za (.func 258) ?_;refine qC rfl rfl (Zg _ _ s3 l3 h3 8 18446744073709551616 rfl (by decide) hl4) ?_;rintro v ρ' L' hle ⟨rfl,rfl,hb4,s4,h4,rfl⟩<;>(try simp only[kA]))|(refine Za (.func 258) ?_;refine qC rfl rfl (Zg _ _ s4 l4 h4 8 18446744073709551616 rfl (by decide) hl5) ?_;rintro v ρ' L' hle ⟨rfl,rfl,hb5,s5,h5,rfl⟩<;>(try simp only[kA]))|(refine Za (.func 258) ?_;refine qC rfl rfl (Zg _ _ s5 l5 h5 1 256 rfl (by decide) hl6) ?_;rintro v ρ' L' hle ⟨rfl,rfl,hb6,s6,h6,rfl⟩<;>(try simp only[kA]))|refine zV ?_|intro _)
 rename_i zb rb rc _ _ _ _ _
 refine Zi [(2,_),(3,_),(4,_),(5,_),(42,_),(56,_)] (fun (ζ:(Nat)×(SV)×(List UInt8)×(Value)×(List Value)×(List Stp)×(Bool))=>[(57,.int .u64 ζ.1)]) (fun (ζ:(Nat)×(SV)×(List UInt8)×(Value)×(List Value)×(List Stp)×(Bool))=>ρ') (fun (ζ:(Nat)×(SV)×(List UInt8)×(Value)×(List Value)×(List Stp)×(Bool))=>[rdB rb ζ.2.1 ζ.2.2.2.2.2.2,[(rc,.cells ⟨[.int .i64 (k:Nat),.int .u64 (lsn:Nat),.int .i64 (txn:Nat),.int .u64 (prev:Nat),.int .u64 (next:Nat),.slice none 0 0,ζ.2.2.2.1,.int .i64 0,.slice none 0 0,.slice none 0 0]⟩ 39 (0,0))],Zz ζ.2.2.2.1 ((ζ.2.2.2.2.2.1.map YK).flatten) ζ.2.2.2.2.1 173]) (fun (ζ:(Nat)×(SV)×(List UInt8)×(Value)×(List Value)×(List Stp)×(Bool))=>ζ.1≤m∧ζ.2.2.2.2.2.1.length=ζ.1∧OwnS ζ.2.2.2.1 ζ.2.2.2.2.2.1.length ((ζ.2.2.2.2.2.1.map YK).flatten) ζ.2.2.2.2.1 6∧(∀x∈ζ.2.2.2.2.2.1,Yx x.row)∧((ζ.2.2.2.2.2.2=false∧RdI ρ' ζ.2.1 ζ.2.2.1∧ZQ WB m (l6,0,false)=(ζ.2.2.2.2.2.1++(ZQ WB (m-ζ.1) (ζ.2.2.1,0,false)).1,(ZQ WB (m-ζ.1) (ζ.2.2.1,0,false)).2))∨(ζ.2.2.2.2.2.2=true∧okS (ZQ WB m (l6,0,false)).2=false))) (fun (ζ:(Nat)×(SV)×(List UInt8)×(Value)×(List Value)×(List Stp)×(Bool))=>m-ζ.1) ((0,s6,l6,.slice none 0 0,[],[],false)) (⟨Nat.zero_le _,rfl,OwnS.nil 6,by simp,.inl ⟨rfl,h6,rfl⟩⟩) Zc Zc rfl tk ?_
 rintro⟨j,q1,m1,vv,sp,acc,b1⟩ hI
 try simp only[kA,List.append_assoc] at hI ⊢
 try dsimp only at hI ⊢
 obtain⟨hj,hal,hown,hin,hor⟩:=hI
 obtain⟨va,vc,rfl,hvl⟩:=hown.slice
 rcases hor with⟨rfl,hq1,hms⟩|⟨rfl,hbad⟩
 case' inr=>
  have hdb:Ye l=false:=Xz (by rw[hmd];exact hbad)
  by_cases hlt:j<m
  all_goals
   repeat' (first|refine zV ?_|intro _)
   exact qE (L':=[]) ⟨Hp.le_refl _,ZU hdb⟩
 by_cases hlt:j<m
 ·repeat' (first|refine zV ?_|intro _)
  refine tc_phase 6 (Zp _ _ ([[(rc,.cells ⟨[.int .i64 (k:Nat),.int .u64 (lsn:Nat),.int .i64 (txn:Nat),.int .u64 (prev:Nat),.int .u64 (next:Nat),.slice none 0 0,.slice va acc.length vc,.int .i64 0,.slice none 0 0,.slice none 0 0]⟩ 39 (0,0))]])) (by decide +kernel) (XG (hT:=tk) (Hp.le_refl _)) ?_
  simp only[List.take_succ_cons,List.take_zero]
  all_goals (refine rFa 0 ?_;refine rLd 1 ?_;refine rMv 2 ?_)
  all_goals (refine Vv (i:=3) ?_;((try refine Zn ?_);(first|(refine Za (.func 260) ?_;refine qC rfl rfl (stepD_spec _ rb q1 m1 hq1) ?_;rintro v ρ' L' hle ⟨rfl,y,rfl,hyf,⟨q2,m2,hst,hq2,rfl⟩|⟨hno,q2,rfl⟩⟩<;>(try simp only[kA]))|(refine Yj ?_;try intro _))<;>((try simp only[kA]);refine Zj ?_;refine WO ?_)))
  all_goals (refine Vv (i:=4) ?_;((try refine Zn ?_);(first|(refine Zv (css:=[[.int .i64 y.kind,.int .i64 y.row.t,.int .u16 y.row.id,.int .i64 y.row.val,strV y.row.note,.int .i64 y.by']]) (sz:=6) rfl rfl rfl rfl (by simp) (by simp) rfl (fun bs=>?_);simp only[List.flatten_cons,List.flatten_nil,List.append_nil])|(refine Yj ?_;try intro _))<;>((try simp only[kA]);refine Zj ?_;refine WO ?_)))
  all_goals (refine Vv (i:=5) ?_;((try refine Zn ?_);(first|(refine Zv (css:=[[.int .i64 y.kind,.int .i64 y.row.t,.int .u16 y.row.id,.int .i64 y.row.val,strV y.row.note,.int .i64 y.by']]) (sz:=6) rfl rfl rfl rfl (by simp) (by simp) rfl (fun bs=>?_);simp only[List.flatten_cons,List.flatten_nil,List.append_nil])|(refine ZK (ys:=[.int .i64 y.kind,.int .i64 y.row.t,.int .u16 y.row.id,.int .i64 y.row.val,strV y.row.note,.int .i64 y.by']) (m:=1) rfl rfl hown (hR:=by repeat (first|exact Zq|apply Zs)) SrcV.lit rfl rfl (by decide) rfl (by omega) (by omega) rfl (fun v3 sp3 hown3=>?_);obtain⟨va3,vc3,rfl,_⟩:=hown3.slice)|(refine Yj ?_;try intro _))<;>((try simp only[kA]);refine Zj ?_;refine WO ?_)))
  all_goals refine rDone ?_
  all_goals refine te_phase (fuel:=2) (m:=[true,true,true,true,true,true,false,false]) (Zp _ _ ([])) rfl rfl (XG (hT:=tk) (Hp.le_refl _)) ?_
  all_goals refine rFa 6 ?_
  all_goals (refine Vv (i:=7) ?_;((try refine Zn ?_);(first|(refine Yj ?_;try intro _))<;>((try simp only[kA]);refine Zj ?_;refine WO ?_)))
  all_goals refine rDone ?_
  all_goals (repeat' (first|refine zV ?_|intro _))
  all_goals
   have hyv:[.int .i64 y.kind,.int .i64 y.row.t,.int .u16 y.row.id,.int .i64 y.row.val,strV y.row.note,.int .i64 y.by']=YK y:=rfl
   have hm1:(acc.map YK).flatten++YK y=((acc++[y]).map YK).flatten:=by simp
   have hf2:∀x∈acc++[y],Yx x.row:=fun x hx=>(List.mem_append.1 hx).elim (hin x) (fun hx=>by rw[List.mem_singleton.1 hx];exact hyf)
   rw[hyv,hm1] at hown3 ⊢
  ·refine Ze (j+1,q2,m2,.slice va3 (acc.length+1) vc3,sp3,acc++[y],false) (⟨hlt,by rw[List.length_append,hal];rfl,by rw[List.length_append];exact hown3,hf2,.inl ⟨rfl,hq2,many_app hlt hms hst⟩⟩) Zc Zc rfl tk inferInstance (by first|omega|(dsimp only;omega))
  ·refine Ze (j+1,q2,m1,.slice va3 (acc.length+1) vc3,sp3,acc++[y],true) (⟨hlt,by rw[List.length_append,hal];rfl,by rw[List.length_append];exact hown3,hf2,.inr ⟨rfl,Wc hlt hms hno⟩⟩) Zc Zc rfl tk inferInstance (by first|omega|(dsimp only;omega))
 ·have hjm:j=m:=by omega
  rw[hjm,Nat.sub_self] at hms
  simp only[ZQ,List.append_nil] at hms
  refine XM (Zz (.slice va acc.length vc) ((acc.map YK).flatten) sp 173) (fun ρ3 hle3 hfz=>?_)
  obtain⟨sa,sc,f1,hsc,hA2⟩:=hown.aIn rfl (fun x _=>stpV_len x) hfz
  cases f1
  clear hfz
  have hq3:=hq1.mono hle3
  repeat' (first|refine zV ?_|intro _)
  have hAS:AS ρ3 6 YK ⟨va,acc.length,vc⟩ acc:=⟨hA2,by dsimp only;omega,hsc⟩
  have hr:RcIn ρ3 ⟨⟨none,0,0⟩,⟨va,acc.length,vc⟩,⟨none,0,0⟩,⟨none,0,0⟩⟩ (⟨k,lsn,txn,prev,next,[],acc,0,[],[]⟩:Rc):=stpIn hAS hin
  have hlr:=hq3.at'.len
  have hR:=Wo ρ3 ⟨⟨none,0,0⟩,⟨va,acc.length,vc⟩,⟨none,0,0⟩,⟨none,0,0⟩⟩ (⟨k,lsn,txn,prev,next,[],acc,0,[],[]⟩:Rc) hr
  have hd:Vq l=((⟨k,lsn,txn,prev,next,[],acc,0,[],[]⟩:Rc).plain,m1,0,false):=by rw[hmd,hms];rfl
  by_cases hz:0<q1.n
  ·rw[decide_eq_true (show (q1.n:Int) > 0 by omega)]
   repeat' (first|refine zV ?_|intro _)
   exact qE (L':=[]) (hle:=hle3) ⟨hle3,ZU (read_rest hd (fun e=>by rw[e] at hlr;simp at hlr;omega))⟩
  ·rw[decide_eq_false (show ¬(q1.n:Int) > 0 by omega)]
   obtain rfl:m1=[]:=List.eq_nil_of_length_eq_zero (by omega)
   cases hok:Yt (⟨k,lsn,txn,prev,next,[],acc,0,[],[]⟩:Rc)
   ·rw[hok] at hR
    repeat' (first|(refine Za (.func 15) ?_;refine qC rfl rfl (hR) ?_;rintro v ρ' L' hle ⟨rfl,rfl,rfl⟩<;>(try simp only[kA]))|refine zV ?_|intro _)
    exact qE (L':=[]) (hle:=hle3) ⟨hle3,ZU (read_right hd hok)⟩
   ·rw[hok] at hR
    repeat' (first|(refine Za (.func 15) ?_;refine qC rfl rfl (hR) ?_;rintro v ρ' L' hle ⟨rfl,rfl,rfl⟩<;>(try simp only[kA]))|refine zV ?_|intro _)
    exact qE (L':=[]) (hle:=hle3) ⟨hle3,(read_yes hr hd hok).2⟩
end Go.Proofs.E
