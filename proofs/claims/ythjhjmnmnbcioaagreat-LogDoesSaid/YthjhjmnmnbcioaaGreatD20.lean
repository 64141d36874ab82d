/- Laws of LogDoes. Part 20 of 30. -/
import Derived.Test.YthjhjmnmnbcioaaGreatD19
set_option linter.unusedVariables false
set_option linter.unusedSimpArgs false
set_option linter.unusedSectionVars false
namespace Go.Proofs.E
open Go Tryz
set_option maxRecDepth 4000
set_option maxHeartbeats 1000000
attribute [local irreducible] Yl TL TC TE Spec YL R1 Hp.le EnvLe TS TR YS Zt TP QP
theorem st_manyD {α:Type}{f:Yg->α×Yg}{s:Yg}(h:okS s=false):okS (Yw f s).2=false:=st_many (Vw h)
theorem st_hdP {k l t:Nat}{s:Yg}(h:okS s=false):okS (hdP k l t s).2=false:=Vw h
theorem st_hdT {k l:Nat}{s:Yg}(h:okS s=false):okS (hdT k l s).2=false:=st_hdP (Vw h)
theorem st_hdL {k:Nat}{s:Yg}(h:okS s=false):okS (hdL k s).2=false:=st_hdT (Vw h)
theorem st_chD {r:Rc}{s:Yg}(h:okS s=false):okS (chD r s).2=false:=st_manyD h
theorem st_neD {r:Rc}{s:Yg}(h:okS s=false):okS (neD r s).2=false:=Vw h
theorem st_doD {r:Rc}{s:Yg}(h:okS s=false):okS (doD r s).2=false:=st_manyD h
theorem st_cxD {r:Rc}{s:Yg}(h:okS s=false):okS (cxD r s).2=false:=Vw h
theorem st_ctD {r:Rc}{s:Yg}(h:okS s=false):okS (ctD r s).2=false:=st_manyD h
theorem st_cdD {r:Rc}{s:Yg}(h:okS s=false):okS (cdD r s).2=false:=st_manyD h
theorem st_tailD {r:Rc}{s:Yg}(h:okS s=false):okS (Wp r s).2=false:=by
 unfold Wp
 split
 ·exact st_chD h
 split
 ·exact st_neD h
 split
 ·exact st_doD (st_neD h)
 split
 ·exact st_chD (st_neD h)
 split
 ·exact st_cdD (st_ctD (st_cxD h))
 ·exact h
theorem XC {l:List UInt8}(h:okS (Vq l).2=false):Yb l=false:=by unfold Yb;rw[h];rfl
theorem dec_head {l:List UInt8}(h:okS (headD (l,0,false)).2=false):Yb l=false:=XC (st_tailD h)
theorem head1 {l l1:List UInt8}{k:Nat}(h:Zy 1 (l,0,false)=(k,l1,0,false)):headD (l,0,false)=hdL k (l1,0,false):=by unfold headD;rw[h]
theorem head2 {k n:Nat}{l1 l2:List UInt8}(h:Zy 8 (l1,0,false)=(n,l2,0,false)):hdL k (l1,0,false)=hdT k n (l2,0,false):=by unfold hdL;rw[h]
theorem head3 {k n t:Nat}{l1 l2:List UInt8}(h:Zy 4 (l1,0,false)=(t,l2,0,false)):hdT k n (l1,0,false)=hdP k n t (l2,0,false):=by unfold hdT;rw[h]
theorem head4 {k n t p:Nat}{l1 l2:List UInt8}(h:Zy 8 (l1,0,false)=(p,l2,0,false)):hdP k n t (l1,0,false)=(⟨k,n,t,p,0,[],[],0,[],[]⟩,l2,0,false):=by unfold hdP;rw[h]
theorem bad2 {l l1:List UInt8}{k:Nat}(h:Zy 1 (l,0,false)=(k,l1,0,false))(e:okS (Zy 8 (l1,0,false)).2=false):Yb l=false:=dec_head (by rw[head1 h];exact st_hdT e)
theorem bad3 {l l1 l2:List UInt8}{k n:Nat}(h:Zy 1 (l,0,false)=(k,l1,0,false))(h2:Zy 8 (l1,0,false)=(n,l2,0,false))(e:okS (Zy 4 (l2,0,false)).2=false):Yb l=false:=dec_head (by rw[head1 h,head2 h2];exact st_hdP e)
theorem bad4 {l l1 l2 l3:List UInt8}{k n t:Nat}(h:Zy 1 (l,0,false)=(k,l1,0,false))(h2:Zy 8 (l1,0,false)=(n,l2,0,false))(h3:Zy 4 (l2,0,false)=(t,l3,0,false))(e:okS (Zy 8 (l3,0,false)).2=false):Yb l=false:=dec_head (by rw[head1 h,head2 h2,head3 h3];exact e)
theorem XN {l l1 l2 l3 l4:List UInt8}{k n t p:Nat}(h:Zy 1 (l,0,false)=(k,l1,0,false))(h2:Zy 8 (l1,0,false)=(n,l2,0,false))(h3:Zy 4 (l2,0,false)=(t,l3,0,false))(h4:Zy 8 (l3,0,false)=(p,l4,0,false)):Vq l=Wp ⟨k,n,t,p,0,[],[],0,[],[]⟩ (l4,0,false):=by
 unfold Vq;rw[head1 h,head2 h2,head3 h3,head4 h4]
abbrev zeV:RV:=⟨⟨none,0,0⟩,⟨none,0,0⟩,⟨none,0,0⟩,⟨none,0,0⟩⟩
def Xb (ρ':Hp)(l:List UInt8)(z:Value)(L':SH):Prop:=∃v r,z=.tuple ⟨[.agg ⟨Yu v r⟩,.bool (Yb l)]⟩/\RcIn ρ' v r/\r.plain=XD l/\L'=[]
theorem ZR {ρ':Hp}{l:List UInt8}(h:Yb l=false):Xb ρ' l (.tuple ⟨[.agg ⟨Yu zeV zeroRc⟩,.bool false]⟩) []:=⟨zeV,zeroRc,by rw[h],⟨AS.nil,by simp[zeroRc],AS.nil,AS.nil,AS.nil,by simp[zeroRc]⟩,by unfold XD;rw[h];rfl,rfl⟩
theorem read_yes {ρ':Hp}{l:List UInt8}{v:RV}{r:Rc}(hr:RcIn ρ' v r)(hd:Vq l=(r.plain,[],0,false))(hok:Yk r=true):Yb l=true/\Xb ρ' l (.tuple ⟨[.agg ⟨Yu v r⟩,.bool true]⟩) []:=by
 have e:Yb l=true:=by unfold Yb;rw[hd];simp only[Vh,hok];rfl
 exact⟨e,v,r,by rw[e],hr,by unfold XD;rw[if_pos e,hd],rfl⟩
theorem read_rest {l l2:List UInt8}{r:Rc}(hd:Vq l=(r,l2,0,false))(hl:l2≠[]):Yb l=false:=by
 unfold Yb
 rw[hd]
 have:l2.length≠0:=λ e=>hl (List.eq_nil_of_length_eq_zero e)
 simp[this]
theorem read_right {l l2:List UInt8}{r:Rc}(hd:Vq l=(r.plain,l2,0,false))(hok:Yk r=false):Yb l=false:=by
 unfold Yb
 rw[hd]
 simp[Vh,hok]
theorem WX (ρ:Hp)(rb:Nat)(s:SV)(two:Bool):Spec prog 203 [.pointer (some ⟨rb,0,none⟩),.bool two] ρ [rdB rb s true] (λ z ρ' L'=>z=.slice none 0 0/\ρ'=ρ/\L'=[rdB rb s true]):=by
 refine Zb func203 rfl rfl rfl λ u R=>?_
 simp only[Zc,kA]
 repeat' (first|(refine Za (.func 202) ?_;refine qC rfl rfl (Zo _ rb s 1) ?_;rintro v ρ' L' hle ⟨rfl,rfl,rfl⟩<;>(try simp only[kA]))|refine zV ?_|intro _)
 refine lpG Nat [0,1,8] (λ z=>[(9,.int .u64 z),(5,.slice none 0 0),(4,.slice none 0 0)]) (λ z=>ρ') (λ z=>[rdB rb s true]) (λ z=>z=0) (λ z=>0-z) 0 rfl ?_
 rintro k hI
 try simp only[kB] at hI ⊢
 try dsimp only at hI ⊢
 subst hI
 repeat' (first|refine zV ?_|intro _)
 exact qE (L':=[rdB rb s true]) ⟨rfl,rfl,rfl⟩
theorem nilIn {ρ:Hp}{k lsn prev next:Nat}{txn:Int}:RcIn ρ zeV ⟨k,lsn,txn,prev,next,[],[],0,[],[]⟩:=⟨AS.nil,by simp,AS.nil,AS.nil,AS.nil,by simp⟩
theorem imsIn {ρ:Hp}{k lsn prev next:Nat}{txn:Int}{sv:SV}{xs:List Im}(h:AS ρ 7 imV sv xs)(hi:∀x∈xs,Im.In ρ x):RcIn ρ ⟨sv,⟨none,0,0⟩,⟨none,0,0⟩,⟨none,0,0⟩⟩ ⟨k,lsn,txn,prev,next,xs,[],0,[],[]⟩:=⟨h,hi,AS.nil,AS.nil,AS.nil,by simp⟩
theorem read_0 (ρ:Hp)(a:Option Addr)(n c:Nat)(l:List UInt8)(h:SIn ρ Zk a n l)(hc:n<=c)(hb:n<=1000000)(h0:n<1):Spec prog 135 [.slice a n c] ρ [] (λ z ρ' L'=>ρ.le ρ'/\Xb ρ' l z L'):=by
 have hln:=h.len
 have hno:Yb l=false:=dec_head (st_hdL (rdN_no (by omega)))
 refine Zb func135 rfl rfl rfl λ u R=>?_
 simp only[Zc,kA]
 repeat' (first|(refine Za (.func 202) ?_;refine qR rfl rfl (num_no _ _ ⟨a,n,c⟩ 1 h0) ?_;try simp only[kA])|(refine Za (.func 202) ?_;refine qR rfl rfl (Zo _ _ ⟨a,n,c⟩ 8) ?_;try simp only[kA])|(refine Za (.func 202) ?_;refine qR rfl rfl (Zo _ _ ⟨a,n,c⟩ 4) ?_;try simp only[kA])|refine zV ?_|intro _)
 exact qE (L':=[]) ⟨Hp.le_refl _,ZR hno⟩
theorem Ze (ρ:Hp)(rb:Nat)(s:SV)(l:List UInt8)(h:RdI ρ s l)(k B:Nat)(hB:256 ^ k=B)(h8:k<=8){x:Nat}{l1:List UInt8}(hk:Zy k (l,0,false)=(x,l1,0,false)):Spec prog 202 [.pointer (some ⟨rb,0,none⟩),.int .i64 k] ρ [rdB rb s false]
  (λ z ρ' L'=>z=.int .u64 (x:Nat)/\ρ'=ρ/\x<B/\∃s2,RdI ρ' s2 l1/\L'=[rdB rb s2 false]):=by
 refine (XY ρ rb s l h k B hB h8).mono ?_
 rintro z ρ' L' _ ⟨y,q1,q2,q3,⟨s2,l2,q4,q5,q6⟩|⟨_,q4,_⟩⟩
 ·rw[hk] at q4
  have e1:=(Prod.mk.inj q4).1
  have e2:=(Prod.mk.inj (Prod.mk.inj q4).2).1
  subst e1;subst e2
  exact⟨q1,q2,q3,s2,q5,q6⟩
 ·rw[hk] at q4;cases q4
theorem ZO (ρ:Hp)(rb:Nat)(s:SV)(l:List UInt8)(h:RdI ρ s l)(k:Nat)(h8:k<=8)(hk:okS (Zy k (l,0,false)).2=false):Spec prog 202 [.pointer (some ⟨rb,0,none⟩),.int .i64 k] ρ [rdB rb s false]
  (λ z ρ' L'=>z=.int .u64 0/\ρ'=ρ/\L'=[rdB rb s true]):=by
 have hl:=h.at'.len
 by_cases hn:s.n<k
 ·exact num_no ρ rb s k hn
 ·rw[rdN_go (by omega)] at hk;cases hk
theorem stpIn {ρ:Hp}{k lsn prev next:Nat}{txn:Int}{sv:SV}{xs:List Stp}(h:AS ρ 6 YJ sv xs)(hi:∀x∈xs,Ys x.row):RcIn ρ ⟨⟨none,0,0⟩,sv,⟨none,0,0⟩,⟨none,0,0⟩⟩ ⟨k,lsn,txn,prev,next,[],xs,0,[],[]⟩:=⟨AS.nil,by simp,h,AS.nil,AS.nil,hi⟩
theorem read_4g (ρ:Hp)(a:Option Addr)(n c:Nat)(l:List UInt8)(h:SIn ρ Zk a n l)(hc:n<=c)(hb:n<=1000000)(k:Nat)(l1:List UInt8)(hl1:Zy 1 (l,0,false)=(k,l1,0,false))(lsn:Nat)(l2:List UInt8)(hl2:Zy 8 (l1,0,false)=(lsn,l2,0,false))(txn:Nat)(l3:List UInt8)(hl3:Zy 4 (l2,0,false)=(txn,l3,0,false))(prev:Nat)(l4:List UInt8)(hl4:Zy 8 (l3,0,false)=(prev,l4,0,false))(next:Nat)(l5:List UInt8)(hl5:Zy 8 (l4,0,false)=(next,l5,0,false))(m:Nat)(l6:List UInt8)(hl6:Zy 1 (l5,0,false)=(m,l6,0,false))(hk4:k=4):Spec prog 135 [.slice a n c] ρ [] (λ z ρ' L'=>ρ.le ρ'/\Xb ρ' l z L'):=by
 have hI0:RdI ρ ⟨a,n,c⟩ l:=⟨h,hc,hb⟩
 have hln:=h.len
 have hmd:Vq l=((⟨k,lsn,txn,prev,next,[],(ZP Wx m (l6,0,false)).1,0,[],[]⟩:Rc),(ZP Wx m (l6,0,false)).2):=by
  rw[XN hl1 hl2 hl3 hl4]
  unfold Wp
  rw[if_neg (show ¬((k:Nat):Int)=2 by omega),if_neg (show ¬((k:Nat):Int)=3 by omega),if_pos (show ((k:Nat):Int)=4 by omega)]
  unfold WS neD
  rw[hl5]
  unfold doD Yw
  rw[hl6]
 refine Zb func135 rfl rfl rfl λ u R=>?_
 simp only[Zc,kA]
 repeat' (first|(refine Za (.func 202) ?_;refine qC rfl rfl (Ze _ _ ⟨a,n,c⟩ l hI0 1 256 rfl (by decide) hl1) ?_;rintro v ρ' L' hle ⟨rfl,rfl,hb1,s1,h1,rfl⟩<;>(try simp only[kA]))|(refine Za (.func 202) ?_;refine qC rfl rfl (Ze _ _ s1 l1 h1 8 18446744073709551616 rfl (by decide) hl2) ?_;rintro v ρ' L' hle ⟨rfl,rfl,hb2,s2,h2,rfl⟩<;>(try simp only[kA]))|(refine Za (.func 202) ?_;refine qC rfl rfl (Ze _ _ s2 l2 h2 4 4294967296 rfl (by decide) hl3) ?_;rintro v ρ' L' hle ⟨rfl,rfl,hb3,s3,h3,rfl⟩<;>(try simp only[kA]))|(refine Za (.func 202) ?_;refine qC rfl rfl (Ze _ _ s3 l3 h3 8 18446744073709551616 rfl (by decide) hl4) ?_;rintro v ρ' L' hle ⟨rfl,rfl,hb4,s4,h4,rfl⟩<;>(try simp only[kA]))|(refine Za (.func 202) ?_;refine qC rfl rfl (Ze _ _ s4 l4 h4 8 18446744073709551616 rfl (by decide) hl5) ?_;rintro v ρ' L' hle ⟨rfl,rfl,hb5,s5,h5,rfl⟩<;>(try simp only[kA]))|(refine Za (.func 202) ?_;refine qC rfl rfl (Ze _ _ s5 l5 h5 1 256 rfl (by decide) hl6) ?_;rintro v ρ' L' hle ⟨rfl,rfl,hb6,s6,h6,rfl⟩<;>(try simp only[kA]))|refine zV ?_|intro _)
 rename_i zb rb rc _ _ _ _ _
 refine lpG (Nat×SV×(List UInt8)×Value×(List Value)×(List Stp)×Bool) [2,3,4,5,42,56] (λ z=>[(57,.int .u64 z.1)]) (λ z=>ρ') (λ z=>[rdB rb z.2.1 z.2.2.2.2.2.2,[(rc,.cells ⟨[.int .i64 (k:Nat),.int .u64 (lsn:Nat),.int .i64 (txn:Nat),.int .u64 (prev:Nat),.int .u64 (next:Nat),.slice none 0 0,z.2.2.2.1,.int .i64 0,.slice none 0 0,.slice none 0 0]⟩ 47 (0,0))],Zq z.2.2.2.1 ((z.2.2.2.2.2.1.map YJ).flatten) z.2.2.2.2.1 183]) (λ z=>z.1<=m/\z.2.2.2.2.2.1.length=z.1/\OwnS z.2.2.2.1 z.2.2.2.2.2.1.length ((z.2.2.2.2.2.1.map YJ).flatten) z.2.2.2.2.1 6/\(∀x∈z.2.2.2.2.2.1,Ys x.row)/\((z.2.2.2.2.2.2=false/\RdI ρ' z.2.1 z.2.2.1/\ZP Wx m (l6,0,false)=(z.2.2.2.2.2.1++(ZP Wx (m-z.1) (z.2.2.1,0,false)).1,(ZP Wx (m-z.1) (z.2.2.1,0,false)).2))\/(z.2.2.2.2.2.2=true/\okS (ZP Wx m (l6,0,false)).2=false))) (λ z=>m-z.1) (0,s6,l6,.slice none 0 0,[],[],false) (⟨aZ _,rfl,OwnS.nil 6,by simp,.inl ⟨rfl,h6,rfl⟩⟩) ?_
 rintro⟨j,q1,m1,vv,sp,acc,b1⟩ hI
 try simp only[kB] at hI ⊢
 try dsimp only at hI ⊢
 obtain⟨hj,hal,hown,hin,hor⟩:=hI
 obtain⟨va,vc,rfl,hvl⟩:=hown.slice
 rcases hor with⟨rfl,hq1,hms⟩|⟨rfl,hbad⟩
 case' inr=>
  have hdb:Yb l=false:=XC (by rw[hmd];exact hbad)
  by_cases hlt:j<m
  all_goals
   repeat' (first|refine zV ?_|intro _)
   exact qE (L':=[]) ⟨Hp.le_refl _,ZR hdb⟩
 by_cases hlt:j<m
 ·repeat' (first|refine zV ?_|intro _)
  refine tc_phase 6 (Zt _ _ ([[(rc,.cells ⟨[.int .i64 (k:Nat),.int .u64 (lsn:Nat),.int .i64 (txn:Nat),.int .u64 (prev:Nat),.int .u64 (next:Nat),.slice none 0 0,.slice va acc.length vc,.int .i64 0,.slice none 0 0,.slice none 0 0]⟩ 47 (0,0))]])) (by decide +kernel) (Xq (hT:=tk) (Hp.le_refl _)) ?_
  simp only[List.take_succ_cons,List.take_zero]
  all_goals (refine rFa 0 ?_;refine rLd 1 ?_;refine rMv 2 ?_)
  all_goals (refine WL (i:=3) ?_;((try refine ZM ?_);(first|(refine Za (.func 204) ?_;refine qC rfl rfl (stepD_spec _ rb q1 m1 hq1) ?_;rintro v ρ' L' hle ⟨rfl,y,rfl,hyf,⟨q2,m2,hst,hq2,rfl⟩|⟨hno,q2,rfl⟩⟩<;>(try simp only[kA]))|(refine qEf ?_;try intro _))<;>((try simp only[kA]);refine Yz ?_;refine Wn ?_)))
  all_goals (refine WL (i:=4) ?_;((try refine ZM ?_);(first|(refine Zp (css:=[[.int .i64 y.kind,.int .i64 y.row.t,.int .u16 y.row.id,.int .i64 y.row.val,strV y.row.note,.int .i64 y.by']]) (sz:=6) rfl rfl rfl rfl (by simp) (by simp) rfl (λ bs=>?_);simp only[aF,List.flatten_nil,aN])|(refine qEf ?_;try intro _))<;>((try simp only[kA]);refine Yz ?_;refine Wn ?_)))
  all_goals (refine WL (i:=5) ?_;((try refine ZM ?_);(first|(refine Zp (css:=[[.int .i64 y.kind,.int .i64 y.row.t,.int .u16 y.row.id,.int .i64 y.row.val,strV y.row.note,.int .i64 y.by']]) (sz:=6) rfl rfl rfl rfl (by simp) (by simp) rfl (λ bs=>?_);simp only[aF,List.flatten_nil,aN])|(refine ZH (ys:=[.int .i64 y.kind,.int .i64 y.row.t,.int .u16 y.row.id,.int .i64 y.row.val,strV y.row.note,.int .i64 y.by']) (m:=1) rfl rfl hown (hR:=by repeat (first|exact Zl|apply Zn)) SrcV.lit rfl rfl (by decide) rfl (by omega) (by omega) rfl (λ v3 sp3 hown3=>?_);obtain⟨va3,vc3,rfl,_⟩:=hown3.slice)|(refine qEf ?_;try intro _))<;>((try simp only[kA]);refine Yz ?_;refine Wn ?_)))
  all_goals refine rDone ?_
  all_goals refine te_phase (fuel:=2) (m:=[true,true,true,true,true,true,false,false]) (Zt _ _ ([])) rfl rfl (Xq (hT:=tk) (Hp.le_refl _)) ?_
  all_goals refine rFa 6 ?_
  all_goals (refine WL (i:=7) ?_;((try refine ZM ?_);(first|(refine qEf ?_;try intro _))<;>((try simp only[kA]);refine Yz ?_;refine Wn ?_)))
  all_goals refine rDone ?_
  all_goals (repeat' (first|refine zV ?_|intro _))
  all_goals
   have hyv:[.int .i64 y.kind,.int .i64 y.row.t,.int .u16 y.row.id,.int .i64 y.row.val,strV y.row.note,.int .i64 y.by']=YJ y:=rfl
   have hm1:(acc.map YJ).flatten++YJ y=((acc++[y]).map YJ).flatten:=by simp
   have hf2:∀x∈acc++[y],Ys x.row:=λ x hx=>(List.mem_append.1 hx).elim (hin x) (λ hx=>by rw[List.mem_singleton.1 hx];exact hyf)
   rw[hyv,hm1] at hown3 ⊢
  ·refine rnG (j+1,q2,m2,.slice va3 (acc.length+1) vc3,sp3,acc++[y],false) (⟨hlt,by rw[aL,hal];rfl,by rw[aL];exact hown3,hf2,.inl ⟨rfl,hq2,many_app hlt hms hst⟩⟩)
  ·refine rnG (j+1,q2,m1,.slice va3 (acc.length+1) vc3,sp3,acc++[y],true) (⟨hlt,by rw[aL,hal];rfl,by rw[aL];exact hown3,hf2,.inr ⟨rfl,XX hlt hms hno⟩⟩)
 ·have hjm:j=m:=by omega
  rw[hjm,Nat.sub_self] at hms
  simp only[ZP,aN] at hms
  refine XL (Zq (.slice va acc.length vc) ((acc.map YJ).flatten) sp 183) (λ ρ3 hle3 hfz=>?_)
  obtain⟨sa,sc,f1,hsc,hA2⟩:=hown.aIn rfl (λ x _=>stpV_len x) hfz
  cases f1
  clear hfz
  have hq3:=hq1.mono hle3
  repeat' (first|refine zV ?_|intro _)
  have hAS:AS ρ3 6 YJ ⟨va,acc.length,vc⟩ acc:=⟨hA2,by dsimp only;omega,hsc⟩
  have hr:RcIn ρ3 ⟨⟨none,0,0⟩,⟨va,acc.length,vc⟩,⟨none,0,0⟩,⟨none,0,0⟩⟩ (⟨k,lsn,txn,prev,next,[],acc,0,[],[]⟩:Rc):=stpIn hAS hin
  have hlr:=hq3.at'.len
  have hR:=Wk ρ3 ⟨⟨none,0,0⟩,⟨va,acc.length,vc⟩,⟨none,0,0⟩,⟨none,0,0⟩⟩ (⟨k,lsn,txn,prev,next,[],acc,0,[],[]⟩:Rc) hr
  have hd:Vq l=((⟨k,lsn,txn,prev,next,[],acc,0,[],[]⟩:Rc).plain,m1,0,false):=by rw[hmd,hms];rfl
  by_cases hz:0<q1.n
  ·rw[decide_eq_true (show (q1.n:Int) > 0 by omega)]
   repeat' (first|refine zV ?_|intro _)
   exact qE (L':=[]) (hle:=hle3) ⟨hle3,ZR (read_rest hd (λ e=>by rw[e] at hlr;simp at hlr;omega))⟩
  ·rw[decide_eq_false (show ¬(q1.n:Int) > 0 by omega)]
   obtain rfl:m1=[]:=List.eq_nil_of_length_eq_zero (by omega)
   cases hok:Yk (⟨k,lsn,txn,prev,next,[],acc,0,[],[]⟩:Rc)
   ·rw[hok] at hR
    repeat' (first|(refine Za (.func 46) ?_;refine qC rfl rfl (hR) ?_;rintro v ρ' L' hle ⟨rfl,rfl,rfl⟩<;>(try simp only[kA]))|refine zV ?_|intro _)
    exact qE (L':=[]) (hle:=hle3) ⟨hle3,ZR (read_right hd hok)⟩
   ·rw[hok] at hR
    repeat' (first|(refine Za (.func 46) ?_;refine qC rfl rfl (hR) ?_;rintro v ρ' L' hle ⟨rfl,rfl,rfl⟩<;>(try simp only[kA]))|refine zV ?_|intro _)
    exact qE (L':=[]) (hle:=hle3) ⟨hle3,(read_yes hr hd hok).2⟩
end Go.Proofs.E
