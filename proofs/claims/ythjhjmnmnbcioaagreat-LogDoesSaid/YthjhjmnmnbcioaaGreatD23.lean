/- Laws of LogDoes. Part 23 of 30. -/
import Derived.Test.YthjhjmnmnbcioaaGreatD22
set_option linter.unusedVariables false
set_option linter.unusedSimpArgs false
set_option linter.unusedSectionVars false
namespace Go.Proofs.E
open Go Tryz
set_option maxRecDepth 4000
attribute [local irreducible] Yl TL TC TE Spec YL R1 Hp.le EnvLe TS TR YS Zt TP QP
set_option maxHeartbeats 4000000
theorem YF (k:Nat)(l:List UInt8):(∃x l1,Zy k (l,0,false)=(x,l1,0,false))\/okS (Zy k (l,0,false)).2=false:=by
 by_cases h:k<=l.length
 ·exact .inl ⟨_,_,rdN_go h⟩
 ·exact .inr (rdN_no (by omega))
theorem ckP1 {m1 m2:List UInt8}{p:Nat}(e1:Zy 1 (m1,0,false)=(p,m2,0,false)):ckPD (m1,0,false)=ckPr p (m2,0,false):=by unfold ckPD;rw[e1]
theorem ckP2 {m1 m2:List UInt8}{p s:Nat}(e1:Zy 8 (m1,0,false)=(s,m2,0,false)):ckPr p (m1,0,false)=(⟨p,s⟩,m2,0,false):=by unfold ckPr;rw[e1]
theorem st_ckPr {p:Nat}{s:Yg}(h:okS s=false):okS (ckPr p s).2=false:=Vw h
theorem st_ckTe {t f l u:Nat}{s:Yg}(h:okS s=false):okS (ckTe t f l u s).2=false:=Vw h
theorem st_ckTu {t f l:Nat}{s:Yg}(h:okS s=false):okS (ckTu t f l s).2=false:=st_ckTe (Vw h)
theorem st_ckTl {t f:Nat}{s:Yg}(h:okS s=false):okS (ckTl t f s).2=false:=st_ckTu (Vw h)
theorem st_ckTf {t:Nat}{s:Yg}(h:okS s=false):okS (ckTf t s).2=false:=st_ckTl (Vw h)
theorem ckT1 {m1 m2:List UInt8}{t:Nat}(e1:Zy 4 (m1,0,false)=(t,m2,0,false)):ckTD (m1,0,false)=ckTf t (m2,0,false):=by unfold ckTD;rw[e1]
theorem ckT2 {m1 m2:List UInt8}{t f:Nat}(e1:Zy 8 (m1,0,false)=(f,m2,0,false)):ckTf t (m1,0,false)=ckTl t f (m2,0,false):=by unfold ckTf;rw[e1]
theorem ckT3 {m1 m2:List UInt8}{t f l:Nat}(e1:Zy 8 (m1,0,false)=(l,m2,0,false)):ckTl t f (m1,0,false)=ckTu t f l (m2,0,false):=by unfold ckTl;rw[e1]
theorem ckT4 {m1 m2:List UInt8}{t f l u:Nat}(e1:Zy 8 (m1,0,false)=(u,m2,0,false)):ckTu t f l (m1,0,false)=ckTe t f l u (m2,0,false):=by unfold ckTu;rw[e1]
theorem ckT5 {m1 m2:List UInt8}{t f l u s:Nat}(e1:Zy 1 (m1,0,false)=(s,m2,0,false)):ckTe t f l u (m1,0,false)=(⟨t,f,l,u,s⟩,m2,0,false):=by unfold ckTe;rw[e1]
theorem ckIn9 {ρ:Hp}{k lsn prev:Nat}{txn nx:Int}{sv sw:SV}{xs:List CkT}{ys:List CkP}(h:AS ρ 5 Yh sv xs)(h2:AS ρ 2 YB sw ys):RcIn ρ ⟨⟨none,0,0⟩,⟨none,0,0⟩,sv,sw⟩ ⟨k,lsn,txn,prev,0,[],[],nx,xs,ys⟩:=⟨AS.nil,by simp,AS.nil,h,h2,by simp⟩
theorem read_9g (ρ:Hp)(a:Option Addr)(n c:Nat)(l:List UInt8)(h:SIn ρ Zk a n l)(hc:n<=c)(hb:n<=1000000)(k:Nat)(l1:List UInt8)(hl1:Zy 1 (l,0,false)=(k,l1,0,false))(lsn:Nat)(l2:List UInt8)(hl2:Zy 8 (l1,0,false)=(lsn,l2,0,false))(txn:Nat)(l3:List UInt8)(hl3:Zy 4 (l2,0,false)=(txn,l3,0,false))(prev:Nat)(l4:List UInt8)(hl4:Zy 8 (l3,0,false)=(prev,l4,0,false))(nx:Nat)(l5:List UInt8)(hl5:Zy 4 (l4,0,false)=(nx,l5,0,false))(m:Nat)(l6:List UInt8)(hl6:Zy 1 (l5,0,false)=(m,l6,0,false))(hk9:k=9):Spec prog 135 [.slice a n c] ρ [] (λ z ρ' L'=>ρ.le ρ'/\Xb ρ' l z L'):=by
 have hI0:RdI ρ ⟨a,n,c⟩ l:=⟨h,hc,hb⟩
 have hln:=h.len
 obtain⟨TT,hTT⟩:∃TT,ZP ckTD m (l6,0,false)=TT:=⟨_,rfl⟩
 have hmd:Vq l=cdD (⟨k,lsn,txn,prev,0,[],[],nx,TT.1,[]⟩:Rc) TT.2:=by
  rw[XN hl1 hl2 hl3 hl4]
  unfold Wp
  rw[if_neg (show ¬((k:Nat):Int)=2 by omega),if_neg (show ¬((k:Nat):Int)=3 by omega),if_neg (show ¬((k:Nat):Int)=4 by omega),if_neg (show ¬((k:Nat):Int)=5 by omega),if_pos (show ((k:Nat):Int)=9 by omega)]
  unfold WS cxD
  rw[hl5]
  unfold ctD Yw
  rw[hl6,<-hTT]
 refine Zb func135 rfl rfl rfl λ u R=>?_
 simp only[Zc,kA]
 repeat' (first|(refine Za (.func 202) ?_;refine qC rfl rfl (Ze _ _ ⟨a,n,c⟩ l hI0 1 256 rfl (by decide) hl1) ?_;rintro v ρ' L' hle ⟨rfl,rfl,hb1,s1,h1,rfl⟩<;>(try simp only[kA]))|(refine Za (.func 202) ?_;refine qC rfl rfl (Ze _ _ s1 l1 h1 8 18446744073709551616 rfl (by decide) hl2) ?_;rintro v ρ' L' hle ⟨rfl,rfl,hb2,s2,h2,rfl⟩<;>(try simp only[kA]))|(refine Za (.func 202) ?_;refine qC rfl rfl (Ze _ _ s2 l2 h2 4 4294967296 rfl (by decide) hl3) ?_;rintro v ρ' L' hle ⟨rfl,rfl,hb3,s3,h3,rfl⟩<;>(try simp only[kA]))|(refine Za (.func 202) ?_;refine qC rfl rfl (Ze _ _ s3 l3 h3 8 18446744073709551616 rfl (by decide) hl4) ?_;rintro v ρ' L' hle ⟨rfl,rfl,hb4,s4,h4,rfl⟩<;>(try simp only[kA]))|(refine Za (.func 202) ?_;refine qC rfl rfl (Ze _ _ s4 l4 h4 4 4294967296 rfl (by decide) hl5) ?_;rintro v ρ' L' hle ⟨rfl,rfl,hb5,s5,h5,rfl⟩<;>(try simp only[kA]))|(refine Za (.func 202) ?_;refine qC rfl rfl (Ze _ _ s5 l5 h5 1 256 rfl (by decide) hl6) ?_;rintro v ρ' L' hle ⟨rfl,rfl,hb6,s6,h6,rfl⟩<;>(try simp only[kA]))|refine zV ?_|intro _)
 rename_i zb rb rc _ _ _ _ _
 refine lpG (Nat×SV×(List UInt8)×Value×(List Value)×(List CkT)×Bool) [2,3,4,5,78] (λ z=>[(79,.int .u64 z.1)]) (λ z=>ρ') (λ z=>[rdB rb z.2.1 z.2.2.2.2.2.2,[(rc,.cells ⟨[.int .i64 (k:Nat),.int .u64 (lsn:Nat),.int .i64 (txn:Nat),.int .u64 (prev:Nat),.int .u64 0,.slice none 0 0,.slice none 0 0,.int .i64 (nx:Nat),z.2.2.2.1,.slice none 0 0]⟩ 47 (0,0))],Zq z.2.2.2.1 ((z.2.2.2.2.2.1.map Yh).flatten) z.2.2.2.2.1 116]) (λ z=>z.1<=m/\z.2.2.2.2.2.1.length=z.1/\OwnS z.2.2.2.1 z.2.2.2.2.2.1.length ((z.2.2.2.2.2.1.map Yh).flatten) z.2.2.2.2.1 5/\((z.2.2.2.2.2.2=false/\RdI ρ' z.2.1 z.2.2.1/\TT=(z.2.2.2.2.2.1++(ZP ckTD (m-z.1) (z.2.2.1,0,false)).1,(ZP ckTD (m-z.1) (z.2.2.1,0,false)).2))\/(z.2.2.2.2.2.2=true/\okS TT.2=false))) (λ z=>m-z.1) (0,s6,l6,.slice none 0 0,[],[],false) (⟨aZ _,rfl,OwnS.nil 5,.inl ⟨rfl,h6,hTT.symm⟩⟩) ?_
 rintro⟨j,q1,m1,vv,sp,acc,b1⟩ hI
 try simp only[kB] at hI ⊢
 try dsimp only at hI ⊢
 obtain⟨hj,hal,hown,hor⟩:=hI
 obtain⟨va,vc,rfl,hvl⟩:=hown.slice
 rcases hor with⟨rfl,hq1,hms⟩|⟨rfl,hbad⟩
 case' inr=>
  have hdb:Yb l=false:=XC (by rw[hmd];exact st_cdD hbad)
  by_cases hlt:j<m
  all_goals
   repeat' (first|(refine Za (.func 202) ?_;refine qC rfl rfl (Zo _ _ q1 1) ?_;rintro v ρ' L' hle ⟨rfl,rfl,rfl⟩<;>(try simp only[kA]))|refine zV ?_|intro _)
   refine lpG Nat [2,3,4,5,110] (λ z=>[(111,.int .u64 z)]) (λ z=>ρ') (λ z=>[]) (λ z=>z=0) (λ z=>0-z) 0 rfl ?_
   rintro w hI
   try simp only[kB] at hI ⊢
   try dsimp only at hI ⊢
   subst hI
   repeat' (first|refine zV ?_|intro _)
   exact qE (L':=[]) ⟨Hp.le_refl _,ZR hdb⟩
 by_cases hlt:j<m
 ·skip
  rcases YF 4 m1 with⟨t,m2,e1⟩|hno1
  ·skip
   rcases YF 8 m2 with⟨f,m3,e2⟩|hno2
   ·skip
    rcases YF 8 m3 with⟨la,m4,e3⟩|hno3
    ·skip
     rcases YF 8 m4 with⟨un,m5,e4⟩|hno4
     ·skip
      rcases YF 1 m5 with⟨st,m6,e5⟩|hno5
      ·skip
       repeat' (first|(refine Za (.func 202) ?_;refine qC rfl rfl (Ze _ rb q5 m5 hq5 1 256 rfl (by decide) e5) ?_;rintro v ρ' L' hle ⟨rfl,rfl,hbst,q6,hq6,rfl⟩<;>(try simp only[kA]))|(refine Za (.func 202) ?_;refine qC rfl rfl (Ze _ rb q4 m4 hq4 8 18446744073709551616 rfl (by decide) e4) ?_;rintro v ρ' L' hle ⟨rfl,rfl,hbun,q5,hq5,rfl⟩<;>(try simp only[kA]))|(refine Za (.func 202) ?_;refine qC rfl rfl (Ze _ rb q3 m3 hq3 8 18446744073709551616 rfl (by decide) e3) ?_;rintro v ρ' L' hle ⟨rfl,rfl,hbla,q4,hq4,rfl⟩<;>(try simp only[kA]))|(refine Za (.func 202) ?_;refine qC rfl rfl (Ze _ rb q2 m2 hq2 8 18446744073709551616 rfl (by decide) e2) ?_;rintro v ρ' L' hle ⟨rfl,rfl,hbf,q3,hq3,rfl⟩<;>(try simp only[kA]))|(refine Za (.func 202) ?_;refine qC rfl rfl (Ze _ rb q1 m1 hq1 4 4294967296 rfl (by decide) e1) ?_;rintro v ρ' L' hle ⟨rfl,rfl,hbt,q2,hq2,rfl⟩<;>(try simp only[kA]))|refine zV ?_|intro _)
       repeat' (first|(refine Zp (css:=[[.int .i64 (t:Nat),.int .u64 (f:Nat),.int .u64 (la:Nat),.int .u64 (un:Nat),.int .i64 (st:Nat)]]) (sz:=5) rfl rfl rfl rfl (by simp) (by simp) rfl (λ bs=>?_);simp only[aF,List.flatten_nil,aN])|(refine ZH (ys:=[.int .i64 (t:Nat),.int .u64 (f:Nat),.int .u64 (la:Nat),.int .u64 (un:Nat),.int .i64 (st:Nat)]) (m:=1) rfl rfl hown (hR:=by repeat (first|exact Zl|apply Zn)) SrcV.lit rfl rfl (by decide) rfl (by omega) (by omega) rfl (λ v3 sp3 hown3=>?_);obtain⟨va3,vc3,rfl,_⟩:=hown3.slice)|refine zV ?_|intro _)
       have hyv:[.int .i64 (t:Nat),.int .u64 (f:Nat),.int .u64 (la:Nat),.int .u64 (un:Nat),.int .i64 (st:Nat)]=Yh (⟨((t:Nat):Int),f,la,un,((st:Nat):Int)⟩:CkT):=rfl
       have hm1:(acc.map Yh).flatten++Yh (⟨((t:Nat):Int),f,la,un,((st:Nat):Int)⟩:CkT)=((acc++[(⟨((t:Nat):Int),f,la,un,((st:Nat):Int)⟩:CkT)]).map Yh).flatten:=by simp
       rw[hyv,hm1] at hown3 ⊢
       refine rnG (j+1,q6,m6,.slice va3 (acc.length+1) vc3,sp3,acc++[(⟨((t:Nat):Int),f,la,un,((st:Nat):Int)⟩:CkT)],false) (⟨hlt,by rw[aL,hal];rfl,by rw[aL];exact hown3,.inl ⟨rfl,hq6,by rw[<-hTT] at hms ⊢;exact many_app hlt hms (by rw[ckT1 e1,ckT2 e2,ckT3 e3,ckT4 e4,ckT5 e5])⟩⟩)
      ·skip
       repeat' (first|(refine Za (.func 202) ?_;refine qC rfl rfl (ZO _ rb q5 m5 hq5 1 (by decide) hno5) ?_;rintro v ρ' L' hle ⟨rfl,rfl,rfl⟩<;>(try simp only[kA]))|(refine Za (.func 202) ?_;refine qC rfl rfl (Zo _ rb q5 8) ?_;rintro v ρ' L' hle ⟨rfl,rfl,rfl⟩<;>(try simp only[kA]))|(refine Za (.func 202) ?_;refine qC rfl rfl (Zo _ rb q5 1) ?_;rintro v ρ' L' hle ⟨rfl,rfl,rfl⟩<;>(try simp only[kA]))|(refine Za (.func 202) ?_;refine qC rfl rfl (Ze _ rb q4 m4 hq4 8 18446744073709551616 rfl (by decide) e4) ?_;rintro v ρ' L' hle ⟨rfl,rfl,hbun,q5,hq5,rfl⟩<;>(try simp only[kA]))|(refine Za (.func 202) ?_;refine qC rfl rfl (Ze _ rb q3 m3 hq3 8 18446744073709551616 rfl (by decide) e3) ?_;rintro v ρ' L' hle ⟨rfl,rfl,hbla,q4,hq4,rfl⟩<;>(try simp only[kA]))|(refine Za (.func 202) ?_;refine qC rfl rfl (Ze _ rb q2 m2 hq2 8 18446744073709551616 rfl (by decide) e2) ?_;rintro v ρ' L' hle ⟨rfl,rfl,hbf,q3,hq3,rfl⟩<;>(try simp only[kA]))|(refine Za (.func 202) ?_;refine qC rfl rfl (Ze _ rb q1 m1 hq1 4 4294967296 rfl (by decide) e1) ?_;rintro v ρ' L' hle ⟨rfl,rfl,hbt,q2,hq2,rfl⟩<;>(try simp only[kA]))|refine zV ?_|intro _)
       repeat' (first|(refine Zp (css:=[[.int .i64 (t:Nat),.int .u64 (f:Nat),.int .u64 (la:Nat),.int .u64 (un:Nat),.int .i64 (0:Nat)]]) (sz:=5) rfl rfl rfl rfl (by simp) (by simp) rfl (λ bs=>?_);simp only[aF,List.flatten_nil,aN])|(refine ZH (ys:=[.int .i64 (t:Nat),.int .u64 (f:Nat),.int .u64 (la:Nat),.int .u64 (un:Nat),.int .i64 (0:Nat)]) (m:=1) rfl rfl hown (hR:=by repeat (first|exact Zl|apply Zn)) SrcV.lit rfl rfl (by decide) rfl (by omega) (by omega) rfl (λ v3 sp3 hown3=>?_);obtain⟨va3,vc3,rfl,_⟩:=hown3.slice)|refine zV ?_|intro _)
       have hyv:[.int .i64 (t:Nat),.int .u64 (f:Nat),.int .u64 (la:Nat),.int .u64 (un:Nat),.int .i64 (0:Nat)]=Yh (⟨((t:Nat):Int),f,la,un,((0:Nat):Int)⟩:CkT):=rfl
       have hm1:(acc.map Yh).flatten++Yh (⟨((t:Nat):Int),f,la,un,((0:Nat):Int)⟩:CkT)=((acc++[(⟨((t:Nat):Int),f,la,un,((0:Nat):Int)⟩:CkT)]).map Yh).flatten:=by simp
       rw[hyv,hm1] at hown3 ⊢
       refine rnG (j+1,q5,m1,.slice va3 (acc.length+1) vc3,sp3,acc++[(⟨((t:Nat):Int),f,la,un,((0:Nat):Int)⟩:CkT)],true) (⟨hlt,by rw[aL,hal];rfl,by rw[aL];exact hown3,.inr ⟨rfl,by rw[<-hTT] at hms ⊢;exact XX hlt hms (by rw[ckT1 e1,ckT2 e2,ckT3 e3,ckT4 e4];exact hno5)⟩⟩)
     ·skip
      repeat' (first|(refine Za (.func 202) ?_;refine qC rfl rfl (ZO _ rb q4 m4 hq4 8 (by decide) hno4) ?_;rintro v ρ' L' hle ⟨rfl,rfl,rfl⟩<;>(try simp only[kA]))|(refine Za (.func 202) ?_;refine qC rfl rfl (Zo _ rb q4 8) ?_;rintro v ρ' L' hle ⟨rfl,rfl,rfl⟩<;>(try simp only[kA]))|(refine Za (.func 202) ?_;refine qC rfl rfl (Zo _ rb q4 1) ?_;rintro v ρ' L' hle ⟨rfl,rfl,rfl⟩<;>(try simp only[kA]))|(refine Za (.func 202) ?_;refine qC rfl rfl (Ze _ rb q3 m3 hq3 8 18446744073709551616 rfl (by decide) e3) ?_;rintro v ρ' L' hle ⟨rfl,rfl,hbla,q4,hq4,rfl⟩<;>(try simp only[kA]))|(refine Za (.func 202) ?_;refine qC rfl rfl (Ze _ rb q2 m2 hq2 8 18446744073709551616 rfl (by decide) e2) ?_;rintro v ρ' L' hle ⟨rfl,rfl,hbf,q3,hq3,rfl⟩<;>(try simp only[kA]))|(refine Za (.func 202) ?_;refine qC rfl rfl (Ze _ rb q1 m1 hq1 4 4294967296 rfl (by decide) e1) ?_;rintro v ρ' L' hle ⟨rfl,rfl,hbt,q2,hq2,rfl⟩<;>(try simp only[kA]))|refine zV ?_|intro _)
      repeat' (first|(refine Zp (css:=[[.int .i64 (t:Nat),.int .u64 (f:Nat),.int .u64 (la:Nat),.int .u64 (0:Nat),.int .i64 (0:Nat)]]) (sz:=5) rfl rfl rfl rfl (by simp) (by simp) rfl (λ bs=>?_);simp only[aF,List.flatten_nil,aN])|(refine ZH (ys:=[.int .i64 (t:Nat),.int .u64 (f:Nat),.int .u64 (la:Nat),.int .u64 (0:Nat),.int .i64 (0:Nat)]) (m:=1) rfl rfl hown (hR:=by repeat (first|exact Zl|apply Zn)) SrcV.lit rfl rfl (by decide) rfl (by omega) (by omega) rfl (λ v3 sp3 hown3=>?_);obtain⟨va3,vc3,rfl,_⟩:=hown3.slice)|refine zV ?_|intro _)
      have hyv:[.int .i64 (t:Nat),.int .u64 (f:Nat),.int .u64 (la:Nat),.int .u64 (0:Nat),.int .i64 (0:Nat)]=Yh (⟨((t:Nat):Int),f,la,0,((0:Nat):Int)⟩:CkT):=rfl
      have hm1:(acc.map Yh).flatten++Yh (⟨((t:Nat):Int),f,la,0,((0:Nat):Int)⟩:CkT)=((acc++[(⟨((t:Nat):Int),f,la,0,((0:Nat):Int)⟩:CkT)]).map Yh).flatten:=by simp
      rw[hyv,hm1] at hown3 ⊢
      refine rnG (j+1,q4,m1,.slice va3 (acc.length+1) vc3,sp3,acc++[(⟨((t:Nat):Int),f,la,0,((0:Nat):Int)⟩:CkT)],true) (⟨hlt,by rw[aL,hal];rfl,by rw[aL];exact hown3,.inr ⟨rfl,by rw[<-hTT] at hms ⊢;exact XX hlt hms (by rw[ckT1 e1,ckT2 e2,ckT3 e3];exact st_ckTe hno4)⟩⟩)
    ·skip
     repeat' (first|(refine Za (.func 202) ?_;refine qC rfl rfl (ZO _ rb q3 m3 hq3 8 (by decide) hno3) ?_;rintro v ρ' L' hle ⟨rfl,rfl,rfl⟩<;>(try simp only[kA]))|(refine Za (.func 202) ?_;refine qC rfl rfl (Zo _ rb q3 8) ?_;rintro v ρ' L' hle ⟨rfl,rfl,rfl⟩<;>(try simp only[kA]))|(refine Za (.func 202) ?_;refine qC rfl rfl (Zo _ rb q3 1) ?_;rintro v ρ' L' hle ⟨rfl,rfl,rfl⟩<;>(try simp only[kA]))|(refine Za (.func 202) ?_;refine qC rfl rfl (Ze _ rb q2 m2 hq2 8 18446744073709551616 rfl (by decide) e2) ?_;rintro v ρ' L' hle ⟨rfl,rfl,hbf,q3,hq3,rfl⟩<;>(try simp only[kA]))|(refine Za (.func 202) ?_;refine qC rfl rfl (Ze _ rb q1 m1 hq1 4 4294967296 rfl (by decide) e1) ?_;rintro v ρ' L' hle ⟨rfl,rfl,hbt,q2,hq2,rfl⟩<;>(try simp only[kA]))|refine zV ?_|intro _)
     repeat' (first|(refine Zp (css:=[[.int .i64 (t:Nat),.int .u64 (f:Nat),.int .u64 (0:Nat),.int .u64 (0:Nat),.int .i64 (0:Nat)]]) (sz:=5) rfl rfl rfl rfl (by simp) (by simp) rfl (λ bs=>?_);simp only[aF,List.flatten_nil,aN])|(refine ZH (ys:=[.int .i64 (t:Nat),.int .u64 (f:Nat),.int .u64 (0:Nat),.int .u64 (0:Nat),.int .i64 (0:Nat)]) (m:=1) rfl rfl hown (hR:=by repeat (first|exact Zl|apply Zn)) SrcV.lit rfl rfl (by decide) rfl (by omega) (by omega) rfl (λ v3 sp3 hown3=>?_);obtain⟨va3,vc3,rfl,_⟩:=hown3.slice)|refine zV ?_|intro _)
     have hyv:[.int .i64 (t:Nat),.int .u64 (f:Nat),.int .u64 (0:Nat),.int .u64 (0:Nat),.int .i64 (0:Nat)]=Yh (⟨((t:Nat):Int),f,0,0,((0:Nat):Int)⟩:CkT):=rfl
     have hm1:(acc.map Yh).flatten++Yh (⟨((t:Nat):Int),f,0,0,((0:Nat):Int)⟩:CkT)=((acc++[(⟨((t:Nat):Int),f,0,0,((0:Nat):Int)⟩:CkT)]).map Yh).flatten:=by simp
     rw[hyv,hm1] at hown3 ⊢
     refine rnG (j+1,q3,m1,.slice va3 (acc.length+1) vc3,sp3,acc++[(⟨((t:Nat):Int),f,0,0,((0:Nat):Int)⟩:CkT)],true) (⟨hlt,by rw[aL,hal];rfl,by rw[aL];exact hown3,.inr ⟨rfl,by rw[<-hTT] at hms ⊢;exact XX hlt hms (by rw[ckT1 e1,ckT2 e2];exact st_ckTu hno3)⟩⟩)
   ·skip
    repeat' (first|(refine Za (.func 202) ?_;refine qC rfl rfl (ZO _ rb q2 m2 hq2 8 (by decide) hno2) ?_;rintro v ρ' L' hle ⟨rfl,rfl,rfl⟩<;>(try simp only[kA]))|(refine Za (.func 202) ?_;refine qC rfl rfl (Zo _ rb q2 8) ?_;rintro v ρ' L' hle ⟨rfl,rfl,rfl⟩<;>(try simp only[kA]))|(refine Za (.func 202) ?_;refine qC rfl rfl (Zo _ rb q2 1) ?_;rintro v ρ' L' hle ⟨rfl,rfl,rfl⟩<;>(try simp only[kA]))|(refine Za (.func 202) ?_;refine qC rfl rfl (Ze _ rb q1 m1 hq1 4 4294967296 rfl (by decide) e1) ?_;rintro v ρ' L' hle ⟨rfl,rfl,hbt,q2,hq2,rfl⟩<;>(try simp only[kA]))|refine zV ?_|intro _)
    repeat' (first|(refine Zp (css:=[[.int .i64 (t:Nat),.int .u64 (0:Nat),.int .u64 (0:Nat),.int .u64 (0:Nat),.int .i64 (0:Nat)]]) (sz:=5) rfl rfl rfl rfl (by simp) (by simp) rfl (λ bs=>?_);simp only[aF,List.flatten_nil,aN])|(refine ZH (ys:=[.int .i64 (t:Nat),.int .u64 (0:Nat),.int .u64 (0:Nat),.int .u64 (0:Nat),.int .i64 (0:Nat)]) (m:=1) rfl rfl hown (hR:=by repeat (first|exact Zl|apply Zn)) SrcV.lit rfl rfl (by decide) rfl (by omega) (by omega) rfl (λ v3 sp3 hown3=>?_);obtain⟨va3,vc3,rfl,_⟩:=hown3.slice)|refine zV ?_|intro _)
    have hyv:[.int .i64 (t:Nat),.int .u64 (0:Nat),.int .u64 (0:Nat),.int .u64 (0:Nat),.int .i64 (0:Nat)]=Yh (⟨((t:Nat):Int),0,0,0,((0:Nat):Int)⟩:CkT):=rfl
    have hm1:(acc.map Yh).flatten++Yh (⟨((t:Nat):Int),0,0,0,((0:Nat):Int)⟩:CkT)=((acc++[(⟨((t:Nat):Int),0,0,0,((0:Nat):Int)⟩:CkT)]).map Yh).flatten:=by simp
    rw[hyv,hm1] at hown3 ⊢
    refine rnG (j+1,q2,m1,.slice va3 (acc.length+1) vc3,sp3,acc++[(⟨((t:Nat):Int),0,0,0,((0:Nat):Int)⟩:CkT)],true) (⟨hlt,by rw[aL,hal];rfl,by rw[aL];exact hown3,.inr ⟨rfl,by rw[<-hTT] at hms ⊢;exact XX hlt hms (by rw[ckT1 e1];exact st_ckTl hno2)⟩⟩)
  ·skip
   repeat' (first|(refine Za (.func 202) ?_;refine qC rfl rfl (ZO _ rb q1 m1 hq1 4 (by decide) hno1) ?_;rintro v ρ' L' hle ⟨rfl,rfl,rfl⟩<;>(try simp only[kA]))|(refine Za (.func 202) ?_;refine qC rfl rfl (Zo _ rb q1 8) ?_;rintro v ρ' L' hle ⟨rfl,rfl,rfl⟩<;>(try simp only[kA]))|(refine Za (.func 202) ?_;refine qC rfl rfl (Zo _ rb q1 1) ?_;rintro v ρ' L' hle ⟨rfl,rfl,rfl⟩<;>(try simp only[kA]))|refine zV ?_|intro _)
   repeat' (first|(refine Zp (css:=[[.int .i64 (0:Nat),.int .u64 (0:Nat),.int .u64 (0:Nat),.int .u64 (0:Nat),.int .i64 (0:Nat)]]) (sz:=5) rfl rfl rfl rfl (by simp) (by simp) rfl (λ bs=>?_);simp only[aF,List.flatten_nil,aN])|(refine ZH (ys:=[.int .i64 (0:Nat),.int .u64 (0:Nat),.int .u64 (0:Nat),.int .u64 (0:Nat),.int .i64 (0:Nat)]) (m:=1) rfl rfl hown (hR:=by repeat (first|exact Zl|apply Zn)) SrcV.lit rfl rfl (by decide) rfl (by omega) (by omega) rfl (λ v3 sp3 hown3=>?_);obtain⟨va3,vc3,rfl,_⟩:=hown3.slice)|refine zV ?_|intro _)
   have hyv:[.int .i64 (0:Nat),.int .u64 (0:Nat),.int .u64 (0:Nat),.int .u64 (0:Nat),.int .i64 (0:Nat)]=Yh (⟨((0:Nat):Int),0,0,0,((0:Nat):Int)⟩:CkT):=rfl
   have hm1:(acc.map Yh).flatten++Yh (⟨((0:Nat):Int),0,0,0,((0:Nat):Int)⟩:CkT)=((acc++[(⟨((0:Nat):Int),0,0,0,((0:Nat):Int)⟩:CkT)]).map Yh).flatten:=by simp
   rw[hyv,hm1] at hown3 ⊢
   refine rnG (j+1,q1,m1,.slice va3 (acc.length+1) vc3,sp3,acc++[(⟨((0:Nat):Int),0,0,0,((0:Nat):Int)⟩:CkT)],true) (⟨hlt,by rw[aL,hal];rfl,by rw[aL];exact hown3,.inr ⟨rfl,by rw[<-hTT] at hms ⊢;exact XX hlt hms (st_ckTf hno1)⟩⟩)
 ·have hjm:j=m:=by omega
  rw[hjm,Nat.sub_self] at hms
  simp only[ZP,aN] at hms
  refine XL (Zq (.slice va acc.length vc) ((acc.map Yh).flatten) sp 116) (λ ρ3 hle3 hfz=>?_)
  obtain⟨sa,sc,f1,hsc,hA2⟩:=hown.aIn rfl (λ x _=>ckTV_len x) hfz
  cases f1
  clear hfz hown
  have hq3:=hq1.mono hle3
  have hAS:AS ρ3 5 Yh ⟨va,acc.length,vc⟩ acc:=⟨hA2,by dsimp only;omega,hsc⟩
  rcases YF 1 m1 with⟨w,w1,ew⟩|hnw
  case' inr=>
   have hdb:Yb l=false:=XC (by rw[hmd,hms];exact st_many hnw)
   repeat' (first|(refine Za (.func 202) ?_;refine qC rfl rfl (ZO _ rb q1 m1 hq3 1 (by decide) hnw) ?_;rintro v ρ' L' hle ⟨rfl,rfl,rfl⟩<;>(try simp only[kA]))|refine zV ?_|intro _)
   refine lpG Nat [2,3,4,5,110] (λ z=>[(111,.int .u64 z)]) (λ z=>ρ') (λ z=>[]) (λ z=>z=0) (λ z=>0-z) 0 rfl ?_
   rintro i hI
   try simp only[kB] at hI ⊢
   try dsimp only at hI ⊢
   subst hI
   repeat' (first|refine zV ?_|intro _)
   exact qE (L':=[]) (hle:=hle3) ⟨hle3,ZR hdb⟩
  obtain⟨DD,hDD⟩:∃DD,ZP ckPD w (w1,0,false)=DD:=⟨_,rfl⟩
  have hmd2:Vq l=((⟨k,lsn,txn,prev,0,[],[],nx,acc,DD.1⟩:Rc),DD.2):=by
   rw[hmd,hms]
   unfold cdD Yw
   dsimp only
   rw[ew,<-hDD]
  repeat' (first|(refine Za (.func 202) ?_;refine qC rfl rfl (Ze _ rb q1 m1 hq3 1 256 rfl (by decide) ew) ?_;rintro v ρ' L' hle ⟨rfl,rfl,hwb,u1,hu1,rfl⟩<;>(try simp only[kA]))|refine zV ?_|intro _)
  clear hms hTT hmd
  refine lpG (Nat×SV×(List UInt8)×Value×(List Value)×(List CkP)×Bool) [2,3,4,5,110] (λ z=>[(111,.int .u64 z.1)]) (λ z=>ρ') (λ z=>[rdB rb z.2.1 z.2.2.2.2.2.2,[(rc,.cells ⟨[.int .i64 (k:Nat),.int .u64 (lsn:Nat),.int .i64 (txn:Nat),.int .u64 (prev:Nat),.int .u64 0,.slice none 0 0,.slice none 0 0,.int .i64 (nx:Nat),.slice va acc.length vc,z.2.2.2.1]⟩ 47 (0,0))],Zq z.2.2.2.1 ((z.2.2.2.2.2.1.map YB).flatten) z.2.2.2.2.1 118]) (λ z=>z.1<=w/\z.2.2.2.2.2.1.length=z.1/\OwnS z.2.2.2.1 z.2.2.2.2.2.1.length ((z.2.2.2.2.2.1.map YB).flatten) z.2.2.2.2.1 2/\((z.2.2.2.2.2.2=false/\RdI ρ' z.2.1 z.2.2.1/\DD=(z.2.2.2.2.2.1++(ZP ckPD (w-z.1) (z.2.2.1,0,false)).1,(ZP ckPD (w-z.1) (z.2.2.1,0,false)).2))\/(z.2.2.2.2.2.2=true/\okS DD.2=false))) (λ z=>w-z.1) (0,u1,w1,.slice none 0 0,[],[],false) (⟨aZ _,rfl,OwnS.nil 2,.inl ⟨rfl,hu1,hDD.symm⟩⟩) ?_
  rintro⟨i,x1,y1,vv,sp,ac,b1⟩ hI
  try simp only[kB] at hI ⊢
  try dsimp only at hI ⊢
  obtain⟨hj2,hal,hown,hor⟩:=hI
  obtain⟨vb,vd,rfl,hvl2⟩:=hown.slice
  rcases hor with⟨rfl,hx1,hms⟩|⟨rfl,hbad⟩
  case' inr=>
   have hdb:Yb l=false:=XC (by rw[hmd2];exact hbad)
   by_cases hlt2:i<w
   all_goals
    repeat' (first|refine zV ?_|intro _)
    exact qE (L':=[]) (hle:=hle3) ⟨hle3,ZR hdb⟩
  by_cases hlt:i<w
  ·skip
   rcases YF 1 y1 with⟨p,y2,e1⟩|hno1
   ·skip
    rcases YF 8 y2 with⟨sn,y3,e2⟩|hno2
    ·skip
     repeat' (first|(refine Za (.func 202) ?_;refine qC rfl rfl (Ze _ rb x2 y2 hx2 8 18446744073709551616 rfl (by decide) e2) ?_;rintro v ρ' L' hle ⟨rfl,rfl,hbsn,x3,hx3,rfl⟩<;>(try simp only[kA]))|(refine Za (.func 202) ?_;refine qC rfl rfl (Ze _ rb x1 y1 hx1 1 256 rfl (by decide) e1) ?_;rintro v ρ' L' hle ⟨rfl,rfl,hbp,x2,hx2,rfl⟩<;>(try simp only[kA]))|refine zV ?_|intro _)
     repeat' (first|(refine Zp (css:=[[.int .i64 (p:Nat),.int .u64 (sn:Nat)]]) (sz:=2) rfl rfl rfl rfl (by simp) (by simp) rfl (λ bs=>?_);simp only[aF,List.flatten_nil,aN])|(refine ZH (ys:=[.int .i64 (p:Nat),.int .u64 (sn:Nat)]) (m:=1) rfl rfl hown (hR:=by repeat (first|exact Zl|apply Zn)) SrcV.lit rfl rfl (by decide) rfl (by omega) (by omega) rfl (λ v3 sp3 hown3=>?_);obtain⟨va3,vc3,rfl,_⟩:=hown3.slice)|refine zV ?_|intro _)
     have hyv:[.int .i64 (p:Nat),.int .u64 (sn:Nat)]=YB (⟨((p:Nat):Int),sn⟩:CkP):=rfl
     have hm1:(ac.map YB).flatten++YB (⟨((p:Nat):Int),sn⟩:CkP)=((ac++[(⟨((p:Nat):Int),sn⟩:CkP)]).map YB).flatten:=by simp
     rw[hyv,hm1] at hown3 ⊢
     refine rnG (i+1,x3,y3,.slice va3 (ac.length+1) vc3,sp3,ac++[(⟨((p:Nat):Int),sn⟩:CkP)],false) (⟨hlt,by rw[aL,hal];rfl,by rw[aL];exact hown3,.inl ⟨rfl,hx3,by rw[<-hDD] at hms ⊢;exact many_app hlt hms (by rw[ckP1 e1,ckP2 e2])⟩⟩)
    ·skip
     repeat' (first|(refine Za (.func 202) ?_;refine qC rfl rfl (ZO _ rb x2 y2 hx2 8 (by decide) hno2) ?_;rintro v ρ' L' hle ⟨rfl,rfl,rfl⟩<;>(try simp only[kA]))|(refine Za (.func 202) ?_;refine qC rfl rfl (Zo _ rb x2 8) ?_;rintro v ρ' L' hle ⟨rfl,rfl,rfl⟩<;>(try simp only[kA]))|(refine Za (.func 202) ?_;refine qC rfl rfl (Ze _ rb x1 y1 hx1 1 256 rfl (by decide) e1) ?_;rintro v ρ' L' hle ⟨rfl,rfl,hbp,x2,hx2,rfl⟩<;>(try simp only[kA]))|refine zV ?_|intro _)
     repeat' (first|(refine Zp (css:=[[.int .i64 (p:Nat),.int .u64 (0:Nat)]]) (sz:=2) rfl rfl rfl rfl (by simp) (by simp) rfl (λ bs=>?_);simp only[aF,List.flatten_nil,aN])|(refine ZH (ys:=[.int .i64 (p:Nat),.int .u64 (0:Nat)]) (m:=1) rfl rfl hown (hR:=by repeat (first|exact Zl|apply Zn)) SrcV.lit rfl rfl (by decide) rfl (by omega) (by omega) rfl (λ v3 sp3 hown3=>?_);obtain⟨va3,vc3,rfl,_⟩:=hown3.slice)|refine zV ?_|intro _)
     have hyv:[.int .i64 (p:Nat),.int .u64 (0:Nat)]=YB (⟨((p:Nat):Int),0⟩:CkP):=rfl
     have hm1:(ac.map YB).flatten++YB (⟨((p:Nat):Int),0⟩:CkP)=((ac++[(⟨((p:Nat):Int),0⟩:CkP)]).map YB).flatten:=by simp
     rw[hyv,hm1] at hown3 ⊢
     refine rnG (i+1,x2,y1,.slice va3 (ac.length+1) vc3,sp3,ac++[(⟨((p:Nat):Int),0⟩:CkP)],true) (⟨hlt,by rw[aL,hal];rfl,by rw[aL];exact hown3,.inr ⟨rfl,by rw[<-hDD] at hms ⊢;exact XX hlt hms (by rw[ckP1 e1];exact hno2)⟩⟩)
   ·skip
    repeat' (first|(refine Za (.func 202) ?_;refine qC rfl rfl (ZO _ rb x1 y1 hx1 1 (by decide) hno1) ?_;rintro v ρ' L' hle ⟨rfl,rfl,rfl⟩<;>(try simp only[kA]))|(refine Za (.func 202) ?_;refine qC rfl rfl (Zo _ rb x1 8) ?_;rintro v ρ' L' hle ⟨rfl,rfl,rfl⟩<;>(try simp only[kA]))|refine zV ?_|intro _)
    repeat' (first|(refine Zp (css:=[[.int .i64 (0:Nat),.int .u64 (0:Nat)]]) (sz:=2) rfl rfl rfl rfl (by simp) (by simp) rfl (λ bs=>?_);simp only[aF,List.flatten_nil,aN])|(refine ZH (ys:=[.int .i64 (0:Nat),.int .u64 (0:Nat)]) (m:=1) rfl rfl hown (hR:=by repeat (first|exact Zl|apply Zn)) SrcV.lit rfl rfl (by decide) rfl (by omega) (by omega) rfl (λ v3 sp3 hown3=>?_);obtain⟨va3,vc3,rfl,_⟩:=hown3.slice)|refine zV ?_|intro _)
    have hyv:[.int .i64 (0:Nat),.int .u64 (0:Nat)]=YB (⟨((0:Nat):Int),0⟩:CkP):=rfl
    have hm1:(ac.map YB).flatten++YB (⟨((0:Nat):Int),0⟩:CkP)=((ac++[(⟨((0:Nat):Int),0⟩:CkP)]).map YB).flatten:=by simp
    rw[hyv,hm1] at hown3 ⊢
    refine rnG (i+1,x1,y1,.slice va3 (ac.length+1) vc3,sp3,ac++[(⟨((0:Nat):Int),0⟩:CkP)],true) (⟨hlt,by rw[aL,hal];rfl,by rw[aL];exact hown3,.inr ⟨rfl,by rw[<-hDD] at hms ⊢;exact XX hlt hms (st_ckPr hno1)⟩⟩)
  ·have hiw:i=w:=by omega
   rw[hiw,Nat.sub_self] at hms
   simp only[ZP,aN] at hms
   refine XL (Zq (.slice vb ac.length vd) ((ac.map YB).flatten) sp 118) (λ ρ4 hle4 hfz=>?_)
   obtain⟨sa,sc,f1,hsc2,hA3⟩:=hown.aIn rfl (λ x _=>ckPV_len x) hfz
   cases f1
   clear hfz
   have hx4:=hx1.mono hle4
   have hAS2:AS ρ4 2 YB ⟨vb,ac.length,vd⟩ ac:=⟨hA3,by dsimp only;omega,hsc2⟩
   repeat' (first|refine zV ?_|intro _)
   have hr:RcIn ρ4 ⟨⟨none,0,0⟩,⟨none,0,0⟩,⟨va,acc.length,vc⟩,⟨vb,ac.length,vd⟩⟩ (⟨k,lsn,txn,prev,0,[],[],nx,acc,ac⟩:Rc):=ckIn9 (hAS.mono hle4) hAS2
   have hlr:=hx4.at'.len
   have hR:=Wk ρ4 ⟨⟨none,0,0⟩,⟨none,0,0⟩,⟨va,acc.length,vc⟩,⟨vb,ac.length,vd⟩⟩ (⟨k,lsn,txn,prev,0,[],[],nx,acc,ac⟩:Rc) hr
   have hd:Vq l=((⟨k,lsn,txn,prev,0,[],[],nx,acc,ac⟩:Rc).plain,y1,0,false):=by rw[hmd2,hms];rfl
   by_cases hz:0<x1.n
   ·rw[decide_eq_true (show (x1.n:Int) > 0 by omega)]
    repeat' (first|refine zV ?_|intro _)
    exact qE (L':=[]) (hle:=(Hp.le_trans hle3 hle4)) ⟨(Hp.le_trans hle3 hle4),ZR (read_rest hd (λ e=>by rw[e] at hlr;simp at hlr;omega))⟩
   ·rw[decide_eq_false (show ¬(x1.n:Int) > 0 by omega)]
    obtain rfl:y1=[]:=List.eq_nil_of_length_eq_zero (by omega)
    cases hok:Yk (⟨k,lsn,txn,prev,0,[],[],nx,acc,ac⟩:Rc)
    ·rw[hok] at hR
     repeat' (first|(refine Za (.func 46) ?_;refine qC rfl rfl (hR) ?_;rintro v ρ' L' hle ⟨rfl,rfl,rfl⟩<;>(try simp only[kA]))|refine zV ?_|intro _)
     exact qE (L':=[]) (hle:=(Hp.le_trans hle3 hle4)) ⟨(Hp.le_trans hle3 hle4),ZR (read_right hd hok)⟩
    ·rw[hok] at hR
     repeat' (first|(refine Za (.func 46) ?_;refine qC rfl rfl (hR) ?_;rintro v ρ' L' hle ⟨rfl,rfl,rfl⟩<;>(try simp only[kA]))|refine zV ?_|intro _)
     exact qE (L':=[]) (hle:=(Hp.le_trans hle3 hle4)) ⟨(Hp.le_trans hle3 hle4),(read_yes hr hd hok).2⟩
end Go.Proofs.E
