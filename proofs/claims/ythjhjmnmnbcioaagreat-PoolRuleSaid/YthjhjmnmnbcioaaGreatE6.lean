/- Laws of PoolRule. Part 6 of 26. -/
import Derived.Test.YthjhjmnmnbcioaaGreatE5
set_option linter.unusedVariables false
set_option linter.unusedSimpArgs false
set_option linter.unusedSectionVars false
namespace Go.Proofs.E
open Go Tryz
set_option maxRecDepth 4000
set_option maxHeartbeats 1000000
attribute [local irreducible] Yl TL TC TE Spec YW R1 Hp.le EnvLe TS TR YS Zv TP QP
abbrev Yu:=List UInt8×Int×Bool
def i64N (x:Nat):Int:=IntKind.i64.wrap (x:Int)
def WA (l:List UInt8)(st:Int)(bad:Bool):Row×Yu:=
 let r1:=Yc 1 l st
 let b1:=XK bad r1.2.2 (decide ((r1.1:Int)<3))
 if !b1 && decide (r1.2.2=0) then
  let r2:=Yc 2 r1.2.1 r1.2.2
  let r3:=Yc 8 r2.2.1 r2.2.2
  let r4:=Yc 1 r3.2.1 r3.2.2
  let b2:=XK b1 r4.2.2 (decide ((r4.1:Int)<=8))
  if !b2 && decide (r4.2.2=0) then
   let r5:=VA r4.1 r4.2.1 r4.2.2
   (⟨r1.1,r2.1,i64N r3.1,r5.1⟩,r5.2.1,r5.2.2,b2)
  else (⟨r1.1,r2.1,i64N r3.1,[]⟩,r4.2.1,r4.2.2,b2)
 else (⟨r1.1,0,0,[]⟩,r1.2.1,r1.2.2,b1)
theorem trow_spec (ρ:Hp)(bt br:Nat)(all:Int)(bad:Bool)(vk vr vs:Value)(a:Option Addr)(n c:Nat)(l:List UInt8)(h:SIn ρ Zk a n l)(hc:n<=c)(st:Int) :
  Spec prog 245 [.pointer (some ⟨bt,0,none⟩)] ρ [tkC bt br all bad vk vr vs,rdC br a n c st]
   (λ v ρ' L'=>v=.agg ⟨Yz (WA l st bad).1⟩/\ρ.le ρ'/\∃a' n' c',SIn ρ' Zk a' n' (WA l st bad).2.1/\n'<=c'/\L'=[tkC bt br all (WA l st bad).2.2.2 vk vr vs,rdC br a' n' c' (WA l st bad).2.2.1]):=by
 have hn1:=u8_spec ρ br a n c l h hc st
 have hb1:=Wm 1 l st
 generalize hq:WA l st bad=q
 unfold WA at hq
 generalize Yc 1 l st=r1 at *
 obtain⟨x1,l1,st1⟩:=r1
 dsimp only at hq hn1 hb1
 have htab:decide (0<=(x1:Int)/\(x1:Int)<3)=decide ((x1:Int)<3):=by simp
 generalize hB1:XK bad st1 (decide ((x1:Int)<3))=b1 at *
 refine Za func245 rfl rfl rfl λ u R=>?_
 simp only[Zc,kA]
 repeat' (first|(refine Zb (.func 124) ?_;refine qC rfl rfl (hn1) ?_;rintro v ρ' L' hle ⟨rfl,rfl,a1,n1,c1,h1,hc1,rfl⟩<;>(try simp only[kA]))|(refine Zb (.func 272) ?_;refine qR rfl rfl (WF _ (x1:Int)) ?_;try simp only[kA,htab])|(refine Zb (.func 268) ?_;refine qR rfl rfl (Xv _ bt br all bad vk vr vs a1 n1 c1 st1 (decide ((x1:Int)<3))) ?_;try simp only[kA,hB1])|(refine Zb (.func 271) ?_;refine qR rfl rfl (ok_spec _ bt br all b1 vk vr vs a1 n1 c1 st1) ?_;try simp only[kA])|refine zW ?_|intro _)
 by_cases hok:(!b1 && decide (st1=0))=true
 ·rw[if_pos hok] at hq
  simp only[hok]
  have hn2:=λ ρ (h:SIn ρ Zk a1 n1 l1)=>u16_spec ρ br a1 n1 c1 l1 h hc1 st1
  have hb2:=Wm 2 l1 st1
  generalize Yc 2 l1 st1=r2 at *
  obtain⟨x2,l2,st2⟩:=r2
  dsimp only at hq hn2 hb2
  have hn3:=λ ρ a n c (h:SIn ρ Zk a n l2) hc=>u64_spec ρ br a n c l2 h hc st2
  generalize Yc 8 l2 st2=r3 at *
  obtain⟨x3,l3,st3⟩:=r3
  dsimp only at hq hn3
  have hn4:=λ ρ a n c (h:SIn ρ Zk a n l3) hc=>u8_spec ρ br a n c l3 h hc st3
  have hb4:=Wm 1 l3 st3
  generalize Yc 1 l3 st3=r4 at *
  obtain⟨x4,l4,st4⟩:=r4
  dsimp only at hq hn4 hb4
  generalize hB2:XK b1 st4 (decide ((x4:Int)<=8))=b2 at *
  repeat' (first|(refine Zb (.func 196) ?_;refine qC rfl rfl (hn2 _ h1) ?_;rintro v ρ' L' hle ⟨rfl,rfl,a2,n2,c2,h2,hc2,rfl⟩<;>(try simp only[kA]))|(refine Zb (.func 125) ?_;refine qC rfl rfl (hn3 _ _ _ _ h2 hc2) ?_;rintro v ρ' L' hle ⟨rfl,rfl,a3,n3,c3,h3,hc3,rfl⟩<;>(try simp only[kA]))|(refine Zb (.func 124) ?_;refine qC rfl rfl (hn4 _ _ _ _ h3 hc3) ?_;rintro v ρ' L' hle ⟨rfl,rfl,a4,n4,c4,h4,hc4,rfl⟩<;>(try simp only[kA]))|(refine Zb (.func 268) ?_;refine qR rfl rfl (Xv _ bt br all b1 vk vr vs a4 n4 c4 st4 (decide ((x4:Int)<=8))) ?_;try simp only[kA,hB2])|(refine Zb (.func 271) ?_;refine qR rfl rfl (ok_spec _ bt br all b2 vk vr vs a4 n4 c4 st4) ?_;try simp only[kA])|refine zW ?_|intro _)
  by_cases hok2:(!b2 && decide (st4=0))=true
  ·rw[if_pos hok2] at hq
   simp only[hok2]
   have hn5:=λ ρ (h:SIn ρ Zk a4 n4 l4)=>raw_spec ρ br a4 n4 c4 l4 h hc4 st4 x4 (by omega)
   generalize VA x4 l4 st4=r5 at *
   obtain⟨x5,l5,st5⟩:=r5
   dsimp only at hq hn5
   subst hq
   repeat' (first|(refine Zb (.func 240) ?_;refine qC rfl rfl (hn5 _ h4) ?_;rintro v ρ' L' hle ⟨hle5,va,vn,vc,a5,n5,c5,rfl,hvc,hv,h5,hc5,rfl⟩<;>(try simp only[kA]))|refine zW ?_|intro _)
   exact qE ⟨rfl,hle5,a5,n5,c5,h5,hc5,rfl⟩
  ·rw[if_neg hok2] at hq
   subst hq
   simp only[Bool.not_eq_true] at hok2
   simp only[hok2]
   repeat' (first|refine zW ?_|intro _)
   exact qE ⟨rfl,Hp.le_refl _,a4,n4,c4,h4,hc4,rfl⟩
 ·rw[if_neg hok] at hq
  subst hq
  simp only[Bool.not_eq_true] at hok
  simp only[hok]
  repeat' (first|refine zW ?_|intro _)
  exact qE ⟨rfl,Hp.le_refl _,a1,n1,c1,h1,hc1,rfl⟩
def kidR (l:List UInt8)(st:Int):Kid×List UInt8×Int:=
 let r1:=Yc 1 l st
 let r2:=Yc 2 r1.2.1 r1.2.2
 let r3:=Yc 1 r2.2.1 r2.2.2
 (⟨r1.1,r2.1,r3.1⟩,r3.2.1,r3.2.2)
theorem tkid_spec (ρ:Hp)(bt br:Nat)(all:Int)(bad:Bool)(vk vr vs:Value)(a:Option Addr)(n c:Nat)(l:List UInt8)(h:SIn ρ Zk a n l)(hc:n<=c)(st:Int) :
  Spec prog 289 [.pointer (some ⟨bt,0,none⟩)] ρ [tkC bt br all bad vk vr vs,rdC br a n c st]
   (λ v ρ' L'=>v=.agg ⟨XD (kidR l st).1⟩/\ρ'=ρ/\∃a' n' c',SIn ρ' Zk a' n' (kidR l st).2.1/\n'<=c'/\L'=[tkC bt br all bad vk vr vs,rdC br a' n' c' (kidR l st).2.2]):=by
 have hn1:=u8_spec ρ br a n c l h hc st
 have hb1:=Wm 1 l st
 generalize hq:kidR l st=q
 unfold kidR at hq
 generalize Yc 1 l st=r1 at *
 obtain⟨x1,l1,st1⟩:=r1
 dsimp only at hq hn1 hb1
 have hn2:=λ ρ a n c (h:SIn ρ Zk a n l1) hc=>u16_spec ρ br a n c l1 h hc st1
 have hb2:=Wm 2 l1 st1
 generalize Yc 2 l1 st1=r2 at *
 obtain⟨x2,l2,st2⟩:=r2
 dsimp only at hq hn2 hb2
 have hn3:=λ ρ a n c (h:SIn ρ Zk a n l2) hc=>u8_spec ρ br a n c l2 h hc st2
 have hb3:=Wm 1 l2 st2
 generalize Yc 1 l2 st2=r3 at *
 obtain⟨x3,l3,st3⟩:=r3
 dsimp only at hq hn3 hb3
 subst hq
 refine Za func289 rfl rfl rfl λ u R=>?_
 simp only[Zc,kA]
 repeat' (first|refine zW ?_|intro _)
 refine Yt [0,1,2,3,6,7,8,9] (.e 4 [5] (.e 10 [11,12] (.e 13 [] .o))) ([tkC bt br all bad vk vr vs]) ?_
 repeat' (refine iT ?_;first|refine rA ?_|(refine rE ?_<;>((first|(refine Zb (.func 124) ?_;refine qC rfl rfl (hn1) ?_;rintro v ρ' L' hle ⟨rfl,rfl,a1,n1,c1,h1,hc1,rfl⟩<;>(try simp only[kA]))|(refine Zb (.func 196) ?_;refine qC rfl rfl (hn2 _ _ _ _ h1 hc1) ?_;rintro v ρ' L' hle ⟨rfl,rfl,a2,n2,c2,h2,hc2,rfl⟩<;>(try simp only[kA]))|refine qEf ?_)<;>(try simp only[kA])<;>refine zN ?_)))
 all_goals (repeat' (first|(refine Zb (.func 124) ?_;refine qC rfl rfl (hn3 _ _ _ _ h2 hc2) ?_;rintro v ρ' L' hle ⟨rfl,rfl,a3,n3,c3,h3,hc3,rfl⟩<;>(try simp only[kA]))|refine zW ?_|intro _))
 all_goals exact qE ⟨rfl,rfl,a3,n3,c3,h3,hc3,rfl⟩
def cmpI (x y:Int):Int:=if x<y then -1 else if y<x then 1 else 0
theorem nanI_spec (ρ:Hp)(x:Int):Spec prog 298 [.int .i64 x] ρ [] (λ v ρ' L'=>v=.bool false/\ρ'=ρ/\L'=[]):=by
 refine Za func298 rfl rfl rfl λ u R=>?_
 simp only[Zc,kA]
 repeat' (first|refine zW ?_|intro _)
 exact qE ⟨rfl,rfl,rfl⟩
theorem nanU_spec (ρ:Hp)(x:Int):Spec prog 299 [.int .u16 x] ρ [] (λ v ρ' L'=>v=.bool false/\ρ'=ρ/\L'=[]):=by
 refine Za func299 rfl rfl rfl λ u R=>?_
 simp only[Zc,kA]
 repeat' (first|refine zW ?_|intro _)
 exact qE ⟨rfl,rfl,rfl⟩
theorem cmpI_spec (ρ:Hp)(x y:Int):Spec prog 294 [.int .i64 x,.int .i64 y] ρ [] (λ v ρ' L'=>v=.int .i64 (cmpI x y)/\ρ'=ρ/\L'=[]):=by
 refine Za func294 rfl rfl rfl λ u R=>?_
 simp only[Zc,kA]
 unfold cmpI
 split
 ·repeat' (first|(refine Zb (.func 298) ?_;refine qR rfl rfl (nanI_spec _ _) ?_;try simp only[kA])|refine zW ?_|intro _)
  exact qE ⟨rfl,rfl,rfl⟩
 ·split
  ·repeat' (first|(refine Zb (.func 298) ?_;refine qR rfl rfl (nanI_spec _ _) ?_;try simp only[kA])|refine zW ?_|intro _)
   exact qE ⟨rfl,rfl,rfl⟩
  ·repeat' (first|(refine Zb (.func 298) ?_;refine qR rfl rfl (nanI_spec _ _) ?_;try simp only[kA])|refine zW ?_|intro _)
   exact qE ⟨rfl,rfl,rfl⟩
theorem cmpU_spec (ρ:Hp)(x y:Int):Spec prog 295 [.int .u16 x,.int .u16 y] ρ [] (λ v ρ' L'=>v=.int .i64 (cmpI x y)/\ρ'=ρ/\L'=[]):=by
 refine Za func295 rfl rfl rfl λ u R=>?_
 simp only[Zc,kA]
 unfold cmpI
 split
 ·repeat' (first|(refine Zb (.func 299) ?_;refine qR rfl rfl (nanU_spec _ _) ?_;try simp only[kA])|refine zW ?_|intro _)
  exact qE ⟨rfl,rfl,rfl⟩
 ·split
  ·repeat' (first|(refine Zb (.func 299) ?_;refine qR rfl rfl (nanU_spec _ _) ?_;try simp only[kA])|refine zW ?_|intro _)
   exact qE ⟨rfl,rfl,rfl⟩
  ·repeat' (first|(refine Zb (.func 299) ?_;refine qR rfl rfl (nanU_spec _ _) ?_;try simp only[kA])|refine zW ?_|intro _)
   exact qE ⟨rfl,rfl,rfl⟩
theorem or2_spec (ρ:Hp)(b:Nat)(x y:Int):Spec prog 293 [.slice (some ⟨b,0,none⟩) 2 2] ρ [[(b,.cells ⟨[.int .i64 x,.int .i64 y]⟩ 3 (0,0))]]
  (λ v ρ' L'=>v=.int .i64 (if x=0 then y else x)/\ρ'=ρ/\L'=[[(b,.cells ⟨[.int .i64 x,.int .i64 y]⟩ 3 (0,0))]]):=by
 refine Za func293 rfl rfl rfl λ u R=>?_
 simp only[Zc,kA]
 repeat' (first|refine zW ?_|intro _)
 refine lpG Nat [2,3,6,7] (λ z=>[(8,.int .i64 z)]) (λ z=>ρ) (λ z=>[]) (λ z=>z=0\/(z=1/\x=0)\/(z=2/\x=0/\y=0)) (λ z=>3-z) 0 (.inl rfl) ?_
 rintro k hI
 try simp only[kB] at hI ⊢
 try dsimp only at hI ⊢
 rcases hI with rfl|⟨rfl,rfl⟩|⟨rfl,rfl,rfl⟩
 ·by_cases h:x=0
  ·subst h
   repeat' (first|refine zW ?_|intro _)
   refine rnG (1) (.inr (.inl ⟨rfl,rfl⟩))
  ·rw[if_neg h]
   repeat' (first|refine zW ?_|intro _)
   exact qE ⟨rfl,rfl,rfl⟩
 ·by_cases h:y=0
  ·subst h
   repeat' (first|refine zW ?_|intro _)
   refine rnG (2) (.inr (.inr ⟨rfl,rfl,rfl⟩))
  ·repeat' (first|refine zW ?_|intro _)
   exact qE ⟨rfl,rfl,rfl⟩
 ·repeat' (first|refine zW ?_|intro _)
  exact qE ⟨rfl,rfl,rfl⟩
def Vv (t1:Int)(i1:Nat)(t2:Int)(i2:Nat):Int:=if cmpI t1 t2=0 then cmpI i1 i2 else cmpI t1 t2
theorem cmpK_lt (t1:Int)(i1:Nat)(t2:Int)(i2:Nat):Vv t1 i1 t2 i2<0↔t1<t2\/(t1=t2/\i1<i2):=by
 unfold Vv cmpI
 repeat' split
 all_goals omega
theorem YO (ρ:Hp)(t1:Int)(i1:Nat)(t2:Int)(i2:Nat):Spec prog 290 [.agg ⟨Vp t1 i1⟩,.agg ⟨Vp t2 i2⟩] ρ [] (λ v ρ' L'=>v=.int .i64 (Vv t1 i1 t2 i2)/\ρ'=ρ/\L'=[]):=by
 refine Za func290 rfl rfl rfl λ u R=>?_
 simp only[Zc,kA]
 repeat' (first|refine zW ?_|intro _)
 refine tpZ [0,1,2,3,5,6,7,8] (.e 4 [] (.e 9 [] (.e 10 [] (.e 11 [] (.f [12] .o))))) ?_
 repeat' (refine iT ?_;first|refine rA ?_|(refine rE ?_<;>((first|(refine Zb (.func 294) ?_;refine qR rfl rfl (cmpI_spec _ _ _) ?_;try simp only[kA])|(refine Zb (.func 295) ?_;refine qR rfl rfl (cmpU_spec _ _ _) ?_;try simp only[kA])|(refine Zl rfl rfl rfl rfl (by simp) rfl rfl (λ _=>?_))|(refine Zb (.func 293) ?_;refine qR rfl rfl (or2_spec _ _ _ _) ?_;try simp only[kA])|(refine qEf ?_;try intro _))<;>(try simp only[kA])<;>refine zN ?_)))
 all_goals (repeat' (first|refine zW ?_|intro _))
 all_goals exact qE ⟨rfl,rfl,rfl⟩
def Xi (r:Row):Bool:=decide ((0<=r.t/\r.t<3)/\r.note.length<=8)
theorem checkRow_spec (ρ:Hp)(r:Row):Spec prog 264 [.agg ⟨Yz r⟩] ρ [] (λ v ρ' L'=>v=.int .i64 (if Xi r then 0 else 151)/\ρ'=ρ/\L'=[]):=by
 obtain⟨t,id,val,note⟩:=r
 refine Za func264 rfl rfl rfl λ u R=>?_
 simp only[Zc,kA,Xi,decide_eq_true_eq]
 by_cases h1:0<=t/\t<3
 ·have hd:decide (0<=t/\t<3)=true:=decide_eq_true h1
  by_cases h2:note.length<=8
  ·rw[if_pos ⟨h1,h2⟩]
   repeat' (first|(refine Zb (.func 272) ?_;refine qR rfl rfl (WF _ _) ?_;try simp only[kA,hd])|refine zW ?_|intro _)
   exact qE ⟨rfl,rfl,rfl⟩
  ·rw[if_neg (λ h=>h2 h.2)]
   repeat' (first|(refine Zb (.func 272) ?_;refine qR rfl rfl (WF _ _) ?_;try simp only[kA,hd])|refine zW ?_|intro _)
   exact qE ⟨rfl,rfl,rfl⟩
 ·have hd:decide (0<=t/\t<3)=false:=decide_eq_false h1
  rw[if_neg (λ h=>h1 h.1)]
  repeat' (first|(refine Zb (.func 272) ?_;refine qR rfl rfl (WF _ _) ?_;try simp only[kA,hd])|refine zW ?_|intro _)
  exact qE ⟨rfl,rfl,rfl⟩
def ZA {α:Type}(most:Nat)(right:Nat->α->Bool)(lt:α->α->Bool)(l:List α):Nat->Bool
 | 0=>decide (l.length<=most)
 | k+1=>ZA most right lt l k && (match l[k]? with|some x=>right k x && (decide (k=0) || (match l[k-1]? with|some y=>lt y x|none=>false))|none=>false)
theorem Wj {α:Type}{most:Nat}{right:Nat->α->Bool}{lt:α->α->Bool}{l:List α}{k:Nat}(h:k<l.length):ZA most right lt l (k+1)=(ZA most right lt l k && (right k l[k] && (decide (k=0) || lt (l[k-1]'(by omega)) l[k]))):=by
 rw[ZA]
 simp[h,show k-1<l.length by omega]
theorem risesB_false {α:Type}{most:Nat}{right:Nat->α->Bool}{lt:α->α->Bool}{l:List α}{k:Nat}(h:ZA most right lt l k=false):∀m,ZA most right lt l (k+m)=false
 | 0=>h
 | m+1=>by rw[<-Nat.add_assoc,ZA,risesB_false h m];rfl
theorem XX {α:Type}{most:Nat}{right:Nat->α->Bool}{lt:α->α->Bool}{l:List α}{k n:Nat}(h:ZA most right lt l k=false)(hk:k<=n):ZA most right lt l n=false:=by
 have:=risesB_false h (n-k)
 rwa [Nat.add_sub_cancel' hk] at this
theorem WB (ρ:Hp)(r:Row):Spec prog 276 [.agg ⟨Yz r⟩] ρ [] (λ v ρ' L'=>v=.agg ⟨Vp r.t r.id⟩/\ρ'=ρ/\L'=[]):=by
 refine Za func276 rfl rfl rfl λ u R=>?_
 simp only[Zc,kA]
 repeat' (first|refine zW ?_|intro _)
 exact qE ⟨rfl,rfl,rfl⟩
theorem leaf2_spec (ρ:Hp)(i:Int)(r:Row):Spec prog 277 [.int .i64 i,.agg ⟨Yz r⟩] ρ [] (λ v ρ' L'=>v=.bool (Xi r)/\ρ'=ρ/\L'=[]):=by
 refine Za func277 rfl rfl rfl λ u R=>?_
 simp only[Zc,kA]
 cases h:Xi r
 ·repeat' (first|(refine Zb (.func 264) ?_;refine qR rfl rfl (checkRow_spec _ r) ?_;try simp only[kA,h,if_false,aB])|refine zW ?_|intro _)
  exact qE ⟨rfl,rfl,rfl⟩
 ·repeat' (first|(refine Zb (.func 264) ?_;refine qR rfl rfl (checkRow_spec _ r) ?_;try simp only[kA,h,if_true])|refine zW ?_|intro _)
  exact qE ⟨rfl,rfl,rfl⟩
def ltR (y x:Row):Bool:=decide (Vv y.t y.id x.t x.id<0)
def rowsOk (l:List Row):Bool:=ZA 4 (λ _ r=>Xi r) ltR l l.length
theorem rowV_len (r:Row):(Yz r).length=4:=rfl
theorem risesRow_spec (ρ:Hp)(a:Option Addr)(n c:Nat)(l:List Row)(h:AIn ρ 4 Yz a n l)(hn:n<=1000000) :
  Spec prog 275 [.slice a n c,.int .i64 4,.func (.func 276) ⟨[]⟩ ⟨[]⟩,.func (.func 277) ⟨[]⟩ ⟨[]⟩] ρ [] (λ v ρ' L'=>v=.bool (rowsOk l)/\ρ'=ρ/\L'=[]):=by
 have hl:=h.len
 unfold rowsOk
 rw[hl]
 refine Za func275 rfl rfl rfl λ u R=>?_
 simp only[Zc,kA]
 repeat' (first|refine zW ?_|intro _)
 have e0:decide ((n:Int)<=4)=ZA 4 (λ _ r=>Xi r) ltR l 0:=by
  rw[ZA];simp[hl];omega
 rw[e0]
 refine lpG Nat [0,2,3,8,16,17] (λ z=>[(18,.int .i64 z),(9,.bool (ZA 4 (λ _ r=>Xi r) ltR l z))]) (λ z=>ρ) (λ z=>[]) (λ z=>z<=n) (λ z=>n-z) 0 (aZ _) ?_
 rintro k hI
 try simp only[kB] at hI ⊢
 try dsimp only at hI ⊢
 by_cases hlt:k<n
 ·obtain⟨b,off,C,T,fr,rfl,hb,hfit,hc⟩:=h.get (show k<l.length by omega)
  have hs:=Wj (most:=4) (right:=λ _ r=>Xi r) (lt:=ltR) (show k<l.length by omega)
  have hfin:=λ (e:ZA 4 (λ _ r=>Xi r) ltR l (k+1)=false)=>XX e (show k+1<=n by omega)
  cases hok:ZA 4 (λ _ r=>Xi r) ltR l k
  ·rw[hok,Bool.false_and] at hs
   rw[hfin hs]
   generalize l[k]=x at *
   repeat' (first|refine zW ?_|intro _)
   refine tpZ [0,1,2,3,4] (.e 5 [6,7,8,9,10,11,12,13,14,15,16,18,19] (.e 17 [] (.e 20 [] (.e 21 [] (.f [22,23,24,25] .o))))) ?_
   repeat' (refine iT ?_;first|refine rA ?_|(refine rE ?_<;>((try refine ZX ?_);(first|refine qEf ?_)<;>(try simp only[kA])<;>refine zN ?_)))
   repeat' (first|refine zW ?_|intro _)
   exact qE ⟨rfl,rfl,rfl⟩
  ·rw[hok,Bool.true_and] at hs
   cases hx:Xi l[k]
   ·rw[hx,Bool.false_and] at hs
    rw[hfin hs]
    generalize l[k]=x at *
    repeat' (first|refine zW ?_|intro _)
    refine tpZ [0,1,2,3,4] (.e 5 [6,7,8,9,10,11,12,13,14,15,16,18,19] (.e 17 [] (.e 20 [] (.e 21 [] (.f [22,23,24,25] .o))))) ?_
    repeat' (refine iT ?_;first|refine rA ?_|(refine rE ?_<;>((try refine ZX ?_);(first|(refine Zb (.tmp 25) ?_;refine qR rfl rfl (leaf2_spec _ _ _) ?_;try simp only[kA,hx])|(refine Zb (.tmp 34) ?_;refine qR rfl rfl (WB _ _) ?_;try simp only[kA])|(refine Zb (.tmp 41) ?_;refine qR rfl rfl (WB _ _) ?_;try simp only[kA])|(refine Zb (.func 290) ?_;refine qR rfl rfl (YO _ _ _ _ _) ?_;try simp only[kA]))<;>(try simp only[kA])<;>refine zN ?_)))
    repeat' (first|refine zW ?_|intro _)
    exact qE ⟨rfl,rfl,rfl⟩
   ·rw[hx,Bool.true_and] at hs
    by_cases hk0:k=0
    ·have hs':ZA 4 (λ _ r=>Xi r) ltR l (k+1)=true:=by rw[hs];simp[hk0]
     generalize l[k]=x at *
     repeat' (first|refine zW ?_|intro _)
     refine tpZ [0,1,2,3,4] (.e 5 [6,7,8,9,10,11,12,13,14,15,16,18,19] (.e 17 [] (.e 20 [] (.e 21 [] (.f [22,23,24,25] .o))))) ?_
     repeat' (refine iT ?_;first|refine rA ?_|(refine rE ?_<;>((try refine ZX ?_);(first|(refine Zb (.tmp 25) ?_;refine qR rfl rfl (leaf2_spec _ _ _) ?_;try simp only[kA,hx])|(refine Zb (.tmp 34) ?_;refine qR rfl rfl (WB _ _) ?_;try simp only[kA])|(refine Zb (.tmp 41) ?_;refine qR rfl rfl (WB _ _) ?_;try simp only[kA])|(refine Zb (.func 290) ?_;refine qR rfl rfl (YO _ _ _ _ _) ?_;try simp only[kA]))<;>(try simp only[kA])<;>refine zN ?_)))
     repeat' (first|refine zW ?_|intro _)
     rw[<-hs']
     refine rnG (k+1) (hlt)
    ·have hd:decide (k=0)=false:=decide_eq_false hk0
     obtain⟨b2,off2,C2,T2,fr2,f1,hb2,hfit2,hc2⟩:=h.get (show k-1<l.length by omega)
     cases f1
     rw[hb] at hb2
     cases hb2
     have ek:((k:Int)-1).toNat=k-1:=by omega
     rw[<-ek] at hfit2
     have hc3:List.take 4 (List.drop (off+((k:Int)-1).toNat*4) C)=Yz (l[k-1]'(by omega)):=by rw[ek];exact hc2
     clear hc2
     rw[hd,Bool.false_or] at hs
     generalize l[k]=x at *
     generalize l[k-1]'(by omega)=y at *
     unfold ltR at hs
     by_cases hcm:Vv y.t y.id x.t x.id<0
     ·rw[decide_eq_true hcm] at hs
      repeat' (first|refine zW ?_|intro _)
      refine tpZ [0,1,2,3,4] (.e 5 [6,7,8,9,10,11,12,13,14,15,16,18,19] (.e 17 [] (.e 20 [] (.e 21 [] (.f [22,23,24,25] .o))))) ?_
      repeat' (refine iT ?_;first|refine rA ?_|(refine rE ?_<;>((try refine ZX ?_);(first|(refine Zb (.tmp 25) ?_;refine qR rfl rfl (leaf2_spec _ _ _) ?_;try simp only[kA,hx])|(refine Zb (.tmp 34) ?_;refine qR rfl rfl (WB _ _) ?_;try simp only[kA])|(refine Zb (.tmp 41) ?_;refine qR rfl rfl (WB _ _) ?_;try simp only[kA])|(refine Zb (.func 290) ?_;refine qR rfl rfl (YO _ _ _ _ _) ?_;try simp only[kA]))<;>(try simp only[kA])<;>refine zN ?_)))
      all_goals (repeat' (first|refine zW ?_|intro _))
      all_goals rw[<-hs]
      all_goals refine rnG (k+1) (hlt)
     ·rw[decide_eq_false hcm] at hs
      rw[hfin hs]
      repeat' (first|refine zW ?_|intro _)
      refine tpZ [0,1,2,3,4] (.e 5 [6,7,8,9,10,11,12,13,14,15,16,18,19] (.e 17 [] (.e 20 [] (.e 21 [] (.f [22,23,24,25] .o))))) ?_
      repeat' (refine iT ?_;first|refine rA ?_|(refine rE ?_<;>((try refine ZX ?_);(first|(refine Zb (.tmp 25) ?_;refine qR rfl rfl (leaf2_spec _ _ _) ?_;try simp only[kA,hx])|(refine Zb (.tmp 34) ?_;refine qR rfl rfl (WB _ _) ?_;try simp only[kA])|(refine Zb (.tmp 41) ?_;refine qR rfl rfl (WB _ _) ?_;try simp only[kA])|(refine Zb (.func 290) ?_;refine qR rfl rfl (YO _ _ _ _ _) ?_;try simp only[kA]))<;>(try simp only[kA])<;>refine zN ?_)))
      all_goals (repeat' (first|refine zW ?_|intro _))
      all_goals exact qE ⟨rfl,rfl,rfl⟩
 ·have hk2:k=n:=by omega
  subst hk2
  repeat' (first|refine zW ?_|intro _)
  exact qE ⟨rfl,rfl,rfl⟩
structure MetOk (es:List MapEntry)(ps:List Int):Prop where
 keys:ZP .i64 es
 get:∀p,Ym es p=if p∈ps then some (.bool true) else none
theorem MetOk.nil:MetOk [] []:=⟨by intro e he;simp at he,λ p=>by simp[Ym]⟩
def kidOk (i:Nat)(ps:List Int)(k:Kid):Bool:=decide (k.page ∉ ps/\0<k.page/\k.page<64/\(0<=k.t/\k.t<3)/\(0<i\/(k.t=0/\k.id=0)))
theorem kidV_len (r:Kid):(XD r).length=3:=rfl
theorem Wg (ρ:Hp)(r:Kid):Spec prog 279 [.agg ⟨XD r⟩] ρ [] (λ v ρ' L'=>v=.agg ⟨Vp r.t r.id⟩/\ρ'=ρ/\L'=[]):=by
 refine Za func279 rfl rfl rfl λ u R=>?_
 simp only[Zc,kA]
 repeat' (first|refine zW ?_|intro _)
 exact qE ⟨rfl,rfl,rfl⟩
abbrev metL (bx mb:Nat)(es:List MapEntry)(ck:Nat):SH:=[[(bx,.cells ⟨[.map (some mb)]⟩ 329 (0,0))],[(mb,.map ⟨es⟩ ck)]]
theorem inner2_spec (ρ:Hp)(bx mb:Nat)(es:List MapEntry)(ck:Nat)(ps:List Int)(hm:MetOk es ps)(i:Nat)(k:Kid):Spec prog 280 [.int .i64 i,.agg ⟨XD k⟩,.pointer (some ⟨bx,0,none⟩)] ρ (metL bx mb es ck)
  (λ v ρ' L'=>v=.bool (kidOk i ps k)/\ρ'=ρ/\∃es' ck',MetOk es' (k.page::ps)/\L'=metL bx mb es' ck'):=by
 obtain⟨t,id,page⟩:=k
 have hes:=hm.keys
 have hg:=hm.get page
 dsimp only at hg ⊢
 generalize hq:kidOk i ps ⟨t,id,page⟩=q
 have hfin:∀es',ZP .i64 es'->(∀j,Ym es' j=if j=page then some (.bool true) else Ym es j)->MetOk es' (page::ps):=λ es' h1 h2=>⟨h1,λ p=>by
  rw[h2 p,hm.get p]
  by_cases e:p=page<;>simp[e]⟩
 refine Za func280 rfl rfl rfl λ u R=>?_
 simp only[Zc,kA]
 by_cases hp:page∈ps
 ·rw[if_pos hp] at hg
  have hq':q=false:=by rw[<-hq];exact decide_eq_false (λ h=>h.1 hp)
  subst hq'
  repeat' (first|(refine YQ rfl rfl rfl hes (λ es' ck' h1 h2=>?_))|refine zW ?_|intro _)
  exact qE ⟨rfl,rfl,es',ck',hfin es' h1 h2,rfl⟩
 ·rw[if_neg hp] at hg
  by_cases hp0:0<page
  ·by_cases hp6:page<64
   ·by_cases ht:0<=t/\t<3
    ·have hd:decide (0<=t/\t<3)=true:=decide_eq_true ht
     by_cases hi:0<i
     ·have hq':q=true:=by rw[<-hq];exact decide_eq_true ⟨hp,hp0,hp6,ht,.inl hi⟩
      subst hq'
      repeat' (first|(refine YQ rfl rfl rfl hes (λ es' ck' h1 h2=>?_))|(refine Zb (.func 272) ?_;refine qR rfl rfl (WF _ _) ?_;try simp only[kA,hd])|refine zW ?_|intro _)
      exact qE ⟨rfl,rfl,es',ck',hfin es' h1 h2,rfl⟩
     ·by_cases hz:t=0/\id=0
      ·have hq':q=true:=by rw[<-hq];exact decide_eq_true ⟨hp,hp0,hp6,ht,.inr hz⟩
       subst hq'
       obtain⟨rfl,rfl⟩:=hz
       repeat' (first|(refine YQ rfl rfl rfl hes (λ es' ck' h1 h2=>?_))|(refine Zb (.func 272) ?_;refine qR rfl rfl (WF _ _) ?_;try simp only[kA,hd])|refine zW ?_|intro _)
       exact qE ⟨rfl,rfl,es',ck',hfin es' h1 h2,rfl⟩
      ·have hq':q=false:=by rw[<-hq];exact decide_eq_false (λ h=>h.2.2.2.2.elim hi hz)
       subst hq'
       have hk:((t == 0) && (((id:Int) == 0) && true))=false:=by
        simp;intro h;exact λ h'=>hz ⟨h,by omega⟩
       repeat' (first|(refine YQ rfl rfl rfl hes (λ es' ck' h1 h2=>?_))|(refine Zb (.func 272) ?_;refine qR rfl rfl (WF _ _) ?_;try simp only[kA,hd])|refine zW ?_|intro _)
       exact qE ⟨by first|rfl|exact congrArg Value.bool hk,rfl,es',ck',hfin es' h1 h2,rfl⟩
    ·have hd:decide (0<=t/\t<3)=false:=decide_eq_false ht
     have hq':q=false:=by rw[<-hq];exact decide_eq_false (λ h=>ht h.2.2.2.1)
     subst hq'
     repeat' (first|(refine YQ rfl rfl rfl hes (λ es' ck' h1 h2=>?_))|(refine Zb (.func 272) ?_;refine qR rfl rfl (WF _ _) ?_;try simp only[kA,hd])|refine zW ?_|intro _)
     exact qE ⟨rfl,rfl,es',ck',hfin es' h1 h2,rfl⟩
   ·have hq':q=false:=by rw[<-hq];exact decide_eq_false (λ h=>hp6 h.2.2.1)
    subst hq'
    repeat' (first|(refine YQ rfl rfl rfl hes (λ es' ck' h1 h2=>?_))|refine zW ?_|intro _)
    exact qE ⟨rfl,rfl,es',ck',hfin es' h1 h2,rfl⟩
  ·have hq':q=false:=by rw[<-hq];exact decide_eq_false (λ h=>hp0 h.2.1)
   subst hq'
   repeat' (first|(refine YQ rfl rfl rfl hes (λ es' ck' h1 h2=>?_))|refine zW ?_|intro _)
   exact qE ⟨rfl,rfl,es',ck',hfin es' h1 h2,rfl⟩
def psTo (l:List Kid)(k:Nat):List Int:=((l.take k).map Kid.page).reverse
theorem psTo_succ {l:List Kid}{k:Nat}(h:k<l.length):psTo l (k+1)=l[k].page::psTo l k:=by
 unfold psTo;rw[aG h,List.map_append,List.reverse_append];rfl
def ltK (y x:Kid):Bool:=decide (Vv y.t y.id x.t x.id<0)
def kidsOk (l:List Kid):Bool:=ZA 4 (λ i k=>kidOk i (psTo l i) k) ltK l l.length
theorem risesKid_spec (ρ:Hp)(a:Option Addr)(n c:Nat)(l:List Kid)(h:AIn ρ 3 XD a n l)(hn:n<=1000000)(bx mb ck0:Nat) :
  Spec prog 278 [.slice a n c,.int .i64 4,.func (.func 279) ⟨[]⟩ ⟨[]⟩,.func (.func 280) ⟨[]⟩ ⟨[.pointer (some ⟨bx,0,none⟩)]⟩] ρ (metL bx mb [] ck0) (λ v ρ' L'=>v=.bool (kidsOk l)/\ρ'=ρ/\L'=[]):=by
 have hl:=h.len
 unfold kidsOk
 rw[hl]
 refine Za func278 rfl rfl rfl λ u R=>?_
 simp only[Zc,kA]
 generalize hr:(λ (i:Nat) (k:Kid)=>kidOk i (psTo l i) k)=rt
 repeat' (first|refine zW ?_|intro _)
 have e0:decide ((n:Int)<=4)=ZA 4 rt ltK l 0:=by
  rw[ZA];simp[hl];omega
 rw[e0]
 refine lpG (Nat×(List MapEntry)×Nat) [0,2,3,8,16,17] (λ z=>[(18,.int .i64 z.1),(9,.bool (ZA 4 rt ltK l z.1))]) (λ z=>ρ) (λ z=>metL bx mb z.2.1 z.2.2) (λ z=>z.1<=n/\MetOk z.2.1 (psTo l z.1)) (λ z=>n-z.1) (0,[],ck0) ⟨aZ _,MetOk.nil⟩ ?_
 rintro⟨k,es,ck⟩ hI
 try simp only[kB] at hI ⊢
 try dsimp only at hI ⊢
 obtain⟨hI,hm⟩:=hI
 by_cases hlt:k<n
 ·obtain⟨b,off,C,T,fr,rfl,hb,hfit,hc⟩:=h.get (show k<l.length by omega)
  have hs:=Wj (most:=4) (right:=rt) (lt:=ltK) (show k<l.length by omega)
  have hfin:=λ (e:ZA 4 rt ltK l (k+1)=false)=>XX e (show k+1<=n by omega)
  have hps:=psTo_succ (show k<l.length by omega)
  have hrk:rt k l[k]=kidOk k (psTo l k) l[k]:=by rw[<-hr]
  cases hok:ZA 4 rt ltK l k
  ·rw[hok,Bool.false_and] at hs
   rw[hfin hs]
   generalize l[k]=x at *
   repeat' (first|refine zW ?_|intro _)
   rename_i b11
   refine Yt [0,1,2,3,4] (.e 5 [6,7,8,9,10,11,12,13,14,15,16,18,19] (.e 17 [] (.e 20 [] (.e 21 [] (.f [22,23,24,25] .o))))) ([[(b11,.cells ⟨XD x⟩ 227 (0,0))]]) ?_
   repeat' (refine iT ?_;first|refine rA ?_|(refine rE ?_<;>((try refine ZX ?_);(first|refine qEf ?_)<;>(try simp only[kA])<;>refine zN ?_)))
   repeat' (first|refine zW ?_|intro _)
   exact qE ⟨rfl,rfl,rfl⟩
  ·rw[hok,Bool.true_and,hrk] at hs
   cases hx:kidOk k (psTo l k) l[k]
   ·rw[hx,Bool.false_and] at hs
    rw[hfin hs]
    generalize l[k]=x at *
    repeat' (first|refine zW ?_|intro _)
    rename_i b11
    refine Yt [0,1,2,3,4] (.e 5 [6,7,8,9,10,11,12,13,14,15,16,18,19] (.e 17 [] (.e 20 [] (.e 21 [] (.f [22,23,24,25] .o))))) ([[(b11,.cells ⟨XD x⟩ 227 (0,0))]]) ?_
    repeat' (refine iT ?_;first|refine rA ?_|(refine rE ?_<;>((try refine ZX ?_);(first|(refine Zb (.tmp 25) ?_;refine qC rfl rfl (inner2_spec _ bx mb es ck _ hm k x) ?_;rintro v ρ' L' hle ⟨rfl,rfl,es',ck',hm',rfl⟩<;>(try simp only[kA,hx]))|(refine Zb (.tmp 34) ?_;refine qR rfl rfl (Wg _ _) ?_;try simp only[kA])|(refine Zb (.tmp 41) ?_;refine qR rfl rfl (Wg _ _) ?_;try simp only[kA])|(refine Zb (.func 290) ?_;refine qR rfl rfl (YO _ _ _ _ _) ?_;try simp only[kA]))<;>(try simp only[kA])<;>refine zN ?_)))
    repeat' (first|refine zW ?_|intro _)
    exact qE ⟨rfl,rfl,rfl⟩
   ·rw[hx,Bool.true_and] at hs
    by_cases hk0:k=0
    ·have hs':ZA 4 rt ltK l (k+1)=true:=by rw[hs];simp[hk0]
     generalize l[k]=x at *
     repeat' (first|refine zW ?_|intro _)
     rename_i b11
     refine Yt [0,1,2,3,4] (.e 5 [6,7,8,9,10,11,12,13,14,15,16,18,19] (.e 17 [] (.e 20 [] (.e 21 [] (.f [22,23,24,25] .o))))) ([[(b11,.cells ⟨XD x⟩ 227 (0,0))]]) ?_
     repeat' (refine iT ?_;first|refine rA ?_|(refine rE ?_<;>((try refine ZX ?_);(first|(refine Zb (.tmp 25) ?_;refine qC rfl rfl (inner2_spec _ bx mb es ck _ hm k x) ?_;rintro v ρ' L' hle ⟨rfl,rfl,es',ck',hm',rfl⟩<;>(try simp only[kA,hx]))|(refine Zb (.tmp 34) ?_;refine qR rfl rfl (Wg _ _) ?_;try simp only[kA])|(refine Zb (.tmp 41) ?_;refine qR rfl rfl (Wg _ _) ?_;try simp only[kA])|(refine Zb (.func 290) ?_;refine qR rfl rfl (YO _ _ _ _ _) ?_;try simp only[kA]))<;>(try simp only[kA])<;>refine zN ?_)))
     repeat' (first|refine zW ?_|intro _)
     rw[<-hs']
     refine rnG (k+1,es',ck') (⟨hlt,by dsimp only;rw[hps];exact hm'⟩)
    ·have hd:decide (k=0)=false:=decide_eq_false hk0
     obtain⟨b2,off2,C2,T2,fr2,f1,hb2,hfit2,hc2⟩:=h.get (show k-1<l.length by omega)
     cases f1
     rw[hb] at hb2
     cases hb2
     have ek:((k:Int)-1).toNat=k-1:=by omega
     rw[<-ek] at hfit2
     have hc3:List.take 3 (List.drop (off+((k:Int)-1).toNat*3) C)=XD (l[k-1]'(by omega)):=by rw[ek];exact hc2
     clear hc2
     rw[hd,Bool.false_or] at hs
     generalize l[k]=x at *
     generalize l[k-1]'(by omega)=y at *
     unfold ltK at hs
     by_cases hcm:Vv y.t y.id x.t x.id<0
     ·rw[decide_eq_true hcm] at hs
      repeat' (first|refine zW ?_|intro _)
      rename_i b11
      refine Yt [0,1,2,3,4] (.e 5 [6,7,8,9,10,11,12,13,14,15,16,18,19] (.e 17 [] (.e 20 [] (.e 21 [] (.f [22,23,24,25] .o))))) ([[(b11,.cells ⟨XD x⟩ 227 (0,0))]]) ?_
      repeat' (refine iT ?_;first|refine rA ?_|(refine rE ?_<;>((try refine ZX ?_);(first|(refine Zb (.tmp 25) ?_;refine qC rfl rfl (inner2_spec _ bx mb es ck _ hm k x) ?_;rintro v ρ' L' hle ⟨rfl,rfl,es',ck',hm',rfl⟩<;>(try simp only[kA,hx]))|(refine Zb (.tmp 34) ?_;refine qR rfl rfl (Wg _ _) ?_;try simp only[kA])|(refine Zb (.tmp 41) ?_;refine qR rfl rfl (Wg _ _) ?_;try simp only[kA])|(refine Zb (.func 290) ?_;refine qR rfl rfl (YO _ _ _ _ _) ?_;try simp only[kA]))<;>(try simp only[kA])<;>refine zN ?_)))
      all_goals (repeat' (first|refine zW ?_|intro _))
      all_goals rw[<-show ZA 4 rt ltK l (k+1)=true from hs]
      all_goals refine rnG (k+1,es',ck') (⟨hlt,by dsimp only;rw[hps];exact hm'⟩)
     ·rw[decide_eq_false hcm] at hs
      rw[hfin hs]
      repeat' (first|refine zW ?_|intro _)
      rename_i b11
      refine Yt [0,1,2,3,4] (.e 5 [6,7,8,9,10,11,12,13,14,15,16,18,19] (.e 17 [] (.e 20 [] (.e 21 [] (.f [22,23,24,25] .o))))) ([[(b11,.cells ⟨XD x⟩ 227 (0,0))]]) ?_
      repeat' (refine iT ?_;first|refine rA ?_|(refine rE ?_<;>((try refine ZX ?_);(first|(refine Zb (.tmp 25) ?_;refine qC rfl rfl (inner2_spec _ bx mb es ck _ hm k x) ?_;rintro v ρ' L' hle ⟨rfl,rfl,es',ck',hm',rfl⟩<;>(try simp only[kA,hx]))|(refine Zb (.tmp 34) ?_;refine qR rfl rfl (Wg _ _) ?_;try simp only[kA])|(refine Zb (.tmp 41) ?_;refine qR rfl rfl (Wg _ _) ?_;try simp only[kA])|(refine Zb (.func 290) ?_;refine qR rfl rfl (YO _ _ _ _ _) ?_;try simp only[kA]))<;>(try simp only[kA])<;>refine zN ?_)))
      all_goals (repeat' (first|refine zW ?_|intro _))
      all_goals exact qE ⟨rfl,rfl,rfl⟩
 ·have hk2:k=n:=by omega
  subst hk2
  repeat' (first|refine zW ?_|intro _)
  exact qE ⟨rfl,rfl,rfl⟩
structure CV where
 ra:Option Addr
 rn:Nat
 rc:Nat
 ka:Option Addr
 kn:Nat
 kc:Nat
structure ZO where
 kind:Int
 rows:List Row
 kids:List Kid
deriving DecidableEq
abbrev Yv (k:Int)(v:CV):List Value:=[.int .i64 k,.slice v.ra v.rn v.rc,.slice v.ka v.kn v.kc]
structure CIn (ρ:Hp)(v:CV)(rows:List Row)(kids:List Kid):Prop where
 r:AIn ρ 4 Yz v.ra v.rn rows
 k:AIn ρ 3 XD v.ka v.kn kids
 rb:v.rn<=1000000
 kb:v.kn<=1000000
 rc:v.rn<=v.rc
 kc:v.kn<=v.kc
theorem CIn.mono {ρ ρ' v rows kids}(h:CIn ρ v rows kids)(hle:ρ.le ρ'):CIn ρ' v rows kids:=⟨h.r.mono hle,h.k.mono hle,h.rb,h.kb,h.rc,h.kc⟩
theorem leafc_spec (ρ:Hp)(a:Option Addr)(n c:Nat)(l:List Row)(h:AIn ρ 4 Yz a n l)(hn:n<=1000000):Spec prog 248 [.slice a n c] ρ [] (λ v ρ' L'=>v=.bool (rowsOk l)/\ρ'=ρ/\L'=[]):=by
 refine Za func248 rfl rfl rfl λ u R=>?_
 simp only[Zc,kA]
 repeat' (first|(refine Zb (.func 275) ?_;refine qR rfl rfl (risesRow_spec _ a n c l h hn) ?_;try simp only[kA])|refine zW ?_|intro _)
 exact qE ⟨rfl,rfl,rfl⟩
theorem innerc_spec (ρ:Hp)(a:Option Addr)(n c:Nat)(l:List Kid)(h:AIn ρ 3 XD a n l)(hn:n<=1000000):Spec prog 249 [.slice a n c] ρ [] (λ v ρ' L'=>v=.bool (decide (1<n) && kidsOk l)/\ρ'=ρ/\L'=[]):=by
 refine Za func249 rfl rfl rfl λ u R=>?_
 simp only[Zc,kA]
 by_cases h1:1<n
 ·rw[decide_eq_true h1,Bool.true_and]
  repeat' (first|(refine Zb (.func 278) ?_;refine qR rfl rfl (risesKid_spec _ a n c l h hn _ _ _) ?_;try simp only[kA])|refine zW ?_|intro _)
  exact qE ⟨rfl,rfl,rfl⟩
 ·rw[decide_eq_false h1,Bool.false_and]
  repeat' (first|refine zW ?_|intro _)
  exact qE ⟨rfl,rfl,rfl⟩
def Zp (c:ZO):Bool:=
 if c.kind=0 then decide (c.rows.length+c.kids.length=0)
 else if c.kind=1 then decide (c.kids.length=0) && rowsOk c.rows
 else if c.kind=2 then decide (c.rows.length=0) && (decide (1<c.kids.length) && kidsOk c.kids)
 else false
theorem Xn (ρ:Hp)(v:CV)(c:ZO)(h:CIn ρ v c.rows c.kids):Spec prog 205 [.agg ⟨Yv c.kind v⟩] ρ [] (λ r ρ' L'=>r=.int .i64 (if Zp c then 0 else 160)/\ρ'=ρ/\L'=[]):=by
 obtain⟨kind,rows,kids⟩:=c
 obtain⟨ra,rn,rc,ka,kn,kc⟩:=v
 obtain⟨hr,hk,hrb,hkb,_,_⟩:=h
 dsimp only at hr hk hrb hkb
 have hrl:=hr.len
 have hkl:=hk.len
 have hrs:=leafc_spec ρ ra rn rc rows hr hrb
 have hks:=innerc_spec ρ ka kn kc kids hk hkb
 generalize hq:Zp ⟨kind,rows,kids⟩=q
 unfold Zp at hq
 simp only[hrl,hkl] at hq
 refine Za func205 rfl rfl rfl λ u R=>?_
 simp only[Zc,kA]
 by_cases k0:kind=0
 ·rw[if_pos k0] at hq
  by_cases hz:rn+kn=0
  ·rw[decide_eq_true hz] at hq
   subst hq
   repeat' (first|refine zW ?_|intro _)
   exact qE ⟨rfl,rfl,rfl⟩
  ·rw[decide_eq_false hz] at hq
   subst hq
   repeat' (first|refine zW ?_|intro _)
   exact qE ⟨rfl,rfl,rfl⟩
 ·rw[if_neg k0] at hq
  by_cases k1:kind=1
  ·rw[if_pos k1] at hq
   by_cases hz:kn=0
   ·rw[decide_eq_true hz,Bool.true_and] at hq
    rw[hq] at hrs
    cases q
    all_goals (repeat' (first|(refine Zb (.func 248) ?_;refine qR rfl rfl (hrs) ?_;try simp only[kA])|refine zW ?_|intro _))
    all_goals exact qE ⟨rfl,rfl,rfl⟩
   ·rw[decide_eq_false hz,Bool.false_and] at hq
    subst hq
    repeat' (first|refine zW ?_|intro _)
    exact qE ⟨rfl,rfl,rfl⟩
  ·rw[if_neg k1] at hq
   by_cases k2:kind=2
   ·rw[if_pos k2] at hq
    by_cases hz:rn=0
    ·rw[decide_eq_true hz,Bool.true_and] at hq
     rw[hq] at hks
     cases q
     all_goals (repeat' (first|(refine Zb (.func 249) ?_;refine qR rfl rfl (hks) ?_;try simp only[kA])|refine zW ?_|intro _))
     all_goals exact qE ⟨rfl,rfl,rfl⟩
    ·rw[decide_eq_false hz,Bool.false_and] at hq
     subst hq
     repeat' (first|refine zW ?_|intro _)
     exact qE ⟨rfl,rfl,rfl⟩
   ·rw[if_neg k2] at hq
    subst hq
    repeat' (first|refine zW ?_|intro _)
    exact qE ⟨rfl,rfl,rfl⟩
def XM {α:Type}(f:List UInt8->Int->Bool->α×Yu):Nat->List UInt8->Int->Bool->List α×Yu
 | 0,l,st,bad=>([],l,st,bad)
 | n+1,l,st,bad=>if !bad && decide (st=0) then ((f l st bad).1::(XM f n (f l st bad).2.1 (f l st bad).2.2.1 (f l st bad).2.2.2).1,(XM f n (f l st bad).2.1 (f l st bad).2.2.1 (f l st bad).2.2.2).2) else ([],l,st,bad)
theorem manyTo_stop {α:Type}{f:List UInt8->Int->Bool->α×Yu}{n:Nat}{l:List UInt8}{st:Int}{bad:Bool}(h:(!bad && decide (st=0))=false):XM f n l st bad=([],l,st,bad):=by
 cases n with
 | zero=>rfl
 | succ n=>rw[XM,h];rfl
def Xl {α:Type}(f:List UInt8->Int->Bool->α×Yu)(l:List UInt8)(st:Int)(bad:Bool):List α×Yu:=
 XM f (Yc 1 l st).1 (Yc 1 l st).2.1 (Yc 1 l st).2.2 (XK bad (Yc 1 l st).2.2 (decide (((Yc 1 l st).1:Int)<=4)))
theorem manyRow_spec (ρ:Hp)(bt br:Nat)(all:Int)(bad:Bool)(vk vr vs:Value)(a:Option Addr)(n c:Nat)(l:List UInt8)(h:SIn ρ Zk a n l)(hc:n<=c)(st:Int) :
  Spec prog 287 [.pointer (some ⟨bt,0,none⟩),.int .i64 4,.func (.func 245) ⟨[.pointer (some ⟨bt,0,none⟩)]⟩ ⟨[]⟩] ρ [tkC bt br all bad vk vr vs,rdC br a n c st]
   (λ v ρ' L'=>ρ.le ρ'/\∃sa sn sc a' n' c',v=.slice sa sn sc/\sn<=sc/\sn<=255/\AIn ρ' 4 Yz sa sn (Xl WA l st bad).1/\SIn ρ' Zk a' n' (Xl WA l st bad).2.1/\n'<=c'/\L'=[tkC bt br all (Xl WA l st bad).2.2.2 vk vr vs,rdC br a' n' c' (Xl WA l st bad).2.2.1]):=by
 have hn1:=u8_spec ρ br a n c l h hc st
 have hb1:=Wm 1 l st
 generalize hq:Xl WA l st bad=q
 unfold Xl at hq
 generalize Yc 1 l st=r1 at *
 obtain⟨x1,l1,st1⟩:=r1
 dsimp only at hq hn1 hb1
 have hb255:x1<256:=by simpa using hb1
 generalize hB1:XK bad st1 (decide ((x1:Int)<=4))=b1 at *
 refine Za func287 rfl rfl rfl λ u R=>?_
 simp only[Zc,kA]
 repeat' (first|(refine Zb (.func 124) ?_;refine qC rfl rfl (hn1) ?_;rintro v ρ' L' hle ⟨rfl,rfl,a1,n1,c1,h1,hc1,rfl⟩<;>(try simp only[kA]))|(refine Zb (.func 268) ?_;refine qC rfl rfl (Xv _ bt br all bad vk vr vs a1 n1 c1 st1 (decide ((x1:Int)<=4))) ?_;rintro v ρ' L' hle ⟨rfl,rfl,rfl⟩<;>(try simp only[kA,hB1]))|refine zW ?_|intro _)
 refine lpG (Nat×Hp×Value×(List Value)×(List Row)×(Option Addr)×Nat×Nat×(List UInt8)×Int×Bool) [0,2,6,7] (λ z=>[(9,.int .i64 z.1),(8,z.2.2.1)]) (λ z=>z.2.1) (λ z=>[ZG z.2.2.1 ((z.2.2.2.2.1.map Yz).flatten) z.2.2.2.1 171,tkC bt br all z.2.2.2.2.2.2.2.2.2.2 vk vr vs,rdC br z.2.2.2.2.2.1 z.2.2.2.2.2.2.1 z.2.2.2.2.2.2.2.1 z.2.2.2.2.2.2.2.2.2.1]) (λ z=>z.1<=x1/\ρ'.le z.2.1/\OwnS z.2.2.1 z.1 ((z.2.2.2.2.1.map Yz).flatten) z.2.2.2.1 4/\z.2.2.2.2.1.length=z.1/\SIn z.2.1 Zk z.2.2.2.2.2.1 z.2.2.2.2.2.2.1 z.2.2.2.2.2.2.2.2.1/\z.2.2.2.2.2.2.1<=z.2.2.2.2.2.2.2.1/\q=(z.2.2.2.2.1++(XM WA (x1-z.1) z.2.2.2.2.2.2.2.2.1 z.2.2.2.2.2.2.2.2.2.1 z.2.2.2.2.2.2.2.2.2.2).1,(XM WA (x1-z.1) z.2.2.2.2.2.2.2.2.1 z.2.2.2.2.2.2.2.2.2.1 z.2.2.2.2.2.2.2.2.2.2).2)) (λ z=>x1-z.1) (0,ρ',.slice none 0 0,[],[],a1,n1,c1,l1,st1,b1) ⟨aZ _,Hp.le_refl _,OwnS.nil 4,rfl,h1,hc1,by simp[hq]⟩ ?_
 rintro⟨i,ρ1,v,sp,acc,a2,n2,c2,l2,st2,bad2⟩ hI
 try simp only[kB] at hI ⊢
 try dsimp only at hI ⊢
 obtain⟨hi,hle1,hown,hal,h2,hc2,hq2⟩:=hI
 obtain⟨va,vc,rfl,_⟩:=hown.len
 have hg:∀x∈acc,(Yz x).length=4:=λ x _=>rowV_len x
 by_cases hlt:i<x1
 ·cases hok:(!bad2 && decide (st2=0))
  ·rw[manyTo_stop hok] at hq2
   simp only[aN] at hq2
   subst hq2
   repeat' (first|(refine Zb (.func 271) ?_;refine qC rfl rfl (ok_spec _ bt br all bad2 vk vr vs a2 n2 c2 st2) ?_;rintro v ρ' L' hle ⟨rfl,rfl,rfl⟩<;>(try simp only[kA,hok]))|refine zW ?_|intro _)
   refine ZB (ZG (.slice va i vc) ((acc.map Yz).flatten) sp 171) (λ ρ3 hle3 hfz=>?_)
   obtain⟨sa,sc,e1,hsc,hA⟩:=hown.aIn hal hg hfz
   cases e1
   exact qE ⟨Hp.le_trans hle1 hle3,_,_,_,a2,n2,c2,rfl,hsc,by omega,hA,h2.mono hle3,hc2,rfl⟩
  ·rw[show x1-i=(x1-(i+1))+1 by omega,XM,if_pos hok] at hq2
   have hrow:=λ ρ h=>trow_spec ρ bt br all bad2 vk vr vs a2 n2 c2 l2 h hc2 st2
   generalize WA l2 st2 bad2=r at *
   obtain⟨x,l3,st3,bad3⟩:=r
   dsimp only at hq2 hrow
   repeat' (first|(refine Zb (.func 271) ?_;refine qC rfl rfl (ok_spec _ bt br all bad2 vk vr vs a2 n2 c2 st2) ?_;rintro v ρ' L' hle ⟨rfl,rfl,rfl⟩<;>(try simp only[kA,hok]))|(refine Zb (.tmp 31) ?_;refine qC rfl rfl (hrow _ h2) ?_;rintro v ρ' L' hle ⟨rfl,hle3,a3,n3,c3,h3,hc3,rfl⟩<;>(try simp only[kA]))|refine zW ?_|intro _)
   refine Ys (css:=[Yz x]) (sz:=4) rfl rfl rfl rfl (by simp) (by simp) rfl (λ bs=>?_)
   simp only[aF,List.flatten_nil,aN]
   refine YA (ys:=Yz x) (m:=1) rfl rfl hown (hR:=by infer_instance) (SrcV.lit) rfl rfl (by decide) rfl (by omega) (by omega) rfl (λ v' sp' hown'=>?_)
   have hm:(acc.map Yz).flatten++Yz x=((acc++[x]).map Yz).flatten:=by simp
   rw[hm] at hown' ⊢
   repeat' (first|refine zW ?_|intro _)
   refine rnG (i+1,_,v',sp',acc++[x],a3,n3,c3,l3,st3,bad3) (⟨hlt,Hp.le_trans hle1 hle3,hown',by simp[hal],h3,hc3,by rw[hq2];simp⟩)
 ·have hi2:i=x1:=by omega
  subst hi2
  rw[Nat.sub_self,XM] at hq2
  simp only[aN] at hq2
  subst hq2
  repeat' (first|refine zW ?_|intro _)
  refine ZB (ZG (.slice va i vc) ((acc.map Yz).flatten) sp 171) (λ ρ3 hle3 hfz=>?_)
  obtain⟨sa,sc,e1,hsc,hA⟩:=hown.aIn hal hg hfz
  cases e1
  exact qE ⟨Hp.le_trans hle1 hle3,_,_,_,a2,n2,c2,rfl,hsc,by omega,hA,h2.mono hle3,hc2,rfl⟩
def XY (l:List UInt8)(st:Int)(bad:Bool):Kid×Yu:=((kidR l st).1,(kidR l st).2.1,(kidR l st).2.2,bad)
theorem tkidB_spec (ρ:Hp)(bt br:Nat)(all:Int)(bad:Bool)(vk vr vs:Value)(a:Option Addr)(n c:Nat)(l:List UInt8)(h:SIn ρ Zk a n l)(hc:n<=c)(st:Int) :
  Spec prog 289 [.pointer (some ⟨bt,0,none⟩)] ρ [tkC bt br all bad vk vr vs,rdC br a n c st]
   (λ v ρ' L'=>v=.agg ⟨XD (XY l st bad).1⟩/\ρ.le ρ'/\∃a' n' c',SIn ρ' Zk a' n' (XY l st bad).2.1/\n'<=c'/\L'=[tkC bt br all (XY l st bad).2.2.2 vk vr vs,rdC br a' n' c' (XY l st bad).2.2.1]):=by
 refine (tkid_spec ρ bt br all bad vk vr vs a n c l h hc st).mono ?_
 rintro v ρ' L' hle ⟨h1,h2,h3⟩
 exact⟨h1,hle,h3⟩
theorem manyKid_spec (ρ:Hp)(bt br:Nat)(all:Int)(bad:Bool)(vk vr vs:Value)(a:Option Addr)(n c:Nat)(l:List UInt8)(h:SIn ρ Zk a n l)(hc:n<=c)(st:Int) :
  Spec prog 288 [.pointer (some ⟨bt,0,none⟩),.int .i64 4,.func (.func 289) ⟨[.pointer (some ⟨bt,0,none⟩)]⟩ ⟨[]⟩] ρ [tkC bt br all bad vk vr vs,rdC br a n c st]
   (λ v ρ' L'=>ρ.le ρ'/\∃sa sn sc a' n' c',v=.slice sa sn sc/\sn<=sc/\sn<=255/\AIn ρ' 3 XD sa sn (Xl XY l st bad).1/\SIn ρ' Zk a' n' (Xl XY l st bad).2.1/\n'<=c'/\L'=[tkC bt br all (Xl XY l st bad).2.2.2 vk vr vs,rdC br a' n' c' (Xl XY l st bad).2.2.1]):=by
 have hn1:=u8_spec ρ br a n c l h hc st
 have hb1:=Wm 1 l st
 generalize hq:Xl XY l st bad=q
 unfold Xl at hq
 generalize Yc 1 l st=r1 at *
 obtain⟨x1,l1,st1⟩:=r1
 dsimp only at hq hn1 hb1
 have hb255:x1<256:=by simpa using hb1
 generalize hB1:XK bad st1 (decide ((x1:Int)<=4))=b1 at *
 refine Za func288 rfl rfl rfl λ u R=>?_
 simp only[Zc,kA]
 repeat' (first|(refine Zb (.func 124) ?_;refine qC rfl rfl (hn1) ?_;rintro v ρ' L' hle ⟨rfl,rfl,a1,n1,c1,h1,hc1,rfl⟩<;>(try simp only[kA]))|(refine Zb (.func 268) ?_;refine qC rfl rfl (Xv _ bt br all bad vk vr vs a1 n1 c1 st1 (decide ((x1:Int)<=4))) ?_;rintro v ρ' L' hle ⟨rfl,rfl,rfl⟩<;>(try simp only[kA,hB1]))|refine zW ?_|intro _)
 refine lpG (Nat×Hp×Value×(List Value)×(List Kid)×(Option Addr)×Nat×Nat×(List UInt8)×Int×Bool) [0,2,6,7] (λ z=>[(9,.int .i64 z.1),(8,z.2.2.1)]) (λ z=>z.2.1) (λ z=>[ZG z.2.2.1 ((z.2.2.2.2.1.map XD).flatten) z.2.2.2.1 227,tkC bt br all z.2.2.2.2.2.2.2.2.2.2 vk vr vs,rdC br z.2.2.2.2.2.1 z.2.2.2.2.2.2.1 z.2.2.2.2.2.2.2.1 z.2.2.2.2.2.2.2.2.2.1]) (λ z=>z.1<=x1/\ρ'.le z.2.1/\OwnS z.2.2.1 z.1 ((z.2.2.2.2.1.map XD).flatten) z.2.2.2.1 3/\z.2.2.2.2.1.length=z.1/\SIn z.2.1 Zk z.2.2.2.2.2.1 z.2.2.2.2.2.2.1 z.2.2.2.2.2.2.2.2.1/\z.2.2.2.2.2.2.1<=z.2.2.2.2.2.2.2.1/\q=(z.2.2.2.2.1++(XM XY (x1-z.1) z.2.2.2.2.2.2.2.2.1 z.2.2.2.2.2.2.2.2.2.1 z.2.2.2.2.2.2.2.2.2.2).1,(XM XY (x1-z.1) z.2.2.2.2.2.2.2.2.1 z.2.2.2.2.2.2.2.2.2.1 z.2.2.2.2.2.2.2.2.2.2).2)) (λ z=>x1-z.1) (0,ρ',.slice none 0 0,[],[],a1,n1,c1,l1,st1,b1) ⟨aZ _,Hp.le_refl _,OwnS.nil 3,rfl,h1,hc1,by simp[hq]⟩ ?_
 rintro⟨i,ρ1,v,sp,acc,a2,n2,c2,l2,st2,bad2⟩ hI
 try simp only[kB] at hI ⊢
 try dsimp only at hI ⊢
 obtain⟨hi,hle1,hown,hal,h2,hc2,hq2⟩:=hI
 obtain⟨va,vc,rfl,_⟩:=hown.len
 have hg:∀x∈acc,(XD x).length=3:=λ x _=>kidV_len x
 by_cases hlt:i<x1
 ·cases hok:(!bad2 && decide (st2=0))
  ·rw[manyTo_stop hok] at hq2
   simp only[aN] at hq2
   subst hq2
   repeat' (first|(refine Zb (.func 271) ?_;refine qC rfl rfl (ok_spec _ bt br all bad2 vk vr vs a2 n2 c2 st2) ?_;rintro v ρ' L' hle ⟨rfl,rfl,rfl⟩<;>(try simp only[kA,hok]))|refine zW ?_|intro _)
   refine ZB (ZG (.slice va i vc) ((acc.map XD).flatten) sp 227) (λ ρ3 hle3 hfz=>?_)
   obtain⟨sa,sc,e1,hsc,hA⟩:=hown.aIn hal hg hfz
   cases e1
   exact qE ⟨Hp.le_trans hle1 hle3,_,_,_,a2,n2,c2,rfl,hsc,by omega,hA,h2.mono hle3,hc2,rfl⟩
  ·rw[show x1-i=(x1-(i+1))+1 by omega,XM,if_pos hok] at hq2
   have hrow:=λ ρ h=>tkidB_spec ρ bt br all bad2 vk vr vs a2 n2 c2 l2 h hc2 st2
   generalize XY l2 st2 bad2=r at *
   obtain⟨x,l3,st3,bad3⟩:=r
   dsimp only at hq2 hrow
   repeat' (first|(refine Zb (.func 271) ?_;refine qC rfl rfl (ok_spec _ bt br all bad2 vk vr vs a2 n2 c2 st2) ?_;rintro v ρ' L' hle ⟨rfl,rfl,rfl⟩<;>(try simp only[kA,hok]))|(refine Zb (.tmp 31) ?_;refine qC rfl rfl (hrow _ h2) ?_;rintro v ρ' L' hle ⟨rfl,hle3,a3,n3,c3,h3,hc3,rfl⟩<;>(try simp only[kA]))|refine zW ?_|intro _)
   refine Ys (css:=[XD x]) (sz:=3) rfl rfl rfl rfl (by simp) (by simp) rfl (λ bs=>?_)
   simp only[aF,List.flatten_nil,aN]
   refine YA (ys:=XD x) (m:=1) rfl rfl hown (hR:=by infer_instance) (SrcV.lit) rfl rfl (by decide) rfl (by omega) (by omega) rfl (λ v' sp' hown'=>?_)
   have hm:(acc.map XD).flatten++XD x=((acc++[x]).map XD).flatten:=by simp
   rw[hm] at hown' ⊢
   repeat' (first|refine zW ?_|intro _)
   refine rnG (i+1,_,v',sp',acc++[x],a3,n3,c3,l3,st3,bad3) (⟨hlt,Hp.le_trans hle1 hle3,hown',by simp[hal],h3,hc3,by rw[hq2];simp⟩)
 ·have hi2:i=x1:=by omega
  subst hi2
  rw[Nat.sub_self,XM] at hq2
  simp only[aN] at hq2
  subst hq2
  repeat' (first|refine zW ?_|intro _)
  refine ZB (ZG (.slice va i vc) ((acc.map XD).flatten) sp 227) (λ ρ3 hle3 hfz=>?_)
  obtain⟨sa,sc,e1,hsc,hA⟩:=hown.aIn hal hg hfz
  cases e1
  exact qE ⟨Hp.le_trans hle1 hle3,_,_,_,a2,n2,c2,rfl,hsc,by omega,hA,h2.mono hle3,hc2,rfl⟩
theorem tleaf_spec (ρ:Hp)(bt br:Nat)(all:Int)(bad:Bool)(vk vr vs:Value)(h1:vk.oneCell'=true)(h2:vr.oneCell'=true)(h3:vs.oneCell'=true)(a:Option Addr)(n c:Nat)(l:List UInt8)(h:SIn ρ Zk a n l)(hc:n<=c)(st:Int) :
  Spec prog 269 [.pointer (some ⟨bt,0,none⟩)] ρ [tkC bt br all bad vk vr vs,rdC br a n c st]
   (λ v ρ' L'=>v=.tuple ⟨[]⟩/\ρ.le ρ'/\∃sa sn sc a' n' c',sn<=sc/\sn<=255/\AIn ρ' 4 Yz sa sn (Xl WA l st bad).1/\SIn ρ' Zk a' n' (Xl WA l st bad).2.1/\n'<=c'/\L'=[tkC bt br all (Xl WA l st bad).2.2.2 vk (.slice sa sn sc) vs,rdC br a' n' c' (Xl WA l st bad).2.2.1]):=by
 have hm:=manyRow_spec ρ bt br all bad vk vr vs a n c l h hc st
 refine Za func269 rfl rfl rfl λ u R=>?_
 simp only[Zc,kA]
 repeat' (first|(refine Zb (.func 287) ?_;refine qC rfl rfl (hm) ?_;rintro v ρ' L' hle ⟨hle1,sa,sn,sc,a',n',c',rfl,q1,q2,q3,q4,q5,rfl⟩<;>(try simp only[kA]))|refine zW ?_|intro _)
 exact qE ⟨rfl,hle1,sa,sn,sc,a',n',c',q1,q2,q3,q4,q5,rfl⟩
theorem tinner_spec (ρ:Hp)(bt br:Nat)(all:Int)(bad:Bool)(vk vr vs:Value)(h1:vk.oneCell'=true)(h2:vr.oneCell'=true)(h3:vs.oneCell'=true)(a:Option Addr)(n c:Nat)(l:List UInt8)(h:SIn ρ Zk a n l)(hc:n<=c)(st:Int) :
  Spec prog 270 [.pointer (some ⟨bt,0,none⟩)] ρ [tkC bt br all bad vk vr vs,rdC br a n c st]
   (λ v ρ' L'=>v=.tuple ⟨[]⟩/\ρ.le ρ'/\∃sa sn sc a' n' c',sn<=sc/\sn<=255/\AIn ρ' 3 XD sa sn (Xl XY l st bad).1/\SIn ρ' Zk a' n' (Xl XY l st bad).2.1/\n'<=c'/\L'=[tkC bt br all (Xl XY l st bad).2.2.2 vk vr (.slice sa sn sc),rdC br a' n' c' (Xl XY l st bad).2.2.1]):=by
 have hm:=manyKid_spec ρ bt br all bad vk vr vs a n c l h hc st
 refine Za func270 rfl rfl rfl λ u R=>?_
 simp only[Zc,kA]
 repeat' (first|(refine Zb (.func 288) ?_;refine qC rfl rfl (hm) ?_;rintro v ρ' L' hle ⟨hle1,sa,sn,sc,a',n',c',rfl,q1,q2,q3,q4,q5,rfl⟩<;>(try simp only[kA]))|refine zW ?_|intro _)
 exact qE ⟨rfl,hle1,sa,sn,sc,a',n',c',q1,q2,q3,q4,q5,rfl⟩
theorem from_spec (ρ:Hp)(a:Option Addr)(n c:Nat)(l:List UInt8)(h:SIn ρ Zk a n l)(hn:n<=1000000) :
  Spec prog 241 [.slice a n c] ρ [] (λ v ρ' L'=>ρ.le ρ'/\∃bt br a' c',v=.pointer (some ⟨bt,0,none⟩)/\n<=c'/\SIn ρ' Zk a' n l/\L'=[tkC bt br n false (.int .i64 0) (.slice none 0 0) (.slice none 0 0),rdC br a' n c' 0]):=by
 have hr:=read_spec ρ a n c l h hn
 refine Za func241 rfl rfl rfl λ u R=>?_
 simp only[Zc,kA]
 repeat' (first|(refine Zb (.func 123) ?_;refine qC rfl rfl (hr) ?_;rintro v ρ' L' hle ⟨hle,br,a',c',rfl,hc',hs,rfl⟩<;>(try simp only[kA]))|refine zW ?_|intro _)
 exact qE ⟨hle,_,br,a',c',rfl,hc',hs,rfl⟩
def takenN (all:Int)(left:Nat)(bad:Bool)(st:Int):Int:=if bad then 0 else if st≠0 then 0 else all-left
def takenE (bad:Bool)(st:Int):Int:=if bad then 161 else st
theorem takenRow_spec (ρ:Hp)(bt br:Nat)(all:Nat)(hall:all<=1000000)(bad:Bool)(vk vr vs:Value)(a:Option Addr)(n c:Nat)(st:Int)(r:Row)(hn:n<=all) :
  Spec prog 244 [.pointer (some ⟨bt,0,none⟩),.agg ⟨Yz r⟩] ρ [tkC bt br all bad vk vr vs,rdC br a n c st]
   (λ v ρ' L'=>v=.tuple ⟨[.agg ⟨Yz (if bad || decide (st≠0) then ⟨0,0,0,[]⟩ else r)⟩,.int .i64 (takenN all n bad st),.int .i64 (takenE bad st)]⟩/\ρ'=ρ/\L'=[]):=by
 refine Za func244 rfl rfl rfl λ u R=>?_
 simp only[Zc,kA,takenN,takenE]
 cases bad
 ·by_cases h:st=0
  ·subst h
   simp only[Bool.false_or,ne_eq,not_true_eq_false,decide_false,aB,if_false]
   repeat' (first|(refine Zb (.func 201) ?_;refine qR rfl rfl (XE _ br a n c 0) ?_;try simp only[kA])|refine zW ?_|intro _)
   rename_i b3 b4 b7
   refine Yt [0,1,2,3,4,5,6,7,8] (.e 9 [10] (.e 11 [] (.f [12,13] .o))) ([tkC bt br all false vk vr vs,[(b3,.cells ⟨Yz r⟩ 171 (0,0))]]) ?_
   repeat' (refine iT ?_;first|refine rA ?_|(refine rE ?_<;>((first|(refine Zb (.func 133) ?_;refine qR rfl rfl (Vg _ br a n c 0) ?_;try simp only[kA])|refine qEf ?_)<;>(try simp only[kA])<;>refine zN ?_)))
   repeat' (first|refine zW ?_|intro _)
   exact qE ⟨rfl,rfl,rfl⟩
  ·simp only[Bool.false_or,ne_eq,h,not_false_eq_true,decide_true,if_true,aB,if_false]
   repeat' (first|(refine Zb (.func 201) ?_;refine qR rfl rfl (XE _ br a n c st) ?_;try simp only[kA])|refine zW ?_|intro _)
   rename_i b3 b4 b7
   refine Yt [0,1,2,3,4] (.e 5 [] (.e 6 [] (.f [7,8] .o))) ([tkC bt br all false vk vr vs,[(b7,.cells ⟨Yz ⟨0,0,0,[]⟩⟩ 171 (0,0))]]) ?_
   repeat' (refine iT ?_;first|refine rA ?_|(refine rE ?_<;>((first|(refine Zb (.func 201) ?_;refine qR rfl rfl (XE _ br a n c st) ?_;try simp only[kA])|refine qEf ?_)<;>(try simp only[kA])<;>refine zN ?_)))
   repeat' (first|refine zW ?_|intro _)
   exact qE ⟨rfl,rfl,rfl⟩
 ·simp only[Bool.true_or,if_true]
  repeat' (first|refine zW ?_|intro _)
  exact qE ⟨rfl,rfl,rfl⟩
theorem takenCont_spec (ρ:Hp)(bt br:Nat)(all:Nat)(hall:all<=1000000)(bad:Bool)(vk vr vs:Value)(a:Option Addr)(n c:Nat)(st:Int)(k:Int)(w:CV)(hn:n<=all) :
  Spec prog 242 [.pointer (some ⟨bt,0,none⟩),.agg ⟨Yv k w⟩] ρ [tkC bt br all bad vk vr vs,rdC br a n c st]
   (λ v ρ' L'=>v=.tuple ⟨[.agg ⟨if bad || decide (st≠0) then Yv 0 ⟨none,0,0,none,0,0⟩ else Yv k w⟩,.int .i64 (takenN all n bad st),.int .i64 (takenE bad st)]⟩/\ρ'=ρ/\L'=[]):=by
 refine Za func242 rfl rfl rfl λ u R=>?_
 simp only[Zc,kA,takenN,takenE]
 cases bad
 ·by_cases h:st=0
  ·subst h
   simp only[Bool.false_or,ne_eq,not_true_eq_false,decide_false,aB,if_false]
   repeat' (first|(refine Zb (.func 201) ?_;refine qR rfl rfl (XE _ br a n c 0) ?_;try simp only[kA])|refine zW ?_|intro _)
   rename_i b3 b4 b7
   refine Yt [0,1,2,3,4,5,6,7,8] (.e 9 [10] (.e 11 [] (.f [12,13] .o))) ([tkC bt br all false vk vr vs,[(b3,.cells ⟨Yv k w⟩ 88 (0,0))]]) ?_
   repeat' (refine iT ?_;first|refine rA ?_|(refine rE ?_<;>((first|(refine Zb (.func 133) ?_;refine qR rfl rfl (Vg _ br a n c 0) ?_;try simp only[kA])|refine qEf ?_)<;>(try simp only[kA])<;>refine zN ?_)))
   repeat' (first|refine zW ?_|intro _)
   exact qE ⟨rfl,rfl,rfl⟩
  ·simp only[Bool.false_or,ne_eq,h,not_false_eq_true,decide_true,if_true,aB,if_false]
   repeat' (first|(refine Zb (.func 201) ?_;refine qR rfl rfl (XE _ br a n c st) ?_;try simp only[kA])|refine zW ?_|intro _)
   rename_i b3 b4 b7
   refine Yt [0,1,2,3,4] (.e 5 [] (.e 6 [] (.f [7,8] .o))) ([tkC bt br all false vk vr vs,[(b7,.cells ⟨Yv 0 ⟨none,0,0,none,0,0⟩⟩ 88 (0,0))]]) ?_
   repeat' (refine iT ?_;first|refine rA ?_|(refine rE ?_<;>((first|(refine Zb (.func 201) ?_;refine qR rfl rfl (XE _ br a n c st) ?_;try simp only[kA])|refine qEf ?_)<;>(try simp only[kA])<;>refine zN ?_)))
   repeat' (first|refine zW ?_|intro _)
   exact qE ⟨rfl,rfl,rfl⟩
 ·simp only[Bool.true_or,if_true]
  repeat' (first|refine zW ?_|intro _)
  exact qE ⟨rfl,rfl,rfl⟩
def Vw (x1:Nat)(l1:List UInt8)(st1:Int)(b1:Bool):(List Row×List Kid)×Yu:=
 if !b1 && decide (st1=0) then
  if x1=1 then (((Xl WA l1 st1 b1).1,[]),(Xl WA l1 st1 b1).2)
  else if x1=2 then (([],(Xl XY l1 st1 b1).1),(Xl XY l1 st1 b1).2)
  else (([],[]),l1,st1,b1)
 else (([],[]),l1,st1,b1)
def contE (x1:Nat)(m:(List Row×List Kid)×Yu):ZO×Yu:=(⟨x1,m.1.1,m.1.2⟩,m.2.1,m.2.2.1,XK m.2.2.2 m.2.2.1 (Zp ⟨x1,m.1.1,m.1.2⟩))
def YM (l:List UInt8):ZO×Yu:=
 contE (Yc 1 l 0).1 (Vw (Yc 1 l 0).1 (Yc 1 l 0).2.1 (Yc 1 l 0).2.2 (XK false (Yc 1 l 0).2.2 (decide (((Yc 1 l 0).1:Int)<=2))))
theorem CIn.nil {ρ:Hp}:CIn ρ ⟨none,0,0,none,0,0⟩ [] []:=⟨AIn.nil,AIn.nil,by decide,by decide,by decide,by decide⟩
theorem content_spec (ρ:Hp)(bt br:Nat)(all:Int)(a:Option Addr)(n c:Nat)(l:List UInt8)(h:SIn ρ Zk a n l)(hc:n<=c) :
  Spec prog 243 [.pointer (some ⟨bt,0,none⟩)] ρ [tkC bt br all false (.int .i64 0) (.slice none 0 0) (.slice none 0 0),rdC br a n c 0]
   (λ v ρ' L'=>ρ.le ρ'/\∃w a' n' c',v=.agg ⟨Yv (YM l).1.kind w⟩/\CIn ρ' w (YM l).1.rows (YM l).1.kids/\SIn ρ' Zk a' n' (YM l).2.1/\n'<=c' /\
    L'=[tkC bt br all (YM l).2.2.2 (.int .i64 (YM l).1.kind) (.slice w.ra w.rn w.rc) (.slice w.ka w.kn w.kc),rdC br a' n' c' (YM l).2.2.1]):=by
 have hn1:=u8_spec ρ br a n c l h hc 0
 have hb1:=Wm 1 l 0
 generalize hq:YM l=q
 unfold YM at hq
 generalize Yc 1 l 0=r1 at *
 obtain⟨x1,l1,st1⟩:=r1
 dsimp only at hq hn1 hb1
 generalize hB1:XK false st1 (decide ((x1:Int)<=2))=b1 at *
 have hnil:ZP .i64 []:=by intro e he;simp at he
 have hg0:∀k:Int,Ym [] k=none:=λ _=>rfl
 refine Za func243 rfl rfl rfl λ u R=>?_
 simp only[Zc,kA]
 rcases (show (x1:Int)=1\/(x1:Int)=2\/(x1:Int)=0\/(2:Int)<(x1:Int) by omega) with hx|hx|hx|hx
 ·rw[decide_eq_true (show (x1:Int)<=2 by omega)] at hB1
  repeat' (first|(refine Zb (.func 124) ?_;refine qC rfl rfl (hn1) ?_;rintro v ρ' L' hle ⟨rfl,rfl,a1,n1,c1,h1,hc1,rfl⟩<;>(try simp only[kA]))|(refine Zb (.func 268) ?_;refine qC rfl rfl (Xv _ bt br all false _ _ _ a1 n1 c1 st1 _) ?_;rintro v ρ' L' hle ⟨rfl,rfl,rfl⟩<;>(try simp only[kA,hB1]))|(refine ZV rfl rfl rfl hnil (λ es1 ck1 i1 i2=>?_))|(refine ZV rfl rfl rfl i1 (λ es2 ck2 j1 j2=>?_);have hg:=j2 (x1:Int);rw[i2,if_neg (by omega),if_pos hx] at hg)|refine zW ?_|intro _)
  cases hok:(!b1 && decide (st1=0))
  ·have hm:Vw x1 l1 st1 b1=(([],[]),l1,st1,b1):=by rw[Vw,hok];rfl
   rw[hm] at hq
   have hck:=λ ρ=>Xn ρ ⟨none,0,0,none,0,0⟩ ⟨x1,[],[]⟩ CIn.nil
   simp only[contE] at hq
   generalize hB2:XK b1 st1 (Zp ⟨x1,[],[]⟩)=b2 at *
   subst hq
   repeat' (first|(refine Zb (.func 271) ?_;refine qC rfl rfl (ok_spec _ bt br all b1 _ _ _ a1 n1 c1 st1) ?_;rintro v ρ' L' hle ⟨rfl,rfl,rfl⟩<;>(try simp only[kA,hok]))|refine zW ?_|intro _)
   cases hco:Zp ⟨x1,[],[]⟩
   all_goals rw[hco] at hck hB2
   all_goals (repeat' (first|(refine Zb (.func 205) ?_;refine qC rfl rfl (hck _) ?_;rintro v ρ' L' hle ⟨rfl,rfl,rfl⟩<;>(try simp only[kA,if_true,if_false,aB]))|(refine Zb (.func 268) ?_;refine qC rfl rfl (Xv _ bt br all b1 _ _ _ a1 n1 c1 st1 _) ?_;rintro v ρ' L' hle ⟨rfl,rfl,rfl⟩<;>(try simp only[kA,hB2]))|refine zW ?_|intro _))
   all_goals exact qE ⟨Hp.le_refl _,⟨none,0,0,none,0,0⟩,a1,n1,c1,rfl,CIn.nil,h1,hc1,rfl⟩
  ·have hlf:=λ ρ (h:SIn ρ Zk a1 n1 l1)=>tleaf_spec ρ bt br all b1 (.int .i64 x1) (.slice none 0 0) (.slice none 0 0) rfl rfl rfl a1 n1 c1 l1 h hc1 st1
   have hm:Vw x1 l1 st1 b1=(((Xl WA l1 st1 b1).1,[]),(Xl WA l1 st1 b1).2):=by rw[Vw,if_pos hok,if_pos (by omega)]
   rw[hm] at hq
   generalize Xl WA l1 st1 b1=m at *
   obtain⟨xs,l2,st2,b2⟩:=m
   dsimp only at hq hlf
   have hck:=λ ρ w h=>Xn ρ w ⟨x1,xs,[]⟩ h
   simp only[contE] at hq
   generalize hB2:XK b2 st2 (Zp ⟨x1,xs,[]⟩)=b3 at *
   subst hq
   repeat' (first|(refine Zb (.func 271) ?_;refine qC rfl rfl (ok_spec _ bt br all b1 _ _ _ a1 n1 c1 st1) ?_;rintro v ρ' L' hle ⟨rfl,rfl,rfl⟩<;>(try simp only[kA,hok]))|(refine Zb (.tmp 40) ?_;refine qC rfl rfl (hlf _ h1) ?_;rintro v ρ' L' hle ⟨rfl,hle2,sa,sn,sc,a2,n2,c2,hsc,hs255,hA,h2,hc2,rfl⟩<;>(try simp only[kA]))|refine zW ?_|intro _)
   have hC:CIn ρ' ⟨sa,sn,sc,none,0,0⟩ xs []:=⟨hA,AIn.nil,by dsimp only;omega,aZ _,hsc,aR _⟩
   cases hco:Zp ⟨x1,xs,[]⟩
   all_goals rw[hco] at hck hB2
   all_goals (repeat' (first|(refine Zb (.func 205) ?_;refine qC rfl rfl (hck _ _ hC) ?_;rintro v ρ' L' hle ⟨rfl,rfl,rfl⟩<;>(try simp only[kA,if_true,if_false,aB]))|(refine Zb (.func 268) ?_;refine qC rfl rfl (Xv _ bt br all b2 _ _ _ a2 n2 c2 st2 _) ?_;rintro v ρ' L' hle ⟨rfl,rfl,rfl⟩<;>(try simp only[kA,hB2]))|refine zW ?_|intro _))
   all_goals exact qE ⟨hle2,⟨sa,sn,sc,none,0,0⟩,a2,n2,c2,rfl,hC,h2,hc2,rfl⟩
 ·rw[decide_eq_true (show (x1:Int)<=2 by omega)] at hB1
  repeat' (first|(refine Zb (.func 124) ?_;refine qC rfl rfl (hn1) ?_;rintro v ρ' L' hle ⟨rfl,rfl,a1,n1,c1,h1,hc1,rfl⟩<;>(try simp only[kA]))|(refine Zb (.func 268) ?_;refine qC rfl rfl (Xv _ bt br all false _ _ _ a1 n1 c1 st1 _) ?_;rintro v ρ' L' hle ⟨rfl,rfl,rfl⟩<;>(try simp only[kA,hB1]))|(refine ZV rfl rfl rfl hnil (λ es1 ck1 i1 i2=>?_))|(refine ZV rfl rfl rfl i1 (λ es2 ck2 j1 j2=>?_);have hg:=j2 (x1:Int);rw[if_pos hx] at hg)|refine zW ?_|intro _)
  cases hok:(!b1 && decide (st1=0))
  ·have hm:Vw x1 l1 st1 b1=(([],[]),l1,st1,b1):=by rw[Vw,hok];rfl
   rw[hm] at hq
   have hck:=λ ρ=>Xn ρ ⟨none,0,0,none,0,0⟩ ⟨x1,[],[]⟩ CIn.nil
   simp only[contE] at hq
   generalize hB2:XK b1 st1 (Zp ⟨x1,[],[]⟩)=b2 at *
   subst hq
   repeat' (first|(refine Zb (.func 271) ?_;refine qC rfl rfl (ok_spec _ bt br all b1 _ _ _ a1 n1 c1 st1) ?_;rintro v ρ' L' hle ⟨rfl,rfl,rfl⟩<;>(try simp only[kA,hok]))|refine zW ?_|intro _)
   cases hco:Zp ⟨x1,[],[]⟩
   all_goals rw[hco] at hck hB2
   all_goals (repeat' (first|(refine Zb (.func 205) ?_;refine qC rfl rfl (hck _) ?_;rintro v ρ' L' hle ⟨rfl,rfl,rfl⟩<;>(try simp only[kA,if_true,if_false,aB]))|(refine Zb (.func 268) ?_;refine qC rfl rfl (Xv _ bt br all b1 _ _ _ a1 n1 c1 st1 _) ?_;rintro v ρ' L' hle ⟨rfl,rfl,rfl⟩<;>(try simp only[kA,hB2]))|refine zW ?_|intro _))
   all_goals exact qE ⟨Hp.le_refl _,⟨none,0,0,none,0,0⟩,a1,n1,c1,rfl,CIn.nil,h1,hc1,rfl⟩
  ·have hlf:=λ ρ (h:SIn ρ Zk a1 n1 l1)=>tinner_spec ρ bt br all b1 (.int .i64 x1) (.slice none 0 0) (.slice none 0 0) rfl rfl rfl a1 n1 c1 l1 h hc1 st1
   have hm:Vw x1 l1 st1 b1=(([],(Xl XY l1 st1 b1).1),(Xl XY l1 st1 b1).2):=by rw[Vw,if_pos hok,if_neg (by omega),if_pos (by omega)]
   rw[hm] at hq
   generalize Xl XY l1 st1 b1=m at *
   obtain⟨xs,l2,st2,b2⟩:=m
   dsimp only at hq hlf
   have hck:=λ ρ w h=>Xn ρ w ⟨x1,[],xs⟩ h
   simp only[contE] at hq
   generalize hB2:XK b2 st2 (Zp ⟨x1,[],xs⟩)=b3 at *
   subst hq
   repeat' (first|(refine Zb (.func 271) ?_;refine qC rfl rfl (ok_spec _ bt br all b1 _ _ _ a1 n1 c1 st1) ?_;rintro v ρ' L' hle ⟨rfl,rfl,rfl⟩<;>(try simp only[kA,hok]))|(refine Zb (.tmp 40) ?_;refine qC rfl rfl (hlf _ h1) ?_;rintro v ρ' L' hle ⟨rfl,hle2,sa,sn,sc,a2,n2,c2,hsc,hs255,hA,h2,hc2,rfl⟩<;>(try simp only[kA]))|refine zW ?_|intro _)
   have hC:CIn ρ' ⟨none,0,0,sa,sn,sc⟩ [] xs:=⟨AIn.nil,hA,aZ _,by dsimp only;omega,aR _,hsc⟩
   cases hco:Zp ⟨x1,[],xs⟩
   all_goals rw[hco] at hck hB2
   all_goals (repeat' (first|(refine Zb (.func 205) ?_;refine qC rfl rfl (hck _ _ hC) ?_;rintro v ρ' L' hle ⟨rfl,rfl,rfl⟩<;>(try simp only[kA,if_true,if_false,aB]))|(refine Zb (.func 268) ?_;refine qC rfl rfl (Xv _ bt br all b2 _ _ _ a2 n2 c2 st2 _) ?_;rintro v ρ' L' hle ⟨rfl,rfl,rfl⟩<;>(try simp only[kA,hB2]))|refine zW ?_|intro _))
   all_goals exact qE ⟨hle2,⟨none,0,0,sa,sn,sc⟩,a2,n2,c2,rfl,hC,h2,hc2,rfl⟩
 ·rw[decide_eq_true (show (x1:Int)<=2 by omega)] at hB1
  repeat' (first|(refine Zb (.func 124) ?_;refine qC rfl rfl (hn1) ?_;rintro v ρ' L' hle ⟨rfl,rfl,a1,n1,c1,h1,hc1,rfl⟩<;>(try simp only[kA]))|(refine Zb (.func 268) ?_;refine qC rfl rfl (Xv _ bt br all false _ _ _ a1 n1 c1 st1 _) ?_;rintro v ρ' L' hle ⟨rfl,rfl,rfl⟩<;>(try simp only[kA,hB1]))|(refine ZV rfl rfl rfl hnil (λ es1 ck1 i1 i2=>?_))|(refine ZV rfl rfl rfl i1 (λ es2 ck2 j1 j2=>?_);have hg:=j2 (x1:Int);rw[i2,if_neg (by omega),if_neg (by omega),hg0] at hg)|refine zW ?_|intro _)
  have hm:Vw x1 l1 st1 b1=(([],[]),l1,st1,b1):=by
   rw[Vw]
   split
   ·rw[if_neg (by omega),if_neg (by omega)]
   ·rfl
  rw[hm] at hq
  have hck:=λ ρ=>Xn ρ ⟨none,0,0,none,0,0⟩ ⟨x1,[],[]⟩ CIn.nil
  simp only[contE] at hq
  generalize hB2:XK b1 st1 (Zp ⟨x1,[],[]⟩)=b2 at *
  subst hq
  cases hco:Zp ⟨x1,[],[]⟩
  all_goals rw[hco] at hck hB2
  all_goals (repeat' (first|(refine Zb (.func 205) ?_;refine qC rfl rfl (hck _) ?_;rintro v ρ' L' hle ⟨rfl,rfl,rfl⟩<;>(try simp only[kA,if_true,if_false,aB]))|(refine Zb (.func 268) ?_;refine qC rfl rfl (Xv _ bt br all b1 _ _ _ a1 n1 c1 st1 _) ?_;rintro v ρ' L' hle ⟨rfl,rfl,rfl⟩<;>(try simp only[kA,hB2]))|refine zW ?_|intro _))
  all_goals exact qE ⟨Hp.le_refl _,⟨none,0,0,none,0,0⟩,a1,n1,c1,rfl,CIn.nil,h1,hc1,rfl⟩
 ·rw[decide_eq_false (show ¬(x1:Int)<=2 by omega)] at hB1
  repeat' (first|(refine Zb (.func 124) ?_;refine qC rfl rfl (hn1) ?_;rintro v ρ' L' hle ⟨rfl,rfl,a1,n1,c1,h1,hc1,rfl⟩<;>(try simp only[kA]))|(refine Zb (.func 268) ?_;refine qC rfl rfl (Xv _ bt br all false _ _ _ a1 n1 c1 st1 _) ?_;rintro v ρ' L' hle ⟨rfl,rfl,rfl⟩<;>(try simp only[kA,hB1]))|(refine ZV rfl rfl rfl hnil (λ es1 ck1 i1 i2=>?_))|(refine ZV rfl rfl rfl i1 (λ es2 ck2 j1 j2=>?_);have hg:=j2 (x1:Int);rw[i2,if_neg (by omega),if_neg (by omega),hg0] at hg)|refine zW ?_|intro _)
  have hm:Vw x1 l1 st1 b1=(([],[]),l1,st1,b1):=by
   rw[Vw]
   split
   ·rw[if_neg (by omega),if_neg (by omega)]
   ·rfl
  rw[hm] at hq
  have hck:=λ ρ=>Xn ρ ⟨none,0,0,none,0,0⟩ ⟨x1,[],[]⟩ CIn.nil
  simp only[contE] at hq
  generalize hB2:XK b1 st1 (Zp ⟨x1,[],[]⟩)=b2 at *
  subst hq
  cases hco:Zp ⟨x1,[],[]⟩
  all_goals rw[hco] at hck hB2
  all_goals (repeat' (first|(refine Zb (.func 205) ?_;refine qC rfl rfl (hck _) ?_;rintro v ρ' L' hle ⟨rfl,rfl,rfl⟩<;>(try simp only[kA,if_true,if_false,aB]))|(refine Zb (.func 268) ?_;refine qC rfl rfl (Xv _ bt br all b1 _ _ _ a1 n1 c1 st1 _) ?_;rintro v ρ' L' hle ⟨rfl,rfl,rfl⟩<;>(try simp only[kA,hB2]))|refine zW ?_|intro _))
  all_goals exact qE ⟨Hp.le_refl _,⟨none,0,0,none,0,0⟩,a1,n1,c1,rfl,CIn.nil,h1,hc1,rfl⟩
theorem Vz (k:Nat)(l:List UInt8)(st:Int):(Yc k l st).2.1.length<=l.length:=by
 unfold Yc;split
 ·exact aR _
 ·split
  ·exact aR _
  ·simp
theorem rawR_len (k:Nat)(l:List UInt8)(st:Int):(VA k l st).2.1.length<=l.length:=by
 unfold VA;split
 ·exact aR _
 ·split
  ·exact aR _
  ·simp
theorem rowR_len (l:List UInt8)(st:Int)(bad:Bool):(WA l st bad).2.1.length<=l.length:=by
 unfold WA
 dsimp only
 have e1:=Vz 1 l st
 generalize Yc 1 l st=r1 at *
 have e2:=Vz 2 r1.2.1 r1.2.2
 generalize Yc 2 r1.2.1 r1.2.2=r2 at *
 have e3:=Vz 8 r2.2.1 r2.2.2
 generalize Yc 8 r2.2.1 r2.2.2=r3 at *
 have e4:=Vz 1 r3.2.1 r3.2.2
 generalize Yc 1 r3.2.1 r3.2.2=r4 at *
 have e5:=rawR_len r4.1 r4.2.1 r4.2.2
 split
 ·split<;>dsimp only<;>omega
 ·dsimp only;omega
theorem kidR_len (l:List UInt8)(st:Int):(kidR l st).2.1.length<=l.length:=by
 unfold kidR
 dsimp only
 have e1:=Vz 1 l st
 generalize Yc 1 l st=r1 at *
 have e2:=Vz 2 r1.2.1 r1.2.2
 generalize Yc 2 r1.2.1 r1.2.2=r2 at *
 have e3:=Vz 1 r2.2.1 r2.2.2
 omega
theorem manyTo_len {α:Type}{f:List UInt8->Int->Bool->α×Yu}(hf:∀l st bad,(f l st bad).2.1.length<=l.length):∀(n:Nat) (l:List UInt8) (st:Int) (bad:Bool),(XM f n l st bad).2.1.length<=l.length
 | 0,l,st,bad=>aR _
 | n+1,l,st,bad=>by
  rw[XM]
  split
  ·exact Nat.le_trans (manyTo_len hf n _ _ _) (hf l st bad)
  ·exact aR _
theorem manyR_len {α:Type}{f:List UInt8->Int->Bool->α×Yu}(hf:∀l st bad,(f l st bad).2.1.length<=l.length)(l:List UInt8)(st:Int)(bad:Bool):(Xl f l st bad).2.1.length<=l.length:=
 Nat.le_trans (manyTo_len hf _ _ _ _) (Vz 1 l st)
theorem contentR_len (l:List UInt8):(YM l).2.1.length<=l.length:=by
 unfold YM contE
 dsimp only
 have e1:=Vz 1 l 0
 generalize Yc 1 l 0=r1 at *
 have h2:∀b,(Vw r1.1 r1.2.1 r1.2.2 b).2.1.length<=r1.2.1.length:=λ b=>by
  unfold Vw
  have a1:=manyR_len (f:=WA) rowR_len r1.2.1 r1.2.2 b
  have a2:=manyR_len (f:=XY) (λ l st bad=>kidR_len l st) r1.2.1 r1.2.2 b
  split
  ·split
   ·exact a1
   ·split
    ·exact a2
    ·exact aR _
  ·exact aR _
 exact Nat.le_trans (h2 _) e1
def Yd (l:List UInt8):Row×Int×Int:=
 let r:=WA l 0 false
 (if r.2.2.2 || decide (r.2.2.1≠0) then ⟨0,0,0,[]⟩ else r.1,takenN l.length r.2.1.length r.2.2.2 r.2.2.1,takenE r.2.2.2 r.2.2.1)
def Zq (l:List UInt8):ZO×Int×Int:=
 let r:=YM l
 (if r.2.2.2 || decide (r.2.2.1≠0) then ⟨0,[],[]⟩ else r.1,takenN l.length r.2.1.length r.2.2.2 r.2.2.1,takenE r.2.2.2 r.2.2.1)
theorem takeRow_spec (ρ:Hp)(a:Option Addr)(n c:Nat)(l:List UInt8)(h:SIn ρ Zk a n l)(hn:n<=1000000) :
  Spec prog 195 [.slice a n c] ρ [] (λ v ρ' L'=>v=.tuple ⟨[.agg ⟨Yz (Yd l).1⟩,.int .i64 (Yd l).2.1,.int .i64 (Yd l).2.2]⟩/\ρ.le ρ'/\L'=[]):=by
 have hf:=from_spec ρ a n c l h hn
 have hl:=h.len
 have hlen:=rowR_len l 0 false
 unfold Yd
 dsimp only
 rw[hl] at hlen ⊢
 refine Za func195 rfl rfl rfl λ u R=>?_
 simp only[Zc,kA]
 repeat' (first|(refine Zb (.func 241) ?_;refine qC rfl rfl (hf) ?_;rintro v ρ' L' hle ⟨hle1,bt,br,a1,c1,rfl,hc1,h1,rfl⟩<;>(try simp only[kA]))|refine zW ?_|intro _)
 have hr:=trow_spec _ bt br n false (.int .i64 0) (.slice none 0 0) (.slice none 0 0) a1 n c1 l h1 hc1 0
 generalize WA l 0 false=r at *
 obtain⟨x,l2,st2,b2⟩:=r
 dsimp only at hr hlen ⊢
 repeat' (first|(refine Zb (.func 245) ?_;refine qC rfl rfl (hr) ?_;rintro v ρ' L' hle ⟨rfl,hle2,a2,n2,c2,h2,hc2,rfl⟩<;>(try simp only[kA]))|refine zW ?_|intro _)
 have hl2:=h2.len
 rw[hl2]
 repeat' (first|(refine Zb (.func 244) ?_;refine qR rfl rfl (takenRow_spec _ bt br n hn b2 _ _ _ a2 n2 c2 st2 x (by omega)) ?_;try simp only[kA])|refine zW ?_|intro _)
 exact qE ⟨rfl,Hp.le_trans hle1 hle2,rfl⟩
theorem takeCont_spec (ρ:Hp)(a:Option Addr)(n c:Nat)(l:List UInt8)(h:SIn ρ Zk a n l)(hn:n<=1000000) :
  Spec prog 191 [.slice a n c] ρ [] (λ v ρ' L'=>ρ.le ρ'/\∃w,v=.tuple ⟨[.agg ⟨Yv (Zq l).1.kind w⟩,.int .i64 (Zq l).2.1,.int .i64 (Zq l).2.2]⟩/\CIn ρ' w (Zq l).1.rows (Zq l).1.kids/\L'=[]):=by
 have hf:=from_spec ρ a n c l h hn
 have hl:=h.len
 have hlen:=contentR_len l
 unfold Zq
 dsimp only
 rw[hl] at hlen ⊢
 refine Za func191 rfl rfl rfl λ u R=>?_
 simp only[Zc,kA]
 repeat' (first|(refine Zb (.func 241) ?_;refine qC rfl rfl (hf) ?_;rintro v ρ' L' hle ⟨hle1,bt,br,a1,c1,rfl,hc1,h1,rfl⟩<;>(try simp only[kA]))|refine zW ?_|intro _)
 have hr:=content_spec _ bt br n a1 n c1 l h1 hc1
 generalize YM l=r at *
 obtain⟨x,l2,st2,b2⟩:=r
 dsimp only at hr hlen ⊢
 repeat' (first|(refine Zb (.func 243) ?_;refine qC rfl rfl (hr) ?_;rintro v ρ' L' hle ⟨hle2,w,a2,n2,c2,rfl,hC,h2,hc2,rfl⟩<;>(try simp only[kA]))|refine zW ?_|intro _)
 have hl2:=h2.len
 rw[hl2]
 have ht:=λ ρ=>takenCont_spec ρ bt br n hn b2 (.int .i64 x.kind) (.slice w.ra w.rn w.rc) (.slice w.ka w.kn w.kc) a2 n2 c2 st2 x.kind w (by omega)
 by_cases hb:(b2 || decide (st2≠0))=true
 ·rw[if_pos hb] at ht
  rw[if_pos hb]
  repeat' (first|(refine Zb (.func 242) ?_;refine qR rfl rfl (ht _) ?_;try simp only[kA])|refine zW ?_|intro _)
  exact qE ⟨Hp.le_trans hle1 hle2,⟨none,0,0,none,0,0⟩,rfl,CIn.nil,rfl⟩
 ·rw[if_neg hb] at ht
  rw[if_neg hb]
  repeat' (first|(refine Zb (.func 242) ?_;refine qR rfl rfl (ht _) ?_;try simp only[kA])|refine zW ?_|intro _)
  exact qE ⟨Hp.le_trans hle1 hle2,w,rfl,hC,rfl⟩
def tB (t:Int):UInt8:=UInt8.ofNat t.toNat
def keyB (t:Int)(id:Nat):List UInt8:=tB t::be 2 id
def vN (v:Int):Nat:=(IntKind.u64.wrap v).toNat
theorem vN_eq (v:Int):IntKind.u64.wrap v=(vN v:Nat):=by
 have:0<=IntKind.u64.wrap v:=by simp only[IntKind.wrap,IntKind.bits,IntKind.signed,Bool.false_and,aB,if_false];omega
 simp[vN];omega
theorem vN_lt (v:Int):vN v<18446744073709551616:=by
 have:IntKind.u64.wrap v<18446744073709551616:=by simp only[IntKind.wrap,IntKind.bits,IntKind.signed,Bool.false_and,aB,if_false];omega
 have h:=vN_eq v
 omega
def ZY (r:Row):List UInt8:=keyB r.t r.id++(be 8 (vN r.val)++(UInt8.ofNat r.note.length::r.note))
theorem tB_eq {t:Int}(h0:0<=t)(h1:t<256):Value.int .u8 t=Zk (tB t):=by
 obtain⟨n,rfl⟩:∃n:Nat,t=n:=⟨t.toNat,by omega⟩
 simp only[Zk,tB,Int.toNat_natCast,UInt8.toNat_ofNat']
 congr 1
 have e:(2:Nat) ^ 8=256:=by decide
 rw[e]
 omega
theorem key_spec (ρ:Hp)(v:Value)(n:Nat)(l:List UInt8)(sp:List Value)(hown:OwnS v n (l.map Zk) sp 1)(hn:n<=100000)(t:Int)(id:Nat)(h0:0<=t)(h3:t<256)(hid:id<65536) :
  Spec prog 281 [v,.agg ⟨Vp t id⟩] ρ [ZG v (l.map Zk) sp 5] (λ r ρ' L'=>ρ.le ρ'/\∃sp',OwnS r (n+3) ((l++keyB t id).map Zk) sp' 1/\L'=[ZG r ((l++keyB t id).map Zk) sp' 5]):=by
 have hl:l.length=n:=by obtain⟨_,_,_,h⟩:=hown.len;simpa using h
 refine Za func281 rfl rfl rfl λ u R=>?_
 simp only[Zc,kA]
 repeat' (first|refine zW ?_|intro _)
 rename_i b3
 refine Yt [0,1,2,3,6,7] (.e 4 [] (.e 5 [] (.e 8 [] (.f [9] .o)))) ([[(b3,.cells ⟨Vp t id⟩ 169 (0,0))]]) ?_
 repeat' (refine iT ?_;first|refine rA ?_|(refine rE ?_<;>((first|(refine Zl rfl rfl rfl rfl (by simp) rfl rfl (λ _=>?_);simp only[tB_eq h0 h3])|(refine YA (ys:=[Zk (tB t)]) (m:=1) rfl rfl hown (hR:=by infer_instance) SrcV.lit rfl rfl (by decide) rfl (by omega) (by omega) rfl (λ v' sp' hown'=>?_);rw[show l.map Zk++[Zk (tB t)]=(l++[tB t]).map Zk by simp] at hown' ⊢;refine Zt _ (h:=Rem.here) (λ ρ2 hle2 hfz=>?_);obtain⟨a',c',rfl,hc',hs⟩:=hown'.sIn hfz)|(refine Zb (.func 235) ?_;refine qC rfl rfl (put16_spec _ a' _ c' _ hs id hid (by omega)) ?_;rintro v ρ' L' hle ⟨rfl,sp2,hown2,rfl⟩<;>(try simp only[kA]))|(refine qEf ?_;try intro _))<;>(try simp only[kA])<;>refine zN ?_)))
 have e:l++[tB t]++be 2 id=l++keyB t id:=by rw[aA];rfl
 rw[e] at hown2 ⊢
 repeat' (first|refine zW ?_|intro _)
 exact qE ⟨hle2,sp2,hown2,rfl⟩
theorem rowOk_iff {r:Row}(h:Xi r=true):0<=r.t/\r.t<3/\r.note.length<=8:=by
 have:=of_decide_eq_true h
 exact⟨this.1.1,this.1.2,this.2⟩
theorem lenB {n:Nat}(h:n<=200):Value.int .u8 (n:Int)=Zk (UInt8.ofNat n):=by
 simp only[Zk,UInt8.toNat_ofNat']
 congr 1
 have e:(2:Nat) ^ 8=256:=by decide
 rw[e]
 omega
theorem claid_spec (ρ:Hp)(v:Value)(n:Nat)(l:List UInt8)(sp:List Value)(hown:OwnS v n (l.map Zk) sp 1)(hn:n<=1000)(r:Row)(hr:Xi r=true)(hid:r.id<65536) :
  Spec prog 266 [v,.agg ⟨Yz r⟩] ρ [ZG v (l.map Zk) sp 5] (λ q ρ' L'=>ρ.le ρ'/\∃sp',OwnS q (n+(ZY r).length) ((l++ZY r).map Zk) sp' 1/\L'=[ZG q ((l++ZY r).map Zk) sp' 5]):=by
 obtain⟨h0,h3,h8⟩:=rowOk_iff hr
 have hl:l.length=n:=by obtain⟨_,_,_,h⟩:=hown.len;simpa using h
 have hvl:=vN_lt r.val
 have hkb:(keyB r.t r.id).length=3:=by simp[keyB,Zh]
 have hlb:=lenB (n:=r.note.length) (by omega)
 refine Za func266 rfl rfl rfl λ u R=>?_
 simp only[Zc,kA]
 repeat' (first|refine zW ?_|intro _)
 rename_i b3
 refine Yt [0,1,2,4,5,6] (.e 3 [] (.e 7 [] (.f [8] .o))) ([[(b3,.cells ⟨Yz r⟩ 171 (0,0))]]) ?_
 repeat' (refine iT ?_;first|refine rA ?_|(refine rE ?_<;>((first|(simp only[vN_eq];refine Zb (.func 281) ?_;refine qC rfl rfl (key_spec _ v n l sp hown (by omega) r.t r.id h0 (by omega) hid) ?_;rintro v1 ρ1 L1 hle0 ⟨hle1,sp1,hown1,rfl⟩;simp only[kA];refine Zt _ (h:=Rem.here) (λ ρ2 hle2 hfz=>?_);obtain⟨a1,c1,rfl,hc1,hs1⟩:=hown1.sIn hfz)|(refine Zb (.func 231) ?_;refine qC rfl rfl (put64_spec _ a1 _ c1 _ hs1 (vN r.val) hvl (by omega)) ?_;rintro v ρ' L' hle ⟨rfl,sp3,hown3,rfl⟩<;>(try simp only[kA])))<;>(try simp only[kA])<;>refine zN ?_)))
 repeat' (first|refine zW ?_|intro _)
 refine Yt [0,1,2,3,4,7,8] (.e 5 [] (.e 6 [] (.e 9 [] (.f [10] .o)))) ([[(b3,.cells ⟨Yz r⟩ 171 (0,0))]]) ?_
 repeat' (refine iT ?_;first|refine rA ?_|(refine rE ?_<;>((first|(refine Zl rfl rfl rfl rfl (by simp) rfl rfl (λ _=>?_);simp only[hlb])|(refine YA (ys:=[Zk (UInt8.ofNat r.note.length)]) (m:=1) rfl rfl hown3 (hR:=by infer_instance) SrcV.lit rfl rfl (by decide) rfl (by omega) (by omega) rfl (λ v4 sp4 hown4=>?_))|(refine tl_app_str (l:=r.note) rfl rfl hown4 (hR:=by infer_instance) (by omega) rfl (λ v5 sp5 hown5=>?_))|(refine qEf ?_;try intro _))<;>(try simp only[kA])<;>refine zN ?_)))
 have e:(l++keyB r.t r.id++be 8 (vN r.val)).map Zk++[Zk (UInt8.ofNat r.note.length)]++r.note.map Zk=(l++ZY r).map Zk:=by simp[ZY]
 have e2:n+3+8+1+r.note.length=n+(ZY r).length:=by simp[ZY,hkb,Zh];omega
 rw[e] at hown5 ⊢
 rw[e2] at hown5
 repeat' (first|refine zW ?_|intro _)
 exact qE ⟨Hp.le_trans hle1 hle2,sp5,hown5,rfl⟩
theorem rowE_spec (ρ:Hp)(r:Row)(hid:r.id<65536) :
  Spec prog 234 [.agg ⟨Yz r⟩] ρ [] (λ v ρ' L'=>ρ.le ρ'/\∃a n c,v=.tuple ⟨[.slice a n c,.int .i64 (if Xi r then 0 else 151)]⟩/\n<=c/\SIn ρ' Zk a n (if Xi r then ZY r else [])/\L'=[]):=by
 have hck:=λ ρ=>checkRow_spec ρ r
 refine Za func234 rfl rfl rfl λ u R=>?_
 simp only[Zc,kA]
 cases hok:Xi r
 ·simp only[hok,aB,if_false] at hck ⊢
  repeat' (first|(refine Zb (.func 264) ?_;refine qR rfl rfl (hck _) ?_;try simp only[kA])|refine zW ?_|intro _)
  exact qE ⟨Hp.le_refl _,none,0,0,rfl,aR _,SIn.nil,rfl⟩
 ·simp only[hok,if_true] at hck ⊢
  repeat' (first|(refine Zb (.func 264) ?_;refine qR rfl rfl (hck _) ?_;try simp only[kA])|(refine Zb (.func 266) ?_;refine tl_call rfl rfl (claid_spec _ (.slice none 0 0) 0 [] [] (OwnS.nil 1) (by omega) r hok hid) (take_cons' rem_nil' take_nil') rfl ?_;rintro v1 ρ1 L1 hle0 ⟨hle1,sp1,hown1,rfl⟩;simp only[kA,Nat.zero_add] at hown1 ⊢;refine Zt _ (h:=Rem.here) (λ ρ2 hle2 hfz=>?_);obtain⟨a1,c1,rfl,hc1,hs1⟩:=hown1.sIn hfz)|refine zW ?_|intro _)
  exact qE ⟨Hp.le_trans hle1 hle2,a1,_,c1,rfl,hc1,hs1,rfl⟩
def XJ (k:Kid):List UInt8:=keyB k.t k.id++[tB k.page]
def cntB (c:ZO):List UInt8:=if c.kind=0 then [] else [UInt8.ofNat (c.rows.length+c.kids.length)]
def Yf (c:ZO):List UInt8:=tB c.kind::cntB c++(c.rows.flatMap ZY++c.kids.flatMap XJ)
theorem Vj {α:Type}{most:Nat}{right:Nat->α->Bool}{lt:α->α->Bool}{l:List α}:∀{k:Nat},ZA most right lt l k=true->k<=l.length->l.length<=most/\∀i (h:i<l.length),i<k->right i l[i]=true/\(i=0\/lt (l[i-1]'(by omega)) l[i]=true)
 | 0,h,_=>⟨of_decide_eq_true h,λ i _ hi=>by omega⟩
 | k+1,h,hk=>by
  rw[Wj (show k<l.length by omega),aE,aE] at h
  obtain⟨h1,h2,h3⟩:=h
  obtain⟨g1,g2⟩:=Vj h1 (by omega)
  refine⟨g1,λ i hi hik=>?_⟩
  by_cases e:i<k
  ·exact g2 i hi e
  ·have:i=k:=by omega
   subst this
   refine⟨h2, ?_⟩
   simpa using h3
structure ContOk (c:ZO):Prop where
 kind:c.kind=0/\c.rows=[]/\c.kids=[]\/c.kind=1/\c.kids=[]\/c.kind=2/\c.rows=[]/\1<c.kids.length
 rl:c.rows.length<=4
 kl:c.kids.length<=4
 row:∀r∈c.rows,Xi r=true
 kid:∀k∈c.kids,(0<=k.t/\k.t<3)/\0<k.page/\k.page<64
theorem YF {c:ZO}(h:Zp c=true):ContOk c:=by
 obtain⟨kind,rows,kids⟩:=c
 unfold Zp at h
 dsimp only at h
 split at h
 ·rename_i hk
  have hz:=of_decide_eq_true h
  have h1:rows=[]:=List.eq_nil_of_length_eq_zero (by omega)
  have h2:kids=[]:=List.eq_nil_of_length_eq_zero (by omega)
  subst h1;subst h2
  exact⟨.inl ⟨hk,rfl,rfl⟩,by simp,by simp,by simp,by simp⟩
 ·split at h
  ·rename_i hk
   rw[aE] at h
   have h2:kids=[]:=List.eq_nil_of_length_eq_zero (of_decide_eq_true h.1)
   subst h2
   obtain⟨g1,g2⟩:=Vj h.2 (aR _)
   refine⟨.inr (.inl ⟨hk,rfl⟩),g1,by simp,λ r hr=>?_,by simp⟩
   obtain⟨i,hi,rfl⟩:=List.mem_iff_getElem.1 hr
   exact (g2 i hi hi).1
  ·split at h
   ·rename_i hk
    rw[aE,aE] at h
    have h1:rows=[]:=List.eq_nil_of_length_eq_zero (of_decide_eq_true h.1)
    subst h1
    obtain⟨g1,g2⟩:=Vj h.2.2 (aR _)
    refine⟨.inr (.inr ⟨hk,rfl,of_decide_eq_true h.2.1⟩),by simp,g1,by simp,λ k hk=>?_⟩
    obtain⟨i,hi,rfl⟩:=List.mem_iff_getElem.1 hk
    have:=of_decide_eq_true (g2 i hi hi).1
    exact⟨this.2.2.2.1,this.2.1,this.2.2.1⟩
   ·cases h
theorem rowB_len {r:Row}(h:Xi r=true):(ZY r).length=12+r.note.length:=by simp[ZY,keyB,Zh];omega
theorem rowB_le {r:Row}(h:Xi r=true):(ZY r).length<=20:=by rw[rowB_len h];have:=(rowOk_iff h).2.2;omega
theorem kidB_len (k:Kid):(XJ k).length=4:=by simp[XJ,keyB,Zh]
theorem YH {α:Type}(f:α->List UInt8)(m:Nat):∀(l:List α),(∀x∈l,(f x).length<=m)->(l.flatMap f).length<=l.length*m
 | [],_=>by simp
 | x::r,h=>by
  have h1:=h x (by simp)
  have ih:=YH f m r (λ y hy=>h y (by simp[hy]))
  simp only[List.flatMap_cons,aL,aC,Nat.add_mul];omega
theorem XQ {α:Type}(f:α->List UInt8)(l:List α)(k:Nat)(h:k<l.length):(l.take (k+1)).flatMap f=(l.take k).flatMap f++f l[k]:=by
 rw[aG h,List.flatMap_append];simp
theorem contE_spec (ρ:Hp)(w:CV)(c:ZO)(h:CIn ρ w c.rows c.kids)(hir:∀r∈c.rows,r.id<65536)(hik:∀k∈c.kids,k.id<65536) :
  Spec prog 250 [.agg ⟨Yv c.kind w⟩] ρ [] (λ v ρ' L'=>ρ.le ρ'/\∃a n c',v=.tuple ⟨[.slice a n c',.int .i64 (if Zp c then 0 else 160)]⟩/\n<=c'/\SIn ρ' Zk a n (if Zp c then Yf c else [])/\L'=[]):=by
 have hck:=λ ρ h=>Xn ρ w c h
 refine Za func250 rfl rfl rfl λ u R=>?_
 simp only[Zc,kA]
 cases hok:Zp c
 ·simp only[hok,aB,if_false] at hck ⊢
  repeat' (first|(refine Zb (.func 205) ?_;refine qC rfl rfl (hck _ h) ?_;rintro v ρ' L' hle ⟨rfl,rfl,rfl⟩<;>(try simp only[kA]))|refine zW ?_|intro _)
  exact qE ⟨Hp.le_refl _,none,0,0,rfl,aR _,SIn.nil,rfl⟩
 ·simp only[hok,if_true] at hck ⊢
  obtain⟨hkind,hrl,hkl,hrow,hkid⟩:=YF hok
  have hk03:0<=c.kind/\c.kind<3:=by omega
  obtain⟨kind,rows,kids⟩:=c
  obtain⟨ra,rn,rc,ka,kn,kc⟩:=w
  obtain⟨hr,hk,hrb,hkb,hrc,hkc⟩:=h
  dsimp only at hrc hkc hr hk hrb hkb hrow hkid hrl hkl hk03 hir hik ⊢
  have hrn:=hr.len
  have hkn:=hk.len
  have hcnt:=lenB (n:=rn+kn) (by omega)
  have hkB:=tB_eq (t:=kind) (by omega) (by omega)
  dsimp only[Yv] at hck ⊢
  by_cases hk0:kind=0
  ·obtain⟨B0,hB0⟩:∃B0,tB kind::cntB ⟨kind,rows,kids⟩=B0:=⟨_,rfl⟩
   have hX:B0=[tB kind]:=by rw[<-hB0];simp[cntB,hk0]
   have hBl:B0.length<=2:=by rw[hX];simp
   repeat' (first|(refine Zb (.func 205) ?_;refine qC rfl rfl (hck _ ⟨hr,hk,hrb,hkb,hrc,hkc⟩) ?_;rintro v ρ' L' hle ⟨rfl,rfl,rfl⟩<;>(try simp only[kA]))|(refine Zl rfl rfl rfl rfl (by simp) rfl rfl (λ _=>?_);simp only[hkB])|refine zW ?_|intro _)
   rename_i b1 b2
   rw[show [Zk (tB kind)]=B0.map Zk by rw[hX];rfl,own_chunk b2 1 1]
   have hown0:OwnS (.slice (some ⟨b2,0,none⟩) 1 1) B0.length (B0.map Zk) [] 1:=⟨.inr ⟨b2,1,by rw[hX];rfl,by simp,by simp[hX],by simp[hX]⟩⟩
   generalize Value.slice (some ⟨b2,0,none⟩) 1 1=v0 at *
   rw[show B0.map Zk=(B0++(rows.take 0).flatMap ZY).map Zk by simp]
   refine lpG (Nat×Hp×Value×(List Value)) [1,2,3,34,35] (λ z=>[(36,.int .i64 z.1),(5,z.2.2.1)]) (λ z=>z.2.1) (λ z=>[ZG z.2.2.1 ((B0++(rows.take z.1).flatMap ZY).map Zk) z.2.2.2 5,[(b1,.cells ⟨[.int .i64 kind,.slice ra rn rc,.slice ka kn kc]⟩ 88 (0,0))]]) (λ z=>z.1<=rn/\ρ'.le z.2.1/\OwnS z.2.2.1 (B0++(rows.take z.1).flatMap ZY).length ((B0++(rows.take z.1).flatMap ZY).map Zk) z.2.2.2 1) (λ z=>rn-z.1) (0,ρ',v0,[]) ⟨aZ _,Hp.le_refl _,by simpa using hown0⟩ ?_
   rintro⟨k,ρ1,v,sp⟩ hI
   try simp only[kB] at hI ⊢
   try dsimp only at hI ⊢
   obtain⟨hkn0,hle1,hown⟩:=hI
   by_cases hlt:k<rn
   ·obtain⟨b,off,C,T,fr,rfl,hb,hfit,hc⟩:=(hr.mono hle1).get (show k<rows.length by omega)
    have hmem:rows[k]'(by omega)∈rows:=aM _
    have hro:=hrow _ hmem
    have hid:=hir _ hmem
    have hts:=XQ ZY rows k (by omega)
    have hfl:=YH ZY 20 (rows.take k) (λ x hx=>rowB_le (hrow x (List.mem_of_mem_take hx)))
    have htl:(rows.take k).length<=4:=by simp;omega
    have hXl:(B0++(rows.take k).flatMap ZY).length<=100:=by simp only[aL];omega
    have hll:(B0++(rows.take k).flatMap ZY).length+(ZY (rows[k]'(by omega))).length=(B0++(rows.take (k+1)).flatMap ZY).length:=by rw[hts];simp;omega
    have hmm:B0++(rows.take k).flatMap ZY++ZY (rows[k]'(by omega))=B0++(rows.take (k+1)).flatMap ZY:=by rw[hts];simp
    generalize rows[k]'(by omega)=x at *
    repeat' (first|(refine Zb (.func 266) ?_;refine qC rfl rfl (claid_spec _ v _ _ sp hown (by omega) x hro hid) ?_;rintro v2 ρ2 L2 hle0 ⟨hle2,sp2,hown2,rfl⟩;simp only[kA,hmm];rw[hmm,hll] at hown2)|refine zW ?_|intro _)
    refine rnG (k+1,_,v2,sp2) (⟨hlt,Hp.le_trans hle1 hle2,hown2⟩)
   ·have hk2:k=rn:=by omega
    subst hk2
    rw[aT (by omega)] at hown ⊢
    repeat' (first|refine zW ?_|intro _)
    rw[show (B0++rows.flatMap ZY).map Zk=(B0++(rows.flatMap ZY++(kids.take 0).flatMap XJ)).map Zk by simp]
    refine lpG (Nat×Hp×Value×(List Value)) [2,3,45,46] (λ z=>[(47,.int .i64 z.1),(5,z.2.2.1)]) (λ z=>z.2.1) (λ z=>[ZG z.2.2.1 ((B0++(rows.flatMap ZY++(kids.take z.1).flatMap XJ)).map Zk) z.2.2.2 5]) (λ z=>z.1<=kn/\ρ1.le z.2.1/\OwnS z.2.2.1 (B0++(rows.flatMap ZY++(kids.take z.1).flatMap XJ)).length ((B0++(rows.flatMap ZY++(kids.take z.1).flatMap XJ)).map Zk) z.2.2.2 1) (λ z=>kn-z.1) (0,ρ1,v,sp) ⟨aZ _,Hp.le_refl _,by simpa using hown⟩ ?_
    rintro⟨j,ρ2,v,sp⟩ hI
    try simp only[kB] at hI ⊢
    try dsimp only at hI ⊢
    have hfl:=YH ZY 20 rows (λ x hx=>rowB_le (hrow x hx))
    obtain⟨hj0,hle3,hown3⟩:=hI
    by_cases hlj:j<kn
    ·obtain⟨b,off,C,T,fr,rfl,hb,hfit,hc⟩:=(hk.mono (Hp.le_trans hle1 hle3)).get (show j<kids.length by omega)
     have hmem:kids[j]'(by omega)∈kids:=aM _
     have hko:=hkid _ hmem
     have hid:=hik _ hmem
     have hts:=XQ XJ kids j (by omega)
     have hfk:=YH XJ 4 (kids.take j) (λ x hx=>Nat.le_of_eq (kidB_len x))
     have htl:(kids.take j).length<=4:=by simp;omega
     have hXl:(B0++(rows.flatMap ZY++(kids.take j).flatMap XJ)).length<=200:=by simp only[aL];omega
     have hmm:B0++(rows.flatMap ZY++(kids.take j).flatMap XJ)++keyB (kids[j]'(by omega)).t (kids[j]'(by omega)).id++[tB (kids[j]'(by omega)).page]=B0++(rows.flatMap ZY++(kids.take (j+1)).flatMap XJ):=by rw[hts];simp[XJ]
     have hll:(B0++(rows.flatMap ZY++(kids.take j).flatMap XJ)).length+3+1=(B0++(rows.flatMap ZY++(kids.take (j+1)).flatMap XJ)).length:=by rw[hts];simp[kidB_len];omega
     have hpg:=tB_eq (t:=(kids[j]'(by omega)).page) (by omega) (by omega)
     generalize kids[j]'(by omega)=x at *
     generalize hX:B0++(rows.flatMap ZY++(kids.take j).flatMap XJ)=X at *
     repeat' (first|refine zW ?_|intro _)
     rename_i b9
     refine Yt [0,1,2,4,5,6] (.b 3 7 [] [] (.e 7 [] (.e 8 [] (.f [9] .o))) (.e 3 [] (.e 8 [] (.f [9] .o)))) ([[(b9,.cells ⟨XD x⟩ 227 (0,0))]]) ?_
     repeat' (refine iT ?_;first|refine rA ?_|((first|(refine iE ?_;refine rE ?_)|(refine iB ?_;refine rB ?_ ?_))<;>((first|(refine Zb (.func 281) ?_;refine qC rfl rfl (key_spec _ v _ X sp hown3 (by omega) x.t x.id hko.1.1 (by omega) hid) ?_;rintro v2 ρ4 L2 hle0 ⟨hle4,sp4,hown4,rfl⟩;simp only[kA])|(refine Zl rfl rfl rfl rfl (by simp) rfl rfl (λ _=>?_);simp only[hpg])|(refine YA (ys:=[Zk (tB x.page)]) (m:=1) rfl rfl hown4 (hR:=by infer_instance) SrcV.lit rfl rfl (by decide) rfl (by omega) (by omega) rfl (λ v5 sp5 hown5=>?_);rw[show (X++keyB x.t x.id).map Zk++[Zk (tB x.page)]=(X++keyB x.t x.id++[tB x.page]).map Zk by simp,hmm] at hown5 ⊢;rw[hll] at hown5)|(refine qEf ?_;try intro _))<;>(try simp only[kA])<;>refine zN ?_)))
     all_goals (repeat' (first|refine zW ?_|intro _))
     all_goals refine rnG (j+1,_,v5,sp5) (⟨hlj,Hp.le_trans hle3 (by assumption),hown5⟩)
    ·have hj2:j=kn:=by omega
     subst hj2
     rw[aT (by omega)] at hown3 ⊢
     have hfin:B0++(rows.flatMap ZY++kids.flatMap XJ)=Yf ⟨kind,rows,kids⟩:=by rw[<-hB0];simp[Yf]
     rw[hfin] at hown3 ⊢
     repeat' (first|refine zW ?_|intro _)
     refine ZB _ (h:=Rem.here) (λ ρ6 hle6 hfz=>?_)
     obtain⟨a6,c6,rfl,hc6,hs6⟩:=hown3.sIn hfz
     exact qE ⟨Hp.le_trans hle1 (Hp.le_trans hle3 hle6),a6,_,c6,rfl,hc6,hs6,rfl⟩
  ·obtain⟨B0,hB0⟩:∃B0,tB kind::cntB ⟨kind,rows,kids⟩=B0:=⟨_,rfl⟩
   have hX:B0=[tB kind]++[UInt8.ofNat (rn+kn)]:=by rw[<-hB0];simp[cntB,hk0,hrn,hkn]
   have hBl:B0.length<=2:=by rw[hX];simp
   have hcnt':Value.int .u8 ((rn:Int)+(kn:Int))=Zk (UInt8.ofNat (rn+kn)):=by rw[<-hcnt];simp
   repeat' (first|(refine Zb (.func 205) ?_;refine qC rfl rfl (hck _ ⟨hr,hk,hrb,hkb,hrc,hkc⟩) ?_;rintro v ρ' L' hle ⟨rfl,rfl,rfl⟩<;>(try simp only[kA]))|(refine Zl rfl rfl rfl rfl (by simp) rfl rfl (λ _=>?_);first|simp only[hkB]|simp only[hcnt'])|refine zW ?_|intro _)
   rename_i b1 b2 b3
   rw[show ([(b2,Obj.cells ⟨[Zk (tB kind)]⟩ 5 (0,0))]:List (Nat×Obj))=ZG (.slice (some ⟨b2,0,none⟩) 1 1) ([tB kind].map Zk) [] 5 from rfl]
   refine YA (ys:=[Zk (UInt8.ofNat (rn+kn))]) (m:=1) (n:=1) (xs:=[tB kind].map Zk) (sp:=[]) rfl rfl ⟨.inr ⟨b2,1,rfl,rfl,rfl,aR _⟩⟩ (hR:=by infer_instance) SrcV.lit rfl rfl (by decide) rfl (by omega) (by omega) rfl (λ v0 sp0 hown0=>?_)
   rw[show [tB kind].map Zk++[Zk (UInt8.ofNat (rn+kn))]=B0.map Zk by rw[hX];rfl] at hown0 ⊢
   replace hown0:OwnS v0 B0.length (B0.map Zk) sp0 1:=by
    have e:B0.length=1+1:=by rw[hX];rfl
    rw[e];exact hown0
   repeat' (first|refine zW ?_|intro _)
   rw[show B0.map Zk=(B0++(rows.take 0).flatMap ZY).map Zk by simp]
   refine lpG (Nat×Hp×Value×(List Value)) [1,2,3,34,35] (λ z=>[(36,.int .i64 z.1),(5,z.2.2.1)]) (λ z=>z.2.1) (λ z=>[ZG z.2.2.1 ((B0++(rows.take z.1).flatMap ZY).map Zk) z.2.2.2 5,[(b1,.cells ⟨[.int .i64 kind,.slice ra rn rc,.slice ka kn kc]⟩ 88 (0,0))]]) (λ z=>z.1<=rn/\ρ'.le z.2.1/\OwnS z.2.2.1 (B0++(rows.take z.1).flatMap ZY).length ((B0++(rows.take z.1).flatMap ZY).map Zk) z.2.2.2 1) (λ z=>rn-z.1) (0,ρ',v0,sp0) ⟨aZ _,Hp.le_refl _,by simpa using hown0⟩ ?_
   rintro⟨k,ρ1,v,sp⟩ hI
   try simp only[kB] at hI ⊢
   try dsimp only at hI ⊢
   obtain⟨hkn0,hle1,hown⟩:=hI
   by_cases hlt:k<rn
   ·obtain⟨b,off,C,T,fr,rfl,hb,hfit,hc⟩:=(hr.mono hle1).get (show k<rows.length by omega)
    have hmem:rows[k]'(by omega)∈rows:=aM _
    have hro:=hrow _ hmem
    have hid:=hir _ hmem
    have hts:=XQ ZY rows k (by omega)
    have hfl:=YH ZY 20 (rows.take k) (λ x hx=>rowB_le (hrow x (List.mem_of_mem_take hx)))
    have htl:(rows.take k).length<=4:=by simp;omega
    have hXl:(B0++(rows.take k).flatMap ZY).length<=100:=by simp only[aL];omega
    have hll:(B0++(rows.take k).flatMap ZY).length+(ZY (rows[k]'(by omega))).length=(B0++(rows.take (k+1)).flatMap ZY).length:=by rw[hts];simp;omega
    have hmm:B0++(rows.take k).flatMap ZY++ZY (rows[k]'(by omega))=B0++(rows.take (k+1)).flatMap ZY:=by rw[hts];simp
    generalize rows[k]'(by omega)=x at *
    repeat' (first|(refine Zb (.func 266) ?_;refine qC rfl rfl (claid_spec _ v _ _ sp hown (by omega) x hro hid) ?_;rintro v2 ρ2 L2 hle0 ⟨hle2,sp2,hown2,rfl⟩;simp only[kA,hmm];rw[hmm,hll] at hown2)|refine zW ?_|intro _)
    refine rnG (k+1,_,v2,sp2) (⟨hlt,Hp.le_trans hle1 hle2,hown2⟩)
   ·have hk2:k=rn:=by omega
    subst hk2
    rw[aT (by omega)] at hown ⊢
    repeat' (first|refine zW ?_|intro _)
    rw[show (B0++rows.flatMap ZY).map Zk=(B0++(rows.flatMap ZY++(kids.take 0).flatMap XJ)).map Zk by simp]
    refine lpG (Nat×Hp×Value×(List Value)) [2,3,45,46] (λ z=>[(47,.int .i64 z.1),(5,z.2.2.1)]) (λ z=>z.2.1) (λ z=>[ZG z.2.2.1 ((B0++(rows.flatMap ZY++(kids.take z.1).flatMap XJ)).map Zk) z.2.2.2 5]) (λ z=>z.1<=kn/\ρ1.le z.2.1/\OwnS z.2.2.1 (B0++(rows.flatMap ZY++(kids.take z.1).flatMap XJ)).length ((B0++(rows.flatMap ZY++(kids.take z.1).flatMap XJ)).map Zk) z.2.2.2 1) (λ z=>kn-z.1) (0,ρ1,v,sp) ⟨aZ _,Hp.le_refl _,by simpa using hown⟩ ?_
    rintro⟨j,ρ2,v,sp⟩ hI
    try simp only[kB] at hI ⊢
    try dsimp only at hI ⊢
    have hfl:=YH ZY 20 rows (λ x hx=>rowB_le (hrow x hx))
    obtain⟨hj0,hle3,hown3⟩:=hI
    by_cases hlj:j<kn
    ·obtain⟨b,off,C,T,fr,rfl,hb,hfit,hc⟩:=(hk.mono (Hp.le_trans hle1 hle3)).get (show j<kids.length by omega)
     have hmem:kids[j]'(by omega)∈kids:=aM _
     have hko:=hkid _ hmem
     have hid:=hik _ hmem
     have hts:=XQ XJ kids j (by omega)
     have hfk:=YH XJ 4 (kids.take j) (λ x hx=>Nat.le_of_eq (kidB_len x))
     have htl:(kids.take j).length<=4:=by simp;omega
     have hXl:(B0++(rows.flatMap ZY++(kids.take j).flatMap XJ)).length<=200:=by simp only[aL];omega
     have hmm:B0++(rows.flatMap ZY++(kids.take j).flatMap XJ)++keyB (kids[j]'(by omega)).t (kids[j]'(by omega)).id++[tB (kids[j]'(by omega)).page]=B0++(rows.flatMap ZY++(kids.take (j+1)).flatMap XJ):=by rw[hts];simp[XJ]
     have hll:(B0++(rows.flatMap ZY++(kids.take j).flatMap XJ)).length+3+1=(B0++(rows.flatMap ZY++(kids.take (j+1)).flatMap XJ)).length:=by rw[hts];simp[kidB_len];omega
     have hpg:=tB_eq (t:=(kids[j]'(by omega)).page) (by omega) (by omega)
     generalize kids[j]'(by omega)=x at *
     generalize hX:B0++(rows.flatMap ZY++(kids.take j).flatMap XJ)=X at *
     repeat' (first|refine zW ?_|intro _)
     rename_i b9
     refine Yt [0,1,2,4,5,6] (.b 3 7 [] [] (.e 7 [] (.e 8 [] (.f [9] .o))) (.e 3 [] (.e 8 [] (.f [9] .o)))) ([[(b9,.cells ⟨XD x⟩ 227 (0,0))]]) ?_
     repeat' (refine iT ?_;first|refine rA ?_|((first|(refine iE ?_;refine rE ?_)|(refine iB ?_;refine rB ?_ ?_))<;>((first|(refine Zb (.func 281) ?_;refine qC rfl rfl (key_spec _ v _ X sp hown3 (by omega) x.t x.id hko.1.1 (by omega) hid) ?_;rintro v2 ρ4 L2 hle0 ⟨hle4,sp4,hown4,rfl⟩;simp only[kA])|(refine Zl rfl rfl rfl rfl (by simp) rfl rfl (λ _=>?_);simp only[hpg])|(refine YA (ys:=[Zk (tB x.page)]) (m:=1) rfl rfl hown4 (hR:=by infer_instance) SrcV.lit rfl rfl (by decide) rfl (by omega) (by omega) rfl (λ v5 sp5 hown5=>?_);rw[show (X++keyB x.t x.id).map Zk++[Zk (tB x.page)]=(X++keyB x.t x.id++[tB x.page]).map Zk by simp,hmm] at hown5 ⊢;rw[hll] at hown5)|(refine qEf ?_;try intro _))<;>(try simp only[kA])<;>refine zN ?_)))
     all_goals (repeat' (first|refine zW ?_|intro _))
     all_goals refine rnG (j+1,_,v5,sp5) (⟨hlj,Hp.le_trans hle3 (by assumption),hown5⟩)
    ·have hj2:j=kn:=by omega
     subst hj2
     rw[aT (by omega)] at hown3 ⊢
     have hfin:B0++(rows.flatMap ZY++kids.flatMap XJ)=Yf ⟨kind,rows,kids⟩:=by rw[<-hB0];simp[Yf]
     rw[hfin] at hown3 ⊢
     repeat' (first|refine zW ?_|intro _)
     refine ZB _ (h:=Rem.here) (λ ρ6 hle6 hfz=>?_)
     obtain⟨a6,c6,rfl,hc6,hs6⟩:=hown3.sIn hfz
     exact qE ⟨Hp.le_trans hle1 (Hp.le_trans hle3 hle6),a6,_,c6,rfl,hc6,hs6,rfl⟩
instance:Zz prog 113:=mkFun (by kernel_rfl)
instance (priority:=1200) eqRow {x y:Row}:EqC prog 8 171 (.agg ⟨Yz x⟩) (.agg ⟨Yz y⟩) (decide (x=y)):=by
 have h:EqC prog 8 171 (.agg ⟨[.int .i64 x.t,.int .u16 x.id,.int .i64 x.val,strV x.note]⟩) (.agg ⟨[.int .i64 y.t,.int .u16 y.id,.int .i64 y.val,strV y.note]⟩) _:=inferInstance
 refine⟨λ d w hd=>?_⟩
 rw[h.out d w hd]
 congr 1
 obtain⟨t,i,v,n⟩:=x
 obtain⟨t',i',v',n'⟩:=y
 simp only[Row.mk.injEq,Bool.and_true,Bool.decide_and]
 have e:((i:Int) == (i':Int))=decide (i=i'):=by
  by_cases h:i=i'
  ·subst h;simp
  ·rw[decide_eq_false h];simp only[beq_eq_false_iff_ne,ne_eq];omega
 rw[e]
 by_cases h1:t=t'<;>by_cases h2:i=i'<;>by_cases h3:v=v'<;>simp[h1,h2,h3]
instance (priority:=1200) eqKid {x y:Kid}:EqC prog 8 227 (.agg ⟨XD x⟩) (.agg ⟨XD y⟩) (decide (x=y)):=by
 have h:EqC prog 8 227 (.agg ⟨[.int .i64 x.t,.int .u16 x.id,.int .i64 x.page]⟩) (.agg ⟨[.int .i64 y.t,.int .u16 y.id,.int .i64 y.page]⟩) _:=inferInstance
 refine⟨λ d w hd=>?_⟩
 rw[h.out d w hd]
 congr 1
 obtain⟨t,i,v⟩:=x
 obtain⟨t',i',v'⟩:=y
 simp only[Kid.mk.injEq,Bool.and_true,Bool.decide_and]
 have e:((i:Int) == (i':Int))=decide (i=i'):=by
  by_cases h:i=i'
  ·subst h;simp
  ·rw[decide_eq_false h];simp only[beq_eq_false_iff_ne,ne_eq];omega
 rw[e]
 by_cases h1:t=t'<;>by_cases h2:i=i'<;>by_cases h3:v=v'<;>simp[h1,h2,h3]
end Go.Proofs.E
