/- Laws of LogReads. Part 5 of 28. -/
import Derived.Test.YtpcfmhifkkpjpaaGreatC4
namespace Go.Proofs.E
open Go
set_option linter.unusedVariables false
set_option linter.unusedSimpArgs false
set_option linter.unusedSectionVars false
set_option maxRecDepth 4000
set_option maxHeartbeats 1000000
attribute [local irreducible] Yl TL TC TE Spec ZI R1 Hp.le EnvLe TS TR YS Zp
theorem gives_ok2 (ρ:Hp)(br:Nat)(a:Option Addr)(n c:Nat)(l:List UInt8)(h:SIn ρ Zo a n l)(hc:n≤c)(k:Nat)(hk:k≤n)(g:Nat)(cs:List Value)(X:SH)(PX:Hp→SH→Prop)[ZO Tryz.prog g]
  (hS:SIn ρ Zo a k (l.take k)→Spec Tryz.prog g ([.slice a k c]++cs) ρ X (fun v ρ' L'=>v=.tuple ⟨[]⟩∧ρ.le ρ'∧PX ρ' L')) :
  Spec Tryz.prog 302 [.pointer (some ⟨br,0,none⟩),.int .i64 k,.func (.func g) ⟨[]⟩ ⟨cs⟩] ρ (rdC br a n c 0::X)
   (fun v ρ' L'=>v=.tuple ⟨[]⟩∧ρ.le ρ'∧∃a' c' X',SIn ρ' Zo a' (n-k) (l.drop k)∧n-k≤c'∧L'=rdC br a' (n-k) c' 0::X'∧PX ρ' X'):=by
 replace hS:=hS (h.take hk)
 have hl:=h.len
 have hsub:=h.sub (lo':=k) (hi':=n) (cap:=c) hk (Nat.le_refl _) hc
 rw[List.take_of_length_le (by simp;omega)] at hsub
 refine Zb Tryz.func302 rfl rfl rfl fun u R=>?_
 simp only[Zd,kA] at hS ⊢
 repeat' (first|(refine Za (.func 257) ?_;refine qR rfl rfl (XE _ br a n c 0) ?_;try simp only[kA])|(refine Za (.tmp 9) ?_;refine qC rfl rfl (hS) ?_;rintro v ρ' L' hle ⟨rfl,hle1,hP⟩<;>(try simp only[kA]))|refine zW ?_|intro _)
 exact qE ⟨rfl,hle1,_,c-k,_,hsub.mono hle1,by omega,rfl,hP⟩
theorem raw_spec (ρ:Hp)(br:Nat)(a:Option Addr)(n c:Nat)(l:List UInt8)(h:SIn ρ Zo a n l)(hc:n≤c)(st:Int)(k:Nat)(hk:k≤1000000) :
  Spec Tryz.prog 304 [.pointer (some ⟨br,0,none⟩),.int .i64 k] ρ [rdC br a n c st]
   (fun v ρ' L'=>ρ.le ρ'∧∃va vn vc a' n' c',v=.slice va vn vc∧vn≤vc∧SIn ρ' Zo va vn (Vc k l st).1∧SIn ρ' Zo a' n' (Vc k l st).2.1∧n'≤c'∧L'=[rdC br a' n' c' (Vc k l st).2.2]):=by
 have hl:=h.len
 by_cases hst:st=0
 ·subst hst
  by_cases hs:n<k
  ·have e:Vc k l 0=([],l,7):=by simp[Vc,hl,hs]
   rw[e]
   refine Zb Tryz.func304 rfl rfl rfl fun u R=>?_
   simp only[Zd,kA]
   repeat' (first|(refine Za (.func 302) ?_;refine qR rfl rfl (gives_short _ br a n c k (by omega) _) ?_;try simp only[kA])|refine zW ?_|intro _)
   exact qE ⟨Hp.le_refl _,none,0,0,a,n,c,rfl,Nat.le_refl _,SIn.nil,h,hc,rfl⟩
  ·have e:Vc k l 0=(l.take k,l.drop k,0):=by simp[Vc,hl,hs]
   rw[e]
   refine Zb Tryz.func304 rfl rfl rfl fun u R=>?_
   simp only[Zd,kA]
   repeat' (first|refine zW ?_|intro _)
   rename_i bx
   have hg:=gives_ok2 ρ br a n c l h hc k (by omega) 338 [.pointer (some ⟨bx,0,none⟩)] [[(bx,.cells ⟨[.slice none 0 0]⟩ 22 (0,0))]] _ (fun hs=>raw1_spec ρ bx a k c (l.take k) hs hk)
   repeat' (first|(refine Za (.func 302) ?_;refine qC rfl rfl (hg) ?_;rintro v ρ' L' hle ⟨rfl,hle1,a',c',X',hs',hc',rfl,va,vc,hv,hvc,rfl⟩<;>(try simp only[kA]))|refine zW ?_|intro _)
   exact qE ⟨hle1,va,k,vc,a',n-k,c',rfl,hvc,hv,hs',hc',rfl⟩
 ·have e:Vc k l st=([],l,st):=by simp[Vc,hst]
  rw[e]
  refine Zb Tryz.func304 rfl rfl rfl fun u R=>?_
  simp only[Zd,kA]
  repeat' (first|(refine Za (.func 302) ?_;refine qR rfl rfl (gives_stuck _ br a n c st hst k _) ?_;try simp only[kA])|refine zW ?_|intro _)
  exact qE ⟨Hp.le_refl _,none,0,0,a,n,c,rfl,Nat.le_refl _,SIn.nil,h,hc,rfl⟩
structure Row where
 t:Int
 id:Nat
 val:Int
 note:List UInt8
deriving DecidableEq
structure Kid where
 t:Int
 id:Nat
 page:Int
deriving DecidableEq
abbrev keyV (t:Int)(id:Nat):List Value:=[.int .i64 t,.int .u16 id]
abbrev Yq (r:Row):List Value:=[.int .i64 r.t,.int .u16 r.id,.int .i64 r.val,strV r.note]
abbrev Xl (k:Kid):List Value:=[.int .i64 k.t,.int .u16 k.id,.int .i64 k.page]
abbrev tkC (bt br:Nat)(all:Int)(bad:Bool)(vk vr vs:Value):List (Nat×Obj):=[(bt,.cells ⟨[.pointer (some ⟨br,0,none⟩),.int .i64 all,.bool bad,vk,vr,vs]⟩ 427 (0,0))]
theorem WI (ρ:Hp)(n:Int):Spec Tryz.prog 322 [.int .i64 n] ρ [] (fun v ρ' L'=>v=.bool (decide (0≤n∧n<3))∧ρ'=ρ∧L'=[]):=by
 refine Zb Tryz.func322 rfl rfl rfl fun u R=>?_
 simp only[Zd,kA]
 by_cases h0:0≤n
 ·by_cases h1:n<3
  ·rw[decide_eq_true ⟨h0,h1⟩]
   repeat' (first|refine zW ?_|intro _)
   exact qE ⟨rfl,rfl,rfl⟩
  ·rw[decide_eq_false (fun h=>h1 h.2)]
   repeat' (first|refine zW ?_|intro _)
   exact qE ⟨rfl,rfl,rfl⟩
 ·rw[decide_eq_false (fun h=>h0 h.1)]
  repeat' (first|refine zW ?_|intro _)
  exact qE ⟨rfl,rfl,rfl⟩
theorem ok_spec (ρ:Hp)(bt br:Nat)(all:Int)(bad:Bool)(vk vr vs:Value)(a:Option Addr)(n c:Nat)(st:Int) :
  Spec Tryz.prog 342 [.pointer (some ⟨bt,0,none⟩)] ρ [tkC bt br all bad vk vr vs,rdC br a n c st]
   (fun v ρ' L'=>v=.bool (!bad && decide (st=0))∧ρ'=ρ∧L'=[tkC bt br all bad vk vr vs,rdC br a n c st]):=by
 refine Zb Tryz.func342 rfl rfl rfl fun u R=>?_
 simp only[Zd,kA]
 cases bad
 ·by_cases h:st=0
  ·subst h
   repeat' (first|(refine Za (.func 257) ?_;refine qR rfl rfl (XE _ br a n c 0) ?_;try simp only[kA])|refine zW ?_|intro _)
   exact qE ⟨rfl,rfl,rfl⟩
  ·have hd:decide (st=0)=false:=decide_eq_false h
   rw[hd]
   repeat' (first|(refine Za (.func 257) ?_;refine qR rfl rfl (XE _ br a n c st) ?_;try simp only[kA])|refine zW ?_|intro _)
   exact qE ⟨rfl,rfl,rfl⟩
 ·repeat' (first|refine zW ?_|intro _)
  exact qE ⟨rfl,rfl,rfl⟩
def Xt (bad:Bool)(st:Int)(is:Bool):Bool:=bad || (decide (st=0) && !is)
theorem Xp (ρ:Hp)(bt br:Nat)(all:Int)(bad:Bool)(vk vr vs:Value)(a:Option Addr)(n c:Nat)(st:Int)(is:Bool) :
  Spec Tryz.prog 339 [.pointer (some ⟨bt,0,none⟩),.bool is] ρ [tkC bt br all bad vk vr vs,rdC br a n c st]
   (fun v ρ' L'=>v=.tuple ⟨[]⟩∧ρ'=ρ∧L'=[tkC bt br all (Xt bad st is) vk vr vs,rdC br a n c st]):=by
 refine Zb Tryz.func339 rfl rfl rfl fun u R=>?_
 simp only[Zd,kA,Xt]
 cases bad
 ·by_cases h:st=0
  ·subst h
   cases is
   all_goals (repeat' (first|(refine Za (.func 257) ?_;refine qR rfl rfl (XE _ br a n c 0) ?_;try simp only[kA])|refine zW ?_|intro _))
   all_goals exact qE ⟨rfl,rfl,rfl⟩
  ·have hd:decide (st=0)=false:=decide_eq_false h
   rw[hd]
   repeat' (first|(refine Za (.func 257) ?_;refine qR rfl rfl (XE _ br a n c st) ?_;try simp only[kA])|refine zW ?_|intro _)
   exact qE ⟨rfl,rfl,rfl⟩
 ·repeat' (first|refine zW ?_|intro _)
  exact qE ⟨rfl,rfl,rfl⟩
end Go.Proofs.E
namespace Go.Proofs.E
open Go
set_option linter.unusedVariables false
set_option linter.unusedSimpArgs false
set_option linter.unusedSectionVars false
set_option maxRecDepth 4000
set_option maxHeartbeats 1000000
attribute [local irreducible] Yl TL TC TE Spec ZI R1 Hp.le EnvLe TS TR YS Zp TP QP
abbrev Yc:=List UInt8×Int×Bool
def i64N (x:Nat):Int:=IntKind.i64.wrap (x:Int)
def Ww (l:List UInt8)(st:Int)(bad:Bool):Row×Yc:=
 let r1:=Yg 1 l st
 let b1:=Xt bad r1.2.2 (decide ((r1.1:Int)<3))
 if !b1 && decide (r1.2.2=0) then
  let r2:=Yg 2 r1.2.1 r1.2.2
  let r3:=Yg 8 r2.2.1 r2.2.2
  let r4:=Yg 1 r3.2.1 r3.2.2
  let b2:=Xt b1 r4.2.2 (decide ((r4.1:Int)≤8))
  if !b2 && decide (r4.2.2=0) then
   let r5:=Vc r4.1 r4.2.1 r4.2.2
   (⟨r1.1,r2.1,i64N r3.1,r5.1⟩,r5.2.1,r5.2.2,b2)
  else (⟨r1.1,r2.1,i64N r3.1,[]⟩,r4.2.1,r4.2.2,b2)
 else (⟨r1.1,0,0,[]⟩,r1.2.1,r1.2.2,b1)
theorem trow_spec (ρ:Hp)(bt br:Nat)(all:Int)(bad:Bool)(vk vr vs:Value)(a:Option Addr)(n c:Nat)(l:List UInt8)(h:SIn ρ Zo a n l)(hc:n≤c)(st:Int) :
  Spec Tryz.prog 309 [.pointer (some ⟨bt,0,none⟩)] ρ [tkC bt br all bad vk vr vs,rdC br a n c st]
   (fun v ρ' L'=>v=.agg ⟨Yq (Ww l st bad).1⟩∧ρ.le ρ'∧∃a' n' c',SIn ρ' Zo a' n' (Ww l st bad).2.1∧n'≤c'∧L'=[tkC bt br all (Ww l st bad).2.2.2 vk vr vs,rdC br a' n' c' (Ww l st bad).2.2.1]):=by
 have hn1:=u8_spec ρ br a n c l h hc st
 have hb1:=Wm 1 l st
 generalize hq:Ww l st bad=q
 unfold Ww at hq
 generalize Yg 1 l st=r1 at *
 obtain⟨x1,l1,st1⟩:=r1
 dsimp only at hq hn1 hb1
 have htab:decide (0≤(x1:Int)∧(x1:Int)<3)=decide ((x1:Int)<3):=by simp
 generalize hB1:Xt bad st1 (decide ((x1:Int)<3))=b1 at *
 refine Zb Tryz.func309 rfl rfl rfl fun u R=>?_
 simp only[Zd,kA]
 repeat' (first|(refine Za (.func 178) ?_;refine qC rfl rfl (hn1) ?_;rintro v ρ' L' hle ⟨rfl,rfl,a1,n1,c1,h1,hc1,rfl⟩<;>(try simp only[kA]))|(refine Za (.func 322) ?_;refine qR rfl rfl (WI _ (x1:Int)) ?_;try simp only[kA,htab])|(refine Za (.func 339) ?_;refine qR rfl rfl (Xp _ bt br all bad vk vr vs a1 n1 c1 st1 (decide ((x1:Int)<3))) ?_;try simp only[kA,hB1])|(refine Za (.func 342) ?_;refine qR rfl rfl (ok_spec _ bt br all b1 vk vr vs a1 n1 c1 st1) ?_;try simp only[kA])|refine zW ?_|intro _)
 by_cases hok:(!b1 && decide (st1=0))=true
 ·rw[if_pos hok] at hq
  simp only[hok]
  have hn2:=fun ρ (h:SIn ρ Zo a1 n1 l1)=>u16_spec ρ br a1 n1 c1 l1 h hc1 st1
  have hb2:=Wm 2 l1 st1
  generalize Yg 2 l1 st1=r2 at *
  obtain⟨x2,l2,st2⟩:=r2
  dsimp only at hq hn2 hb2
  have hn3:=fun ρ a n c (h:SIn ρ Zo a n l2) hc=>u64_spec ρ br a n c l2 h hc st2
  generalize Yg 8 l2 st2=r3 at *
  obtain⟨x3,l3,st3⟩:=r3
  dsimp only at hq hn3
  have hn4:=fun ρ a n c (h:SIn ρ Zo a n l3) hc=>u8_spec ρ br a n c l3 h hc st3
  have hb4:=Wm 1 l3 st3
  generalize Yg 1 l3 st3=r4 at *
  obtain⟨x4,l4,st4⟩:=r4
  dsimp only at hq hn4 hb4
  generalize hB2:Xt b1 st4 (decide ((x4:Int)≤8))=b2 at *
  repeat' (first|(refine Za (.func 252) ?_;refine qC rfl rfl (hn2 _ h1) ?_;rintro v ρ' L' hle ⟨rfl,rfl,a2,n2,c2,h2,hc2,rfl⟩<;>(try simp only[kA]))|(refine Za (.func 179) ?_;refine qC rfl rfl (hn3 _ _ _ _ h2 hc2) ?_;rintro v ρ' L' hle ⟨rfl,rfl,a3,n3,c3,h3,hc3,rfl⟩<;>(try simp only[kA]))|(refine Za (.func 178) ?_;refine qC rfl rfl (hn4 _ _ _ _ h3 hc3) ?_;rintro v ρ' L' hle ⟨rfl,rfl,a4,n4,c4,h4,hc4,rfl⟩<;>(try simp only[kA]))|(refine Za (.func 339) ?_;refine qR rfl rfl (Xp _ bt br all b1 vk vr vs a4 n4 c4 st4 (decide ((x4:Int)≤8))) ?_;try simp only[kA,hB2])|(refine Za (.func 342) ?_;refine qR rfl rfl (ok_spec _ bt br all b2 vk vr vs a4 n4 c4 st4) ?_;try simp only[kA])|refine zW ?_|intro _)
  by_cases hok2:(!b2 && decide (st4=0))=true
  ·rw[if_pos hok2] at hq
   simp only[hok2]
   have hn5:=fun ρ (h:SIn ρ Zo a4 n4 l4)=>raw_spec ρ br a4 n4 c4 l4 h hc4 st4 x4 (by omega)
   generalize Vc x4 l4 st4=r5 at *
   obtain⟨x5,l5,st5⟩:=r5
   dsimp only at hq hn5
   subst hq
   repeat' (first|(refine Za (.func 304) ?_;refine qC rfl rfl (hn5 _ h4) ?_;rintro v ρ' L' hle ⟨hle5,va,vn,vc,a5,n5,c5,rfl,hvc,hv,h5,hc5,rfl⟩<;>(try simp only[kA]))|refine zW ?_|intro _)
   exact qE ⟨rfl,hle5,a5,n5,c5,h5,hc5,rfl⟩
  ·rw[if_neg hok2] at hq
   subst hq
   simp only[Bool.not_eq_true] at hok2
   simp only[hok2]
   repeat' (first|refine zW ?_|intro _)
   exact qE ⟨rfl,Hp.le_refl _,a4,n4,c4,h4,hc4,rfl⟩
 ·rw[if_neg hok] at hq
  subst hq
  simp only[Bool.not_eq_true] at hok
  simp only[hok]
  repeat' (first|refine zW ?_|intro _)
  exact qE ⟨rfl,Hp.le_refl _,a1,n1,c1,h1,hc1,rfl⟩
def kidR (l:List UInt8)(st:Int):Kid×List UInt8×Int:=
 let r1:=Yg 1 l st
 let r2:=Yg 2 r1.2.1 r1.2.2
 let r3:=Yg 1 r2.2.1 r2.2.2
 (⟨r1.1,r2.1,r3.1⟩,r3.2.1,r3.2.2)
theorem tkid_spec (ρ:Hp)(bt br:Nat)(all:Int)(bad:Bool)(vk vr vs:Value)(a:Option Addr)(n c:Nat)(l:List UInt8)(h:SIn ρ Zo a n l)(hc:n≤c)(st:Int) :
  Spec Tryz.prog 353 [.pointer (some ⟨bt,0,none⟩)] ρ [tkC bt br all bad vk vr vs,rdC br a n c st]
   (fun v ρ' L'=>v=.agg ⟨Xl (kidR l st).1⟩∧ρ'=ρ∧∃a' n' c',SIn ρ' Zo a' n' (kidR l st).2.1∧n'≤c'∧L'=[tkC bt br all bad vk vr vs,rdC br a' n' c' (kidR l st).2.2]):=by
 have hn1:=u8_spec ρ br a n c l h hc st
 have hb1:=Wm 1 l st
 generalize hq:kidR l st=q
 unfold kidR at hq
 generalize Yg 1 l st=r1 at *
 obtain⟨x1,l1,st1⟩:=r1
 dsimp only at hq hn1 hb1
 have hn2:=fun ρ a n c (h:SIn ρ Zo a n l1) hc=>u16_spec ρ br a n c l1 h hc st1
 have hb2:=Wm 2 l1 st1
 generalize Yg 2 l1 st1=r2 at *
 obtain⟨x2,l2,st2⟩:=r2
 dsimp only at hq hn2 hb2
 have hn3:=fun ρ a n c (h:SIn ρ Zo a n l2) hc=>u8_spec ρ br a n c l2 h hc st2
 have hb3:=Wm 1 l2 st2
 generalize Yg 1 l2 st2=r3 at *
 obtain⟨x3,l3,st3⟩:=r3
 dsimp only at hq hn3 hb3
 subst hq
 refine Zb Tryz.func353 rfl rfl rfl fun u R=>?_
 simp only[Zd,kA]
 repeat' (first|refine zW ?_|intro _)
 refine tpA [0,1,2,3,6,7,8,9] (.e 4 [5] (.e 10 [11,12] (.e 13 [] .o))) ([tkC bt br all bad vk vr vs]) ?_
 repeat' (refine iT ?_;first|refine rA ?_|((refine iE ?_;refine rE ?_)<;>((try refine Zn ?_);(first|(refine Za (.func 178) ?_;refine qC rfl rfl (hn1) ?_;rintro v ρ' L' hle ⟨rfl,rfl,a1,n1,c1,h1,hc1,rfl⟩<;>(try simp only[kA]))|(refine Za (.func 252) ?_;refine qC rfl rfl (hn2 _ _ _ _ h1 hc1) ?_;rintro v ρ' L' hle ⟨rfl,rfl,a2,n2,c2,h2,hc2,rfl⟩<;>(try simp only[kA]))|(refine Yj ?_;try intro _))<;>((try simp only[kA]);refine Zj ?_;refine rN ?_))))
 all_goals (repeat' (first|(refine Za (.func 178) ?_;refine qC rfl rfl (hn3 _ _ _ _ h2 hc2) ?_;rintro v ρ' L' hle ⟨rfl,rfl,a3,n3,c3,h3,hc3,rfl⟩<;>(try simp only[kA]))|refine zW ?_|intro _))
 all_goals exact qE ⟨rfl,rfl,a3,n3,c3,h3,hc3,rfl⟩
def cmpI (x y:Int):Int:=if x<y then -1 else if y<x then 1 else 0
theorem nanI_spec (ρ:Hp)(x:Int):Spec Tryz.prog 292 [.int .i64 x] ρ [] (fun v ρ' L'=>v=.bool false∧ρ'=ρ∧L'=[]):=by
 refine Zb Tryz.func292 rfl rfl rfl fun u R=>?_
 simp only[Zd,kA]
 repeat' (first|refine zW ?_|intro _)
 exact qE ⟨rfl,rfl,rfl⟩
theorem nanU_spec (ρ:Hp)(x:Int):Spec Tryz.prog 359 [.int .u16 x] ρ [] (fun v ρ' L'=>v=.bool false∧ρ'=ρ∧L'=[]):=by
 refine Zb Tryz.func359 rfl rfl rfl fun u R=>?_
 simp only[Zd,kA]
 repeat' (first|refine zW ?_|intro _)
 exact qE ⟨rfl,rfl,rfl⟩
theorem cmpI_spec (ρ:Hp)(x y:Int):Spec Tryz.prog 218 [.int .i64 x,.int .i64 y] ρ [] (fun v ρ' L'=>v=.int .i64 (cmpI x y)∧ρ'=ρ∧L'=[]):=by
 refine Zb Tryz.func218 rfl rfl rfl fun u R=>?_
 simp only[Zd,kA]
 unfold cmpI
 split
 ·repeat' (first|(refine Za (.func 292) ?_;refine qR rfl rfl (nanI_spec _ _) ?_;try simp only[kA])|refine zW ?_|intro _)
  exact qE ⟨rfl,rfl,rfl⟩
 ·split
  ·repeat' (first|(refine Za (.func 292) ?_;refine qR rfl rfl (nanI_spec _ _) ?_;try simp only[kA])|refine zW ?_|intro _)
   exact qE ⟨rfl,rfl,rfl⟩
  ·repeat' (first|(refine Za (.func 292) ?_;refine qR rfl rfl (nanI_spec _ _) ?_;try simp only[kA])|refine zW ?_|intro _)
   exact qE ⟨rfl,rfl,rfl⟩
theorem cmpU_spec (ρ:Hp)(x y:Int):Spec Tryz.prog 355 [.int .u16 x,.int .u16 y] ρ [] (fun v ρ' L'=>v=.int .i64 (cmpI x y)∧ρ'=ρ∧L'=[]):=by
 refine Zb Tryz.func355 rfl rfl rfl fun u R=>?_
 simp only[Zd,kA]
 unfold cmpI
 split
 ·repeat' (first|(refine Za (.func 359) ?_;refine qR rfl rfl (nanU_spec _ _) ?_;try simp only[kA])|refine zW ?_|intro _)
  exact qE ⟨rfl,rfl,rfl⟩
 ·split
  ·repeat' (first|(refine Za (.func 359) ?_;refine qR rfl rfl (nanU_spec _ _) ?_;try simp only[kA])|refine zW ?_|intro _)
   exact qE ⟨rfl,rfl,rfl⟩
  ·repeat' (first|(refine Za (.func 359) ?_;refine qR rfl rfl (nanU_spec _ _) ?_;try simp only[kA])|refine zW ?_|intro _)
   exact qE ⟨rfl,rfl,rfl⟩
theorem or2_spec (ρ:Hp)(b:Nat)(x y:Int):Spec Tryz.prog 354 [.slice (some ⟨b,0,none⟩) 2 2] ρ [[(b,.cells ⟨[.int .i64 x,.int .i64 y]⟩ 3 (0,0))]]
  (fun v ρ' L'=>v=.int .i64 (if x=0 then y else x)∧ρ'=ρ∧L'=[[(b,.cells ⟨[.int .i64 x,.int .i64 y]⟩ 3 (0,0))]]):=by
 refine Zb Tryz.func354 rfl rfl rfl fun u R=>?_
 simp only[Zd,kA]
 repeat' (first|refine zW ?_|intro _)
 refine Zi [(2,_),(3,_),(6,_),(7,_)] (fun (ζ:(Nat))=>[(8,.int .i64 ζ)]) (fun (ζ:(Nat))=>ρ) (fun (ζ:(Nat))=>[]) (fun (ζ:(Nat))=>ζ=0∨(ζ=1∧x=0)∨(ζ=2∧x=0∧y=0)) (fun (ζ:(Nat))=>3-ζ) (0) (.inl rfl) Zc Zc rfl tk ?_
 rintro k hI
 try simp only[kA,List.append_assoc] at hI ⊢
 try dsimp only at hI ⊢
 rcases hI with rfl|⟨rfl,rfl⟩|⟨rfl,rfl,rfl⟩
 ·by_cases h:x=0
  ·subst h
   repeat' (first|refine zW ?_|intro _)
   refine Ze (1) (.inr (.inl ⟨rfl,rfl⟩)) Zc Zc rfl tk inferInstance (by first|omega|(dsimp only;omega))
  ·rw[if_neg h]
   repeat' (first|refine zW ?_|intro _)
   exact qE ⟨rfl,rfl,rfl⟩
 ·by_cases h:y=0
  ·subst h
   repeat' (first|refine zW ?_|intro _)
   refine Ze (2) (.inr (.inr ⟨rfl,rfl,rfl⟩)) Zc Zc rfl tk inferInstance (by first|omega|(dsimp only;omega))
  ·repeat' (first|refine zW ?_|intro _)
   exact qE ⟨rfl,rfl,rfl⟩
 ·repeat' (first|refine zW ?_|intro _)
  exact qE ⟨rfl,rfl,rfl⟩
def cmpK (t1:Int)(i1:Nat)(t2:Int)(i2:Nat):Int:=if cmpI t1 t2=0 then cmpI i1 i2 else cmpI t1 t2
theorem cmpK_lt (t1:Int)(i1:Nat)(t2:Int)(i2:Nat):cmpK t1 i1 t2 i2<0↔t1<t2∨(t1=t2∧i1<i2):=by
 unfold cmpK cmpI
 repeat' split
 all_goals omega
theorem XN (ρ:Hp)(t1:Int)(i1:Nat)(t2:Int)(i2:Nat):Spec Tryz.prog 345 [.agg ⟨keyV t1 i1⟩,.agg ⟨keyV t2 i2⟩] ρ [] (fun v ρ' L'=>v=.int .i64 (cmpK t1 i1 t2 i2)∧ρ'=ρ∧L'=[]):=by
 refine Zb Tryz.func345 rfl rfl rfl fun u R=>?_
 simp only[Zd,kA]
 repeat' (first|refine zW ?_|intro _)
 refine tpZ [0,1,2,3,5,6,7,8] (.e 4 [] (.e 9 [] (.e 10 [] (.e 11 [] (.f [12] .o))))) ?_
 repeat' (refine iT ?_;first|refine rA ?_|((refine iE ?_;refine rE ?_)<;>((try refine Zn ?_);(first|(refine Za (.func 218) ?_;refine qR rfl rfl (cmpI_spec _ _ _) ?_;try simp only[kA])|(refine Za (.func 355) ?_;refine qR rfl rfl (cmpU_spec _ _ _) ?_;try simp only[kA])|(refine Zm rfl rfl rfl rfl (by simp) rfl rfl (fun _=>?_))|(refine Za (.func 354) ?_;refine qR rfl rfl (or2_spec _ _ _ _) ?_;try simp only[kA])|(refine Yj ?_;try intro _))<;>((try simp only[kA]);refine Zj ?_;refine rN ?_))))
 all_goals (repeat' (first|refine zW ?_|intro _))
 all_goals exact qE ⟨rfl,rfl,rfl⟩
def YB (r:Row):Bool:=decide ((0≤r.t∧r.t<3)∧r.note.length≤8)
theorem checkRow_spec (ρ:Hp)(r:Row):Spec Tryz.prog 318 [.agg ⟨Yq r⟩] ρ [] (fun v ρ' L'=>v=.int .i64 (if YB r then 0 else 151)∧ρ'=ρ∧L'=[]):=by
 obtain⟨t,id,val,note⟩:=r
 refine Zb Tryz.func318 rfl rfl rfl fun u R=>?_
 simp only[Zd,kA,YB,decide_eq_true_eq]
 by_cases h1:0≤t∧t<3
 ·have hd:decide (0≤t∧t<3)=true:=decide_eq_true h1
  by_cases h2:note.length≤8
  ·rw[if_pos ⟨h1,h2⟩]
   repeat' (first|(refine Za (.func 322) ?_;refine qR rfl rfl (WI _ _) ?_;try simp only[kA,hd])|refine zW ?_|intro _)
   exact qE ⟨rfl,rfl,rfl⟩
  ·rw[if_neg (fun h=>h2 h.2)]
   repeat' (first|(refine Za (.func 322) ?_;refine qR rfl rfl (WI _ _) ?_;try simp only[kA,hd])|refine zW ?_|intro _)
   exact qE ⟨rfl,rfl,rfl⟩
 ·have hd:decide (0≤t∧t<3)=false:=decide_eq_false h1
  rw[if_neg (fun h=>h1 h.1)]
  repeat' (first|(refine Za (.func 322) ?_;refine qR rfl rfl (WI _ _) ?_;try simp only[kA,hd])|refine zW ?_|intro _)
  exact qE ⟨rfl,rfl,rfl⟩
def Zy {α:Type}(most:Nat)(right:Nat→α→Bool)(lt:α→α→Bool)(l:List α):Nat→Bool
 | 0=>decide (l.length≤most)
 | k+1=>Zy most right lt l k && (match l[k]? with|some x=>right k x && (decide (k=0) || (match l[k-1]? with|some y=>lt y x|none=>false))|none=>false)
theorem Xo {α:Type}{most:Nat}{right:Nat→α→Bool}{lt:α→α→Bool}{l:List α}{k:Nat}(h:k<l.length):Zy most right lt l (k+1)=(Zy most right lt l k && (right k l[k] && (decide (k=0) || lt (l[k-1]'(by omega)) l[k]))):=by
 rw[Zy]
 simp[h,show k-1<l.length by omega]
theorem risesB_false {α:Type}{most:Nat}{right:Nat→α→Bool}{lt:α→α→Bool}{l:List α}{k:Nat}(h:Zy most right lt l k=false):∀m,Zy most right lt l (k+m)=false
 | 0=>h
 | m+1=>by rw[←Nat.add_assoc,Zy,risesB_false h m];rfl
theorem YW {α:Type}{most:Nat}{right:Nat→α→Bool}{lt:α→α→Bool}{l:List α}{k n:Nat}(h:Zy most right lt l k=false)(hk:k≤n):Zy most right lt l n=false:=by
 have:=risesB_false h (n-k)
 rwa [Nat.add_sub_cancel' hk] at this
theorem WF (ρ:Hp)(r:Row):Spec Tryz.prog 316 [.agg ⟨Yq r⟩] ρ [] (fun v ρ' L'=>v=.agg ⟨keyV r.t r.id⟩∧ρ'=ρ∧L'=[]):=by
 refine Zb Tryz.func316 rfl rfl rfl fun u R=>?_
 simp only[Zd,kA]
 repeat' (first|refine zW ?_|intro _)
 exact qE ⟨rfl,rfl,rfl⟩
theorem leaf2_spec (ρ:Hp)(i:Int)(r:Row):Spec Tryz.prog 317 [.int .i64 i,.agg ⟨Yq r⟩] ρ [] (fun v ρ' L'=>v=.bool (YB r)∧ρ'=ρ∧L'=[]):=by
 refine Zb Tryz.func317 rfl rfl rfl fun u R=>?_
 simp only[Zd,kA]
 cases h:YB r
 ·repeat' (first|(refine Za (.func 318) ?_;refine qR rfl rfl (checkRow_spec _ r) ?_;try simp only[kA,h,if_false,Bool.false_eq_true])|refine zW ?_|intro _)
  exact qE ⟨rfl,rfl,rfl⟩
 ·repeat' (first|(refine Za (.func 318) ?_;refine qR rfl rfl (checkRow_spec _ r) ?_;try simp only[kA,h,if_true])|refine zW ?_|intro _)
  exact qE ⟨rfl,rfl,rfl⟩
def ltR (y x:Row):Bool:=decide (cmpK y.t y.id x.t x.id<0)
def rowsOk (l:List Row):Bool:=Zy 4 (fun _ r=>YB r) ltR l l.length
theorem rowV_len (r:Row):(Yq r).length=4:=rfl
theorem risesRow_spec (ρ:Hp)(a:Option Addr)(n c:Nat)(l:List Row)(h:AIn ρ 4 Yq a n l)(hn:n≤1000000) :
  Spec Tryz.prog 315 [.slice a n c,.int .i64 4,.func (.func 316) ⟨[]⟩ ⟨[]⟩,.func (.func 317) ⟨[]⟩ ⟨[]⟩] ρ [] (fun v ρ' L'=>v=.bool (rowsOk l)∧ρ'=ρ∧L'=[]):=by
 have hl:=h.len
 unfold rowsOk
 rw[hl]
 refine Zb Tryz.func315 rfl rfl rfl fun u R=>?_
 simp only[Zd,kA]
 repeat' (first|refine zW ?_|intro _)
 have e0:decide ((n:Int)≤4)=Zy 4 (fun _ r=>YB r) ltR l 0:=by
  rw[Zy];simp[hl];omega
 rw[e0]
 refine Zi [(0,_),(2,_),(3,_),(8,_),(16,_),(17,_)] (fun (ζ:(Nat))=>[(18,.int .i64 ζ),(9,.bool (Zy 4 (fun _ r=>YB r) ltR l ζ))]) (fun (ζ:(Nat))=>ρ) (fun (ζ:(Nat))=>[]) (fun (ζ:(Nat))=>ζ≤n) (fun (ζ:(Nat))=>n-ζ) (0) (Nat.zero_le _) Zc Zc rfl tk ?_
 rintro k hI
 try simp only[kA,List.append_assoc] at hI ⊢
 try dsimp only at hI ⊢
 by_cases hlt:k<n
 ·obtain⟨b,off,C,T,fr,rfl,hb,hfit,hc⟩:=h.get (show k<l.length by omega)
  have hs:=Xo (most:=4) (right:=fun _ r=>YB r) (lt:=ltR) (show k<l.length by omega)
  have hfin:=fun (e:Zy 4 (fun _ r=>YB r) ltR l (k+1)=false)=>YW e (show k+1≤n by omega)
  cases hok:Zy 4 (fun _ r=>YB r) ltR l k
  ·rw[hok,Bool.false_and] at hs
   rw[hfin hs]
   generalize l[k]=x at *
   repeat' (first|refine zW ?_|intro _)
   refine tpZ [0,1,2,3,4] (.e 5 [6,7,8,9,10,11,12,13,14,15,16,18,19] (.e 17 [] (.e 20 [] (.e 21 [] (.f [22,23,24,25] .o))))) ?_
   repeat' (refine iT ?_;first|refine rA ?_|((refine iE ?_;refine rE ?_)<;>((try refine Zn ?_);(first|(refine Yj ?_;try intro _))<;>((try simp only[kA]);refine Zj ?_;refine rN ?_))))
   repeat' (first|refine zW ?_|intro _)
   exact qE ⟨rfl,rfl,rfl⟩
  ·rw[hok,Bool.true_and] at hs
   cases hx:YB l[k]
   ·rw[hx,Bool.false_and] at hs
    rw[hfin hs]
    generalize l[k]=x at *
    repeat' (first|refine zW ?_|intro _)
    refine tpZ [0,1,2,3,4] (.e 5 [6,7,8,9,10,11,12,13,14,15,16,18,19] (.e 17 [] (.e 20 [] (.e 21 [] (.f [22,23,24,25] .o))))) ?_
    repeat' (refine iT ?_;first|refine rA ?_|((refine iE ?_;refine rE ?_)<;>((try refine Zn ?_);(first|(refine Za (.tmp 25) ?_;refine qR rfl rfl (leaf2_spec _ _ _) ?_;try simp only[kA,hx])|(refine Za (.tmp 34) ?_;refine qR rfl rfl (WF _ _) ?_;try simp only[kA])|(refine Za (.tmp 41) ?_;refine qR rfl rfl (WF _ _) ?_;try simp only[kA])|(refine Za (.func 345) ?_;refine qR rfl rfl (XN _ _ _ _ _) ?_;try simp only[kA])|(refine Yj ?_;try intro _))<;>((try simp only[kA]);refine Zj ?_;refine rN ?_))))
    repeat' (first|refine zW ?_|intro _)
    exact qE ⟨rfl,rfl,rfl⟩
   ·rw[hx,Bool.true_and] at hs
    by_cases hk0:k=0
    ·have hs':Zy 4 (fun _ r=>YB r) ltR l (k+1)=true:=by rw[hs];simp[hk0]
     generalize l[k]=x at *
     repeat' (first|refine zW ?_|intro _)
     refine tpZ [0,1,2,3,4] (.e 5 [6,7,8,9,10,11,12,13,14,15,16,18,19] (.e 17 [] (.e 20 [] (.e 21 [] (.f [22,23,24,25] .o))))) ?_
     repeat' (refine iT ?_;first|refine rA ?_|((refine iE ?_;refine rE ?_)<;>((try refine Zn ?_);(first|(refine Za (.tmp 25) ?_;refine qR rfl rfl (leaf2_spec _ _ _) ?_;try simp only[kA,hx])|(refine Za (.tmp 34) ?_;refine qR rfl rfl (WF _ _) ?_;try simp only[kA])|(refine Za (.tmp 41) ?_;refine qR rfl rfl (WF _ _) ?_;try simp only[kA])|(refine Za (.func 345) ?_;refine qR rfl rfl (XN _ _ _ _ _) ?_;try simp only[kA])|(refine Yj ?_;try intro _))<;>((try simp only[kA]);refine Zj ?_;refine rN ?_))))
     repeat' (first|refine zW ?_|intro _)
     rw[←hs']
     refine Ze (k+1) (hlt) Zc Zc rfl tk inferInstance (by first|omega|(dsimp only;omega))
    ·have hd:decide (k=0)=false:=decide_eq_false hk0
     obtain⟨b2,off2,C2,T2,fr2,f1,hb2,hfit2,hc2⟩:=h.get (show k-1<l.length by omega)
     cases f1
     rw[hb] at hb2
     cases hb2
     have ek:((k:Int)-1).toNat=k-1:=by omega
     rw[←ek] at hfit2
     have hc3:List.take 4 (List.drop (off+((k:Int)-1).toNat*4) C)=Yq (l[k-1]'(by omega)):=by rw[ek];exact hc2
     clear hc2
     rw[hd,Bool.false_or] at hs
     generalize l[k]=x at *
     generalize l[k-1]'(by omega)=y at *
     unfold ltR at hs
     by_cases hcm:cmpK y.t y.id x.t x.id<0
     ·rw[decide_eq_true hcm] at hs
      repeat' (first|refine zW ?_|intro _)
      refine tpZ [0,1,2,3,4] (.e 5 [6,7,8,9,10,11,12,13,14,15,16,18,19] (.e 17 [] (.e 20 [] (.e 21 [] (.f [22,23,24,25] .o))))) ?_
      repeat' (refine iT ?_;first|refine rA ?_|((refine iE ?_;refine rE ?_)<;>((try refine Zn ?_);(first|(refine Za (.tmp 25) ?_;refine qR rfl rfl (leaf2_spec _ _ _) ?_;try simp only[kA,hx])|(refine Za (.tmp 34) ?_;refine qR rfl rfl (WF _ _) ?_;try simp only[kA])|(refine Za (.tmp 41) ?_;refine qR rfl rfl (WF _ _) ?_;try simp only[kA])|(refine Za (.func 345) ?_;refine qR rfl rfl (XN _ _ _ _ _) ?_;try simp only[kA])|(refine Yj ?_;try intro _))<;>((try simp only[kA]);refine Zj ?_;refine rN ?_))))
      all_goals (repeat' (first|refine zW ?_|intro _))
      all_goals rw[←hs]
      all_goals refine Ze (k+1) (hlt) Zc Zc rfl tk inferInstance (by first|omega|(dsimp only;omega))
     ·rw[decide_eq_false hcm] at hs
      rw[hfin hs]
      repeat' (first|refine zW ?_|intro _)
      refine tpZ [0,1,2,3,4] (.e 5 [6,7,8,9,10,11,12,13,14,15,16,18,19] (.e 17 [] (.e 20 [] (.e 21 [] (.f [22,23,24,25] .o))))) ?_
      repeat' (refine iT ?_;first|refine rA ?_|((refine iE ?_;refine rE ?_)<;>((try refine Zn ?_);(first|(refine Za (.tmp 25) ?_;refine qR rfl rfl (leaf2_spec _ _ _) ?_;try simp only[kA,hx])|(refine Za (.tmp 34) ?_;refine qR rfl rfl (WF _ _) ?_;try simp only[kA])|(refine Za (.tmp 41) ?_;refine qR rfl rfl (WF _ _) ?_;try simp only[kA])|(refine Za (.func 345) ?_;refine qR rfl rfl (XN _ _ _ _ _) ?_;try simp only[kA])|(refine Yj ?_;try intro _))<;>((try simp only[kA]);refine Zj ?_;refine rN ?_))))
      all_goals (repeat' (first|refine zW ?_|intro _))
      all_goals exact qE ⟨rfl,rfl,rfl⟩
 ·have hk2:k=n:=by omega
  subst hk2
  repeat' (first|refine zW ?_|intro _)
  exact qE ⟨rfl,rfl,rfl⟩
structure MetOk (es:List MapEntry)(ps:List Int):Prop where
 keys:YQ .i64 es
 get:∀p,Xm es p=if p∈ps then some (.bool true) else none
theorem MetOk.nil:MetOk [] []:=⟨by intro e he;simp at he,fun p=>by simp[Xm]⟩
def kidOk (i:Nat)(ps:List Int)(k:Kid):Bool:=decide (k.page ∉ ps∧0<k.page∧k.page<64∧(0≤k.t∧k.t<3)∧(0<i∨(k.t=0∧k.id=0)))
theorem kidV_len (r:Kid):(Xl r).length=3:=rfl
theorem Wg (ρ:Hp)(r:Kid):Spec Tryz.prog 320 [.agg ⟨Xl r⟩] ρ [] (fun v ρ' L'=>v=.agg ⟨keyV r.t r.id⟩∧ρ'=ρ∧L'=[]):=by
 refine Zb Tryz.func320 rfl rfl rfl fun u R=>?_
 simp only[Zd,kA]
 repeat' (first|refine zW ?_|intro _)
 exact qE ⟨rfl,rfl,rfl⟩
abbrev metL (bx mb:Nat)(es:List MapEntry)(ck:Nat):SH:=[[(bx,.cells ⟨[.map (some mb)]⟩ 106 (0,0))],[(mb,.map ⟨es⟩ ck)]]
theorem inner2_spec (ρ:Hp)(bx mb:Nat)(es:List MapEntry)(ck:Nat)(ps:List Int)(hm:MetOk es ps)(i:Nat)(k:Kid):Spec Tryz.prog 321 [.int .i64 i,.agg ⟨Xl k⟩,.pointer (some ⟨bx,0,none⟩)] ρ (metL bx mb es ck)
  (fun v ρ' L'=>v=.bool (kidOk i ps k)∧ρ'=ρ∧∃es' ck',MetOk es' (k.page::ps)∧L'=metL bx mb es' ck'):=by
 obtain⟨t,id,page⟩:=k
 have hes:=hm.keys
 have hg:=hm.get page
 dsimp only at hg ⊢
 generalize hq:kidOk i ps ⟨t,id,page⟩=q
 have hfin:∀es',YQ .i64 es'→(∀j,Xm es' j=if j=page then some (.bool true) else Xm es j)→MetOk es' (page::ps):=fun es' h1 h2=>⟨h1,fun p=>by
  rw[h2 p,hm.get p]
  by_cases e:p=page<;>simp[e]⟩
 refine Zb Tryz.func321 rfl rfl rfl fun u R=>?_
 simp only[Zd,kA]
 by_cases hp:page∈ps
 ·rw[if_pos hp] at hg
  have hq':q=false:=by rw[←hq];exact decide_eq_false (fun h=>h.1 hp)
  subst hq'
  repeat' (first|(refine XS rfl rfl rfl hes (fun es' ck' h1 h2=>?_))|refine zW ?_|intro _)
  exact qE ⟨rfl,rfl,es',ck',hfin es' h1 h2,rfl⟩
 ·rw[if_neg hp] at hg
  by_cases hp0:0<page
  ·by_cases hp6:page<64
   ·by_cases ht:0≤t∧t<3
    ·have hd:decide (0≤t∧t<3)=true:=decide_eq_true ht
     by_cases hi:0<i
     ·have hq':q=true:=by rw[←hq];exact decide_eq_true ⟨hp,hp0,hp6,ht,.inl hi⟩
      subst hq'
      repeat' (first|(refine XS rfl rfl rfl hes (fun es' ck' h1 h2=>?_))|(refine Za (.func 322) ?_;refine qR rfl rfl (WI _ _) ?_;try simp only[kA,hd])|refine zW ?_|intro _)
      exact qE ⟨rfl,rfl,es',ck',hfin es' h1 h2,rfl⟩
     ·by_cases hz:t=0∧id=0
      ·have hq':q=true:=by rw[←hq];exact decide_eq_true ⟨hp,hp0,hp6,ht,.inr hz⟩
       subst hq'
       obtain⟨rfl,rfl⟩:=hz
       repeat' (first|(refine XS rfl rfl rfl hes (fun es' ck' h1 h2=>?_))|(refine Za (.func 322) ?_;refine qR rfl rfl (WI _ _) ?_;try simp only[kA,hd])|refine zW ?_|intro _)
       exact qE ⟨rfl,rfl,es',ck',hfin es' h1 h2,rfl⟩
      ·have hq':q=false:=by rw[←hq];exact decide_eq_false (fun h=>h.2.2.2.2.elim hi hz)
       subst hq'
       have hk:((t == 0) && (((id:Int) == 0) && true))=false:=by
        simp;intro h;exact fun h'=>hz ⟨h,by omega⟩
       repeat' (first|(refine XS rfl rfl rfl hes (fun es' ck' h1 h2=>?_))|(refine Za (.func 322) ?_;refine qR rfl rfl (WI _ _) ?_;try simp only[kA,hd])|refine zW ?_|intro _)
       exact qE ⟨by first|rfl|exact congrArg Value.bool hk,rfl,es',ck',hfin es' h1 h2,rfl⟩
    ·have hd:decide (0≤t∧t<3)=false:=decide_eq_false ht
     have hq':q=false:=by rw[←hq];exact decide_eq_false (fun h=>ht h.2.2.2.1)
     subst hq'
     repeat' (first|(refine XS rfl rfl rfl hes (fun es' ck' h1 h2=>?_))|(refine Za (.func 322) ?_;refine qR rfl rfl (WI _ _) ?_;try simp only[kA,hd])|refine zW ?_|intro _)
     exact qE ⟨rfl,rfl,es',ck',hfin es' h1 h2,rfl⟩
   ·have hq':q=false:=by rw[←hq];exact decide_eq_false (fun h=>hp6 h.2.2.1)
    subst hq'
    repeat' (first|(refine XS rfl rfl rfl hes (fun es' ck' h1 h2=>?_))|refine zW ?_|intro _)
    exact qE ⟨rfl,rfl,es',ck',hfin es' h1 h2,rfl⟩
  ·have hq':q=false:=by rw[←hq];exact decide_eq_false (fun h=>hp0 h.2.1)
   subst hq'
   repeat' (first|(refine XS rfl rfl rfl hes (fun es' ck' h1 h2=>?_))|refine zW ?_|intro _)
   exact qE ⟨rfl,rfl,es',ck',hfin es' h1 h2,rfl⟩
def psTo (l:List Kid)(k:Nat):List Int:=((l.take k).map Kid.page).reverse
theorem psTo_succ {l:List Kid}{k:Nat}(h:k<l.length):psTo l (k+1)=l[k].page::psTo l k:=by
 unfold psTo;rw[List.take_succ_eq_append_getElem h,List.map_append,List.reverse_append];rfl
def ltK (y x:Kid):Bool:=decide (cmpK y.t y.id x.t x.id<0)
def kidsOk (l:List Kid):Bool:=Zy 4 (fun i k=>kidOk i (psTo l i) k) ltK l l.length
theorem risesKid_spec (ρ:Hp)(a:Option Addr)(n c:Nat)(l:List Kid)(h:AIn ρ 3 Xl a n l)(hn:n≤1000000)(bx mb ck0:Nat) :
  Spec Tryz.prog 319 [.slice a n c,.int .i64 4,.func (.func 320) ⟨[]⟩ ⟨[]⟩,.func (.func 321) ⟨[]⟩ ⟨[.pointer (some ⟨bx,0,none⟩)]⟩] ρ (metL bx mb [] ck0) (fun v ρ' L'=>v=.bool (kidsOk l)∧ρ'=ρ∧L'=[]):=by
 have hl:=h.len
 unfold kidsOk
 rw[hl]
 refine Zb Tryz.func319 rfl rfl rfl fun u R=>?_
 simp only[Zd,kA]
 generalize hr:(fun (i:Nat) (k:Kid)=>kidOk i (psTo l i) k)=rt
 repeat' (first|refine zW ?_|intro _)
 have e0:decide ((n:Int)≤4)=Zy 4 rt ltK l 0:=by
  rw[Zy];simp[hl];omega
 rw[e0]
 refine Zi [(0,_),(2,_),(3,_),(8,_),(16,_),(17,_)] (fun (ζ:(Nat)×(List MapEntry)×(Nat))=>[(18,.int .i64 ζ.1),(9,.bool (Zy 4 rt ltK l ζ.1))]) (fun (ζ:(Nat)×(List MapEntry)×(Nat))=>ρ) (fun (ζ:(Nat)×(List MapEntry)×(Nat))=>metL bx mb ζ.2.1 ζ.2.2) (fun (ζ:(Nat)×(List MapEntry)×(Nat))=>ζ.1≤n∧MetOk ζ.2.1 (psTo l ζ.1)) (fun (ζ:(Nat)×(List MapEntry)×(Nat))=>n-ζ.1) ((0,[],ck0)) (⟨Nat.zero_le _,MetOk.nil⟩) Zc Zc rfl tk ?_
 rintro⟨k,es,ck⟩ hI
 try simp only[kA,List.append_assoc] at hI ⊢
 try dsimp only at hI ⊢
 obtain⟨hI,hm⟩:=hI
 by_cases hlt:k<n
 ·obtain⟨b,off,C,T,fr,rfl,hb,hfit,hc⟩:=h.get (show k<l.length by omega)
  have hs:=Xo (most:=4) (right:=rt) (lt:=ltK) (show k<l.length by omega)
  have hfin:=fun (e:Zy 4 rt ltK l (k+1)=false)=>YW e (show k+1≤n by omega)
  have hps:=psTo_succ (show k<l.length by omega)
  have hrk:rt k l[k]=kidOk k (psTo l k) l[k]:=by rw[←hr]
  cases hok:Zy 4 rt ltK l k
  ·rw[hok,Bool.false_and] at hs
   rw[hfin hs]
   generalize l[k]=x at *
   repeat' (first|refine zW ?_|intro _)
   rename_i b11
   refine tpA [0,1,2,3,4] (.e 5 [6,7,8,9,10,11,12,13,14,15,16,18,19] (.e 17 [] (.e 20 [] (.e 21 [] (.f [22,23,24,25] .o))))) ([[(b11,.cells ⟨Xl x⟩ 238 (0,0))]]) ?_
   repeat' (refine iT ?_;first|refine rA ?_|((refine iE ?_;refine rE ?_)<;>((try refine Zn ?_);(first|(refine Yj ?_;try intro _))<;>((try simp only[kA]);refine Zj ?_;refine rN ?_))))
   repeat' (first|refine zW ?_|intro _)
   exact qE ⟨rfl,rfl,rfl⟩
  ·rw[hok,Bool.true_and,hrk] at hs
   cases hx:kidOk k (psTo l k) l[k]
   ·rw[hx,Bool.false_and] at hs
    rw[hfin hs]
    generalize l[k]=x at *
    repeat' (first|refine zW ?_|intro _)
    rename_i b11
    refine tpA [0,1,2,3,4] (.e 5 [6,7,8,9,10,11,12,13,14,15,16,18,19] (.e 17 [] (.e 20 [] (.e 21 [] (.f [22,23,24,25] .o))))) ([[(b11,.cells ⟨Xl x⟩ 238 (0,0))]]) ?_
    repeat' (refine iT ?_;first|refine rA ?_|((refine iE ?_;refine rE ?_)<;>((try refine Zn ?_);(first|(refine Za (.tmp 25) ?_;refine qC rfl rfl (inner2_spec _ bx mb es ck _ hm k x) ?_;rintro v ρ' L' hle ⟨rfl,rfl,es',ck',hm',rfl⟩<;>(try simp only[kA,hx]))|(refine Za (.tmp 34) ?_;refine qR rfl rfl (Wg _ _) ?_;try simp only[kA])|(refine Za (.tmp 41) ?_;refine qR rfl rfl (Wg _ _) ?_;try simp only[kA])|(refine Za (.func 345) ?_;refine qR rfl rfl (XN _ _ _ _ _) ?_;try simp only[kA])|(refine Yj ?_;try intro _))<;>((try simp only[kA]);refine Zj ?_;refine rN ?_))))
    repeat' (first|refine zW ?_|intro _)
    exact qE ⟨rfl,rfl,rfl⟩
   ·rw[hx,Bool.true_and] at hs
    by_cases hk0:k=0
    ·have hs':Zy 4 rt ltK l (k+1)=true:=by rw[hs];simp[hk0]
     generalize l[k]=x at *
     repeat' (first|refine zW ?_|intro _)
     rename_i b11
     refine tpA [0,1,2,3,4] (.e 5 [6,7,8,9,10,11,12,13,14,15,16,18,19] (.e 17 [] (.e 20 [] (.e 21 [] (.f [22,23,24,25] .o))))) ([[(b11,.cells ⟨Xl x⟩ 238 (0,0))]]) ?_
     repeat' (refine iT ?_;first|refine rA ?_|((refine iE ?_;refine rE ?_)<;>((try refine Zn ?_);(first|(refine Za (.tmp 25) ?_;refine qC rfl rfl (inner2_spec _ bx mb es ck _ hm k x) ?_;rintro v ρ' L' hle ⟨rfl,rfl,es',ck',hm',rfl⟩<;>(try simp only[kA,hx]))|(refine Za (.tmp 34) ?_;refine qR rfl rfl (Wg _ _) ?_;try simp only[kA])|(refine Za (.tmp 41) ?_;refine qR rfl rfl (Wg _ _) ?_;try simp only[kA])|(refine Za (.func 345) ?_;refine qR rfl rfl (XN _ _ _ _ _) ?_;try simp only[kA])|(refine Yj ?_;try intro _))<;>((try simp only[kA]);refine Zj ?_;refine rN ?_))))
     repeat' (first|refine zW ?_|intro _)
     rw[←hs']
     refine Ze (k+1,es',ck') (⟨hlt,by dsimp only;rw[hps];exact hm'⟩) Zc Zc rfl tk inferInstance (by first|omega|(dsimp only;omega))
    ·have hd:decide (k=0)=false:=decide_eq_false hk0
     obtain⟨b2,off2,C2,T2,fr2,f1,hb2,hfit2,hc2⟩:=h.get (show k-1<l.length by omega)
     cases f1
     rw[hb] at hb2
     cases hb2
     have ek:((k:Int)-1).toNat=k-1:=by omega
     rw[←ek] at hfit2
     have hc3:List.take 3 (List.drop (off+((k:Int)-1).toNat*3) C)=Xl (l[k-1]'(by omega)):=by rw[ek];exact hc2
     clear hc2
     rw[hd,Bool.false_or] at hs
     generalize l[k]=x at *
     generalize l[k-1]'(by omega)=y at *
     unfold ltK at hs
     by_cases hcm:cmpK y.t y.id x.t x.id<0
     ·rw[decide_eq_true hcm] at hs
      repeat' (first|refine zW ?_|intro _)
      rename_i b11
      refine tpA [0,1,2,3,4] (.e 5 [6,7,8,9,10,11,12,13,14,15,16,18,19] (.e 17 [] (.e 20 [] (.e 21 [] (.f [22,23,24,25] .o))))) ([[(b11,.cells ⟨Xl x⟩ 238 (0,0))]]) ?_
      repeat' (refine iT ?_;first|refine rA ?_|((refine iE ?_;refine rE ?_)<;>((try refine Zn ?_);(first|(refine Za (.tmp 25) ?_;refine qC rfl rfl (inner2_spec _ bx mb es ck _ hm k x) ?_;rintro v ρ' L' hle ⟨rfl,rfl,es',ck',hm',rfl⟩<;>(try simp only[kA,hx]))|(refine Za (.tmp 34) ?_;refine qR rfl rfl (Wg _ _) ?_;try simp only[kA])|(refine Za (.tmp 41) ?_;refine qR rfl rfl (Wg _ _) ?_;try simp only[kA])|(refine Za (.func 345) ?_;refine qR rfl rfl (XN _ _ _ _ _) ?_;try simp only[kA])|(refine Yj ?_;try intro _))<;>((try simp only[kA]);refine Zj ?_;refine rN ?_))))
      all_goals (repeat' (first|refine zW ?_|intro _))
      all_goals rw[←show Zy 4 rt ltK l (k+1)=true from hs]
      all_goals refine Ze (k+1,es',ck') (⟨hlt,by dsimp only;rw[hps];exact hm'⟩) Zc Zc rfl tk inferInstance (by first|omega|(dsimp only;omega))
     ·rw[decide_eq_false hcm] at hs
      rw[hfin hs]
      repeat' (first|refine zW ?_|intro _)
      rename_i b11
      refine tpA [0,1,2,3,4] (.e 5 [6,7,8,9,10,11,12,13,14,15,16,18,19] (.e 17 [] (.e 20 [] (.e 21 [] (.f [22,23,24,25] .o))))) ([[(b11,.cells ⟨Xl x⟩ 238 (0,0))]]) ?_
      repeat' (refine iT ?_;first|refine rA ?_|((refine iE ?_;refine rE ?_)<;>((try refine Zn ?_);(first|(refine Za (.tmp 25) ?_;refine qC rfl rfl (inner2_spec _ bx mb es ck _ hm k x) ?_;rintro v ρ' L' hle ⟨rfl,rfl,es',ck',hm',rfl⟩<;>(try simp only[kA,hx]))|(refine Za (.tmp 34) ?_;refine qR rfl rfl (Wg _ _) ?_;try simp only[kA])|(refine Za (.tmp 41) ?_;refine qR rfl rfl (Wg _ _) ?_;try simp only[kA])|(refine Za (.func 345) ?_;refine qR rfl rfl (XN _ _ _ _ _) ?_;try simp only[kA])|(refine Yj ?_;try intro _))<;>((try simp only[kA]);refine Zj ?_;refine rN ?_))))
      all_goals (repeat' (first|refine zW ?_|intro _))
      all_goals exact qE ⟨rfl,rfl,rfl⟩
 ·have hk2:k=n:=by omega
  subst hk2
  repeat' (first|refine zW ?_|intro _)
  exact qE ⟨rfl,rfl,rfl⟩
end Go.Proofs.E
namespace Go.Proofs.E
open Go
set_option linter.unusedVariables false
set_option linter.unusedSimpArgs false
set_option linter.unusedSectionVars false
set_option maxRecDepth 4000
set_option maxHeartbeats 1000000
attribute [local irreducible] Yl TL TC TE Spec ZI R1 Hp.le EnvLe TS TR YS Zp
structure CV where
 ra:Option Addr
 rn:Nat
 rc:Nat
 ka:Option Addr
 kn:Nat
 kc:Nat
structure Wq where
 kind:Int
 rows:List Row
 kids:List Kid
deriving DecidableEq
abbrev XI (k:Int)(v:CV):List Value:=[.int .i64 k,.slice v.ra v.rn v.rc,.slice v.ka v.kn v.kc]
structure CIn (ρ:Hp)(v:CV)(rows:List Row)(kids:List Kid):Prop where
 r:AIn ρ 4 Yq v.ra v.rn rows
 k:AIn ρ 3 Xl v.ka v.kn kids
 rb:v.rn≤1000000
 kb:v.kn≤1000000
 rc:v.rn≤v.rc
 kc:v.kn≤v.kc
theorem CIn.mono {ρ ρ' v rows kids}(h:CIn ρ v rows kids)(hle:ρ.le ρ'):CIn ρ' v rows kids:=⟨h.r.mono hle,h.k.mono hle,h.rb,h.kb,h.rc,h.kc⟩
theorem leafc_spec (ρ:Hp)(a:Option Addr)(n c:Nat)(l:List Row)(h:AIn ρ 4 Yq a n l)(hn:n≤1000000):Spec Tryz.prog 271 [.slice a n c] ρ [] (fun v ρ' L'=>v=.bool (rowsOk l)∧ρ'=ρ∧L'=[]):=by
 refine Zb Tryz.func271 rfl rfl rfl fun u R=>?_
 simp only[Zd,kA]
 repeat' (first|(refine Za (.func 315) ?_;refine qR rfl rfl (risesRow_spec _ a n c l h hn) ?_;try simp only[kA])|refine zW ?_|intro _)
 exact qE ⟨rfl,rfl,rfl⟩
theorem innerc_spec (ρ:Hp)(a:Option Addr)(n c:Nat)(l:List Kid)(h:AIn ρ 3 Xl a n l)(hn:n≤1000000):Spec Tryz.prog 272 [.slice a n c] ρ [] (fun v ρ' L'=>v=.bool (decide (1<n) && kidsOk l)∧ρ'=ρ∧L'=[]):=by
 refine Zb Tryz.func272 rfl rfl rfl fun u R=>?_
 simp only[Zd,kA]
 by_cases h1:1<n
 ·rw[decide_eq_true h1,Bool.true_and]
  repeat' (first|(refine Za (.func 319) ?_;refine qR rfl rfl (risesKid_spec _ a n c l h hn _ _ _) ?_;try simp only[kA])|refine zW ?_|intro _)
  exact qE ⟨rfl,rfl,rfl⟩
 ·rw[decide_eq_false h1,Bool.false_and]
  repeat' (first|refine zW ?_|intro _)
  exact qE ⟨rfl,rfl,rfl⟩
def ZJ (c:Wq):Bool:=
 if c.kind=0 then decide (c.rows.length+c.kids.length=0)
 else if c.kind=1 then decide (c.kids.length=0) && rowsOk c.rows
 else if c.kind=2 then decide (c.rows.length=0) && (decide (1<c.kids.length) && kidsOk c.kids)
 else false
theorem Wj (ρ:Hp)(v:CV)(c:Wq)(h:CIn ρ v c.rows c.kids):Spec Tryz.prog 195 [.agg ⟨XI c.kind v⟩] ρ [] (fun r ρ' L'=>r=.int .i64 (if ZJ c then 0 else 160)∧ρ'=ρ∧L'=[]):=by
 obtain⟨kind,rows,kids⟩:=c
 obtain⟨ra,rn,rc,ka,kn,kc⟩:=v
 obtain⟨hr,hk,hrb,hkb,_,_⟩:=h
 dsimp only at hr hk hrb hkb
 have hrl:=hr.len
 have hkl:=hk.len
 have hrs:=leafc_spec ρ ra rn rc rows hr hrb
 have hks:=innerc_spec ρ ka kn kc kids hk hkb
 generalize hq:ZJ ⟨kind,rows,kids⟩=q
 unfold ZJ at hq
 simp only[hrl,hkl] at hq
 refine Zb Tryz.func195 rfl rfl rfl fun u R=>?_
 simp only[Zd,kA]
 by_cases k0:kind=0
 ·rw[if_pos k0] at hq
  by_cases hz:rn+kn=0
  ·rw[decide_eq_true hz] at hq
   subst hq
   repeat' (first|refine zW ?_|intro _)
   exact qE ⟨rfl,rfl,rfl⟩
  ·rw[decide_eq_false hz] at hq
   subst hq
   repeat' (first|refine zW ?_|intro _)
   exact qE ⟨rfl,rfl,rfl⟩
 ·rw[if_neg k0] at hq
  by_cases k1:kind=1
  ·rw[if_pos k1] at hq
   by_cases hz:kn=0
   ·rw[decide_eq_true hz,Bool.true_and] at hq
    rw[hq] at hrs
    cases q
    all_goals (repeat' (first|(refine Za (.func 271) ?_;refine qR rfl rfl (hrs) ?_;try simp only[kA])|refine zW ?_|intro _))
    all_goals exact qE ⟨rfl,rfl,rfl⟩
   ·rw[decide_eq_false hz,Bool.false_and] at hq
    subst hq
    repeat' (first|refine zW ?_|intro _)
    exact qE ⟨rfl,rfl,rfl⟩
  ·rw[if_neg k1] at hq
   by_cases k2:kind=2
   ·rw[if_pos k2] at hq
    by_cases hz:rn=0
    ·rw[decide_eq_true hz,Bool.true_and] at hq
     rw[hq] at hks
     cases q
     all_goals (repeat' (first|(refine Za (.func 272) ?_;refine qR rfl rfl (hks) ?_;try simp only[kA])|refine zW ?_|intro _))
     all_goals exact qE ⟨rfl,rfl,rfl⟩
    ·rw[decide_eq_false hz,Bool.false_and] at hq
     subst hq
     repeat' (first|refine zW ?_|intro _)
     exact qE ⟨rfl,rfl,rfl⟩
   ·rw[if_neg k2] at hq
    subst hq
    repeat' (first|refine zW ?_|intro _)
    exact qE ⟨rfl,rfl,rfl⟩
def XL {α:Type}(f:List UInt8→Int→Bool→α×Yc):Nat→List UInt8→Int→Bool→List α×Yc
 | 0,l,st,bad=>([],l,st,bad)
 | n+1,l,st,bad=>if !bad && decide (st=0) then ((f l st bad).1::(XL f n (f l st bad).2.1 (f l st bad).2.2.1 (f l st bad).2.2.2).1,(XL f n (f l st bad).2.1 (f l st bad).2.2.1 (f l st bad).2.2.2).2) else ([],l,st,bad)
theorem manyTo_stop {α:Type}{f:List UInt8→Int→Bool→α×Yc}{n:Nat}{l:List UInt8}{st:Int}{bad:Bool}(h:(!bad && decide (st=0))=false):XL f n l st bad=([],l,st,bad):=by
 cases n with
 | zero=>rfl
 | succ n=>rw[XL,h];rfl
def Xe {α:Type}(f:List UInt8→Int→Bool→α×Yc)(l:List UInt8)(st:Int)(bad:Bool):List α×Yc:=
 XL f (Yg 1 l st).1 (Yg 1 l st).2.1 (Yg 1 l st).2.2 (Xt bad (Yg 1 l st).2.2 (decide (((Yg 1 l st).1:Int)≤4)))
theorem manyRow_spec (ρ:Hp)(bt br:Nat)(all:Int)(bad:Bool)(vk vr vs:Value)(a:Option Addr)(n c:Nat)(l:List UInt8)(h:SIn ρ Zo a n l)(hc:n≤c)(st:Int) :
  Spec Tryz.prog 351 [.pointer (some ⟨bt,0,none⟩),.int .i64 4,.func (.func 309) ⟨[.pointer (some ⟨bt,0,none⟩)]⟩ ⟨[]⟩] ρ [tkC bt br all bad vk vr vs,rdC br a n c st]
   (fun v ρ' L'=>ρ.le ρ'∧∃sa sn sc a' n' c',v=.slice sa sn sc∧sn≤sc∧sn≤255∧AIn ρ' 4 Yq sa sn (Xe Ww l st bad).1∧SIn ρ' Zo a' n' (Xe Ww l st bad).2.1∧n'≤c'∧L'=[tkC bt br all (Xe Ww l st bad).2.2.2 vk vr vs,rdC br a' n' c' (Xe Ww l st bad).2.2.1]):=by
 have hn1:=u8_spec ρ br a n c l h hc st
 have hb1:=Wm 1 l st
 generalize hq:Xe Ww l st bad=q
 unfold Xe at hq
 generalize Yg 1 l st=r1 at *
 obtain⟨x1,l1,st1⟩:=r1
 dsimp only at hq hn1 hb1
 have hb255:x1<256:=by simpa using hb1
 generalize hB1:Xt bad st1 (decide ((x1:Int)≤4))=b1 at *
 refine Zb Tryz.func351 rfl rfl rfl fun u R=>?_
 simp only[Zd,kA]
 repeat' (first|(refine Za (.func 178) ?_;refine qC rfl rfl (hn1) ?_;rintro v ρ' L' hle ⟨rfl,rfl,a1,n1,c1,h1,hc1,rfl⟩<;>(try simp only[kA]))|(refine Za (.func 339) ?_;refine qC rfl rfl (Xp _ bt br all bad vk vr vs a1 n1 c1 st1 (decide ((x1:Int)≤4))) ?_;rintro v ρ' L' hle ⟨rfl,rfl,rfl⟩<;>(try simp only[kA,hB1]))|refine zW ?_|intro _)
 refine Zi [(0,_),(2,_),(6,_),(7,_)] (fun (ζ:(Nat)×(Hp)×(Value)×(List Value)×(List Row)×(Option Addr)×(Nat)×(Nat)×(List UInt8)×(Int)×(Bool))=>[(9,.int .i64 ζ.1),(8,ζ.2.2.1)]) (fun (ζ:(Nat)×(Hp)×(Value)×(List Value)×(List Row)×(Option Addr)×(Nat)×(Nat)×(List UInt8)×(Int)×(Bool))=>ζ.2.1) (fun (ζ:(Nat)×(Hp)×(Value)×(List Value)×(List Row)×(Option Addr)×(Nat)×(Nat)×(List UInt8)×(Int)×(Bool))=>[Zz ζ.2.2.1 ((ζ.2.2.2.2.1.map Yq).flatten) ζ.2.2.2.1 171,tkC bt br all ζ.2.2.2.2.2.2.2.2.2.2 vk vr vs,rdC br ζ.2.2.2.2.2.1 ζ.2.2.2.2.2.2.1 ζ.2.2.2.2.2.2.2.1 ζ.2.2.2.2.2.2.2.2.2.1]) (fun (ζ:(Nat)×(Hp)×(Value)×(List Value)×(List Row)×(Option Addr)×(Nat)×(Nat)×(List UInt8)×(Int)×(Bool))=>ζ.1≤x1∧ρ'.le ζ.2.1∧OwnS ζ.2.2.1 ζ.1 ((ζ.2.2.2.2.1.map Yq).flatten) ζ.2.2.2.1 4∧ζ.2.2.2.2.1.length=ζ.1∧SIn ζ.2.1 Zo ζ.2.2.2.2.2.1 ζ.2.2.2.2.2.2.1 ζ.2.2.2.2.2.2.2.2.1∧ζ.2.2.2.2.2.2.1≤ζ.2.2.2.2.2.2.2.1∧q=(ζ.2.2.2.2.1++(XL Ww (x1-ζ.1) ζ.2.2.2.2.2.2.2.2.1 ζ.2.2.2.2.2.2.2.2.2.1 ζ.2.2.2.2.2.2.2.2.2.2).1,(XL Ww (x1-ζ.1) ζ.2.2.2.2.2.2.2.2.1 ζ.2.2.2.2.2.2.2.2.2.1 ζ.2.2.2.2.2.2.2.2.2.2).2)) (fun (ζ:(Nat)×(Hp)×(Value)×(List Value)×(List Row)×(Option Addr)×(Nat)×(Nat)×(List UInt8)×(Int)×(Bool))=>x1-ζ.1) ((0,ρ',.slice none 0 0,[],[],a1,n1,c1,l1,st1,b1)) (⟨Nat.zero_le _,Hp.le_refl _,OwnS.nil 4,rfl,h1,hc1,by simp[hq]⟩) Zc Zc rfl tk ?_
 rintro⟨i,ρ1,v,sp,acc,a2,n2,c2,l2,st2,bad2⟩ hI
 try simp only[kA,List.append_assoc] at hI ⊢
 try dsimp only at hI ⊢
 obtain⟨hi,hle1,hown,hal,h2,hc2,hq2⟩:=hI
 obtain⟨va,vc,rfl,_⟩:=hown.len
 have hg:∀x∈acc,(Yq x).length=4:=fun x _=>rowV_len x
 by_cases hlt:i<x1
 ·cases hok:(!bad2 && decide (st2=0))
  ·rw[manyTo_stop hok] at hq2
   simp only[List.append_nil] at hq2
   subst hq2
   repeat' (first|(refine Za (.func 342) ?_;refine qC rfl rfl (ok_spec _ bt br all bad2 vk vr vs a2 n2 c2 st2) ?_;rintro v ρ' L' hle ⟨rfl,rfl,rfl⟩<;>(try simp only[kA,hok]))|refine zW ?_|intro _)
   refine ZM (Zz (.slice va i vc) ((acc.map Yq).flatten) sp 171) (fun ρ3 hle3 hfz=>?_)
   obtain⟨sa,sc,e1,hsc,hA⟩:=hown.aIn hal hg hfz
   cases e1
   exact qE ⟨Hp.le_trans hle1 hle3,_,_,_,a2,n2,c2,rfl,hsc,by omega,hA,h2.mono hle3,hc2,rfl⟩
  ·rw[show x1-i=(x1-(i+1))+1 by omega,XL,if_pos hok] at hq2
   have hrow:=fun ρ h=>trow_spec ρ bt br all bad2 vk vr vs a2 n2 c2 l2 h hc2 st2
   generalize Ww l2 st2 bad2=r at *
   obtain⟨x,l3,st3,bad3⟩:=r
   dsimp only at hq2 hrow
   repeat' (first|(refine Za (.func 342) ?_;refine qC rfl rfl (ok_spec _ bt br all bad2 vk vr vs a2 n2 c2 st2) ?_;rintro v ρ' L' hle ⟨rfl,rfl,rfl⟩<;>(try simp only[kA,hok]))|(refine Za (.tmp 31) ?_;refine qC rfl rfl (hrow _ h2) ?_;rintro v ρ' L' hle ⟨rfl,hle3,a3,n3,c3,h3,hc3,rfl⟩<;>(try simp only[kA]))|refine zW ?_|intro _)
   refine Zv (css:=[Yq x]) (sz:=4) rfl rfl rfl rfl (by simp) (by simp) rfl (fun bs=>?_)
   simp only[List.flatten_cons,List.flatten_nil,List.append_nil]
   refine ZK (ys:=Yq x) (m:=1) rfl rfl hown (hR:=by infer_instance) (SrcV.lit) rfl rfl (by decide) rfl (by omega) (by omega) rfl (fun v' sp' hown'=>?_)
   have hm:(acc.map Yq).flatten++Yq x=((acc++[x]).map Yq).flatten:=by simp
   rw[hm] at hown' ⊢
   repeat' (first|refine zW ?_|intro _)
   refine Ze (i+1,_,v',sp',acc++[x],a3,n3,c3,l3,st3,bad3) (⟨hlt,Hp.le_trans hle1 hle3,hown',by simp[hal],h3,hc3,by rw[hq2];simp⟩) Zc Zc rfl tk inferInstance (by first|omega|(dsimp only;omega))
 ·have hi2:i=x1:=by omega
  subst hi2
  rw[Nat.sub_self,XL] at hq2
  simp only[List.append_nil] at hq2
  subst hq2
  repeat' (first|refine zW ?_|intro _)
  refine ZM (Zz (.slice va i vc) ((acc.map Yq).flatten) sp 171) (fun ρ3 hle3 hfz=>?_)
  obtain⟨sa,sc,e1,hsc,hA⟩:=hown.aIn hal hg hfz
  cases e1
  exact qE ⟨Hp.le_trans hle1 hle3,_,_,_,a2,n2,c2,rfl,hsc,by omega,hA,h2.mono hle3,hc2,rfl⟩
def XX (l:List UInt8)(st:Int)(bad:Bool):Kid×Yc:=((kidR l st).1,(kidR l st).2.1,(kidR l st).2.2,bad)
theorem tkidB_spec (ρ:Hp)(bt br:Nat)(all:Int)(bad:Bool)(vk vr vs:Value)(a:Option Addr)(n c:Nat)(l:List UInt8)(h:SIn ρ Zo a n l)(hc:n≤c)(st:Int) :
  Spec Tryz.prog 353 [.pointer (some ⟨bt,0,none⟩)] ρ [tkC bt br all bad vk vr vs,rdC br a n c st]
   (fun v ρ' L'=>v=.agg ⟨Xl (XX l st bad).1⟩∧ρ.le ρ'∧∃a' n' c',SIn ρ' Zo a' n' (XX l st bad).2.1∧n'≤c'∧L'=[tkC bt br all (XX l st bad).2.2.2 vk vr vs,rdC br a' n' c' (XX l st bad).2.2.1]):=by
 refine (tkid_spec ρ bt br all bad vk vr vs a n c l h hc st).mono ?_
 rintro v ρ' L' hle ⟨h1,h2,h3⟩
 exact⟨h1,hle,h3⟩
theorem manyKid_spec (ρ:Hp)(bt br:Nat)(all:Int)(bad:Bool)(vk vr vs:Value)(a:Option Addr)(n c:Nat)(l:List UInt8)(h:SIn ρ Zo a n l)(hc:n≤c)(st:Int) :
  Spec Tryz.prog 352 [.pointer (some ⟨bt,0,none⟩),.int .i64 4,.func (.func 353) ⟨[.pointer (some ⟨bt,0,none⟩)]⟩ ⟨[]⟩] ρ [tkC bt br all bad vk vr vs,rdC br a n c st]
   (fun v ρ' L'=>ρ.le ρ'∧∃sa sn sc a' n' c',v=.slice sa sn sc∧sn≤sc∧sn≤255∧AIn ρ' 3 Xl sa sn (Xe XX l st bad).1∧SIn ρ' Zo a' n' (Xe XX l st bad).2.1∧n'≤c'∧L'=[tkC bt br all (Xe XX l st bad).2.2.2 vk vr vs,rdC br a' n' c' (Xe XX l st bad).2.2.1]):=by
 have hn1:=u8_spec ρ br a n c l h hc st
 have hb1:=Wm 1 l st
 generalize hq:Xe XX l st bad=q
 unfold Xe at hq
 generalize Yg 1 l st=r1 at *
 obtain⟨x1,l1,st1⟩:=r1
 dsimp only at hq hn1 hb1
 have hb255:x1<256:=by simpa using hb1
 generalize hB1:Xt bad st1 (decide ((x1:Int)≤4))=b1 at *
 refine Zb Tryz.func352 rfl rfl rfl fun u R=>?_
 simp only[Zd,kA]
 repeat' (first|(refine Za (.func 178) ?_;refine qC rfl rfl (hn1) ?_;rintro v ρ' L' hle ⟨rfl,rfl,a1,n1,c1,h1,hc1,rfl⟩<;>(try simp only[kA]))|(refine Za (.func 339) ?_;refine qC rfl rfl (Xp _ bt br all bad vk vr vs a1 n1 c1 st1 (decide ((x1:Int)≤4))) ?_;rintro v ρ' L' hle ⟨rfl,rfl,rfl⟩<;>(try simp only[kA,hB1]))|refine zW ?_|intro _)
 refine Zi [(0,_),(2,_),(6,_),(7,_)] (fun (ζ:(Nat)×(Hp)×(Value)×(List Value)×(List Kid)×(Option Addr)×(Nat)×(Nat)×(List UInt8)×(Int)×(Bool))=>[(9,.int .i64 ζ.1),(8,ζ.2.2.1)]) (fun (ζ:(Nat)×(Hp)×(Value)×(List Value)×(List Kid)×(Option Addr)×(Nat)×(Nat)×(List UInt8)×(Int)×(Bool))=>ζ.2.1) (fun (ζ:(Nat)×(Hp)×(Value)×(List Value)×(List Kid)×(Option Addr)×(Nat)×(Nat)×(List UInt8)×(Int)×(Bool))=>[Zz ζ.2.2.1 ((ζ.2.2.2.2.1.map Xl).flatten) ζ.2.2.2.1 238,tkC bt br all ζ.2.2.2.2.2.2.2.2.2.2 vk vr vs,rdC br ζ.2.2.2.2.2.1 ζ.2.2.2.2.2.2.1 ζ.2.2.2.2.2.2.2.1 ζ.2.2.2.2.2.2.2.2.2.1]) (fun (ζ:(Nat)×(Hp)×(Value)×(List Value)×(List Kid)×(Option Addr)×(Nat)×(Nat)×(List UInt8)×(Int)×(Bool))=>ζ.1≤x1∧ρ'.le ζ.2.1∧OwnS ζ.2.2.1 ζ.1 ((ζ.2.2.2.2.1.map Xl).flatten) ζ.2.2.2.1 3∧ζ.2.2.2.2.1.length=ζ.1∧SIn ζ.2.1 Zo ζ.2.2.2.2.2.1 ζ.2.2.2.2.2.2.1 ζ.2.2.2.2.2.2.2.2.1∧ζ.2.2.2.2.2.2.1≤ζ.2.2.2.2.2.2.2.1∧q=(ζ.2.2.2.2.1++(XL XX (x1-ζ.1) ζ.2.2.2.2.2.2.2.2.1 ζ.2.2.2.2.2.2.2.2.2.1 ζ.2.2.2.2.2.2.2.2.2.2).1,(XL XX (x1-ζ.1) ζ.2.2.2.2.2.2.2.2.1 ζ.2.2.2.2.2.2.2.2.2.1 ζ.2.2.2.2.2.2.2.2.2.2).2)) (fun (ζ:(Nat)×(Hp)×(Value)×(List Value)×(List Kid)×(Option Addr)×(Nat)×(Nat)×(List UInt8)×(Int)×(Bool))=>x1-ζ.1) ((0,ρ',.slice none 0 0,[],[],a1,n1,c1,l1,st1,b1)) (⟨Nat.zero_le _,Hp.le_refl _,OwnS.nil 3,rfl,h1,hc1,by simp[hq]⟩) Zc Zc rfl tk ?_
 rintro⟨i,ρ1,v,sp,acc,a2,n2,c2,l2,st2,bad2⟩ hI
 try simp only[kA,List.append_assoc] at hI ⊢
 try dsimp only at hI ⊢
 obtain⟨hi,hle1,hown,hal,h2,hc2,hq2⟩:=hI
 obtain⟨va,vc,rfl,_⟩:=hown.len
 have hg:∀x∈acc,(Xl x).length=3:=fun x _=>kidV_len x
 by_cases hlt:i<x1
 ·cases hok:(!bad2 && decide (st2=0))
  ·rw[manyTo_stop hok] at hq2
   simp only[List.append_nil] at hq2
   subst hq2
   repeat' (first|(refine Za (.func 342) ?_;refine qC rfl rfl (ok_spec _ bt br all bad2 vk vr vs a2 n2 c2 st2) ?_;rintro v ρ' L' hle ⟨rfl,rfl,rfl⟩<;>(try simp only[kA,hok]))|refine zW ?_|intro _)
   refine ZM (Zz (.slice va i vc) ((acc.map Xl).flatten) sp 238) (fun ρ3 hle3 hfz=>?_)
   obtain⟨sa,sc,e1,hsc,hA⟩:=hown.aIn hal hg hfz
   cases e1
   exact qE ⟨Hp.le_trans hle1 hle3,_,_,_,a2,n2,c2,rfl,hsc,by omega,hA,h2.mono hle3,hc2,rfl⟩
  ·rw[show x1-i=(x1-(i+1))+1 by omega,XL,if_pos hok] at hq2
   have hrow:=fun ρ h=>tkidB_spec ρ bt br all bad2 vk vr vs a2 n2 c2 l2 h hc2 st2
   generalize XX l2 st2 bad2=r at *
   obtain⟨x,l3,st3,bad3⟩:=r
   dsimp only at hq2 hrow
   repeat' (first|(refine Za (.func 342) ?_;refine qC rfl rfl (ok_spec _ bt br all bad2 vk vr vs a2 n2 c2 st2) ?_;rintro v ρ' L' hle ⟨rfl,rfl,rfl⟩<;>(try simp only[kA,hok]))|(refine Za (.tmp 31) ?_;refine qC rfl rfl (hrow _ h2) ?_;rintro v ρ' L' hle ⟨rfl,hle3,a3,n3,c3,h3,hc3,rfl⟩<;>(try simp only[kA]))|refine zW ?_|intro _)
   refine Zv (css:=[Xl x]) (sz:=3) rfl rfl rfl rfl (by simp) (by simp) rfl (fun bs=>?_)
   simp only[List.flatten_cons,List.flatten_nil,List.append_nil]
   refine ZK (ys:=Xl x) (m:=1) rfl rfl hown (hR:=by infer_instance) (SrcV.lit) rfl rfl (by decide) rfl (by omega) (by omega) rfl (fun v' sp' hown'=>?_)
   have hm:(acc.map Xl).flatten++Xl x=((acc++[x]).map Xl).flatten:=by simp
   rw[hm] at hown' ⊢
   repeat' (first|refine zW ?_|intro _)
   refine Ze (i+1,_,v',sp',acc++[x],a3,n3,c3,l3,st3,bad3) (⟨hlt,Hp.le_trans hle1 hle3,hown',by simp[hal],h3,hc3,by rw[hq2];simp⟩) Zc Zc rfl tk inferInstance (by first|omega|(dsimp only;omega))
 ·have hi2:i=x1:=by omega
  subst hi2
  rw[Nat.sub_self,XL] at hq2
  simp only[List.append_nil] at hq2
  subst hq2
  repeat' (first|refine zW ?_|intro _)
  refine ZM (Zz (.slice va i vc) ((acc.map Xl).flatten) sp 238) (fun ρ3 hle3 hfz=>?_)
  obtain⟨sa,sc,e1,hsc,hA⟩:=hown.aIn hal hg hfz
  cases e1
  exact qE ⟨Hp.le_trans hle1 hle3,_,_,_,a2,n2,c2,rfl,hsc,by omega,hA,h2.mono hle3,hc2,rfl⟩
theorem tleaf_spec (ρ:Hp)(bt br:Nat)(all:Int)(bad:Bool)(vk vr vs:Value)(h1:vk.oneCell'=true)(h2:vr.oneCell'=true)(h3:vs.oneCell'=true)(a:Option Addr)(n c:Nat)(l:List UInt8)(h:SIn ρ Zo a n l)(hc:n≤c)(st:Int) :
  Spec Tryz.prog 340 [.pointer (some ⟨bt,0,none⟩)] ρ [tkC bt br all bad vk vr vs,rdC br a n c st]
   (fun v ρ' L'=>v=.tuple ⟨[]⟩∧ρ.le ρ'∧∃sa sn sc a' n' c',sn≤sc∧sn≤255∧AIn ρ' 4 Yq sa sn (Xe Ww l st bad).1∧SIn ρ' Zo a' n' (Xe Ww l st bad).2.1∧n'≤c'∧L'=[tkC bt br all (Xe Ww l st bad).2.2.2 vk (.slice sa sn sc) vs,rdC br a' n' c' (Xe Ww l st bad).2.2.1]):=by
 have hm:=manyRow_spec ρ bt br all bad vk vr vs a n c l h hc st
 refine Zb Tryz.func340 rfl rfl rfl fun u R=>?_
 simp only[Zd,kA]
 repeat' (first|(refine Za (.func 351) ?_;refine qC rfl rfl (hm) ?_;rintro v ρ' L' hle ⟨hle1,sa,sn,sc,a',n',c',rfl,q1,q2,q3,q4,q5,rfl⟩<;>(try simp only[kA]))|refine zW ?_|intro _)
 exact qE ⟨rfl,hle1,sa,sn,sc,a',n',c',q1,q2,q3,q4,q5,rfl⟩
theorem tinner_spec (ρ:Hp)(bt br:Nat)(all:Int)(bad:Bool)(vk vr vs:Value)(h1:vk.oneCell'=true)(h2:vr.oneCell'=true)(h3:vs.oneCell'=true)(a:Option Addr)(n c:Nat)(l:List UInt8)(h:SIn ρ Zo a n l)(hc:n≤c)(st:Int) :
  Spec Tryz.prog 341 [.pointer (some ⟨bt,0,none⟩)] ρ [tkC bt br all bad vk vr vs,rdC br a n c st]
   (fun v ρ' L'=>v=.tuple ⟨[]⟩∧ρ.le ρ'∧∃sa sn sc a' n' c',sn≤sc∧sn≤255∧AIn ρ' 3 Xl sa sn (Xe XX l st bad).1∧SIn ρ' Zo a' n' (Xe XX l st bad).2.1∧n'≤c'∧L'=[tkC bt br all (Xe XX l st bad).2.2.2 vk vr (.slice sa sn sc),rdC br a' n' c' (Xe XX l st bad).2.2.1]):=by
 have hm:=manyKid_spec ρ bt br all bad vk vr vs a n c l h hc st
 refine Zb Tryz.func341 rfl rfl rfl fun u R=>?_
 simp only[Zd,kA]
 repeat' (first|(refine Za (.func 352) ?_;refine qC rfl rfl (hm) ?_;rintro v ρ' L' hle ⟨hle1,sa,sn,sc,a',n',c',rfl,q1,q2,q3,q4,q5,rfl⟩<;>(try simp only[kA]))|refine zW ?_|intro _)
 exact qE ⟨rfl,hle1,sa,sn,sc,a',n',c',q1,q2,q3,q4,q5,rfl⟩
end Go.Proofs.E
namespace Go.Proofs.E
open Go
set_option linter.unusedVariables false
set_option linter.unusedSimpArgs false
set_option linter.unusedSectionVars false
set_option maxRecDepth 4000
set_option maxHeartbeats 1000000
attribute [local irreducible] Yl TL TC TE Spec ZI R1 Hp.le EnvLe TS TR YS Zp TP QP
theorem from_spec (ρ:Hp)(a:Option Addr)(n c:Nat)(l:List UInt8)(h:SIn ρ Zo a n l)(hn:n≤1000000) :
  Spec Tryz.prog 305 [.slice a n c] ρ [] (fun v ρ' L'=>ρ.le ρ'∧∃bt br a' c',v=.pointer (some ⟨bt,0,none⟩)∧n≤c'∧SIn ρ' Zo a' n l∧L'=[tkC bt br n false (.int .i64 0) (.slice none 0 0) (.slice none 0 0),rdC br a' n c' 0]):=by
 have hr:=read_spec ρ a n c l h hn
 refine Zb Tryz.func305 rfl rfl rfl fun u R=>?_
 simp only[Zd,kA]
 repeat' (first|(refine Za (.func 177) ?_;refine qC rfl rfl (hr) ?_;rintro v ρ' L' hle ⟨hle,br,a',c',rfl,hc',hs,rfl⟩<;>(try simp only[kA]))|refine zW ?_|intro _)
 exact qE ⟨hle,_,br,a',c',rfl,hc',hs,rfl⟩
def Vz (all:Int)(left:Nat)(bad:Bool)(st:Int):Int:=if bad then 0 else if st≠0 then 0 else all-left
def Wp (bad:Bool)(st:Int):Int:=if bad then 161 else st
theorem takenRow_spec (ρ:Hp)(bt br:Nat)(all:Nat)(hall:all≤1000000)(bad:Bool)(vk vr vs:Value)(a:Option Addr)(n c:Nat)(st:Int)(r:Row)(hn:n≤all) :
  Spec Tryz.prog 308 [.pointer (some ⟨bt,0,none⟩),.agg ⟨Yq r⟩] ρ [tkC bt br all bad vk vr vs,rdC br a n c st]
   (fun v ρ' L'=>v=.tuple ⟨[.agg ⟨Yq (if bad || decide (st≠0) then ⟨0,0,0,[]⟩ else r)⟩,.int .i64 (Vz all n bad st),.int .i64 (Wp bad st)]⟩∧ρ'=ρ∧L'=[]):=by
 refine Zb Tryz.func308 rfl rfl rfl fun u R=>?_
 simp only[Zd,kA,Vz,Wp]
 cases bad
 ·by_cases h:st=0
  ·subst h
   simp only[Bool.false_or,ne_eq,not_true_eq_false,decide_false,Bool.false_eq_true,if_false]
   repeat' (first|(refine Za (.func 257) ?_;refine qR rfl rfl (XE _ br a n c 0) ?_;try simp only[kA])|refine zW ?_|intro _)
   rename_i b3 b4 b7
   refine tpA [0,1,2,3,4,5,6,7,8] (.e 9 [10] (.e 11 [] (.f [12,13] .o))) ([tkC bt br all false vk vr vs,[(b3,.cells ⟨Yq r⟩ 171 (0,0))]]) ?_
   repeat' (refine iT ?_;first|refine rA ?_|((refine iE ?_;refine rE ?_)<;>((try refine Zn ?_);(first|(refine Za (.func 187) ?_;refine qR rfl rfl (Vi _ br a n c 0) ?_;try simp only[kA])|(refine Yj ?_;try intro _))<;>((try simp only[kA]);refine Zj ?_;refine rN ?_))))
   repeat' (first|refine zW ?_|intro _)
   exact qE ⟨rfl,rfl,rfl⟩
  ·simp only[Bool.false_or,ne_eq,h,not_false_eq_true,decide_true,if_true,Bool.false_eq_true,if_false]
   repeat' (first|(refine Za (.func 257) ?_;refine qR rfl rfl (XE _ br a n c st) ?_;try simp only[kA])|refine zW ?_|intro _)
   rename_i b3 b4 b7
   refine tpA [0,1,2,3,4] (.e 5 [] (.e 6 [] (.f [7,8] .o))) ([tkC bt br all false vk vr vs,[(b7,.cells ⟨Yq ⟨0,0,0,[]⟩⟩ 171 (0,0))]]) ?_
   repeat' (refine iT ?_;first|refine rA ?_|((refine iE ?_;refine rE ?_)<;>((try refine Zn ?_);(first|(refine Za (.func 257) ?_;refine qR rfl rfl (XE _ br a n c st) ?_;try simp only[kA])|(refine Yj ?_;try intro _))<;>((try simp only[kA]);refine Zj ?_;refine rN ?_))))
   repeat' (first|refine zW ?_|intro _)
   exact qE ⟨rfl,rfl,rfl⟩
 ·simp only[Bool.true_or,if_true]
  repeat' (first|refine zW ?_|intro _)
  exact qE ⟨rfl,rfl,rfl⟩
theorem takenCont_spec (ρ:Hp)(bt br:Nat)(all:Nat)(hall:all≤1000000)(bad:Bool)(vk vr vs:Value)(a:Option Addr)(n c:Nat)(st:Int)(k:Int)(w:CV)(hn:n≤all) :
  Spec Tryz.prog 306 [.pointer (some ⟨bt,0,none⟩),.agg ⟨XI k w⟩] ρ [tkC bt br all bad vk vr vs,rdC br a n c st]
   (fun v ρ' L'=>v=.tuple ⟨[.agg ⟨if bad || decide (st≠0) then XI 0 ⟨none,0,0,none,0,0⟩ else XI k w⟩,.int .i64 (Vz all n bad st),.int .i64 (Wp bad st)]⟩∧ρ'=ρ∧L'=[]):=by
 refine Zb Tryz.func306 rfl rfl rfl fun u R=>?_
 simp only[Zd,kA,Vz,Wp]
 cases bad
 ·by_cases h:st=0
  ·subst h
   simp only[Bool.false_or,ne_eq,not_true_eq_false,decide_false,Bool.false_eq_true,if_false]
   repeat' (first|(refine Za (.func 257) ?_;refine qR rfl rfl (XE _ br a n c 0) ?_;try simp only[kA])|refine zW ?_|intro _)
   rename_i b3 b4 b7
   refine tpA [0,1,2,3,4,5,6,7,8] (.e 9 [10] (.e 11 [] (.f [12,13] .o))) ([tkC bt br all false vk vr vs,[(b3,.cells ⟨XI k w⟩ 112 (0,0))]]) ?_
   repeat' (refine iT ?_;first|refine rA ?_|((refine iE ?_;refine rE ?_)<;>((try refine Zn ?_);(first|(refine Za (.func 187) ?_;refine qR rfl rfl (Vi _ br a n c 0) ?_;try simp only[kA])|(refine Yj ?_;try intro _))<;>((try simp only[kA]);refine Zj ?_;refine rN ?_))))
   repeat' (first|refine zW ?_|intro _)
   exact qE ⟨rfl,rfl,rfl⟩
  ·simp only[Bool.false_or,ne_eq,h,not_false_eq_true,decide_true,if_true,Bool.false_eq_true,if_false]
   repeat' (first|(refine Za (.func 257) ?_;refine qR rfl rfl (XE _ br a n c st) ?_;try simp only[kA])|refine zW ?_|intro _)
   rename_i b3 b4 b7
   refine tpA [0,1,2,3,4] (.e 5 [] (.e 6 [] (.f [7,8] .o))) ([tkC bt br all false vk vr vs,[(b7,.cells ⟨XI 0 ⟨none,0,0,none,0,0⟩⟩ 112 (0,0))]]) ?_
   repeat' (refine iT ?_;first|refine rA ?_|((refine iE ?_;refine rE ?_)<;>((try refine Zn ?_);(first|(refine Za (.func 257) ?_;refine qR rfl rfl (XE _ br a n c st) ?_;try simp only[kA])|(refine Yj ?_;try intro _))<;>((try simp only[kA]);refine Zj ?_;refine rN ?_))))
   repeat' (first|refine zW ?_|intro _)
   exact qE ⟨rfl,rfl,rfl⟩
 ·simp only[Bool.true_or,if_true]
  repeat' (first|refine zW ?_|intro _)
  exact qE ⟨rfl,rfl,rfl⟩
end Go.Proofs.E
namespace Go.Proofs.E
open Go
set_option linter.unusedVariables false
set_option linter.unusedSimpArgs false
set_option linter.unusedSectionVars false
set_option maxRecDepth 4000
set_option maxHeartbeats 1000000
attribute [local irreducible] Yl TL TC TE Spec ZI R1 Hp.le EnvLe TS TR YS Zp
def Vp (x1:Nat)(l1:List UInt8)(st1:Int)(b1:Bool):(List Row×List Kid)×Yc:=
 if !b1 && decide (st1=0) then
  if x1=1 then (((Xe Ww l1 st1 b1).1,[]),(Xe Ww l1 st1 b1).2)
  else if x1=2 then (([],(Xe XX l1 st1 b1).1),(Xe XX l1 st1 b1).2)
  else (([],[]),l1,st1,b1)
 else (([],[]),l1,st1,b1)
def contE (x1:Nat)(m:(List Row×List Kid)×Yc):Wq×Yc:=(⟨x1,m.1.1,m.1.2⟩,m.2.1,m.2.2.1,Xt m.2.2.2 m.2.2.1 (ZJ ⟨x1,m.1.1,m.1.2⟩))
def YH (l:List UInt8):Wq×Yc:=
 contE (Yg 1 l 0).1 (Vp (Yg 1 l 0).1 (Yg 1 l 0).2.1 (Yg 1 l 0).2.2 (Xt false (Yg 1 l 0).2.2 (decide (((Yg 1 l 0).1:Int)≤2))))
theorem CIn.nil {ρ:Hp}:CIn ρ ⟨none,0,0,none,0,0⟩ [] []:=⟨AIn.nil,AIn.nil,by decide,by decide,by decide,by decide⟩
theorem content_spec (ρ:Hp)(bt br:Nat)(all:Int)(a:Option Addr)(n c:Nat)(l:List UInt8)(h:SIn ρ Zo a n l)(hc:n≤c) :
  Spec Tryz.prog 307 [.pointer (some ⟨bt,0,none⟩)] ρ [tkC bt br all false (.int .i64 0) (.slice none 0 0) (.slice none 0 0),rdC br a n c 0]
   (fun v ρ' L'=>ρ.le ρ'∧∃w a' n' c',v=.agg ⟨XI (YH l).1.kind w⟩∧CIn ρ' w (YH l).1.rows (YH l).1.kids∧SIn ρ' Zo a' n' (YH l).2.1∧n'≤c' ∧
    L'=[tkC bt br all (YH l).2.2.2 (.int .i64 (YH l).1.kind) (.slice w.ra w.rn w.rc) (.slice w.ka w.kn w.kc),rdC br a' n' c' (YH l).2.2.1]):=by
 have hn1:=u8_spec ρ br a n c l h hc 0
 have hb1:=Wm 1 l 0
 generalize hq:YH l=q
 unfold YH at hq
 generalize Yg 1 l 0=r1 at *
 obtain⟨x1,l1,st1⟩:=r1
 dsimp only at hq hn1 hb1
 generalize hB1:Xt false st1 (decide ((x1:Int)≤2))=b1 at *
 have hnil:YQ .i64 []:=by intro e he;simp at he
 have hg0:∀k:Int,Xm [] k=none:=fun _=>rfl
 refine Zb Tryz.func307 rfl rfl rfl fun u R=>?_
 simp only[Zd,kA]
 rcases (show (x1:Int)=1∨(x1:Int)=2∨(x1:Int)=0∨(2:Int)<(x1:Int) by omega) with hx|hx|hx|hx
 ·rw[decide_eq_true (show (x1:Int)≤2 by omega)] at hB1
  repeat' (first|(refine Za (.func 178) ?_;refine qC rfl rfl (hn1) ?_;rintro v ρ' L' hle ⟨rfl,rfl,a1,n1,c1,h1,hc1,rfl⟩<;>(try simp only[kA]))|(refine Za (.func 339) ?_;refine qC rfl rfl (Xp _ bt br all false _ _ _ a1 n1 c1 st1 _) ?_;rintro v ρ' L' hle ⟨rfl,rfl,rfl⟩<;>(try simp only[kA,hB1]))|(refine Yb rfl rfl rfl hnil (fun es1 ck1 i1 i2=>?_))|(refine Yb rfl rfl rfl i1 (fun es2 ck2 j1 j2=>?_);have hg:=j2 (x1:Int);rw[i2,if_neg (by omega),if_pos hx] at hg)|refine zW ?_|intro _)
  cases hok:(!b1 && decide (st1=0))
  ·have hm:Vp x1 l1 st1 b1=(([],[]),l1,st1,b1):=by rw[Vp,hok];rfl
   rw[hm] at hq
   have hck:=fun ρ=>Wj ρ ⟨none,0,0,none,0,0⟩ ⟨x1,[],[]⟩ CIn.nil
   simp only[contE] at hq
   generalize hB2:Xt b1 st1 (ZJ ⟨x1,[],[]⟩)=b2 at *
   subst hq
   repeat' (first|(refine Za (.func 342) ?_;refine qC rfl rfl (ok_spec _ bt br all b1 _ _ _ a1 n1 c1 st1) ?_;rintro v ρ' L' hle ⟨rfl,rfl,rfl⟩<;>(try simp only[kA,hok]))|refine zW ?_|intro _)
   cases hco:ZJ ⟨x1,[],[]⟩
   all_goals rw[hco] at hck hB2
   all_goals (repeat' (first|(refine Za (.func 195) ?_;refine qC rfl rfl (hck _) ?_;rintro v ρ' L' hle ⟨rfl,rfl,rfl⟩<;>(try simp only[kA,if_true,if_false,Bool.false_eq_true]))|(refine Za (.func 339) ?_;refine qC rfl rfl (Xp _ bt br all b1 _ _ _ a1 n1 c1 st1 _) ?_;rintro v ρ' L' hle ⟨rfl,rfl,rfl⟩<;>(try simp only[kA,hB2]))|refine zW ?_|intro _))
   all_goals exact qE ⟨Hp.le_refl _,⟨none,0,0,none,0,0⟩,a1,n1,c1,rfl,CIn.nil,h1,hc1,rfl⟩
  ·have hlf:=fun ρ (h:SIn ρ Zo a1 n1 l1)=>tleaf_spec ρ bt br all b1 (.int .i64 x1) (.slice none 0 0) (.slice none 0 0) rfl rfl rfl a1 n1 c1 l1 h hc1 st1
   have hm:Vp x1 l1 st1 b1=(((Xe Ww l1 st1 b1).1,[]),(Xe Ww l1 st1 b1).2):=by rw[Vp,if_pos hok,if_pos (by omega)]
   rw[hm] at hq
   generalize Xe Ww l1 st1 b1=m at *
   obtain⟨xs,l2,st2,b2⟩:=m
   dsimp only at hq hlf
   have hck:=fun ρ w h=>Wj ρ w ⟨x1,xs,[]⟩ h
   simp only[contE] at hq
   generalize hB2:Xt b2 st2 (ZJ ⟨x1,xs,[]⟩)=b3 at *
   subst hq
   repeat' (first|(refine Za (.func 342) ?_;refine qC rfl rfl (ok_spec _ bt br all b1 _ _ _ a1 n1 c1 st1) ?_;rintro v ρ' L' hle ⟨rfl,rfl,rfl⟩<;>(try simp only[kA,hok]))|(refine Za (.tmp 40) ?_;refine qC rfl rfl (hlf _ h1) ?_;rintro v ρ' L' hle ⟨rfl,hle2,sa,sn,sc,a2,n2,c2,hsc,hs255,hA,h2,hc2,rfl⟩<;>(try simp only[kA]))|refine zW ?_|intro _)
   have hC:CIn ρ' ⟨sa,sn,sc,none,0,0⟩ xs []:=⟨hA,AIn.nil,by dsimp only;omega,Nat.zero_le _,hsc,Nat.le_refl _⟩
   cases hco:ZJ ⟨x1,xs,[]⟩
   all_goals rw[hco] at hck hB2
   all_goals (repeat' (first|(refine Za (.func 195) ?_;refine qC rfl rfl (hck _ _ hC) ?_;rintro v ρ' L' hle ⟨rfl,rfl,rfl⟩<;>(try simp only[kA,if_true,if_false,Bool.false_eq_true]))|(refine Za (.func 339) ?_;refine qC rfl rfl (Xp _ bt br all b2 _ _ _ a2 n2 c2 st2 _) ?_;rintro v ρ' L' hle ⟨rfl,rfl,rfl⟩<;>(try simp only[kA,hB2]))|refine zW ?_|intro _))
   all_goals exact qE ⟨hle2,⟨sa,sn,sc,none,0,0⟩,a2,n2,c2,rfl,hC,h2,hc2,rfl⟩
 ·rw[decide_eq_true (show (x1:Int)≤2 by omega)] at hB1
  repeat' (first|(refine Za (.func 178) ?_;refine qC rfl rfl (hn1) ?_;rintro v ρ' L' hle ⟨rfl,rfl,a1,n1,c1,h1,hc1,rfl⟩<;>(try simp only[kA]))|(refine Za (.func 339) ?_;refine qC rfl rfl (Xp _ bt br all false _ _ _ a1 n1 c1 st1 _) ?_;rintro v ρ' L' hle ⟨rfl,rfl,rfl⟩<;>(try simp only[kA,hB1]))|(refine Yb rfl rfl rfl hnil (fun es1 ck1 i1 i2=>?_))|(refine Yb rfl rfl rfl i1 (fun es2 ck2 j1 j2=>?_);have hg:=j2 (x1:Int);rw[if_pos hx] at hg)|refine zW ?_|intro _)
  cases hok:(!b1 && decide (st1=0))
  ·have hm:Vp x1 l1 st1 b1=(([],[]),l1,st1,b1):=by rw[Vp,hok];rfl
   rw[hm] at hq
   have hck:=fun ρ=>Wj ρ ⟨none,0,0,none,0,0⟩ ⟨x1,[],[]⟩ CIn.nil
   simp only[contE] at hq
   generalize hB2:Xt b1 st1 (ZJ ⟨x1,[],[]⟩)=b2 at *
   subst hq
   repeat' (first|(refine Za (.func 342) ?_;refine qC rfl rfl (ok_spec _ bt br all b1 _ _ _ a1 n1 c1 st1) ?_;rintro v ρ' L' hle ⟨rfl,rfl,rfl⟩<;>(try simp only[kA,hok]))|refine zW ?_|intro _)
   cases hco:ZJ ⟨x1,[],[]⟩
   all_goals rw[hco] at hck hB2
   all_goals (repeat' (first|(refine Za (.func 195) ?_;refine qC rfl rfl (hck _) ?_;rintro v ρ' L' hle ⟨rfl,rfl,rfl⟩<;>(try simp only[kA,if_true,if_false,Bool.false_eq_true]))|(refine Za (.func 339) ?_;refine qC rfl rfl (Xp _ bt br all b1 _ _ _ a1 n1 c1 st1 _) ?_;rintro v ρ' L' hle ⟨rfl,rfl,rfl⟩<;>(try simp only[kA,hB2]))|refine zW ?_|intro _))
   all_goals exact qE ⟨Hp.le_refl _,⟨none,0,0,none,0,0⟩,a1,n1,c1,rfl,CIn.nil,h1,hc1,rfl⟩
  ·have hlf:=fun ρ (h:SIn ρ Zo a1 n1 l1)=>tinner_spec ρ bt br all b1 (.int .i64 x1) (.slice none 0 0) (.slice none 0 0) rfl rfl rfl a1 n1 c1 l1 h hc1 st1
   have hm:Vp x1 l1 st1 b1=(([],(Xe XX l1 st1 b1).1),(Xe XX l1 st1 b1).2):=by rw[Vp,if_pos hok,if_neg (by omega),if_pos (by omega)]
   rw[hm] at hq
   generalize Xe XX l1 st1 b1=m at *
   obtain⟨xs,l2,st2,b2⟩:=m
   dsimp only at hq hlf
   have hck:=fun ρ w h=>Wj ρ w ⟨x1,[],xs⟩ h
   simp only[contE] at hq
   generalize hB2:Xt b2 st2 (ZJ ⟨x1,[],xs⟩)=b3 at *
   subst hq
   repeat' (first|(refine Za (.func 342) ?_;refine qC rfl rfl (ok_spec _ bt br all b1 _ _ _ a1 n1 c1 st1) ?_;rintro v ρ' L' hle ⟨rfl,rfl,rfl⟩<;>(try simp only[kA,hok]))|(refine Za (.tmp 40) ?_;refine qC rfl rfl (hlf _ h1) ?_;rintro v ρ' L' hle ⟨rfl,hle2,sa,sn,sc,a2,n2,c2,hsc,hs255,hA,h2,hc2,rfl⟩<;>(try simp only[kA]))|refine zW ?_|intro _)
   have hC:CIn ρ' ⟨none,0,0,sa,sn,sc⟩ [] xs:=⟨AIn.nil,hA,Nat.zero_le _,by dsimp only;omega,Nat.le_refl _,hsc⟩
   cases hco:ZJ ⟨x1,[],xs⟩
   all_goals rw[hco] at hck hB2
   all_goals (repeat' (first|(refine Za (.func 195) ?_;refine qC rfl rfl (hck _ _ hC) ?_;rintro v ρ' L' hle ⟨rfl,rfl,rfl⟩<;>(try simp only[kA,if_true,if_false,Bool.false_eq_true]))|(refine Za (.func 339) ?_;refine qC rfl rfl (Xp _ bt br all b2 _ _ _ a2 n2 c2 st2 _) ?_;rintro v ρ' L' hle ⟨rfl,rfl,rfl⟩<;>(try simp only[kA,hB2]))|refine zW ?_|intro _))
   all_goals exact qE ⟨hle2,⟨none,0,0,sa,sn,sc⟩,a2,n2,c2,rfl,hC,h2,hc2,rfl⟩
 ·rw[decide_eq_true (show (x1:Int)≤2 by omega)] at hB1
  repeat' (first|(refine Za (.func 178) ?_;refine qC rfl rfl (hn1) ?_;rintro v ρ' L' hle ⟨rfl,rfl,a1,n1,c1,h1,hc1,rfl⟩<;>(try simp only[kA]))|(refine Za (.func 339) ?_;refine qC rfl rfl (Xp _ bt br all false _ _ _ a1 n1 c1 st1 _) ?_;rintro v ρ' L' hle ⟨rfl,rfl,rfl⟩<;>(try simp only[kA,hB1]))|(refine Yb rfl rfl rfl hnil (fun es1 ck1 i1 i2=>?_))|(refine Yb rfl rfl rfl i1 (fun es2 ck2 j1 j2=>?_);have hg:=j2 (x1:Int);rw[i2,if_neg (by omega),if_neg (by omega),hg0] at hg)|refine zW ?_|intro _)
  have hm:Vp x1 l1 st1 b1=(([],[]),l1,st1,b1):=by
   rw[Vp]
   split
   ·rw[if_neg (by omega),if_neg (by omega)]
   ·rfl
  rw[hm] at hq
  have hck:=fun ρ=>Wj ρ ⟨none,0,0,none,0,0⟩ ⟨x1,[],[]⟩ CIn.nil
  simp only[contE] at hq
  generalize hB2:Xt b1 st1 (ZJ ⟨x1,[],[]⟩)=b2 at *
  subst hq
  cases hco:ZJ ⟨x1,[],[]⟩
  all_goals rw[hco] at hck hB2
  all_goals (repeat' (first|(refine Za (.func 195) ?_;refine qC rfl rfl (hck _) ?_;rintro v ρ' L' hle ⟨rfl,rfl,rfl⟩<;>(try simp only[kA,if_true,if_false,Bool.false_eq_true]))|(refine Za (.func 339) ?_;refine qC rfl rfl (Xp _ bt br all b1 _ _ _ a1 n1 c1 st1 _) ?_;rintro v ρ' L' hle ⟨rfl,rfl,rfl⟩<;>(try simp only[kA,hB2]))|refine zW ?_|intro _))
  all_goals exact qE ⟨Hp.le_refl _,⟨none,0,0,none,0,0⟩,a1,n1,c1,rfl,CIn.nil,h1,hc1,rfl⟩
 ·rw[decide_eq_false (show ¬(x1:Int)≤2 by omega)] at hB1
  repeat' (first|(refine Za (.func 178) ?_;refine qC rfl rfl (hn1) ?_;rintro v ρ' L' hle ⟨rfl,rfl,a1,n1,c1,h1,hc1,rfl⟩<;>(try simp only[kA]))|(refine Za (.func 339) ?_;refine qC rfl rfl (Xp _ bt br all false _ _ _ a1 n1 c1 st1 _) ?_;rintro v ρ' L' hle ⟨rfl,rfl,rfl⟩<;>(try simp only[kA,hB1]))|(refine Yb rfl rfl rfl hnil (fun es1 ck1 i1 i2=>?_))|(refine Yb rfl rfl rfl i1 (fun es2 ck2 j1 j2=>?_);have hg:=j2 (x1:Int);rw[i2,if_neg (by omega),if_neg (by omega),hg0] at hg)|refine zW ?_|intro _)
  have hm:Vp x1 l1 st1 b1=(([],[]),l1,st1,b1):=by
   rw[Vp]
   split
   ·rw[if_neg (by omega),if_neg (by omega)]
   ·rfl
  rw[hm] at hq
  have hck:=fun ρ=>Wj ρ ⟨none,0,0,none,0,0⟩ ⟨x1,[],[]⟩ CIn.nil
  simp only[contE] at hq
  generalize hB2:Xt b1 st1 (ZJ ⟨x1,[],[]⟩)=b2 at *
  subst hq
  cases hco:ZJ ⟨x1,[],[]⟩
  all_goals rw[hco] at hck hB2
  all_goals (repeat' (first|(refine Za (.func 195) ?_;refine qC rfl rfl (hck _) ?_;rintro v ρ' L' hle ⟨rfl,rfl,rfl⟩<;>(try simp only[kA,if_true,if_false,Bool.false_eq_true]))|(refine Za (.func 339) ?_;refine qC rfl rfl (Xp _ bt br all b1 _ _ _ a1 n1 c1 st1 _) ?_;rintro v ρ' L' hle ⟨rfl,rfl,rfl⟩<;>(try simp only[kA,hB2]))|refine zW ?_|intro _))
  all_goals exact qE ⟨Hp.le_refl _,⟨none,0,0,none,0,0⟩,a1,n1,c1,rfl,CIn.nil,h1,hc1,rfl⟩
theorem Vt (k:Nat)(l:List UInt8)(st:Int):(Yg k l st).2.1.length≤l.length:=by
 unfold Yg;split
 ·exact Nat.le_refl _
 ·split
  ·exact Nat.le_refl _
  ·simp
theorem rawR_len (k:Nat)(l:List UInt8)(st:Int):(Vc k l st).2.1.length≤l.length:=by
 unfold Vc;split
 ·exact Nat.le_refl _
 ·split
  ·exact Nat.le_refl _
  ·simp
theorem rowR_len (l:List UInt8)(st:Int)(bad:Bool):(Ww l st bad).2.1.length≤l.length:=by
 unfold Ww
 dsimp only
 have e1:=Vt 1 l st
 generalize Yg 1 l st=r1 at *
 have e2:=Vt 2 r1.2.1 r1.2.2
 generalize Yg 2 r1.2.1 r1.2.2=r2 at *
 have e3:=Vt 8 r2.2.1 r2.2.2
 generalize Yg 8 r2.2.1 r2.2.2=r3 at *
 have e4:=Vt 1 r3.2.1 r3.2.2
 generalize Yg 1 r3.2.1 r3.2.2=r4 at *
 have e5:=rawR_len r4.1 r4.2.1 r4.2.2
 split
 ·split<;>dsimp only<;>omega
 ·dsimp only;omega
theorem kidR_len (l:List UInt8)(st:Int):(kidR l st).2.1.length≤l.length:=by
 unfold kidR
 dsimp only
 have e1:=Vt 1 l st
 generalize Yg 1 l st=r1 at *
 have e2:=Vt 2 r1.2.1 r1.2.2
 generalize Yg 2 r1.2.1 r1.2.2=r2 at *
 have e3:=Vt 1 r2.2.1 r2.2.2
 omega
theorem manyTo_len {α:Type}{f:List UInt8→Int→Bool→α×Yc}(hf:∀l st bad,(f l st bad).2.1.length≤l.length):∀(n:Nat) (l:List UInt8) (st:Int) (bad:Bool),(XL f n l st bad).2.1.length≤l.length
 | 0,l,st,bad=>Nat.le_refl _
 | n+1,l,st,bad=>by
  rw[XL]
  split
  ·exact Nat.le_trans (manyTo_len hf n _ _ _) (hf l st bad)
  ·exact Nat.le_refl _
theorem manyR_len {α:Type}{f:List UInt8→Int→Bool→α×Yc}(hf:∀l st bad,(f l st bad).2.1.length≤l.length)(l:List UInt8)(st:Int)(bad:Bool):(Xe f l st bad).2.1.length≤l.length:=
 Nat.le_trans (manyTo_len hf _ _ _ _) (Vt 1 l st)
theorem contentR_len (l:List UInt8):(YH l).2.1.length≤l.length:=by
 unfold YH contE
 dsimp only
 have e1:=Vt 1 l 0
 generalize Yg 1 l 0=r1 at *
 have h2:∀b,(Vp r1.1 r1.2.1 r1.2.2 b).2.1.length≤r1.2.1.length:=fun b=>by
  unfold Vp
  have a1:=manyR_len (f:=Ww) rowR_len r1.2.1 r1.2.2 b
  have a2:=manyR_len (f:=XX) (fun l st bad=>kidR_len l st) r1.2.1 r1.2.2 b
  split
  ·split
   ·exact a1
   ·split
    ·exact a2
    ·exact Nat.le_refl _
  ·exact Nat.le_refl _
 exact Nat.le_trans (h2 _) e1
def Ya (l:List UInt8):Row×Int×Int:=
 let r:=Ww l 0 false
 (if r.2.2.2 || decide (r.2.2.1≠0) then ⟨0,0,0,[]⟩ else r.1,Vz l.length r.2.1.length r.2.2.2 r.2.2.1,Wp r.2.2.2 r.2.2.1)
def Zr (l:List UInt8):Wq×Int×Int:=
 let r:=YH l
 (if r.2.2.2 || decide (r.2.2.1≠0) then ⟨0,[],[]⟩ else r.1,Vz l.length r.2.1.length r.2.2.2 r.2.2.1,Wp r.2.2.2 r.2.2.1)
theorem takeRow_spec (ρ:Hp)(a:Option Addr)(n c:Nat)(l:List UInt8)(h:SIn ρ Zo a n l)(hn:n≤1000000) :
  Spec Tryz.prog 251 [.slice a n c] ρ [] (fun v ρ' L'=>v=.tuple ⟨[.agg ⟨Yq (Ya l).1⟩,.int .i64 (Ya l).2.1,.int .i64 (Ya l).2.2]⟩∧ρ.le ρ'∧L'=[]):=by
 have hf:=from_spec ρ a n c l h hn
 have hl:=h.len
 have hlen:=rowR_len l 0 false
 unfold Ya
 dsimp only
 rw[hl] at hlen ⊢
 refine Zb Tryz.func251 rfl rfl rfl fun u R=>?_
 simp only[Zd,kA]
 repeat' (first|(refine Za (.func 305) ?_;refine qC rfl rfl (hf) ?_;rintro v ρ' L' hle ⟨hle1,bt,br,a1,c1,rfl,hc1,h1,rfl⟩<;>(try simp only[kA]))|refine zW ?_|intro _)
 have hr:=trow_spec _ bt br n false (.int .i64 0) (.slice none 0 0) (.slice none 0 0) a1 n c1 l h1 hc1 0
 generalize Ww l 0 false=r at *
 obtain⟨x,l2,st2,b2⟩:=r
 dsimp only at hr hlen ⊢
 repeat' (first|(refine Za (.func 309) ?_;refine qC rfl rfl (hr) ?_;rintro v ρ' L' hle ⟨rfl,hle2,a2,n2,c2,h2,hc2,rfl⟩<;>(try simp only[kA]))|refine zW ?_|intro _)
 have hl2:=h2.len
 rw[hl2]
 repeat' (first|(refine Za (.func 308) ?_;refine qR rfl rfl (takenRow_spec _ bt br n hn b2 _ _ _ a2 n2 c2 st2 x (by omega)) ?_;try simp only[kA])|refine zW ?_|intro _)
 exact qE ⟨rfl,Hp.le_trans hle1 hle2,rfl⟩
theorem takeCont_spec (ρ:Hp)(a:Option Addr)(n c:Nat)(l:List UInt8)(h:SIn ρ Zo a n l)(hn:n≤1000000) :
  Spec Tryz.prog 247 [.slice a n c] ρ [] (fun v ρ' L'=>ρ.le ρ'∧∃w,v=.tuple ⟨[.agg ⟨XI (Zr l).1.kind w⟩,.int .i64 (Zr l).2.1,.int .i64 (Zr l).2.2]⟩∧CIn ρ' w (Zr l).1.rows (Zr l).1.kids∧L'=[]):=by
 have hf:=from_spec ρ a n c l h hn
 have hl:=h.len
 have hlen:=contentR_len l
 unfold Zr
 dsimp only
 rw[hl] at hlen ⊢
 refine Zb Tryz.func247 rfl rfl rfl fun u R=>?_
 simp only[Zd,kA]
 repeat' (first|(refine Za (.func 305) ?_;refine qC rfl rfl (hf) ?_;rintro v ρ' L' hle ⟨hle1,bt,br,a1,c1,rfl,hc1,h1,rfl⟩<;>(try simp only[kA]))|refine zW ?_|intro _)
 have hr:=content_spec _ bt br n a1 n c1 l h1 hc1
 generalize YH l=r at *
 obtain⟨x,l2,st2,b2⟩:=r
 dsimp only at hr hlen ⊢
 repeat' (first|(refine Za (.func 307) ?_;refine qC rfl rfl (hr) ?_;rintro v ρ' L' hle ⟨hle2,w,a2,n2,c2,rfl,hC,h2,hc2,rfl⟩<;>(try simp only[kA]))|refine zW ?_|intro _)
 have hl2:=h2.len
 rw[hl2]
 have ht:=fun ρ=>takenCont_spec ρ bt br n hn b2 (.int .i64 x.kind) (.slice w.ra w.rn w.rc) (.slice w.ka w.kn w.kc) a2 n2 c2 st2 x.kind w (by omega)
 by_cases hb:(b2 || decide (st2≠0))=true
 ·rw[if_pos hb] at ht
  rw[if_pos hb]
  repeat' (first|(refine Za (.func 306) ?_;refine qR rfl rfl (ht _) ?_;try simp only[kA])|refine zW ?_|intro _)
  exact qE ⟨Hp.le_trans hle1 hle2,⟨none,0,0,none,0,0⟩,rfl,CIn.nil,rfl⟩
 ·rw[if_neg hb] at ht
  rw[if_neg hb]
  repeat' (first|(refine Za (.func 306) ?_;refine qR rfl rfl (ht _) ?_;try simp only[kA])|refine zW ?_|intro _)
  exact qE ⟨Hp.le_trans hle1 hle2,w,rfl,hC,rfl⟩
end Go.Proofs.E
namespace Go.Proofs.E
open Go
set_option linter.unusedVariables false
set_option linter.unusedSimpArgs false
set_option linter.unusedSectionVars false
set_option maxRecDepth 4000
set_option maxHeartbeats 1000000
attribute [local irreducible] Yl TL TC TE Spec ZI R1 Hp.le EnvLe TS TR YS Zp TP QP
def tB (t:Int):UInt8:=UInt8.ofNat t.toNat
def XT (t:Int)(id:Nat):List UInt8:=tB t::be 2 id
def vN (v:Int):Nat:=(IntKind.u64.wrap v).toNat
theorem vN_eq (v:Int):IntKind.u64.wrap v=(vN v:Nat):=by
 have:0≤IntKind.u64.wrap v:=by simp only[IntKind.wrap,IntKind.bits,IntKind.signed,Bool.false_and,Bool.false_eq_true,if_false];omega
 simp[vN];omega
theorem vN_lt (v:Int):vN v<18446744073709551616:=by
 have:IntKind.u64.wrap v<18446744073709551616:=by simp only[IntKind.wrap,IntKind.bits,IntKind.signed,Bool.false_and,Bool.false_eq_true,if_false];omega
 have h:=vN_eq v
 omega
def ZG (r:Row):List UInt8:=XT r.t r.id++(be 8 (vN r.val)++(UInt8.ofNat r.note.length::r.note))
theorem tB_eq {t:Int}(h0:0≤t)(h1:t<256):Value.int .u8 t=Zo (tB t):=by
 obtain⟨n,rfl⟩:∃n:Nat,t=n:=⟨t.toNat,by omega⟩
 simp only[Zo,tB,Int.toNat_natCast,UInt8.toNat_ofNat']
 congr 1
 have e:(2:Nat) ^ 8=256:=by decide
 rw[e]
 omega
theorem key_spec (ρ:Hp)(v:Value)(n:Nat)(l:List UInt8)(sp:List Value)(hown:OwnS v n (l.map Zo) sp 1)(hn:n≤100000)(t:Int)(id:Nat)(h0:0≤t)(h3:t<256)(hid:id<65536) :
  Spec Tryz.prog 324 [v,.agg ⟨keyV t id⟩] ρ [Zz v (l.map Zo) sp 5] (fun r ρ' L'=>ρ.le ρ'∧∃sp',OwnS r (n+3) ((l++XT t id).map Zo) sp' 1∧L'=[Zz r ((l++XT t id).map Zo) sp' 5]):=by
 have hl:l.length=n:=by obtain⟨_,_,_,h⟩:=hown.len;simpa using h
 refine Zb Tryz.func324 rfl rfl rfl fun u R=>?_
 simp only[Zd,kA]
 repeat' (first|refine zW ?_|intro _)
 rename_i b3
 refine tpA [0,1,2,3,6,7] (.e 4 [] (.e 5 [] (.e 8 [] (.f [9] .o)))) ([[(b3,.cells ⟨keyV t id⟩ 169 (0,0))]]) ?_
 repeat' (refine iT ?_;first|refine rA ?_|((refine iE ?_;refine rE ?_)<;>((try refine Zn ?_);(first|(refine Zm rfl rfl rfl rfl (by simp) rfl rfl (fun _=>?_);simp only[tB_eq h0 h3])|(refine ZK (ys:=[Zo (tB t)]) (m:=1) rfl rfl hown (hR:=by infer_instance) SrcV.lit rfl rfl (by decide) rfl (by omega) (by omega) rfl (fun v' sp' hown'=>?_);rw[show l.map Zo++[Zo (tB t)]=(l++[tB t]).map Zo by simp] at hown' ⊢;refine ZS _ (h:=Rem.here) (fun ρ2 hle2 hfz=>?_);obtain⟨a',c',rfl,hc',hs⟩:=hown'.sIn hfz)|(refine Za (.func 314) ?_;refine qC rfl rfl (put16_spec _ a' _ c' _ hs id hid (by omega)) ?_;rintro v ρ' L' hle ⟨rfl,sp2,hown2,rfl⟩<;>(try simp only[kA]))|(refine Yj ?_;try intro _))<;>((try simp only[kA]);refine Zj ?_;refine rN ?_))))
 have e:l++[tB t]++be 2 id=l++XT t id:=by rw[List.append_assoc];rfl
 rw[e] at hown2 ⊢
 repeat' (first|refine zW ?_|intro _)
 exact qE ⟨hle2,sp2,hown2,rfl⟩
theorem rowOk_iff {r:Row}(h:YB r=true):0≤r.t∧r.t<3∧r.note.length≤8:=by
 have:=of_decide_eq_true h
 exact⟨this.1.1,this.1.2,this.2⟩
theorem lenB {n:Nat}(h:n≤200):Value.int .u8 (n:Int)=Zo (UInt8.ofNat n):=by
 simp only[Zo,UInt8.toNat_ofNat']
 congr 1
 have e:(2:Nat) ^ 8=256:=by decide
 rw[e]
 omega
theorem claid_spec (ρ:Hp)(v:Value)(n:Nat)(l:List UInt8)(sp:List Value)(hown:OwnS v n (l.map Zo) sp 1)(hn:n≤1000)(r:Row)(hr:YB r=true)(hid:r.id<65536) :
  Spec Tryz.prog 323 [v,.agg ⟨Yq r⟩] ρ [Zz v (l.map Zo) sp 5] (fun q ρ' L'=>ρ.le ρ'∧∃sp',OwnS q (n+(ZG r).length) ((l++ZG r).map Zo) sp' 1∧L'=[Zz q ((l++ZG r).map Zo) sp' 5]):=by
 obtain⟨h0,h3,h8⟩:=rowOk_iff hr
 have hl:l.length=n:=by obtain⟨_,_,_,h⟩:=hown.len;simpa using h
 have hvl:=vN_lt r.val
 have hkb:(XT r.t r.id).length=3:=by simp[XT,Zf]
 have hlb:=lenB (n:=r.note.length) (by omega)
 refine Zb Tryz.func323 rfl rfl rfl fun u R=>?_
 simp only[Zd,kA]
 repeat' (first|refine zW ?_|intro _)
 rename_i b3
 refine tpA [0,1,2,4,5,6] (.e 3 [] (.e 7 [] (.f [8] .o))) ([[(b3,.cells ⟨Yq r⟩ 171 (0,0))]]) ?_
 repeat' (refine iT ?_;first|refine rA ?_|((refine iE ?_;refine rE ?_)<;>((try refine Zn ?_);(first|(simp only[vN_eq];refine Za (.func 324) ?_;refine qC rfl rfl (key_spec _ v n l sp hown (by omega) r.t r.id h0 (by omega) hid) ?_;rintro v1 ρ1 L1 hle0 ⟨hle1,sp1,hown1,rfl⟩;simp only[kA];refine ZS _ (h:=Rem.here) (fun ρ2 hle2 hfz=>?_);obtain⟨a1,c1,rfl,hc1,hs1⟩:=hown1.sIn hfz)|(refine Za (.func 274) ?_;refine qC rfl rfl (put64_spec _ a1 _ c1 _ hs1 (vN r.val) hvl (by omega)) ?_;rintro v ρ' L' hle ⟨rfl,sp3,hown3,rfl⟩<;>(try simp only[kA]))|(refine Yj ?_;try intro _))<;>((try simp only[kA]);refine Zj ?_;refine rN ?_))))
 repeat' (first|refine zW ?_|intro _)
 refine tpA [0,1,2,3,4,7,8] (.e 5 [] (.e 6 [] (.e 9 [] (.f [10] .o)))) ([[(b3,.cells ⟨Yq r⟩ 171 (0,0))]]) ?_
 repeat' (refine iT ?_;first|refine rA ?_|((refine iE ?_;refine rE ?_)<;>((try refine Zn ?_);(first|(refine Zm rfl rfl rfl rfl (by simp) rfl rfl (fun _=>?_);simp only[hlb])|(refine ZK (ys:=[Zo (UInt8.ofNat r.note.length)]) (m:=1) rfl rfl hown3 (hR:=by infer_instance) SrcV.lit rfl rfl (by decide) rfl (by omega) (by omega) rfl (fun v4 sp4 hown4=>?_))|(refine tl_app_str (l:=r.note) rfl rfl hown4 (hR:=by infer_instance) (by omega) rfl (fun v5 sp5 hown5=>?_))|(refine Yj ?_;try intro _))<;>((try simp only[kA]);refine Zj ?_;refine rN ?_))))
 have e:(l++XT r.t r.id++be 8 (vN r.val)).map Zo++[Zo (UInt8.ofNat r.note.length)]++r.note.map Zo=(l++ZG r).map Zo:=by simp[ZG]
 have e2:n+3+8+1+r.note.length=n+(ZG r).length:=by simp[ZG,hkb,Zf];omega
 rw[e] at hown5 ⊢
 rw[e2] at hown5
 repeat' (first|refine zW ?_|intro _)
 exact qE ⟨Hp.le_trans hle1 hle2,sp5,hown5,rfl⟩
theorem rowE_spec (ρ:Hp)(r:Row)(hid:r.id<65536) :
  Spec Tryz.prog 313 [.agg ⟨Yq r⟩] ρ [] (fun v ρ' L'=>ρ.le ρ'∧∃a n c,v=.tuple ⟨[.slice a n c,.int .i64 (if YB r then 0 else 151)]⟩∧n≤c∧SIn ρ' Zo a n (if YB r then ZG r else [])∧L'=[]):=by
 have hck:=fun ρ=>checkRow_spec ρ r
 refine Zb Tryz.func313 rfl rfl rfl fun u R=>?_
 simp only[Zd,kA]
 cases hok:YB r
 ·simp only[hok,Bool.false_eq_true,if_false] at hck ⊢
  repeat' (first|(refine Za (.func 318) ?_;refine qR rfl rfl (hck _) ?_;try simp only[kA])|refine zW ?_|intro _)
  exact qE ⟨Hp.le_refl _,none,0,0,rfl,Nat.le_refl _,SIn.nil,rfl⟩
 ·simp only[hok,if_true] at hck ⊢
  repeat' (first|(refine Za (.func 318) ?_;refine qR rfl rfl (hck _) ?_;try simp only[kA])|(refine Za (.func 323) ?_;refine tl_call rfl rfl (claid_spec _ (.slice none 0 0) 0 [] [] (OwnS.nil 1) (by omega) r hok hid) (Vf rem_nil' take_nil') rfl ?_;rintro v1 ρ1 L1 hle0 ⟨hle1,sp1,hown1,rfl⟩;simp only[kA,Nat.zero_add] at hown1 ⊢;refine ZS _ (h:=Rem.here) (fun ρ2 hle2 hfz=>?_);obtain⟨a1,c1,rfl,hc1,hs1⟩:=hown1.sIn hfz)|refine zW ?_|intro _)
  exact qE ⟨Hp.le_trans hle1 hle2,a1,_,c1,rfl,hc1,hs1,rfl⟩
end Go.Proofs.E
