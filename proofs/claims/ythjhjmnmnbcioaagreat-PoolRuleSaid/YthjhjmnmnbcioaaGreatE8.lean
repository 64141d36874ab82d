/- Laws of PoolRule. Part 8 of 26. -/
import Derived.Test.YthjhjmnmnbcioaaGreatE7
set_option linter.unusedVariables false
set_option linter.unusedSimpArgs false
set_option linter.unusedSectionVars false
namespace Go.Proofs.E
open Go Tryz
set_option maxRecDepth 4000
set_option maxHeartbeats 1000000
attribute [local irreducible] Yl TL TC TE Spec YW R1 Hp.le EnvLe TS TR YS Zv TP QP
theorem WX (ρ:Hp)(n:Int):Spec prog 230 [.int .i64 n] ρ [] (λ v ρ' L'=>v=.bool (pageOk n)/\ρ'=ρ/\L'=[]):=by
 refine Za func230 rfl rfl rfl λ u R=>?_
 simp only[Zc,kA]
 repeat' (first|refine zW ?_|(refine zG (λ hb=>?_) (λ hb=>?_)<;>(try simp only[kH] at hb))|intro _)
 all_goals (refine qF (L':=[]) ?_;exact⟨WR (by simp[pageOk];(try omega)),rfl,rfl⟩)
theorem images1_spec (ρ:Hp)(x:Im):Spec prog 261 [.agg ⟨imV x⟩] ρ [] (λ v ρ' L'=>v=.int .i64 x.page/\ρ'=ρ/\L'=[]):=by
 refine Za func261 rfl rfl rfl λ u R=>?_
 simp only[Zc,kA]
 repeat' (first|refine zW ?_|intro _)
 exact qE ⟨rfl,rfl,rfl⟩
abbrev Ww (bx:Nat)(before:Bool):SH:=[[(bx,.cells ⟨[.bool before]⟩ 4 (0,0))]]
theorem images2_spec (ρ:Hp)(bx:Nat)(before:Bool)(x:Im)(h:Im.In ρ x):Spec prog 262 [.agg ⟨imV x⟩,.pointer (some ⟨bx,0,none⟩)] ρ (Ww bx before) (λ v ρ' L'=>v=.bool (imOk before x)/\ρ'=ρ/\L'=Ww bx before):=by
 have ha:=Xn ρ x.av x.a h.a.cin
 have hb:=Xn ρ x.bv x.b h.b.cin
 refine Za func262 rfl rfl rfl λ u R=>?_
 simp only[Zc,kA]
 unfold imOk
 cases h1:pageOk x.page
 ·repeat' (first|(refine Zb (.func 230) ?_;refine qR rfl rfl (WX _ _) ?_;try simp only[kA,h1])|refine zW ?_|intro _)
  exact qE (L':=Ww bx before) ⟨rfl,rfl,rfl⟩
 ·cases h2:Zp x.a
  ·rw[h2] at ha
   repeat' (first|(refine Zb (.func 230) ?_;refine qR rfl rfl (WX _ _) ?_;try simp only[kA,h1])|(refine Zb (.func 205) ?_;refine qR rfl rfl (ha) ?_;try simp only[kA,if_false,aB])|refine zW ?_|intro _)
   exact qE (L':=Ww bx before) ⟨rfl,rfl,rfl⟩
  ·rw[h2] at ha
   cases h3:Zp x.b
   ·rw[h3] at hb
    repeat' (first|(refine Zb (.func 230) ?_;refine qR rfl rfl (WX _ _) ?_;try simp only[kA,h1])|(refine Zb (.func 205) ?_;refine qR rfl rfl (ha) ?_;try simp only[kA,if_true])|(refine Zb (.func 205) ?_;refine qR rfl rfl (hb) ?_;try simp only[kA,if_false,aB])|refine zW ?_|intro _)
    exact qE (L':=Ww bx before) ⟨rfl,rfl,rfl⟩
   ·rw[h3] at hb
    cases before
    ·by_cases h4:x.b.kind=0
     ·rw[decide_eq_true h4]
      repeat' (first|(refine Zb (.func 230) ?_;refine qR rfl rfl (WX _ _) ?_;try simp only[kA,h1])|(refine Zb (.func 205) ?_;refine qR rfl rfl (ha) ?_;try simp only[kA,if_true])|(refine Zb (.func 205) ?_;refine qR rfl rfl (hb) ?_;try simp only[kA,if_true])|refine zW ?_|intro _)
      exact qE (L':=Ww bx false) ⟨rfl,rfl,rfl⟩
     ·rw[decide_eq_false h4]
      repeat' (first|(refine Zb (.func 230) ?_;refine qR rfl rfl (WX _ _) ?_;try simp only[kA,h1])|(refine Zb (.func 205) ?_;refine qR rfl rfl (ha) ?_;try simp only[kA,if_true])|(refine Zb (.func 205) ?_;refine qR rfl rfl (hb) ?_;try simp only[kA,if_true])|refine zW ?_|intro _)
      exact qE (L':=Ww bx false) ⟨rfl,rfl,rfl⟩
    ·repeat' (first|(refine Zb (.func 230) ?_;refine qR rfl rfl (WX _ _) ?_;try simp only[kA,h1])|(refine Zb (.func 205) ?_;refine qR rfl rfl (ha) ?_;try simp only[kA,if_true])|(refine Zb (.func 205) ?_;refine qR rfl rfl (hb) ?_;try simp only[kA,if_true])|refine zW ?_|intro _)
     exact qE (L':=Ww bx true) ⟨rfl,rfl,rfl⟩
theorem ckpt1_spec (ρ:Hp)(x:CkT):Spec prog 225 [.agg ⟨ckTV x⟩] ρ [] (λ v ρ' L'=>v=.int .i64 x.txn/\ρ'=ρ/\L'=[]):=by
 refine Za func225 rfl rfl rfl λ u R=>?_
 simp only[Zc,kA]
 repeat' (first|refine zW ?_|intro _)
 exact qE ⟨rfl,rfl,rfl⟩
theorem ckpt3_spec (ρ:Hp)(x:CkP):Spec prog 228 [.agg ⟨ckPV x⟩] ρ [] (λ v ρ' L'=>v=.int .i64 x.page/\ρ'=ρ/\L'=[]):=by
 refine Za func228 rfl rfl rfl λ u R=>?_
 simp only[Zc,kA]
 repeat' (first|refine zW ?_|intro _)
 exact qE ⟨rfl,rfl,rfl⟩
abbrev Wf (ab:Nat)(v:RV)(r:Rc):List (Nat×Obj):=[(ab,.cells ⟨recV v r⟩ 245 (0,0))]
abbrev nextC (nb:Nat)(next:Int):List (Nat×Obj):=[(nb,.cells ⟨[.int .i64 next]⟩ 3 (0,0))]
abbrev ptrC (pb ab:Nat):List (Nat×Obj):=[(pb,.cells ⟨[.pointer (some ⟨ab,0,none⟩)]⟩ 243 (0,0))]
theorem ckpt2_spec (ρ:Hp)(nb pb ab:Nat)(next:Int)(v:RV)(r:Rc)(x:CkT):Spec prog 226 [.agg ⟨ckTV x⟩,.pointer (some ⟨nb,0,none⟩),.pointer (some ⟨pb,0,none⟩)] ρ [nextC nb next,ptrC pb ab,Wf ab v r]
  (λ z ρ' L'=>z=.bool (ckTOk r.lsn next x)/\ρ'=ρ/\L'=[nextC nb next,ptrC pb ab,Wf ab v r]):=by
 refine Za func226 rfl rfl rfl λ u R=>?_
 simp only[Zc,kA]
 repeat' (first|refine zW ?_|intro _)
 refine tpZ [0] (.f [1,2,3,4,5,6,7,8,9,10,11,12,13,14,15,16,17,18,19,20,21,22,23,24,25,26,27,28,29,30,31,32,33,34,35,36,37,38,39,40,41,42,43,44,45,46,47,48] .o) ?_
 repeat' (refine iT ?_;first|refine rA ?_|(refine iQ ?_;refine rG (λ hb=>?_) (λ hb=>?_)<;>(try simp only[kk] at hb)<;>refine rA ?_))
 all_goals (repeat' (first|refine zW ?_|intro _))
 all_goals (refine qF (L':=[nextC nb next,ptrC pb ab,Wf ab v r]) ?_;exact⟨WR (by simp[ckTOk];(try omega)),rfl,rfl⟩)
theorem ckpt4_spec (ρ:Hp)(pb ab:Nat)(v:RV)(r:Rc)(x:CkP):Spec prog 229 [.agg ⟨ckPV x⟩,.pointer (some ⟨pb,0,none⟩)] ρ [ptrC pb ab,Wf ab v r]
  (λ z ρ' L'=>z=.bool (ckPOk r.lsn x)/\ρ'=ρ/\L'=[ptrC pb ab,Wf ab v r]):=by
 refine Za func229 rfl rfl rfl λ u R=>?_
 simp only[Zc,kA]
 repeat' (first|refine zW ?_|intro _)
 refine tpZ [0,1] (.e 2 [] (.f [3,4,5,6,7,8,9,10,11,12,13,14,15,16,17,18] .o)) ?_
 repeat' (refine iT ?_;first|refine rA ?_|(refine iQ ?_;refine rG (λ hb=>?_) (λ hb=>?_)<;>(try simp only[kk] at hb)<;>refine rA ?_)|(refine rE ?_<;>(refine Zb (.func 230) ?_;refine qR rfl rfl (WX _ _) ?_;try simp only[kA])<;>(try simp only[kA])<;>refine zN ?_))
 all_goals (repeat' (first|refine zW ?_|intro _))
 all_goals (refine qF (L':=[ptrC pb ab,Wf ab v r]) ?_;exact⟨WR (by simp[ckPOk, *];(try omega)),rfl,rfl⟩)
theorem risesIm_spec (ρ:Hp)(a:Option Addr)(n c:Nat)(l:List Im)(h:AIn ρ 7 imV a n l)(hn:n<=1000000)(bx:Nat)(before:Bool)(him:∀x∈l,Im.In ρ x) :
  Spec prog 260 [.slice a n c,.func (.func 261) ⟨[]⟩ ⟨[]⟩,.func (.func 262) ⟨[]⟩ ⟨[.pointer (some ⟨bx,0,none⟩)]⟩] ρ (Ww bx before) (λ z ρ' L'=>z=.bool (upB (imOk before) Im.page l l.length)/\ρ'=ρ/\L'=(Ww bx before)):=by
 have hl:=h.len
 generalize hR:(imOk before)=rt
 unfold upB
 generalize hm:l.length=mo
 have hrt:∀x,rt x=(imOk before) x:=λ x=>by rw[hR]
 refine Za func260 rfl rfl rfl λ u R=>?_
 simp only[Zc,kA]
 repeat' (first|refine zW ?_|intro _)
 refine lpG Nat [0,1,2,9,10] (λ z=>[(11,.int .i64 z),(6,.bool false)]) (λ z=>ρ) (λ z=>(Ww bx before)) (λ z=>z<=n/\ZA mo (λ _ x=>rt x) (λ y x=>decide (Im.page y<Im.page x)) l z=true) (λ z=>n-z) 0 ⟨aZ _,by rw[ZA];simp[hm]⟩ ?_
 rintro k hI
 try simp only[kB] at hI ⊢
 try dsimp only at hI ⊢
 obtain⟨hk,hok⟩:=hI
 by_cases hlt:k<n
 ·obtain⟨b,off,C,T,fr,e1,hb0,hfit,hc⟩:=h.get (show k<l.length by omega)
  have hs:=Wj (most:=mo) (right:=λ _ x=>rt x) (lt:=λ y x=>decide (Im.page y<Im.page x)) (show k<l.length by omega)
  have hfin0:=λ (e:ZA mo (λ _ x=>rt x) (λ y x=>decide (Im.page y<Im.page x)) l (k+1)=false)=>XX e (show k+1<=mo by omega)
  rw[hok,Bool.true_and] at hs
  have him1:=him _ (aM (show k<l.length by omega))
  have hw:=hrt l[k]
  have hfin:(rt l[k] && (decide (k=0) || decide (Im.page (l[k-1]'(by omega))<Im.page l[k])))=false->ZA mo (λ _ x=>rt x) (λ y x=>decide (Im.page y<Im.page x)) l mo=false:=λ e=>hfin0 (by rw[hs];exact e)
  rw[e1]
  by_cases hk0:k=0
  ·rw[decide_eq_true hk0,Bool.true_or,Bool.and_true] at hs hfin
   generalize l[k]=x at *
   generalize hQQ:ZA mo (λ _ x=>rt x) (λ y x=>decide (Im.page y<Im.page x)) l mo=q at *
   clear hfin0 hrt hR
   repeat' (first|refine zW ?_|intro _)
   refine tpZ [0,1] (.e 2 [3,4,5,6,7,8,9,10,11,12,13,15,16] (.e 14 [] (.e 17 [] (.f [18,19,20] .o)))) ?_
   repeat' (refine iT ?_;first|refine rA ?_|(refine iQ ?_;refine rG (λ hb=>?_) (λ hb=>?_)<;>(try simp only[kk] at hb)<;>refine rA ?_)|(refine rE ?_<;>((try refine ZX ?_);(first|(refine Zb (.tmp 16) ?_;refine qR rfl rfl (images2_spec _ bx before _ him1) ?_;try simp only[kA])|(refine Zb (.tmp 24) ?_;refine qR rfl rfl (images1_spec _ _) ?_;try simp only[kA])|(refine Zb (.tmp 31) ?_;refine qR rfl rfl (images1_spec _ _) ?_;try simp only[kA]))<;>(try simp only[kA])<;>refine zN ?_)))
   all_goals (repeat' (first|refine zW ?_|(refine zG (λ hb=>?_) (λ hb=>?_)<;>(try simp only[kH] at hb))|intro _))
   all_goals (try (rw[hfin (by rw[hw];(first|(simp[*];done)|(simp[*];omega)|(simp_all;done)|(simp_all;omega)))];refine qF (L':=(Ww bx before)) ?_;exact⟨rfl,rfl,rfl⟩))
   all_goals rw[<-e1]
   all_goals refine rnG (k+1) (⟨hlt,by rw[hs,hw];(first|(simp[*];done)|(simp[*];omega)|(simp_all;done)|(simp_all;omega))⟩)
  ·obtain⟨b2,off2,C2,T2,fr2,f1,hb2,hfit2,hc2⟩:=h.get (show k-1<l.length by omega)
   rw[e1] at f1
   cases f1
   rw[hb0] at hb2
   cases hb2
   have ek:((k:Int)-1).toNat=k-1:=by omega
   rw[<-ek] at hfit2
   have hc3:List.take 7 (List.drop (off+((k:Int)-1).toNat*7) C)=imV (l[k-1]'(by omega)):=by rw[ek];exact hc2
   clear hc2
   rw[decide_eq_false hk0,Bool.false_or] at hs hfin
   generalize l[k]=x at *
   generalize l[k-1]'(by omega)=y at *
   generalize hQQ:ZA mo (λ _ x=>rt x) (λ y x=>decide (Im.page y<Im.page x)) l mo=q at *
   clear hfin0 hrt hR
   repeat' (first|refine zW ?_|intro _)
   refine tpZ [0,1] (.e 2 [3,4,5,6,7,8,9,10,11,12,13,15,16] (.e 14 [] (.e 17 [] (.f [18,19,20] .o)))) ?_
   repeat' (refine iT ?_;first|refine rA ?_|(refine iQ ?_;refine rG (λ hb=>?_) (λ hb=>?_)<;>(try simp only[kk] at hb)<;>refine rA ?_)|(refine rE ?_<;>((try refine ZX ?_);(first|(refine Zb (.tmp 16) ?_;refine qR rfl rfl (images2_spec _ bx before _ him1) ?_;try simp only[kA])|(refine Zb (.tmp 24) ?_;refine qR rfl rfl (images1_spec _ _) ?_;try simp only[kA])|(refine Zb (.tmp 31) ?_;refine qR rfl rfl (images1_spec _ _) ?_;try simp only[kA]))<;>(try simp only[kA])<;>refine zN ?_)))
   all_goals (repeat' (first|refine zW ?_|(refine zG (λ hb=>?_) (λ hb=>?_)<;>(try simp only[kH] at hb))|intro _))
   all_goals (try (rw[hfin (by rw[hw];(first|(simp[*];done)|(simp[*];omega)|(simp_all;done)|(simp_all;omega)))];refine qF (L':=(Ww bx before)) ?_;exact⟨rfl,rfl,rfl⟩))
   all_goals rw[<-e1]
   all_goals refine rnG (k+1) (⟨hlt,by rw[hs,hw];(first|(simp[*];done)|(simp[*];omega)|(simp_all;done)|(simp_all;omega))⟩)
 ·have hk2:k=n:=by omega
  subst hk2
  have hkm:k=mo:=by omega
  rw[hkm] at hok
  rw[hok]
  repeat' (first|refine zW ?_|intro _)
  exact qE (L':=(Ww bx before)) ⟨rfl,rfl,rfl⟩
theorem risesCkT_spec (ρ:Hp)(a:Option Addr)(n c:Nat)(l:List CkT)(h:AIn ρ 5 ckTV a n l)(hn:n<=1000000)(nb pb ab:Nat)(next:Int)(v:RV)(r:Rc)  :
  Spec prog 224 [.slice a n c,.func (.func 225) ⟨[]⟩ ⟨[]⟩,.func (.func 226) ⟨[]⟩ ⟨[.pointer (some ⟨nb,0,none⟩),.pointer (some ⟨pb,0,none⟩)]⟩] ρ [nextC nb next,ptrC pb ab,Wf ab v r] (λ z ρ' L'=>z=.bool (upB (ckTOk r.lsn next) CkT.txn l l.length)/\ρ'=ρ/\L'=[nextC nb next,ptrC pb ab,Wf ab v r]):=by
 have hl:=h.len
 generalize hR:(ckTOk r.lsn next)=rt
 unfold upB
 generalize hm:l.length=mo
 have hrt:∀x,rt x=(ckTOk r.lsn next) x:=λ x=>by rw[hR]
 refine Za func224 rfl rfl rfl λ u R=>?_
 simp only[Zc,kA]
 repeat' (first|refine zW ?_|intro _)
 refine lpG Nat [0,1,2,9,10] (λ z=>[(11,.int .i64 z),(6,.bool false)]) (λ z=>ρ) (λ z=>[nextC nb next,ptrC pb ab,Wf ab v r]) (λ z=>z<=n/\ZA mo (λ _ x=>rt x) (λ y x=>decide (CkT.txn y<CkT.txn x)) l z=true) (λ z=>n-z) 0 ⟨aZ _,by rw[ZA];simp[hm]⟩ ?_
 rintro k hI
 try simp only[kB] at hI ⊢
 try dsimp only at hI ⊢
 obtain⟨hk,hok⟩:=hI
 by_cases hlt:k<n
 ·obtain⟨b,off,C,T,fr,e1,hb0,hfit,hc⟩:=h.get (show k<l.length by omega)
  have hs:=Wj (most:=mo) (right:=λ _ x=>rt x) (lt:=λ y x=>decide (CkT.txn y<CkT.txn x)) (show k<l.length by omega)
  have hfin0:=λ (e:ZA mo (λ _ x=>rt x) (λ y x=>decide (CkT.txn y<CkT.txn x)) l (k+1)=false)=>XX e (show k+1<=mo by omega)
  rw[hok,Bool.true_and] at hs
  skip
  have hw:=hrt l[k]
  have hfin:(rt l[k] && (decide (k=0) || decide (CkT.txn (l[k-1]'(by omega))<CkT.txn l[k])))=false->ZA mo (λ _ x=>rt x) (λ y x=>decide (CkT.txn y<CkT.txn x)) l mo=false:=λ e=>hfin0 (by rw[hs];exact e)
  rw[e1]
  by_cases hk0:k=0
  ·rw[decide_eq_true hk0,Bool.true_or,Bool.and_true] at hs hfin
   generalize l[k]=x at *
   generalize hQQ:ZA mo (λ _ x=>rt x) (λ y x=>decide (CkT.txn y<CkT.txn x)) l mo=q at *
   clear hfin0 hrt hR
   repeat' (first|refine zW ?_|intro _)
   refine tpZ [0,1] (.e 2 [3,4,5,6,7,8,9,10,11,12,13,15,16] (.e 14 [] (.e 17 [] (.f [18,19,20] .o)))) ?_
   repeat' (refine iT ?_;first|refine rA ?_|(refine iQ ?_;refine rG (λ hb=>?_) (λ hb=>?_)<;>(try simp only[kk] at hb)<;>refine rA ?_)|(refine rE ?_<;>((try refine ZX ?_);(first|(refine Zb (.tmp 16) ?_;refine qR rfl rfl (ckpt2_spec _ nb pb ab next v r _) ?_;try simp only[kA])|(refine Zb (.tmp 24) ?_;refine qR rfl rfl (ckpt1_spec _ _) ?_;try simp only[kA])|(refine Zb (.tmp 31) ?_;refine qR rfl rfl (ckpt1_spec _ _) ?_;try simp only[kA]))<;>(try simp only[kA])<;>refine zN ?_)))
   all_goals (repeat' (first|refine zW ?_|(refine zG (λ hb=>?_) (λ hb=>?_)<;>(try simp only[kH] at hb))|intro _))
   all_goals (try (rw[hfin (by rw[hw];(first|(simp[*];done)|(simp[*];omega)|(simp_all;done)|(simp_all;omega)))];refine qF (L':=[nextC nb next,ptrC pb ab,Wf ab v r]) ?_;exact⟨rfl,rfl,rfl⟩))
   all_goals rw[<-e1]
   all_goals refine rnG (k+1) (⟨hlt,by rw[hs,hw];(first|(simp[*];done)|(simp[*];omega)|(simp_all;done)|(simp_all;omega))⟩)
  ·obtain⟨b2,off2,C2,T2,fr2,f1,hb2,hfit2,hc2⟩:=h.get (show k-1<l.length by omega)
   rw[e1] at f1
   cases f1
   rw[hb0] at hb2
   cases hb2
   have ek:((k:Int)-1).toNat=k-1:=by omega
   rw[<-ek] at hfit2
   have hc3:List.take 5 (List.drop (off+((k:Int)-1).toNat*5) C)=ckTV (l[k-1]'(by omega)):=by rw[ek];exact hc2
   clear hc2
   rw[decide_eq_false hk0,Bool.false_or] at hs hfin
   generalize l[k]=x at *
   generalize l[k-1]'(by omega)=y at *
   generalize hQQ:ZA mo (λ _ x=>rt x) (λ y x=>decide (CkT.txn y<CkT.txn x)) l mo=q at *
   clear hfin0 hrt hR
   repeat' (first|refine zW ?_|intro _)
   refine tpZ [0,1] (.e 2 [3,4,5,6,7,8,9,10,11,12,13,15,16] (.e 14 [] (.e 17 [] (.f [18,19,20] .o)))) ?_
   repeat' (refine iT ?_;first|refine rA ?_|(refine iQ ?_;refine rG (λ hb=>?_) (λ hb=>?_)<;>(try simp only[kk] at hb)<;>refine rA ?_)|(refine rE ?_<;>((try refine ZX ?_);(first|(refine Zb (.tmp 16) ?_;refine qR rfl rfl (ckpt2_spec _ nb pb ab next v r _) ?_;try simp only[kA])|(refine Zb (.tmp 24) ?_;refine qR rfl rfl (ckpt1_spec _ _) ?_;try simp only[kA])|(refine Zb (.tmp 31) ?_;refine qR rfl rfl (ckpt1_spec _ _) ?_;try simp only[kA]))<;>(try simp only[kA])<;>refine zN ?_)))
   all_goals (repeat' (first|refine zW ?_|(refine zG (λ hb=>?_) (λ hb=>?_)<;>(try simp only[kH] at hb))|intro _))
   all_goals (try (rw[hfin (by rw[hw];(first|(simp[*];done)|(simp[*];omega)|(simp_all;done)|(simp_all;omega)))];refine qF (L':=[nextC nb next,ptrC pb ab,Wf ab v r]) ?_;exact⟨rfl,rfl,rfl⟩))
   all_goals rw[<-e1]
   all_goals refine rnG (k+1) (⟨hlt,by rw[hs,hw];(first|(simp[*];done)|(simp[*];omega)|(simp_all;done)|(simp_all;omega))⟩)
 ·have hk2:k=n:=by omega
  subst hk2
  have hkm:k=mo:=by omega
  rw[hkm] at hok
  rw[hok]
  repeat' (first|refine zW ?_|intro _)
  exact qE (L':=[nextC nb next,ptrC pb ab,Wf ab v r]) ⟨rfl,rfl,rfl⟩
theorem risesCkP_spec (ρ:Hp)(a:Option Addr)(n c:Nat)(l:List CkP)(h:AIn ρ 2 ckPV a n l)(hn:n<=1000000)(pb ab:Nat)(v:RV)(r:Rc)  :
  Spec prog 227 [.slice a n c,.func (.func 228) ⟨[]⟩ ⟨[]⟩,.func (.func 229) ⟨[]⟩ ⟨[.pointer (some ⟨pb,0,none⟩)]⟩] ρ [ptrC pb ab,Wf ab v r] (λ z ρ' L'=>z=.bool (upB (ckPOk r.lsn) CkP.page l l.length)/\ρ'=ρ/\L'=[ptrC pb ab,Wf ab v r]):=by
 have hl:=h.len
 generalize hR:(ckPOk r.lsn)=rt
 unfold upB
 generalize hm:l.length=mo
 have hrt:∀x,rt x=(ckPOk r.lsn) x:=λ x=>by rw[hR]
 refine Za func227 rfl rfl rfl λ u R=>?_
 simp only[Zc,kA]
 repeat' (first|refine zW ?_|intro _)
 refine lpG Nat [0,1,2,9,10] (λ z=>[(11,.int .i64 z),(6,.bool false)]) (λ z=>ρ) (λ z=>[ptrC pb ab,Wf ab v r]) (λ z=>z<=n/\ZA mo (λ _ x=>rt x) (λ y x=>decide (CkP.page y<CkP.page x)) l z=true) (λ z=>n-z) 0 ⟨aZ _,by rw[ZA];simp[hm]⟩ ?_
 rintro k hI
 try simp only[kB] at hI ⊢
 try dsimp only at hI ⊢
 obtain⟨hk,hok⟩:=hI
 by_cases hlt:k<n
 ·obtain⟨b,off,C,T,fr,e1,hb0,hfit,hc⟩:=h.get (show k<l.length by omega)
  have hs:=Wj (most:=mo) (right:=λ _ x=>rt x) (lt:=λ y x=>decide (CkP.page y<CkP.page x)) (show k<l.length by omega)
  have hfin0:=λ (e:ZA mo (λ _ x=>rt x) (λ y x=>decide (CkP.page y<CkP.page x)) l (k+1)=false)=>XX e (show k+1<=mo by omega)
  rw[hok,Bool.true_and] at hs
  skip
  have hw:=hrt l[k]
  have hfin:(rt l[k] && (decide (k=0) || decide (CkP.page (l[k-1]'(by omega))<CkP.page l[k])))=false->ZA mo (λ _ x=>rt x) (λ y x=>decide (CkP.page y<CkP.page x)) l mo=false:=λ e=>hfin0 (by rw[hs];exact e)
  rw[e1]
  by_cases hk0:k=0
  ·rw[decide_eq_true hk0,Bool.true_or,Bool.and_true] at hs hfin
   generalize l[k]=x at *
   generalize hQQ:ZA mo (λ _ x=>rt x) (λ y x=>decide (CkP.page y<CkP.page x)) l mo=q at *
   clear hfin0 hrt hR
   repeat' (first|refine zW ?_|intro _)
   refine tpZ [0,1] (.e 2 [3,4,5,6,7,8,9,10,11,12,13,15,16] (.e 14 [] (.e 17 [] (.f [18,19,20] .o)))) ?_
   repeat' (refine iT ?_;first|refine rA ?_|(refine iQ ?_;refine rG (λ hb=>?_) (λ hb=>?_)<;>(try simp only[kk] at hb)<;>refine rA ?_)|(refine rE ?_<;>((try refine ZX ?_);(first|(refine Zb (.tmp 16) ?_;refine qR rfl rfl (ckpt4_spec _ pb ab v r _) ?_;try simp only[kA])|(refine Zb (.tmp 24) ?_;refine qR rfl rfl (ckpt3_spec _ _) ?_;try simp only[kA])|(refine Zb (.tmp 31) ?_;refine qR rfl rfl (ckpt3_spec _ _) ?_;try simp only[kA]))<;>(try simp only[kA])<;>refine zN ?_)))
   all_goals (repeat' (first|refine zW ?_|(refine zG (λ hb=>?_) (λ hb=>?_)<;>(try simp only[kH] at hb))|intro _))
   all_goals (try (rw[hfin (by rw[hw];(first|(simp[*];done)|(simp[*];omega)|(simp_all;done)|(simp_all;omega)))];refine qF (L':=[ptrC pb ab,Wf ab v r]) ?_;exact⟨rfl,rfl,rfl⟩))
   all_goals rw[<-e1]
   all_goals refine rnG (k+1) (⟨hlt,by rw[hs,hw];(first|(simp[*];done)|(simp[*];omega)|(simp_all;done)|(simp_all;omega))⟩)
  ·obtain⟨b2,off2,C2,T2,fr2,f1,hb2,hfit2,hc2⟩:=h.get (show k-1<l.length by omega)
   rw[e1] at f1
   cases f1
   rw[hb0] at hb2
   cases hb2
   have ek:((k:Int)-1).toNat=k-1:=by omega
   rw[<-ek] at hfit2
   have hc3:List.take 2 (List.drop (off+((k:Int)-1).toNat*2) C)=ckPV (l[k-1]'(by omega)):=by rw[ek];exact hc2
   clear hc2
   rw[decide_eq_false hk0,Bool.false_or] at hs hfin
   generalize l[k]=x at *
   generalize l[k-1]'(by omega)=y at *
   generalize hQQ:ZA mo (λ _ x=>rt x) (λ y x=>decide (CkP.page y<CkP.page x)) l mo=q at *
   clear hfin0 hrt hR
   repeat' (first|refine zW ?_|intro _)
   refine tpZ [0,1] (.e 2 [3,4,5,6,7,8,9,10,11,12,13,15,16] (.e 14 [] (.e 17 [] (.f [18,19,20] .o)))) ?_
   repeat' (refine iT ?_;first|refine rA ?_|(refine iQ ?_;refine rG (λ hb=>?_) (λ hb=>?_)<;>(try simp only[kk] at hb)<;>refine rA ?_)|(refine rE ?_<;>((try refine ZX ?_);(first|(refine Zb (.tmp 16) ?_;refine qR rfl rfl (ckpt4_spec _ pb ab v r _) ?_;try simp only[kA])|(refine Zb (.tmp 24) ?_;refine qR rfl rfl (ckpt3_spec _ _) ?_;try simp only[kA])|(refine Zb (.tmp 31) ?_;refine qR rfl rfl (ckpt3_spec _ _) ?_;try simp only[kA]))<;>(try simp only[kA])<;>refine zN ?_)))
   all_goals (repeat' (first|refine zW ?_|(refine zG (λ hb=>?_) (λ hb=>?_)<;>(try simp only[kH] at hb))|intro _))
   all_goals (try (rw[hfin (by rw[hw];(first|(simp[*];done)|(simp[*];omega)|(simp_all;done)|(simp_all;omega)))];refine qF (L':=[ptrC pb ab,Wf ab v r]) ?_;exact⟨rfl,rfl,rfl⟩))
   all_goals rw[<-e1]
   all_goals refine rnG (k+1) (⟨hlt,by rw[hs,hw];(first|(simp[*];done)|(simp[*];omega)|(simp_all;done)|(simp_all;omega))⟩)
 ·have hk2:k=n:=by omega
  subst hk2
  have hkm:k=mo:=by omega
  rw[hkm] at hok
  rw[hok]
  repeat' (first|refine zW ?_|intro _)
  exact qE (L':=[ptrC pb ab,Wf ab v r]) ⟨rfl,rfl,rfl⟩
end Go.Proofs.E
