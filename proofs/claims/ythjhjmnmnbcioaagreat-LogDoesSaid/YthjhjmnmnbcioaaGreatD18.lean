/- Laws of LogDoes. Part 18 of 30. -/
import Derived.Test.YthjhjmnmnbcioaaGreatD17
set_option linter.unusedVariables false
set_option linter.unusedSimpArgs false
set_option linter.unusedSectionVars false
namespace Go.Proofs.E
open Go Tryz
set_option maxRecDepth 4000
set_option maxHeartbeats 1000000
attribute [local irreducible] Yl TL TC TE Spec YL R1 Hp.le EnvLe TS TR YS Zt TP QP
theorem dirty12_spec (ρ:Hp)(s:SV)(l:List CkP)(h:AS ρ 2 YB s l)(lsn:Nat)  :
  Spec prog 106 [.slice s.a s.n s.c,.int .u64 lsn] ρ [] (λ z ρ' L'=>z=.bool (upB (Vo lsn) CkP.page l l.length)/\ρ'=ρ/\L'=[]):=by
 have hl:=h.at'.len
 have hn:=h.big
 have hA:=h.at'
 generalize hR:(Vo lsn)=rt
 unfold upB
 generalize hm:l.length=mo
 have hrt:∀x,rt x=(Vo lsn) x:=λ x=>by rw[hR]
 refine Zb func106 rfl rfl rfl λ u R=>?_
 simp only[Zc,kA]
 repeat' (first|refine zV ?_|intro _)
 refine lpG Nat [0,1,7,8] (λ z=>[(9,.int .i64 z),(4,.bool false)]) (λ z=>ρ) (λ z=>[]) (λ z=>z<=s.n/\Zu mo (λ _ x=>rt x) (λ y x=>decide (CkP.page y<CkP.page x)) l z=true) (λ z=>s.n-z) 0 ⟨aZ _,by rw[Zu];simp[hm]⟩ ?_
 rintro k hI
 try simp only[kB] at hI ⊢
 try dsimp only at hI ⊢
 obtain⟨hk,hok⟩:=hI
 by_cases hlt:k<s.n
 ·obtain⟨b,off,C,T,fr,e1,hb0,hfit,hc⟩:=hA.get (show k<l.length by omega)
  have hs:=Xp (most:=mo) (right:=λ _ x=>rt x) (lt:=λ y x=>decide (CkP.page y<CkP.page x)) (show k<l.length by omega)
  have hfin0:=λ (e:Zu mo (λ _ x=>rt x) (λ y x=>decide (CkP.page y<CkP.page x)) l (k+1)=false)=>YT e (show k+1<=mo by omega)
  rw[hok,Bool.true_and] at hs
  have hw:=hrt l[k]
  skip
  rw[e1]
  by_cases hk0:k=0
  ·have hfin:(rt l[k] && (decide (k=0) || decide (CkP.page (l[k-1]'(by omega))<CkP.page l[k])))=false->Zu mo (λ _ x=>rt x) (λ y x=>decide (CkP.page y<CkP.page x)) l mo=false:=λ e=>hfin0 (by rw[hs];exact e)
   rw[decide_eq_true hk0,Bool.true_or,Bool.and_true] at hs hfin
   generalize l[k]=x at *
   unfold Vo at hw
   generalize hQQ:Zu mo (λ _ x=>rt x) (λ y x=>decide (CkP.page y<CkP.page x)) l mo=q at *
   clear hfin0 hrt hR
   repeat' (first|refine zV ?_|intro _)
   refine tpZ [0,1] (.e 2 [] (.f [3,4,5,6,7,8,9,10,11,12,13,14,15,16,17,18,19,20,21,22,23,24,25,26,27,28,29] .o)) ?_
   repeat' (refine iT ?_;first|refine rA ?_|(refine iQ ?_;refine rG (λ hb=>?_) (λ hb=>?_)<;>(try simp only[kk] at hb)<;>refine rA ?_)|(refine rE ?_<;>(refine Za (.func 175) ?_;refine qR rfl rfl (rpage12_spec _ _) ?_;try simp only[kA])<;>(try simp only[kA])<;>refine zN ?_))
   all_goals (repeat' (first|refine zV ?_|(refine zG (λ hb=>?_) (λ hb=>?_)<;>(try simp only[kH,kI] at hb))|intro _))
   all_goals (try (rw[hfin (by rw[hw];(first|(simp[*];done)|(simp[*];omega)|(simp_all;done)|(simp_all;omega)))];refine qF (L':=[]) ?_;exact⟨by first|rfl|rw[Bool.and_false],rfl,rfl⟩))
   all_goals rw[<-e1]
   all_goals refine rnG (k+1) (⟨hlt,by rw[hs,hw];(first|(simp[*];done)|(simp[*];omega)|(simp_all;done)|(simp_all;omega))⟩)
  ·have hd:decide (k=0)=false:=decide_eq_false hk0
   obtain⟨b2,off2,C2,T2,fr2,f1,hb2,hfit2,hc2⟩:=hA.get (show k-1<l.length by omega)
   rw[e1] at f1
   cases f1
   rw[hb0] at hb2
   cases hb2
   have ek:((k:Int)-1).toNat=k-1:=by omega
   have hfin:(rt l[k] && (decide (k=0) || decide (CkP.page (l[k-1]'(by omega))<CkP.page l[k])))=false->Zu mo (λ _ x=>rt x) (λ y x=>decide (CkP.page y<CkP.page x)) l mo=false:=λ e=>hfin0 (by rw[hs];exact e)
   rw[hd,Bool.false_or] at hs hfin
   have hcy:C[off+((k:Int)-1).toNat*2]?=some (.int .i64 (CkP.page (l[k-1]'(by omega)))):=by
    have:=congrArg (λ l=>l[0]?) hc2
    rw[ek]
    simp only[List.getElem?_take,List.getElem?_drop] at this
    simpa using this
   clear hc2 hfit2
   generalize l[k]=x at *
   generalize l[k-1]'(by omega)=y at *
   unfold Vo at hw
   generalize hQQ:Zu mo (λ _ x=>rt x) (λ y x=>decide (CkP.page y<CkP.page x)) l mo=q at *
   clear hfin0 hrt hR
   repeat' (first|refine zV ?_|intro _)
   refine tpZ [0,1] (.e 2 [] (.f [3,4,5,6,7,8,9,10,11,12,13,14,15,16,17,18,19,20,21,22,23,24,25,26,27,28,29] .o)) ?_
   repeat' (refine iT ?_;first|refine rA ?_|(refine iQ ?_;refine rG (λ hb=>?_) (λ hb=>?_)<;>(try simp only[kk] at hb)<;>refine rA ?_)|(refine rE ?_<;>(refine Za (.func 175) ?_;refine qR rfl rfl (rpage12_spec _ _) ?_;try simp only[kA])<;>(try simp only[kA])<;>refine zN ?_))
   all_goals (repeat' (first|refine zV ?_|(refine zG (λ hb=>?_) (λ hb=>?_)<;>(try simp only[kH,kI] at hb))|intro _))
   all_goals (try (rw[hfin (by rw[hw];(first|(simp[*];done)|(simp[*];omega)|(simp_all;done)|(simp_all;omega)))];refine qF (L':=[]) ?_;exact⟨by first|rfl|rw[Bool.and_false],rfl,rfl⟩))
   all_goals rw[<-e1]
   all_goals refine rnG (k+1) (⟨hlt,by rw[hs,hw];(first|(simp[*];done)|(simp[*];omega)|(simp_all;done)|(simp_all;omega))⟩)
 ·have hk2:k=mo:=by omega
  rw[hk2] at hok
  rw[hok]
  repeat' (first|refine zV ?_|(refine zG (λ hb=>?_) (λ hb=>?_)<;>(try simp only[kH,kI] at hb))|intro _)
  all_goals (refine qF (L':=[]) ?_;exact⟨rfl,rfl,rfl⟩)
theorem txns12_spec (ρ:Hp)(s:SV)(l:List CkT)(h:AS ρ 5 Yh s l)(lsn:Nat)(next:Int)  :
  Spec prog 105 [.slice s.a s.n s.c,.int .u64 lsn,.int .i64 next] ρ [] (λ z ρ' L'=>z=.bool (decide (l.length<=8) && upB (ckTOk lsn next) CkT.txn l l.length)/\ρ'=ρ/\L'=[]):=by
 have hl:=h.at'.len
 have hn:=h.big
 have hA:=h.at'
 generalize hR:(ckTOk lsn next)=rt
 unfold upB
 generalize hm:l.length=mo
 have hrt:∀x,rt x=(ckTOk lsn next) x:=λ x=>by rw[hR]
 refine Zb func105 rfl rfl rfl λ u R=>?_
 simp only[Zc,kA]
 repeat' (first|refine zV ?_|intro _)
 refine lpG Nat [0,1,2,9,10] (λ z=>[(11,.int .i64 z),(6,.bool false)]) (λ z=>ρ) (λ z=>[]) (λ z=>z<=s.n/\Zu mo (λ _ x=>rt x) (λ y x=>decide (CkT.txn y<CkT.txn x)) l z=true) (λ z=>s.n-z) 0 ⟨aZ _,by rw[Zu];simp[hm]⟩ ?_
 rintro k hI
 try simp only[kB] at hI ⊢
 try dsimp only at hI ⊢
 obtain⟨hk,hok⟩:=hI
 by_cases hlt:k<s.n
 ·obtain⟨b,off,C,T,fr,e1,hb0,hfit,hc⟩:=hA.get (show k<l.length by omega)
  have hs:=Xp (most:=mo) (right:=λ _ x=>rt x) (lt:=λ y x=>decide (CkT.txn y<CkT.txn x)) (show k<l.length by omega)
  have hfin0:=λ (e:Zu mo (λ _ x=>rt x) (λ y x=>decide (CkT.txn y<CkT.txn x)) l (k+1)=false)=>YT e (show k+1<=mo by omega)
  rw[hok,Bool.true_and] at hs
  have hw:=hrt l[k]
  skip
  rw[e1]
  by_cases hk0:k=0
  ·have hfin:(rt l[k] && (decide (k=0) || decide (CkT.txn (l[k-1]'(by omega))<CkT.txn l[k])))=false->Zu mo (λ _ x=>rt x) (λ y x=>decide (CkT.txn y<CkT.txn x)) l mo=false:=λ e=>hfin0 (by rw[hs];exact e)
   rw[decide_eq_true hk0,Bool.true_or,Bool.and_true] at hs hfin
   generalize l[k]=x at *
   unfold ckTOk at hw
   generalize hQQ:Zu mo (λ _ x=>rt x) (λ y x=>decide (CkT.txn y<CkT.txn x)) l mo=q at *
   clear hfin0 hrt hR
   repeat' (first|refine zV ?_|intro _)
   refine tpZ [0] (.f [1,2,3,4,5,6,7,8,9,10,11,12,13,14,15,16,17,18,19,20,21,22,23,24,25,26,27,28,29,30,31,32,33,34,35,36,37,38,39,40,41,42,43,44,45,46,47,48,49,50,51,52,53,54,55,56,57,58] .o) ?_
   repeat' (refine iT ?_;first|refine rA ?_|(refine iQ ?_;refine rG (λ hb=>?_) (λ hb=>?_)<;>(try simp only[kk] at hb)<;>refine rA ?_))
   all_goals (repeat' (first|refine zV ?_|(refine zG (λ hb=>?_) (λ hb=>?_)<;>(try simp only[kH,kI] at hb))|intro _))
   all_goals (try (rw[hfin (by rw[hw];(first|(simp[*];done)|(simp[*];omega)|(simp_all;done)|(simp_all;omega)))];refine qF (L':=[]) ?_;exact⟨by first|rfl|rw[Bool.and_false],rfl,rfl⟩))
   all_goals rw[<-e1]
   all_goals refine rnG (k+1) (⟨hlt,by rw[hs,hw];(first|(simp[*];done)|(simp[*];omega)|(simp_all;done)|(simp_all;omega))⟩)
  ·have hd:decide (k=0)=false:=decide_eq_false hk0
   obtain⟨b2,off2,C2,T2,fr2,f1,hb2,hfit2,hc2⟩:=hA.get (show k-1<l.length by omega)
   rw[e1] at f1
   cases f1
   rw[hb0] at hb2
   cases hb2
   have ek:((k:Int)-1).toNat=k-1:=by omega
   have hfin:(rt l[k] && (decide (k=0) || decide (CkT.txn (l[k-1]'(by omega))<CkT.txn l[k])))=false->Zu mo (λ _ x=>rt x) (λ y x=>decide (CkT.txn y<CkT.txn x)) l mo=false:=λ e=>hfin0 (by rw[hs];exact e)
   rw[hd,Bool.false_or] at hs hfin
   have hcy:C[off+((k:Int)-1).toNat*5]?=some (.int .i64 (CkT.txn (l[k-1]'(by omega)))):=by
    have:=congrArg (λ l=>l[0]?) hc2
    rw[ek]
    simp only[List.getElem?_take,List.getElem?_drop] at this
    simpa using this
   clear hc2 hfit2
   generalize l[k]=x at *
   generalize l[k-1]'(by omega)=y at *
   unfold ckTOk at hw
   generalize hQQ:Zu mo (λ _ x=>rt x) (λ y x=>decide (CkT.txn y<CkT.txn x)) l mo=q at *
   clear hfin0 hrt hR
   repeat' (first|refine zV ?_|intro _)
   refine tpZ [0] (.f [1,2,3,4,5,6,7,8,9,10,11,12,13,14,15,16,17,18,19,20,21,22,23,24,25,26,27,28,29,30,31,32,33,34,35,36,37,38,39,40,41,42,43,44,45,46,47,48,49,50,51,52,53,54,55,56,57,58] .o) ?_
   repeat' (refine iT ?_;first|refine rA ?_|(refine iQ ?_;refine rG (λ hb=>?_) (λ hb=>?_)<;>(try simp only[kk] at hb)<;>refine rA ?_))
   all_goals (repeat' (first|refine zV ?_|(refine zG (λ hb=>?_) (λ hb=>?_)<;>(try simp only[kH,kI] at hb))|intro _))
   all_goals (try (rw[hfin (by rw[hw];(first|(simp[*];done)|(simp[*];omega)|(simp_all;done)|(simp_all;omega)))];refine qF (L':=[]) ?_;exact⟨by first|rfl|rw[Bool.and_false],rfl,rfl⟩))
   all_goals rw[<-e1]
   all_goals refine rnG (k+1) (⟨hlt,by rw[hs,hw];(first|(simp[*];done)|(simp[*];omega)|(simp_all;done)|(simp_all;omega))⟩)
 ·have hk2:k=mo:=by omega
  rw[hk2] at hok
  rw[hok]
  repeat' (first|refine zV ?_|(refine zG (λ hb=>?_) (λ hb=>?_)<;>(try simp only[kH,kI] at hb))|intro _)
  all_goals (refine qF (L':=[]) ?_;exact⟨YK (by (try simp[*]);first|done|omega|(intros;omega)|(constructor<;>intros<;>(try simp_all)<;>omega)),rfl,rfl⟩)
theorem images12_spec (ρ:Hp)(s:SV)(l:List Im)(h:AS ρ 7 imV s l)(before:Bool)(him:∀x∈l,Im.In ρ x) :
  Spec prog 103 [.slice s.a s.n s.c,.bool before] ρ [] (λ z ρ' L'=>z=.bool (decide (l.length<=16) && upB (imOk before) Im.page l l.length)/\ρ'=ρ/\L'=[]):=by
 have hl:=h.at'.len
 have hn:=h.big
 have hA:=h.at'
 generalize hR:(imOk before)=rt
 unfold upB
 generalize hm:l.length=mo
 have hrt:∀x,rt x=(imOk before) x:=λ x=>by rw[hR]
 refine Zb func103 rfl rfl rfl λ u R=>?_
 simp only[Zc,kA]
 repeat' (first|refine zV ?_|intro _)
 refine lpG Nat [0,1,7,8] (λ z=>[(9,.int .i64 z),(4,.bool false)]) (λ z=>ρ) (λ z=>[]) (λ z=>z<=s.n/\Zu mo (λ _ x=>rt x) (λ y x=>decide (Im.page y<Im.page x)) l z=true) (λ z=>s.n-z) 0 ⟨aZ _,by rw[Zu];simp[hm]⟩ ?_
 rintro k hI
 try simp only[kB] at hI ⊢
 try dsimp only at hI ⊢
 obtain⟨hk,hok⟩:=hI
 by_cases hlt:k<s.n
 ·obtain⟨b,off,C,T,fr,e1,hb0,hfit,hc⟩:=hA.get (show k<l.length by omega)
  have hs:=Xp (most:=mo) (right:=λ _ x=>rt x) (lt:=λ y x=>decide (Im.page y<Im.page x)) (show k<l.length by omega)
  have hfin0:=λ (e:Zu mo (λ _ x=>rt x) (λ y x=>decide (Im.page y<Im.page x)) l (k+1)=false)=>YT e (show k+1<=mo by omega)
  rw[hok,Bool.true_and] at hs
  have hw:=hrt l[k]
  have him1:=him _ (aM (show k<l.length by omega))
  rw[e1]
  by_cases hk0:k=0
  ·have hfin:(rt l[k] && (decide (k=0) || decide (Im.page (l[k-1]'(by omega))<Im.page l[k])))=false->Zu mo (λ _ x=>rt x) (λ y x=>decide (Im.page y<Im.page x)) l mo=false:=λ e=>hfin0 (by rw[hs];exact e)
   rw[decide_eq_true hk0,Bool.true_or,Bool.and_true] at hs hfin
   generalize l[k]=x at *
   (unfold imOk at hw);have hra:=Vb ρ x.av x.a him1.a.cin (λ r hr=>(him1.a.row r hr).id) him1.a.kid;have hrb:=Vb ρ x.bv x.b him1.b.cin (λ r hr=>(him1.b.row r hr).id) him1.b.kid
   generalize hQQ:Zu mo (λ _ x=>rt x) (λ y x=>decide (Im.page y<Im.page x)) l mo=q at *
   clear hfin0 hrt hR
   repeat' (first|refine zV ?_|intro _)
   refine tpZ [0,1] (.e 2 [3,4,5,6,7,8,9,10,11,12,13,14,15,16,17,18,19,20,21] (.e 22 [23,24,25,26,27] (.e 28 [] (.f [29,30,31,32,33,34,35,36,37,38,39,40] .o)))) ?_
   repeat' (refine iT ?_;first|refine rA ?_|(refine iQ ?_;refine rG (λ hb=>?_) (λ hb=>?_)<;>(try simp only[kk] at hb)<;>refine rA ?_)|(refine rE ?_<;>((try refine ZM ?_);(first|(refine Za (.func 175) ?_;refine qR rfl rfl (rpage12_spec _ _) ?_;try simp only[kA])|(refine Za (.func 147) ?_;refine qR rfl rfl (hra) ?_;try simp only[kA])|(refine Za (.func 147) ?_;refine qR rfl rfl (hrb) ?_;try simp only[kA]))<;>(try simp only[kA])<;>refine zN ?_)))
   all_goals (repeat' (first|refine zV ?_|(refine zG (λ hb=>?_) (λ hb=>?_)<;>(try simp only[kH,kI] at hb))|intro _))
   all_goals (try (rw[hfin (by rw[hw];(first|(simp[*];done)|(simp[*];omega)|(simp_all;done)|(simp_all;omega)))];refine qF (L':=[]) ?_;exact⟨by first|rfl|rw[Bool.and_false],rfl,rfl⟩))
   all_goals rw[<-e1]
   all_goals refine rnG (k+1) (⟨hlt,by rw[hs,hw];(first|(simp[*];done)|(simp[*];omega)|(simp_all;done)|(simp_all;omega))⟩)
  ·have hd:decide (k=0)=false:=decide_eq_false hk0
   obtain⟨b2,off2,C2,T2,fr2,f1,hb2,hfit2,hc2⟩:=hA.get (show k-1<l.length by omega)
   rw[e1] at f1
   cases f1
   rw[hb0] at hb2
   cases hb2
   have ek:((k:Int)-1).toNat=k-1:=by omega
   have hfin:(rt l[k] && (decide (k=0) || decide (Im.page (l[k-1]'(by omega))<Im.page l[k])))=false->Zu mo (λ _ x=>rt x) (λ y x=>decide (Im.page y<Im.page x)) l mo=false:=λ e=>hfin0 (by rw[hs];exact e)
   rw[hd,Bool.false_or] at hs hfin
   have hcy:C[off+((k:Int)-1).toNat*7]?=some (.int .i64 (Im.page (l[k-1]'(by omega)))):=by
    have:=congrArg (λ l=>l[0]?) hc2
    rw[ek]
    simp only[List.getElem?_take,List.getElem?_drop] at this
    simpa using this
   clear hc2 hfit2
   generalize l[k]=x at *
   generalize l[k-1]'(by omega)=y at *
   (unfold imOk at hw);have hra:=Vb ρ x.av x.a him1.a.cin (λ r hr=>(him1.a.row r hr).id) him1.a.kid;have hrb:=Vb ρ x.bv x.b him1.b.cin (λ r hr=>(him1.b.row r hr).id) him1.b.kid
   generalize hQQ:Zu mo (λ _ x=>rt x) (λ y x=>decide (Im.page y<Im.page x)) l mo=q at *
   clear hfin0 hrt hR
   repeat' (first|refine zV ?_|intro _)
   refine tpZ [0,1] (.e 2 [3,4,5,6,7,8,9,10,11,12,13,14,15,16,17,18,19,20,21] (.e 22 [23,24,25,26,27] (.e 28 [] (.f [29,30,31,32,33,34,35,36,37,38,39,40] .o)))) ?_
   repeat' (refine iT ?_;first|refine rA ?_|(refine iQ ?_;refine rG (λ hb=>?_) (λ hb=>?_)<;>(try simp only[kk] at hb)<;>refine rA ?_)|(refine rE ?_<;>((try refine ZM ?_);(first|(refine Za (.func 175) ?_;refine qR rfl rfl (rpage12_spec _ _) ?_;try simp only[kA])|(refine Za (.func 147) ?_;refine qR rfl rfl (hra) ?_;try simp only[kA])|(refine Za (.func 147) ?_;refine qR rfl rfl (hrb) ?_;try simp only[kA]))<;>(try simp only[kA])<;>refine zN ?_)))
   all_goals (repeat' (first|refine zV ?_|(refine zG (λ hb=>?_) (λ hb=>?_)<;>(try simp only[kH,kI] at hb))|intro _))
   all_goals (try (rw[hfin (by rw[hw];(first|(simp[*];done)|(simp[*];omega)|(simp_all;done)|(simp_all;omega)))];refine qF (L':=[]) ?_;exact⟨by first|rfl|rw[Bool.and_false],rfl,rfl⟩))
   all_goals rw[<-e1]
   all_goals refine rnG (k+1) (⟨hlt,by rw[hs,hw];(first|(simp[*];done)|(simp[*];omega)|(simp_all;done)|(simp_all;omega))⟩)
 ·have hk2:k=mo:=by omega
  rw[hk2] at hok
  rw[hok]
  repeat' (first|refine zV ?_|(refine zG (λ hb=>?_) (λ hb=>?_)<;>(try simp only[kH,kI] at hb))|intro _)
  all_goals (refine qF (L':=[]) ?_;exact⟨YK (by (try simp[*]);first|done|omega|(intros;omega)|(constructor<;>intros<;>(try simp_all)<;>omega)),rfl,rfl⟩)
end Go.Proofs.E
