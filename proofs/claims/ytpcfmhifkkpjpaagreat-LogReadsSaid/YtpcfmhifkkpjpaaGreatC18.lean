/- Laws of LogReads. Part 18 of 28. -/
import Derived.Test.YtpcfmhifkkpjpaaGreatC17
namespace Go.Proofs.E
open Go
set_option linter.unusedVariables false
set_option linter.unusedSimpArgs false
set_option linter.unusedSectionVars false
set_option maxRecDepth 4000
set_option maxHeartbeats 1000000
attribute [local irreducible] Yl TL TC TE Spec ZI R1 Hp.le EnvLe TS TR YS Zp TP QP
theorem dirty12_spec (ρ:Hp)(s:SV)(l:List CkP)(h:AS ρ 2 Xq s l)(lsn:Nat)  :
  Spec Tryz.prog 81 [.slice s.a s.n s.c,.int .u64 lsn] ρ [] (fun z ρ' L'=>z=.bool (upB (Vo lsn) CkP.page l l.length)∧ρ'=ρ∧L'=[]):=by
 have hl:=h.at'.len
 have hn:=h.big
 have hA:=h.at'
 generalize hR:(Vo lsn)=rt
 unfold upB
 generalize hm:l.length=mo
 have hrt:∀x,rt x=(Vo lsn) x:=fun x=>by rw[hR]
 refine Zb Tryz.func81 rfl rfl rfl fun u R=>?_
 simp only[Zd,kA]
 repeat' (first|refine zV ?_|intro _)
 refine Zi [(0,_),(1,_),(7,_),(8,_)] (fun (ζ:(Nat))=>[(9,.int .i64 ζ),(4,.bool false)]) (fun (ζ:(Nat))=>ρ) (fun (ζ:(Nat))=>[]) (fun (ζ:(Nat))=>ζ≤s.n∧Zy mo (fun _ x=>rt x) (fun y x=>decide (CkP.page y<CkP.page x)) l ζ=true) (fun (ζ:(Nat))=>s.n-ζ) (0) (⟨Nat.zero_le _,by rw[Zy];simp[hm]⟩) Zc Zc rfl tk ?_
 rintro k hI
 try simp only[kA,List.append_assoc] at hI ⊢
 try dsimp only at hI ⊢
 obtain⟨hk,hok⟩:=hI
 by_cases hlt:k<s.n
 ·obtain⟨b,off,C,T,fr,e1,hb0,hfit,hc⟩:=hA.get (show k<l.length by omega)
  have hs:=Xo (most:=mo) (right:=fun _ x=>rt x) (lt:=fun y x=>decide (CkP.page y<CkP.page x)) (show k<l.length by omega)
  have hfin0:=fun (e:Zy mo (fun _ x=>rt x) (fun y x=>decide (CkP.page y<CkP.page x)) l (k+1)=false)=>YW e (show k+1≤mo by omega)
  rw[hok,Bool.true_and] at hs
  have hw:=hrt l[k]
  skip
  rw[e1]
  by_cases hk0:k=0
  ·have hfin:(rt l[k] && (decide (k=0) || decide (CkP.page (l[k-1]'(by omega))<CkP.page l[k])))=false→Zy mo (fun _ x=>rt x) (fun y x=>decide (CkP.page y<CkP.page x)) l mo=false:=fun e=>hfin0 (by rw[hs];exact e)
   rw[decide_eq_true hk0,Bool.true_or,Bool.and_true] at hs hfin
   generalize l[k]=x at *
   unfold Vo at hw
   generalize hQQ:Zy mo (fun _ x=>rt x) (fun y x=>decide (CkP.page y<CkP.page x)) l mo=q at *
   clear hfin0 hrt hR
   repeat' (first|refine zV ?_|intro _)
   refine tpZ [0,1] (.e 2 [] (.f [3,4,5,6,7,8,9,10,11,12,13,14,15,16,17,18,19,20,21,22,23,24,25,26,27,28,29] .o)) ?_
   repeat' (refine iT ?_;first|refine rA ?_|(refine iQ ?_;refine rG (fun hb=>?_) (fun hb=>?_)<;>(try simp only[kk] at hb)<;>refine rA ?_)|((refine iE ?_;refine rE ?_)<;>((try refine Zn ?_);(first|(refine Za (.func 166) ?_;refine qR rfl rfl (rpage12_spec _ _) ?_;try simp only[kA])|(refine Yj ?_;try intro _))<;>((try simp only[kA]);refine Zj ?_;refine rN ?_))))
   all_goals (repeat' (first|refine zV ?_|(refine WA ?_;refine ZV rfl rfl (fun hb=>?_) (fun hb=>?_)<;>(try simp only[decide_eq_true_eq,decide_eq_false_iff_not,Bool.not_eq_true,Bool.not_eq_false,beq_iff_eq,bne_iff_ne,ne_eq,decide_eq_decide,Bool.not_eq_eq_eq_not,Bool.not_true,Bool.not_false,beq_eq_false_iff_ne,bne_eq_false_iff_eq,Bool.and_eq_true,Bool.or_eq_true,Bool.and_eq_false_imp,Bool.or_eq_false_iff,bq2,bqt,bqf] at hb))|(refine YC ?_;refine Yk rfl (fun hb=>?_) (fun hb=>?_)<;>(try simp only[decide_eq_true_eq,decide_eq_false_iff_not,Bool.not_eq_true,Bool.not_eq_false,beq_iff_eq,bne_iff_ne,ne_eq,decide_eq_decide,Bool.not_eq_eq_eq_not,Bool.not_true,Bool.not_false,beq_eq_false_iff_ne,bne_eq_false_iff_eq,Bool.and_eq_true,Bool.or_eq_true,Bool.and_eq_false_imp,Bool.or_eq_false_iff,bq2,bqt,bqf] at hb))|intro _))
   all_goals (try (rw[hfin (by rw[hw];(first|(simp[*];done)|(simp[*];omega)|(simp_all;done)|(simp_all;omega)))];refine qF (L':=[]) ?_;exact⟨by first|rfl|rw[Bool.and_false],rfl,rfl⟩))
   all_goals rw[←e1]
   all_goals refine Ze (k+1) (⟨hlt,by rw[hs,hw];(first|(simp[*];done)|(simp[*];omega)|(simp_all;done)|(simp_all;omega))⟩) Zc Zc rfl tk inferInstance (by first|omega|(dsimp only;omega))
  ·have hd:decide (k=0)=false:=decide_eq_false hk0
   obtain⟨b2,off2,C2,T2,fr2,f1,hb2,hfit2,hc2⟩:=hA.get (show k-1<l.length by omega)
   rw[e1] at f1
   cases f1
   rw[hb0] at hb2
   cases hb2
   have ek:((k:Int)-1).toNat=k-1:=by omega
   have hfin:(rt l[k] && (decide (k=0) || decide (CkP.page (l[k-1]'(by omega))<CkP.page l[k])))=false→Zy mo (fun _ x=>rt x) (fun y x=>decide (CkP.page y<CkP.page x)) l mo=false:=fun e=>hfin0 (by rw[hs];exact e)
   rw[hd,Bool.false_or] at hs hfin
   have hcy:C[off+((k:Int)-1).toNat*2]?=some (.int .i64 (CkP.page (l[k-1]'(by omega)))):=by
    have:=congrArg (fun l=>l[0]?) hc2
    rw[ek]
    simp only[List.getElem?_take,List.getElem?_drop] at this
    simpa using this
   clear hc2 hfit2
   generalize l[k]=x at *
   generalize l[k-1]'(by omega)=y at *
   unfold Vo at hw
   generalize hQQ:Zy mo (fun _ x=>rt x) (fun y x=>decide (CkP.page y<CkP.page x)) l mo=q at *
   clear hfin0 hrt hR
   repeat' (first|refine zV ?_|intro _)
   refine tpZ [0,1] (.e 2 [] (.f [3,4,5,6,7,8,9,10,11,12,13,14,15,16,17,18,19,20,21,22,23,24,25,26,27,28,29] .o)) ?_
   repeat' (refine iT ?_;first|refine rA ?_|(refine iQ ?_;refine rG (fun hb=>?_) (fun hb=>?_)<;>(try simp only[kk] at hb)<;>refine rA ?_)|((refine iE ?_;refine rE ?_)<;>((try refine Zn ?_);(first|(refine Za (.func 166) ?_;refine qR rfl rfl (rpage12_spec _ _) ?_;try simp only[kA])|(refine Yj ?_;try intro _))<;>((try simp only[kA]);refine Zj ?_;refine rN ?_))))
   all_goals (repeat' (first|refine zV ?_|(refine WA ?_;refine ZV rfl rfl (fun hb=>?_) (fun hb=>?_)<;>(try simp only[decide_eq_true_eq,decide_eq_false_iff_not,Bool.not_eq_true,Bool.not_eq_false,beq_iff_eq,bne_iff_ne,ne_eq,decide_eq_decide,Bool.not_eq_eq_eq_not,Bool.not_true,Bool.not_false,beq_eq_false_iff_ne,bne_eq_false_iff_eq,Bool.and_eq_true,Bool.or_eq_true,Bool.and_eq_false_imp,Bool.or_eq_false_iff,bq2,bqt,bqf] at hb))|(refine YC ?_;refine Yk rfl (fun hb=>?_) (fun hb=>?_)<;>(try simp only[decide_eq_true_eq,decide_eq_false_iff_not,Bool.not_eq_true,Bool.not_eq_false,beq_iff_eq,bne_iff_ne,ne_eq,decide_eq_decide,Bool.not_eq_eq_eq_not,Bool.not_true,Bool.not_false,beq_eq_false_iff_ne,bne_eq_false_iff_eq,Bool.and_eq_true,Bool.or_eq_true,Bool.and_eq_false_imp,Bool.or_eq_false_iff,bq2,bqt,bqf] at hb))|intro _))
   all_goals (try (rw[hfin (by rw[hw];(first|(simp[*];done)|(simp[*];omega)|(simp_all;done)|(simp_all;omega)))];refine qF (L':=[]) ?_;exact⟨by first|rfl|rw[Bool.and_false],rfl,rfl⟩))
   all_goals rw[←e1]
   all_goals refine Ze (k+1) (⟨hlt,by rw[hs,hw];(first|(simp[*];done)|(simp[*];omega)|(simp_all;done)|(simp_all;omega))⟩) Zc Zc rfl tk inferInstance (by first|omega|(dsimp only;omega))
 ·have hk2:k=mo:=by omega
  rw[hk2] at hok
  rw[hok]
  repeat' (first|refine zV ?_|(refine WA ?_;refine ZV rfl rfl (fun hb=>?_) (fun hb=>?_)<;>(try simp only[decide_eq_true_eq,decide_eq_false_iff_not,Bool.not_eq_true,Bool.not_eq_false,beq_iff_eq,bne_iff_ne,ne_eq,decide_eq_decide,Bool.not_eq_eq_eq_not,Bool.not_true,Bool.not_false,beq_eq_false_iff_ne,bne_eq_false_iff_eq,Bool.and_eq_true,Bool.or_eq_true,Bool.and_eq_false_imp,Bool.or_eq_false_iff,bq2,bqt,bqf] at hb))|(refine YC ?_;refine Yk rfl (fun hb=>?_) (fun hb=>?_)<;>(try simp only[decide_eq_true_eq,decide_eq_false_iff_not,Bool.not_eq_true,Bool.not_eq_false,beq_iff_eq,bne_iff_ne,ne_eq,decide_eq_decide,Bool.not_eq_eq_eq_not,Bool.not_true,Bool.not_false,beq_eq_false_iff_ne,bne_eq_false_iff_eq,Bool.and_eq_true,Bool.or_eq_true,Bool.and_eq_false_imp,Bool.or_eq_false_iff,bq2,bqt,bqf] at hb))|intro _)
  all_goals (refine qF (L':=[]) ?_;exact⟨rfl,rfl,rfl⟩)
theorem txns12_spec (ρ:Hp)(s:SV)(l:List CkT)(h:AS ρ 5 YM s l)(lsn:Nat)(next:Int)  :
  Spec Tryz.prog 80 [.slice s.a s.n s.c,.int .u64 lsn,.int .i64 next] ρ [] (fun z ρ' L'=>z=.bool (decide (l.length≤8) && upB (ckTOk lsn next) CkT.txn l l.length)∧ρ'=ρ∧L'=[]):=by
 have hl:=h.at'.len
 have hn:=h.big
 have hA:=h.at'
 generalize hR:(ckTOk lsn next)=rt
 unfold upB
 generalize hm:l.length=mo
 have hrt:∀x,rt x=(ckTOk lsn next) x:=fun x=>by rw[hR]
 refine Zb Tryz.func80 rfl rfl rfl fun u R=>?_
 simp only[Zd,kA]
 repeat' (first|refine zV ?_|intro _)
 refine Zi [(0,_),(1,_),(2,_),(9,_),(10,_)] (fun (ζ:(Nat))=>[(11,.int .i64 ζ),(6,.bool false)]) (fun (ζ:(Nat))=>ρ) (fun (ζ:(Nat))=>[]) (fun (ζ:(Nat))=>ζ≤s.n∧Zy mo (fun _ x=>rt x) (fun y x=>decide (CkT.txn y<CkT.txn x)) l ζ=true) (fun (ζ:(Nat))=>s.n-ζ) (0) (⟨Nat.zero_le _,by rw[Zy];simp[hm]⟩) Zc Zc rfl tk ?_
 rintro k hI
 try simp only[kA,List.append_assoc] at hI ⊢
 try dsimp only at hI ⊢
 obtain⟨hk,hok⟩:=hI
 by_cases hlt:k<s.n
 ·obtain⟨b,off,C,T,fr,e1,hb0,hfit,hc⟩:=hA.get (show k<l.length by omega)
  have hs:=Xo (most:=mo) (right:=fun _ x=>rt x) (lt:=fun y x=>decide (CkT.txn y<CkT.txn x)) (show k<l.length by omega)
  have hfin0:=fun (e:Zy mo (fun _ x=>rt x) (fun y x=>decide (CkT.txn y<CkT.txn x)) l (k+1)=false)=>YW e (show k+1≤mo by omega)
  rw[hok,Bool.true_and] at hs
  have hw:=hrt l[k]
  skip
  rw[e1]
  by_cases hk0:k=0
  ·have hfin:(rt l[k] && (decide (k=0) || decide (CkT.txn (l[k-1]'(by omega))<CkT.txn l[k])))=false→Zy mo (fun _ x=>rt x) (fun y x=>decide (CkT.txn y<CkT.txn x)) l mo=false:=fun e=>hfin0 (by rw[hs];exact e)
   rw[decide_eq_true hk0,Bool.true_or,Bool.and_true] at hs hfin
   generalize l[k]=x at *
   unfold ckTOk at hw
   generalize hQQ:Zy mo (fun _ x=>rt x) (fun y x=>decide (CkT.txn y<CkT.txn x)) l mo=q at *
   clear hfin0 hrt hR
   repeat' (first|refine zV ?_|intro _)
   refine tpZ [0] (.f [1,2,3,4,5,6,7,8,9,10,11,12,13,14,15,16,17,18,19,20,21,22,23,24,25,26,27,28,29,30,31,32,33,34,35,36,37,38,39,40,41,42,43,44,45,46,47,48,49,50,51,52,53,54,55,56,57,58] .o) ?_
   repeat' (refine iT ?_;first|refine rA ?_|(refine iQ ?_;refine rG (fun hb=>?_) (fun hb=>?_)<;>(try simp only[kk] at hb)<;>refine rA ?_))
   all_goals (repeat' (first|refine zV ?_|(refine WA ?_;refine ZV rfl rfl (fun hb=>?_) (fun hb=>?_)<;>(try simp only[decide_eq_true_eq,decide_eq_false_iff_not,Bool.not_eq_true,Bool.not_eq_false,beq_iff_eq,bne_iff_ne,ne_eq,decide_eq_decide,Bool.not_eq_eq_eq_not,Bool.not_true,Bool.not_false,beq_eq_false_iff_ne,bne_eq_false_iff_eq,Bool.and_eq_true,Bool.or_eq_true,Bool.and_eq_false_imp,Bool.or_eq_false_iff,bq2,bqt,bqf] at hb))|(refine YC ?_;refine Yk rfl (fun hb=>?_) (fun hb=>?_)<;>(try simp only[decide_eq_true_eq,decide_eq_false_iff_not,Bool.not_eq_true,Bool.not_eq_false,beq_iff_eq,bne_iff_ne,ne_eq,decide_eq_decide,Bool.not_eq_eq_eq_not,Bool.not_true,Bool.not_false,beq_eq_false_iff_ne,bne_eq_false_iff_eq,Bool.and_eq_true,Bool.or_eq_true,Bool.and_eq_false_imp,Bool.or_eq_false_iff,bq2,bqt,bqf] at hb))|intro _))
   all_goals (try (rw[hfin (by rw[hw];(first|(simp[*];done)|(simp[*];omega)|(simp_all;done)|(simp_all;omega)))];refine qF (L':=[]) ?_;exact⟨by first|rfl|rw[Bool.and_false],rfl,rfl⟩))
   all_goals rw[←e1]
   all_goals refine Ze (k+1) (⟨hlt,by rw[hs,hw];(first|(simp[*];done)|(simp[*];omega)|(simp_all;done)|(simp_all;omega))⟩) Zc Zc rfl tk inferInstance (by first|omega|(dsimp only;omega))
  ·have hd:decide (k=0)=false:=decide_eq_false hk0
   obtain⟨b2,off2,C2,T2,fr2,f1,hb2,hfit2,hc2⟩:=hA.get (show k-1<l.length by omega)
   rw[e1] at f1
   cases f1
   rw[hb0] at hb2
   cases hb2
   have ek:((k:Int)-1).toNat=k-1:=by omega
   have hfin:(rt l[k] && (decide (k=0) || decide (CkT.txn (l[k-1]'(by omega))<CkT.txn l[k])))=false→Zy mo (fun _ x=>rt x) (fun y x=>decide (CkT.txn y<CkT.txn x)) l mo=false:=fun e=>hfin0 (by rw[hs];exact e)
   rw[hd,Bool.false_or] at hs hfin
   have hcy:C[off+((k:Int)-1).toNat*5]?=some (.int .i64 (CkT.txn (l[k-1]'(by omega)))):=by
    have:=congrArg (fun l=>l[0]?) hc2
    rw[ek]
    simp only[List.getElem?_take,List.getElem?_drop] at this
    simpa using this
   clear hc2 hfit2
   generalize l[k]=x at *
   generalize l[k-1]'(by omega)=y at *
   unfold ckTOk at hw
   generalize hQQ:Zy mo (fun _ x=>rt x) (fun y x=>decide (CkT.txn y<CkT.txn x)) l mo=q at *
   clear hfin0 hrt hR
   repeat' (first|refine zV ?_|intro _)
   refine tpZ [0] (.f [1,2,3,4,5,6,7,8,9,10,11,12,13,14,15,16,17,18,19,20,21,22,23,24,25,26,27,28,29,30,31,32,33,34,35,36,37,38,39,40,41,42,43,44,45,46,47,48,49,50,51,52,53,54,55,56,57,58] .o) ?_
   repeat' (refine iT ?_;first|refine rA ?_|(refine iQ ?_;refine rG (fun hb=>?_) (fun hb=>?_)<;>(try simp only[kk] at hb)<;>refine rA ?_))
   all_goals (repeat' (first|refine zV ?_|(refine WA ?_;refine ZV rfl rfl (fun hb=>?_) (fun hb=>?_)<;>(try simp only[decide_eq_true_eq,decide_eq_false_iff_not,Bool.not_eq_true,Bool.not_eq_false,beq_iff_eq,bne_iff_ne,ne_eq,decide_eq_decide,Bool.not_eq_eq_eq_not,Bool.not_true,Bool.not_false,beq_eq_false_iff_ne,bne_eq_false_iff_eq,Bool.and_eq_true,Bool.or_eq_true,Bool.and_eq_false_imp,Bool.or_eq_false_iff,bq2,bqt,bqf] at hb))|(refine YC ?_;refine Yk rfl (fun hb=>?_) (fun hb=>?_)<;>(try simp only[decide_eq_true_eq,decide_eq_false_iff_not,Bool.not_eq_true,Bool.not_eq_false,beq_iff_eq,bne_iff_ne,ne_eq,decide_eq_decide,Bool.not_eq_eq_eq_not,Bool.not_true,Bool.not_false,beq_eq_false_iff_ne,bne_eq_false_iff_eq,Bool.and_eq_true,Bool.or_eq_true,Bool.and_eq_false_imp,Bool.or_eq_false_iff,bq2,bqt,bqf] at hb))|intro _))
   all_goals (try (rw[hfin (by rw[hw];(first|(simp[*];done)|(simp[*];omega)|(simp_all;done)|(simp_all;omega)))];refine qF (L':=[]) ?_;exact⟨by first|rfl|rw[Bool.and_false],rfl,rfl⟩))
   all_goals rw[←e1]
   all_goals refine Ze (k+1) (⟨hlt,by rw[hs,hw];(first|(simp[*];done)|(simp[*];omega)|(simp_all;done)|(simp_all;omega))⟩) Zc Zc rfl tk inferInstance (by first|omega|(dsimp only;omega))
 ·have hk2:k=mo:=by omega
  rw[hk2] at hok
  rw[hok]
  repeat' (first|refine zV ?_|(refine WA ?_;refine ZV rfl rfl (fun hb=>?_) (fun hb=>?_)<;>(try simp only[decide_eq_true_eq,decide_eq_false_iff_not,Bool.not_eq_true,Bool.not_eq_false,beq_iff_eq,bne_iff_ne,ne_eq,decide_eq_decide,Bool.not_eq_eq_eq_not,Bool.not_true,Bool.not_false,beq_eq_false_iff_ne,bne_eq_false_iff_eq,Bool.and_eq_true,Bool.or_eq_true,Bool.and_eq_false_imp,Bool.or_eq_false_iff,bq2,bqt,bqf] at hb))|(refine YC ?_;refine Yk rfl (fun hb=>?_) (fun hb=>?_)<;>(try simp only[decide_eq_true_eq,decide_eq_false_iff_not,Bool.not_eq_true,Bool.not_eq_false,beq_iff_eq,bne_iff_ne,ne_eq,decide_eq_decide,Bool.not_eq_eq_eq_not,Bool.not_true,Bool.not_false,beq_eq_false_iff_ne,bne_eq_false_iff_eq,Bool.and_eq_true,Bool.or_eq_true,Bool.and_eq_false_imp,Bool.or_eq_false_iff,bq2,bqt,bqf] at hb))|intro _)
  all_goals (refine qF (L':=[]) ?_;exact⟨YL (by (try simp[*]);first|done|omega|(intros;omega)|(constructor<;>intros<;>(try simp_all)<;>omega)),rfl,rfl⟩)
theorem images12_spec (ρ:Hp)(s:SV)(l:List Im)(h:AS ρ 7 imV s l)(before:Bool)(him:∀x∈l,Im.In ρ x) :
  Spec Tryz.prog 78 [.slice s.a s.n s.c,.bool before] ρ [] (fun z ρ' L'=>z=.bool (decide (l.length≤16) && upB (imOk before) Im.page l l.length)∧ρ'=ρ∧L'=[]):=by
 have hl:=h.at'.len
 have hn:=h.big
 have hA:=h.at'
 generalize hR:(imOk before)=rt
 unfold upB
 generalize hm:l.length=mo
 have hrt:∀x,rt x=(imOk before) x:=fun x=>by rw[hR]
 refine Zb Tryz.func78 rfl rfl rfl fun u R=>?_
 simp only[Zd,kA]
 repeat' (first|refine zV ?_|intro _)
 refine Zi [(0,_),(1,_),(7,_),(8,_)] (fun (ζ:(Nat))=>[(9,.int .i64 ζ),(4,.bool false)]) (fun (ζ:(Nat))=>ρ) (fun (ζ:(Nat))=>[]) (fun (ζ:(Nat))=>ζ≤s.n∧Zy mo (fun _ x=>rt x) (fun y x=>decide (Im.page y<Im.page x)) l ζ=true) (fun (ζ:(Nat))=>s.n-ζ) (0) (⟨Nat.zero_le _,by rw[Zy];simp[hm]⟩) Zc Zc rfl tk ?_
 rintro k hI
 try simp only[kA,List.append_assoc] at hI ⊢
 try dsimp only at hI ⊢
 obtain⟨hk,hok⟩:=hI
 by_cases hlt:k<s.n
 ·obtain⟨b,off,C,T,fr,e1,hb0,hfit,hc⟩:=hA.get (show k<l.length by omega)
  have hs:=Xo (most:=mo) (right:=fun _ x=>rt x) (lt:=fun y x=>decide (Im.page y<Im.page x)) (show k<l.length by omega)
  have hfin0:=fun (e:Zy mo (fun _ x=>rt x) (fun y x=>decide (Im.page y<Im.page x)) l (k+1)=false)=>YW e (show k+1≤mo by omega)
  rw[hok,Bool.true_and] at hs
  have hw:=hrt l[k]
  have him1:=him _ (List.getElem_mem (show k<l.length by omega))
  rw[e1]
  by_cases hk0:k=0
  ·have hfin:(rt l[k] && (decide (k=0) || decide (Im.page (l[k-1]'(by omega))<Im.page l[k])))=false→Zy mo (fun _ x=>rt x) (fun y x=>decide (Im.page y<Im.page x)) l mo=false:=fun e=>hfin0 (by rw[hs];exact e)
   rw[decide_eq_true hk0,Bool.true_or,Bool.and_true] at hs hfin
   generalize l[k]=x at *
   (unfold imOk at hw);have hra:=Vd ρ x.av x.a him1.a.cin (fun r hr=>(him1.a.row r hr).id) him1.a.kid;have hrb:=Vd ρ x.bv x.b him1.b.cin (fun r hr=>(him1.b.row r hr).id) him1.b.kid
   generalize hQQ:Zy mo (fun _ x=>rt x) (fun y x=>decide (Im.page y<Im.page x)) l mo=q at *
   clear hfin0 hrt hR
   repeat' (first|refine zV ?_|intro _)
   refine tpZ [0,1] (.e 2 [3,4,5,6,7,8,9,10,11,12,13,14,15,16,17,18,19,20,21] (.e 22 [23,24,25,26,27] (.e 28 [] (.f [29,30,31,32,33,34,35,36,37,38,39,40] .o)))) ?_
   repeat' (refine iT ?_;first|refine rA ?_|(refine iQ ?_;refine rG (fun hb=>?_) (fun hb=>?_)<;>(try simp only[kk] at hb)<;>refine rA ?_)|((refine iE ?_;refine rE ?_)<;>((try refine Zn ?_);(first|(refine Za (.func 166) ?_;refine qR rfl rfl (rpage12_spec _ _) ?_;try simp only[kA])|(refine Za (.func 118) ?_;refine qR rfl rfl (hra) ?_;try simp only[kA])|(refine Za (.func 118) ?_;refine qR rfl rfl (hrb) ?_;try simp only[kA])|(refine Yj ?_;try intro _))<;>((try simp only[kA]);refine Zj ?_;refine rN ?_))))
   all_goals (repeat' (first|refine zV ?_|(refine WA ?_;refine ZV rfl rfl (fun hb=>?_) (fun hb=>?_)<;>(try simp only[decide_eq_true_eq,decide_eq_false_iff_not,Bool.not_eq_true,Bool.not_eq_false,beq_iff_eq,bne_iff_ne,ne_eq,decide_eq_decide,Bool.not_eq_eq_eq_not,Bool.not_true,Bool.not_false,beq_eq_false_iff_ne,bne_eq_false_iff_eq,Bool.and_eq_true,Bool.or_eq_true,Bool.and_eq_false_imp,Bool.or_eq_false_iff,bq2,bqt,bqf] at hb))|(refine YC ?_;refine Yk rfl (fun hb=>?_) (fun hb=>?_)<;>(try simp only[decide_eq_true_eq,decide_eq_false_iff_not,Bool.not_eq_true,Bool.not_eq_false,beq_iff_eq,bne_iff_ne,ne_eq,decide_eq_decide,Bool.not_eq_eq_eq_not,Bool.not_true,Bool.not_false,beq_eq_false_iff_ne,bne_eq_false_iff_eq,Bool.and_eq_true,Bool.or_eq_true,Bool.and_eq_false_imp,Bool.or_eq_false_iff,bq2,bqt,bqf] at hb))|intro _))
   all_goals (try (rw[hfin (by rw[hw];(first|(simp[*];done)|(simp[*];omega)|(simp_all;done)|(simp_all;omega)))];refine qF (L':=[]) ?_;exact⟨by first|rfl|rw[Bool.and_false],rfl,rfl⟩))
   all_goals rw[←e1]
   all_goals refine Ze (k+1) (⟨hlt,by rw[hs,hw];(first|(simp[*];done)|(simp[*];omega)|(simp_all;done)|(simp_all;omega))⟩) Zc Zc rfl tk inferInstance (by first|omega|(dsimp only;omega))
  ·have hd:decide (k=0)=false:=decide_eq_false hk0
   obtain⟨b2,off2,C2,T2,fr2,f1,hb2,hfit2,hc2⟩:=hA.get (show k-1<l.length by omega)
   rw[e1] at f1
   cases f1
   rw[hb0] at hb2
   cases hb2
   have ek:((k:Int)-1).toNat=k-1:=by omega
   have hfin:(rt l[k] && (decide (k=0) || decide (Im.page (l[k-1]'(by omega))<Im.page l[k])))=false→Zy mo (fun _ x=>rt x) (fun y x=>decide (Im.page y<Im.page x)) l mo=false:=fun e=>hfin0 (by rw[hs];exact e)
   rw[hd,Bool.false_or] at hs hfin
   have hcy:C[off+((k:Int)-1).toNat*7]?=some (.int .i64 (Im.page (l[k-1]'(by omega)))):=by
    have:=congrArg (fun l=>l[0]?) hc2
    rw[ek]
    simp only[List.getElem?_take,List.getElem?_drop] at this
    simpa using this
   clear hc2 hfit2
   generalize l[k]=x at *
   generalize l[k-1]'(by omega)=y at *
   (unfold imOk at hw);have hra:=Vd ρ x.av x.a him1.a.cin (fun r hr=>(him1.a.row r hr).id) him1.a.kid;have hrb:=Vd ρ x.bv x.b him1.b.cin (fun r hr=>(him1.b.row r hr).id) him1.b.kid
   generalize hQQ:Zy mo (fun _ x=>rt x) (fun y x=>decide (Im.page y<Im.page x)) l mo=q at *
   clear hfin0 hrt hR
   repeat' (first|refine zV ?_|intro _)
   refine tpZ [0,1] (.e 2 [3,4,5,6,7,8,9,10,11,12,13,14,15,16,17,18,19,20,21] (.e 22 [23,24,25,26,27] (.e 28 [] (.f [29,30,31,32,33,34,35,36,37,38,39,40] .o)))) ?_
   repeat' (refine iT ?_;first|refine rA ?_|(refine iQ ?_;refine rG (fun hb=>?_) (fun hb=>?_)<;>(try simp only[kk] at hb)<;>refine rA ?_)|((refine iE ?_;refine rE ?_)<;>((try refine Zn ?_);(first|(refine Za (.func 166) ?_;refine qR rfl rfl (rpage12_spec _ _) ?_;try simp only[kA])|(refine Za (.func 118) ?_;refine qR rfl rfl (hra) ?_;try simp only[kA])|(refine Za (.func 118) ?_;refine qR rfl rfl (hrb) ?_;try simp only[kA])|(refine Yj ?_;try intro _))<;>((try simp only[kA]);refine Zj ?_;refine rN ?_))))
   all_goals (repeat' (first|refine zV ?_|(refine WA ?_;refine ZV rfl rfl (fun hb=>?_) (fun hb=>?_)<;>(try simp only[decide_eq_true_eq,decide_eq_false_iff_not,Bool.not_eq_true,Bool.not_eq_false,beq_iff_eq,bne_iff_ne,ne_eq,decide_eq_decide,Bool.not_eq_eq_eq_not,Bool.not_true,Bool.not_false,beq_eq_false_iff_ne,bne_eq_false_iff_eq,Bool.and_eq_true,Bool.or_eq_true,Bool.and_eq_false_imp,Bool.or_eq_false_iff,bq2,bqt,bqf] at hb))|(refine YC ?_;refine Yk rfl (fun hb=>?_) (fun hb=>?_)<;>(try simp only[decide_eq_true_eq,decide_eq_false_iff_not,Bool.not_eq_true,Bool.not_eq_false,beq_iff_eq,bne_iff_ne,ne_eq,decide_eq_decide,Bool.not_eq_eq_eq_not,Bool.not_true,Bool.not_false,beq_eq_false_iff_ne,bne_eq_false_iff_eq,Bool.and_eq_true,Bool.or_eq_true,Bool.and_eq_false_imp,Bool.or_eq_false_iff,bq2,bqt,bqf] at hb))|intro _))
   all_goals (try (rw[hfin (by rw[hw];(first|(simp[*];done)|(simp[*];omega)|(simp_all;done)|(simp_all;omega)))];refine qF (L':=[]) ?_;exact⟨by first|rfl|rw[Bool.and_false],rfl,rfl⟩))
   all_goals rw[←e1]
   all_goals refine Ze (k+1) (⟨hlt,by rw[hs,hw];(first|(simp[*];done)|(simp[*];omega)|(simp_all;done)|(simp_all;omega))⟩) Zc Zc rfl tk inferInstance (by first|omega|(dsimp only;omega))
 ·have hk2:k=mo:=by omega
  rw[hk2] at hok
  rw[hok]
  repeat' (first|refine zV ?_|(refine WA ?_;refine ZV rfl rfl (fun hb=>?_) (fun hb=>?_)<;>(try simp only[decide_eq_true_eq,decide_eq_false_iff_not,Bool.not_eq_true,Bool.not_eq_false,beq_iff_eq,bne_iff_ne,ne_eq,decide_eq_decide,Bool.not_eq_eq_eq_not,Bool.not_true,Bool.not_false,beq_eq_false_iff_ne,bne_eq_false_iff_eq,Bool.and_eq_true,Bool.or_eq_true,Bool.and_eq_false_imp,Bool.or_eq_false_iff,bq2,bqt,bqf] at hb))|(refine YC ?_;refine Yk rfl (fun hb=>?_) (fun hb=>?_)<;>(try simp only[decide_eq_true_eq,decide_eq_false_iff_not,Bool.not_eq_true,Bool.not_eq_false,beq_iff_eq,bne_iff_ne,ne_eq,decide_eq_decide,Bool.not_eq_eq_eq_not,Bool.not_true,Bool.not_false,beq_eq_false_iff_ne,bne_eq_false_iff_eq,Bool.and_eq_true,Bool.or_eq_true,Bool.and_eq_false_imp,Bool.or_eq_false_iff,bq2,bqt,bqf] at hb))|intro _)
  all_goals (refine qF (L':=[]) ?_;exact⟨YL (by (try simp[*]);first|done|omega|(intros;omega)|(constructor<;>intros<;>(try simp_all)<;>omega)),rfl,rfl⟩)
end Go.Proofs.E
