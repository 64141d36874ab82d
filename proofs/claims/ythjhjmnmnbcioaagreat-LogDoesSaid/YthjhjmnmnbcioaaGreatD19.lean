/- Laws of LogDoes. Part 19 of 30. -/
import Derived.Test.YthjhjmnmnbcioaaGreatD18
set_option linter.unusedVariables false
set_option linter.unusedSimpArgs false
set_option linter.unusedSectionVars false
namespace Go.Proofs.E
open Go Tryz
set_option maxRecDepth 4000
attribute [local irreducible] Yl TL TC TE Spec YL R1 Hp.le EnvLe TS TR YS Zt TP QP
set_option maxHeartbeats 4000000
theorem Wk (ρ:Hp)(v:RV)(r:Rc)(h:RcIn ρ v r):Spec prog 46 [.agg ⟨Yu v r⟩] ρ [] (λ z ρ' L'=>z=.bool (Yk r)/\ρ'=ρ/\L'=[]):=by
 have li:=h.i.at'.len
 have ls:=h.s.at'.len
 have lt:=h.t.at'.len
 have ld:=h.d.at'.len
 have bi:=h.i.big
 have bs:=h.s.big
 have bt:=h.t.big
 have bd:=h.d.big
 have ei:r.ims=[]↔v.i.n=0:=by rw[<-li];exact List.length_eq_zero_iff.symm
 have es:r.steps=[]↔v.s.n=0:=by rw[<-ls];exact List.length_eq_zero_iff.symm
 have et:r.txns=[]↔v.t.n=0:=by rw[<-lt];exact List.length_eq_zero_iff.symm
 have ed:r.dirty=[]↔v.d.n=0:=by rw[<-ld];exact List.length_eq_zero_iff.symm
 have hrec:Yk r=true↔(1<=r.kind/\r.kind<=9)/\(1<=r.lsn/\r.lsn<=1099511627776/\r.prev<r.lsn/\0<=r.txn/\r.txn<=1073741824/\(r.kind=9↔r.txn=0)/\((r.kind=9\/r.kind=1)↔r.prev=0))/\askOk r=true /\
   ((r.next=0\/r.kind=3\/r.kind=4\/r.kind=5)/\(v.i.n=0\/r.kind=2\/r.kind=5)/\(v.s.n=0\/r.kind=4)/\((v.t.n=0/\v.d.n=0/\r.nextTxn=0)\/r.kind=9)):=by
  unfold Yk headOk bareOk
  simp only[aE,decide_eq_true_eq,ei,es,et,ed]
 generalize Yk r=rk at *
 have h1:=images12_spec ρ v.i r.ims h.i true h.im
 have h2:=images12_spec ρ v.i r.ims h.i false h.im
 have h3:=steps12_spec ρ v.s r.steps h.s h.sf
 have h4:=txns12_spec ρ v.t r.txns h.t r.lsn r.nextTxn
 have h5:=dirty12_spec ρ v.d r.dirty h.d r.lsn
 change Spec prog 103 [.slice v.i.a v.i.n v.i.c,.bool true] ρ [] (λ z ρ' L'=>z=.bool (imsOk true r.ims)/\ρ'=ρ/\L'=[]) at h1
 change Spec prog 103 [.slice v.i.a v.i.n v.i.c,.bool false] ρ [] (λ z ρ' L'=>z=.bool (imsOk false r.ims)/\ρ'=ρ/\L'=[]) at h2
 have hask:∀A:Prop,(askOk r=true↔A)->(rk=true↔(1<=r.kind/\r.kind<=9)/\(1<=r.lsn/\r.lsn<=1099511627776/\r.prev<r.lsn/\0<=r.txn/\r.txn<=1073741824/\(r.kind=9↔r.txn=0)/\((r.kind=9\/r.kind=1)↔r.prev=0))/\A /\
   ((r.next=0\/r.kind=3\/r.kind=4\/r.kind=5)/\(v.i.n=0\/r.kind=2\/r.kind=5)/\(v.s.n=0\/r.kind=4)/\((v.t.n=0/\v.d.n=0/\r.nextTxn=0)\/r.kind=9))):=λ A hA=>by rw[hrec,hA]
 unfold askOk at hask
 generalize imsOk true r.ims=q1 at *
 generalize imsOk false r.ims=q2 at *
 generalize r.steps.all YR=q3 at *
 generalize upB (ckTOk r.lsn r.nextTxn) CkT.txn r.txns r.txns.length=q4 at *
 generalize upB (Vo r.lsn) CkP.page r.dirty r.dirty.length=q5 at *
 rw[li,ls,lt] at hask
 rw[ls] at h3
 rw[lt] at h4
 clear hrec
 refine Zb func46 rfl rfl rfl λ u R=>?_
 simp only[Zc,kA]
 by_cases k2:r.kind=2
 ·have hk:=hask (0<v.i.n/\q1=true) (by rw[if_pos k2];simp)
  clear hask
  cases q1
  all_goals simp only[aB,and_true,and_false,false_and] at hk
  all_goals (repeat' (first|(refine Za (.func 103) ?_;refine qC rfl rfl (h1) ?_;rintro v ρ' L' hle ⟨rfl,rfl,rfl⟩<;>(try simp only[kA]))|(refine Za (.func 103) ?_;refine qC rfl rfl (h2) ?_;rintro v ρ' L' hle ⟨rfl,rfl,rfl⟩<;>(try simp only[kA]))|(refine Za (.func 104) ?_;refine qC rfl rfl (h3) ?_;rintro v ρ' L' hle ⟨rfl,rfl,rfl⟩<;>(try simp only[kA]))|(refine Za (.func 105) ?_;refine qC rfl rfl (h4) ?_;rintro v ρ' L' hle ⟨rfl,rfl,rfl⟩<;>(try simp only[kA]))|(refine Za (.func 106) ?_;refine qC rfl rfl (h5) ?_;rintro v ρ' L' hle ⟨rfl,rfl,rfl⟩<;>(try simp only[kA]))|(refine iBu ?_;refine tl_y (VC rfl) rfl rfl ?_)|(refine i_op ?_;first|(refine i_qq ?_;refine qQ ?_)|refine qEf ?_)|refine Yz ?_|(refine i_tc ?_;refine qTc ?_)|(refine i_te ?_;refine qTe ?_)|(refine zG (λ hb=>?_) (λ hb=>?_)<;>(try simp only[kH,kI] at hb))|intro _))
  all_goals (refine qF (L':=[]) ?_;refine⟨YK ?_,rfl,rfl⟩;rw[hk];first|omega|(simp only[decide_eq_true_eq,aB,true_iff,false_iff,true_and,and_true,beq_iff_eq,Bool.and_true,Bool.and_false,Bool.true_and,Bool.false_and,decide_true,decide_false]<;>omega))
 ·skip
  by_cases k3:r.kind=3
  ·have hk:=hask (r.next<r.prev) (by rw[if_neg k2,if_pos k3];simp)
   clear hask
   repeat' (first|(refine Za (.func 103) ?_;refine qC rfl rfl (h1) ?_;rintro v ρ' L' hle ⟨rfl,rfl,rfl⟩<;>(try simp only[kA]))|(refine Za (.func 103) ?_;refine qC rfl rfl (h2) ?_;rintro v ρ' L' hle ⟨rfl,rfl,rfl⟩<;>(try simp only[kA]))|(refine Za (.func 104) ?_;refine qC rfl rfl (h3) ?_;rintro v ρ' L' hle ⟨rfl,rfl,rfl⟩<;>(try simp only[kA]))|(refine Za (.func 105) ?_;refine qC rfl rfl (h4) ?_;rintro v ρ' L' hle ⟨rfl,rfl,rfl⟩<;>(try simp only[kA]))|(refine Za (.func 106) ?_;refine qC rfl rfl (h5) ?_;rintro v ρ' L' hle ⟨rfl,rfl,rfl⟩<;>(try simp only[kA]))|(refine iBu ?_;refine tl_y (VC rfl) rfl rfl ?_)|(refine i_op ?_;first|(refine i_qq ?_;refine qQ ?_)|refine qEf ?_)|refine Yz ?_|(refine i_tc ?_;refine qTc ?_)|(refine i_te ?_;refine qTe ?_)|(refine zG (λ hb=>?_) (λ hb=>?_)<;>(try simp only[kH,kI] at hb))|intro _)
   all_goals (refine qF (L':=[]) ?_;refine⟨YK ?_,rfl,rfl⟩;rw[hk];first|omega|(simp only[decide_eq_true_eq,aB,true_iff,false_iff,true_and,and_true,beq_iff_eq,Bool.and_true,Bool.and_false,Bool.true_and,Bool.false_and,decide_true,decide_false]<;>omega))
  ·skip
   by_cases k4:r.kind=4
   ·have hk:=hask (r.next<r.prev/\(0<v.s.n/\v.s.n<=2)/\q3=true) (by rw[if_neg k2,if_neg k3,if_pos k4];simp)
    clear hask
    cases q3
    all_goals simp only[aB,and_true,and_false,false_and] at hk
    all_goals (repeat' (first|(refine Za (.func 103) ?_;refine qC rfl rfl (h1) ?_;rintro v ρ' L' hle ⟨rfl,rfl,rfl⟩<;>(try simp only[kA]))|(refine Za (.func 103) ?_;refine qC rfl rfl (h2) ?_;rintro v ρ' L' hle ⟨rfl,rfl,rfl⟩<;>(try simp only[kA]))|(refine Za (.func 104) ?_;refine qC rfl rfl (h3) ?_;rintro v ρ' L' hle ⟨rfl,rfl,rfl⟩<;>(try simp only[kA]))|(refine Za (.func 105) ?_;refine qC rfl rfl (h4) ?_;rintro v ρ' L' hle ⟨rfl,rfl,rfl⟩<;>(try simp only[kA]))|(refine Za (.func 106) ?_;refine qC rfl rfl (h5) ?_;rintro v ρ' L' hle ⟨rfl,rfl,rfl⟩<;>(try simp only[kA]))|(refine iBu ?_;refine tl_y (VC rfl) rfl rfl ?_)|(refine i_op ?_;first|(refine i_qq ?_;refine qQ ?_)|refine qEf ?_)|refine Yz ?_|(refine i_tc ?_;refine qTc ?_)|(refine i_te ?_;refine qTe ?_)|(refine zG (λ hb=>?_) (λ hb=>?_)<;>(try simp only[kH,kI] at hb))|intro _))
    all_goals (refine qF (L':=[]) ?_;refine⟨YK ?_,rfl,rfl⟩;rw[hk];first|omega|(simp only[decide_eq_true_eq,aB,true_iff,false_iff,true_and,and_true,beq_iff_eq,Bool.and_true,Bool.and_false,Bool.true_and,Bool.false_and,decide_true,decide_false]<;>omega))
   ·skip
    by_cases k5:r.kind=5
    ·have hk:=hask (r.next<r.lsn/\q2=true) (by rw[if_neg k2,if_neg k3,if_neg k4,if_pos k5];simp)
     clear hask
     cases q2
     all_goals simp only[aB,and_true,and_false,false_and] at hk
     all_goals (repeat' (first|(refine Za (.func 103) ?_;refine qC rfl rfl (h1) ?_;rintro v ρ' L' hle ⟨rfl,rfl,rfl⟩<;>(try simp only[kA]))|(refine Za (.func 103) ?_;refine qC rfl rfl (h2) ?_;rintro v ρ' L' hle ⟨rfl,rfl,rfl⟩<;>(try simp only[kA]))|(refine Za (.func 104) ?_;refine qC rfl rfl (h3) ?_;rintro v ρ' L' hle ⟨rfl,rfl,rfl⟩<;>(try simp only[kA]))|(refine Za (.func 105) ?_;refine qC rfl rfl (h4) ?_;rintro v ρ' L' hle ⟨rfl,rfl,rfl⟩<;>(try simp only[kA]))|(refine Za (.func 106) ?_;refine qC rfl rfl (h5) ?_;rintro v ρ' L' hle ⟨rfl,rfl,rfl⟩<;>(try simp only[kA]))|(refine iBu ?_;refine tl_y (VC rfl) rfl rfl ?_)|(refine i_op ?_;first|(refine i_qq ?_;refine qQ ?_)|refine qEf ?_)|refine Yz ?_|(refine i_tc ?_;refine qTc ?_)|(refine i_te ?_;refine qTe ?_)|(refine zG (λ hb=>?_) (λ hb=>?_)<;>(try simp only[kH,kI] at hb))|intro _))
     all_goals (refine qF (L':=[]) ?_;refine⟨YK ?_,rfl,rfl⟩;rw[hk];first|omega|(simp only[decide_eq_true_eq,aB,true_iff,false_iff,true_and,and_true,beq_iff_eq,Bool.and_true,Bool.and_false,Bool.true_and,Bool.false_and,decide_true,decide_false]<;>omega))
    ·skip
     by_cases k9:r.kind=9
     ·have hk:=hask ((1<=r.nextTxn/\r.nextTxn<=1073741824/\v.t.n<=8)/\q4=true/\q5=true) (by rw[if_neg k2,if_neg k3,if_neg k4,if_neg k5,if_pos k9];simp)
      clear hask
      cases q4
      all_goals cases q5
      all_goals simp only[aB,and_true,and_false,false_and] at hk
      all_goals simp only[Bool.and_true,Bool.and_false] at h4
      all_goals (repeat' (first|(refine Za (.func 103) ?_;refine qC rfl rfl (h1) ?_;rintro v ρ' L' hle ⟨rfl,rfl,rfl⟩<;>(try simp only[kA]))|(refine Za (.func 103) ?_;refine qC rfl rfl (h2) ?_;rintro v ρ' L' hle ⟨rfl,rfl,rfl⟩<;>(try simp only[kA]))|(refine Za (.func 104) ?_;refine qC rfl rfl (h3) ?_;rintro v ρ' L' hle ⟨rfl,rfl,rfl⟩<;>(try simp only[kA]))|(refine Za (.func 105) ?_;refine qC rfl rfl (h4) ?_;rintro v ρ' L' hle ⟨rfl,rfl,rfl⟩<;>(try simp only[kA]))|(refine Za (.func 106) ?_;refine qC rfl rfl (h5) ?_;rintro v ρ' L' hle ⟨rfl,rfl,rfl⟩<;>(try simp only[kA]))|(refine iBu ?_;refine tl_y (VC rfl) rfl rfl ?_)|(refine i_op ?_;first|(refine i_qq ?_;refine qQ ?_)|refine qEf ?_)|refine Yz ?_|(refine i_tc ?_;refine qTc ?_)|(refine i_te ?_;refine qTe ?_)|(refine zG (λ hb=>?_) (λ hb=>?_)<;>(try simp only[kH,kI] at hb))|intro _))
      all_goals (refine qF (L':=[]) ?_;refine⟨YK ?_,rfl,rfl⟩;rw[hk];first|omega|(simp only[decide_eq_true_eq,aB,true_iff,false_iff,true_and,and_true,beq_iff_eq,Bool.and_true,Bool.and_false,Bool.true_and,Bool.false_and,decide_true,decide_false]<;>omega))
     ·skip
      have hk:=hask True (by rw[if_neg k2,if_neg k3,if_neg k4,if_neg k5,if_neg k9];simp)
      clear hask
      repeat' (first|(refine Za (.func 103) ?_;refine qC rfl rfl (h1) ?_;rintro v ρ' L' hle ⟨rfl,rfl,rfl⟩<;>(try simp only[kA]))|(refine Za (.func 103) ?_;refine qC rfl rfl (h2) ?_;rintro v ρ' L' hle ⟨rfl,rfl,rfl⟩<;>(try simp only[kA]))|(refine Za (.func 104) ?_;refine qC rfl rfl (h3) ?_;rintro v ρ' L' hle ⟨rfl,rfl,rfl⟩<;>(try simp only[kA]))|(refine Za (.func 105) ?_;refine qC rfl rfl (h4) ?_;rintro v ρ' L' hle ⟨rfl,rfl,rfl⟩<;>(try simp only[kA]))|(refine Za (.func 106) ?_;refine qC rfl rfl (h5) ?_;rintro v ρ' L' hle ⟨rfl,rfl,rfl⟩<;>(try simp only[kA]))|(refine iBu ?_;refine tl_y (VC rfl) rfl rfl ?_)|(refine i_op ?_;first|(refine i_qq ?_;refine qQ ?_)|refine qEf ?_)|refine Yz ?_|(refine i_tc ?_;refine qTc ?_)|(refine i_te ?_;refine qTe ?_)|(refine zG (λ hb=>?_) (λ hb=>?_)<;>(try simp only[kH,kI] at hb))|intro _)
      all_goals (refine qF (L':=[]) ?_;refine⟨YK ?_,rfl,rfl⟩;rw[hk];first|omega|(simp only[decide_eq_true_eq,aB,true_iff,false_iff,true_and,and_true,beq_iff_eq,Bool.and_true,Bool.and_false,Bool.true_and,Bool.false_and,decide_true,decide_false]<;>omega))
end Go.Proofs.E
