/- Laws of PoolRule. Part 9 of 26. -/
import Derived.Test.YthjhjmnmnbcioaaGreatE8
set_option linter.unusedVariables false
set_option linter.unusedSimpArgs false
set_option linter.unusedSectionVars false
namespace Go.Proofs.E
open Go Tryz
set_option maxRecDepth 4000
set_option maxHeartbeats 1000000
attribute [local irreducible] Yl TL TC TE Spec YW R1 Hp.le EnvLe TS TR YS Zv TP QP
theorem images_spec (ρ:Hp)(s:SV)(l:List Im)(h:AS ρ 7 imV s l)(him:∀x∈l,Im.In ρ x)(before:Bool) :
  Spec prog 220 [.slice s.a s.n s.c,.bool before] ρ [] (λ v ρ' L'=>v=.bool (imsOk before l)/\ρ'=ρ/\L'=[]):=by
 have hl:=h.at'.len
 have hr:=λ bx=>risesIm_spec ρ s.a s.n s.c l h.at' h.big bx before him
 refine Za func220 rfl rfl rfl λ u R=>?_
 simp only[Zc,kA]
 unfold imsOk
 by_cases h16:s.n<=16
 ·rw[decide_eq_true (show l.length<=16 by omega),Bool.true_and]
  repeat' (first|(refine Zb (.func 260) ?_;refine qR rfl rfl (hr _) ?_;try simp only[kA])|refine zW ?_|intro _)
  exact qE (L':=[]) ⟨rfl,rfl,rfl⟩
 ·rw[decide_eq_false (show ¬l.length<=16 by omega),Bool.false_and]
  repeat' (first|refine zW ?_|intro _)
  exact qE (L':=[]) ⟨rfl,rfl,rfl⟩
theorem rowV_only (r:Row):decide (r=⟨r.t,r.id,0,[]⟩)=decide (r.val=0/\r.note=[]):=by
 obtain⟨t,i,v,n⟩:=r
 simp
theorem step_spec (ρ:Hp)(s:Stp):Spec prog 223 [.agg ⟨stpV s⟩] ρ [] (λ v ρ' L'=>v=.bool (Xr s)/\ρ'=ρ/\L'=[]):=by
 obtain⟨kind,row,bb⟩:=s
 have hck:=checkRow_spec ρ row
 have ho:=rowV_only row
 unfold Xr onlyOk
 dsimp only
 generalize hP:decide (row.val=0/\row.note=[])=P at *
 generalize hQ:Xi row=Q at *
 refine Za func223 rfl rfl rfl λ u R=>?_
 simp only[Zc,kA]
 cases P<;>cases Q
 all_goals (repeat' (first|(refine iBu ?_;refine tl_y (v:=.agg ⟨Yz ⟨row.t,row.id,0,[]⟩⟩) (y_build rfl rfl) rfl rfl ?_)|(refine iCm ?_;refine tl_y (y_eqc_l rfl rfl ho) rfl rfl ?_)|(refine Zb (.func 264) ?_;refine qR rfl rfl (hck) ?_;try simp only[kA])|refine zW ?_|(refine zG (λ hb=>?_) (λ hb=>?_)<;>(try simp only[kH] at hb))|intro _))
 all_goals (refine qF (L':=[]) ?_;exact⟨WR (by clear ho hck;(repeat' split)<;>simp_all<;>omega),rfl,rfl⟩)
def idxI {α:Type}(p:α->Bool)(l:List α):Int:=match l.findIdx? p with|some i=>(i:Int)|none=>-1
theorem idx_found {α:Type}{p:α->Bool}{l:List α}{k:Nat}(h:k<l.length)(hp:p l[k]=true)(hn:∀x∈l.take k,p x=false):l.findIdx? p=some k:=by
 rw[List.findIdx?_eq_some_iff_getElem]
 refine⟨h,hp,λ j hj=>?_⟩
 have:=hn l[j] (List.mem_take_iff_getElem.2 ⟨j,by omega,rfl⟩)
 simp[this]
theorem idx_none {α:Type}{p:α->Bool}{l:List α}(hn:∀x∈l,p x=false):l.findIdx? p=none:=by
 rw[List.findIdx?_eq_none_iff]
 exact hn
theorem take_more {α:Type}{p:α->Prop}{l:List α}{k:Nat}(h:k<l.length)(hp:p l[k])(hn:∀x∈l.take k,p x):∀x∈l.take (k+1),p x:=λ x hx=>by
 rw[aG h] at hx
 rcases List.mem_append.1 hx with hx|hx
 ·exact hn x hx
 ·rw[List.mem_singleton.1 hx];exact hp
theorem done1_spec (ρ:Hp)(s:Stp):Spec prog 222 [.agg ⟨stpV s⟩] ρ [] (λ v ρ' L'=>v=.bool (!Xr s)/\ρ'=ρ/\L'=[]):=by
 refine Za func222 rfl rfl rfl λ u R=>?_
 simp only[Zc,kA]
 repeat' (first|(refine Zb (.func 223) ?_;refine qR rfl rfl (step_spec _ s) ?_;try simp only[kA])|refine zW ?_|intro _)
 exact qE ⟨rfl,rfl,rfl⟩
theorem idxStp_spec (ρ:Hp)(a:Option Addr)(n c:Nat)(l:List Stp)(h:AIn ρ 6 stpV a n l)(hn:n<=1000000)  :
  Spec prog 263 [.slice a n c,.func (.func 222) ⟨[]⟩ ⟨[]⟩] ρ [] (λ z ρ' L'=>z=.int .i64 (idxI (λ s:Stp=>!Xr s) l)/\ρ'=ρ/\L'=[]):=by
 have hl:=h.len
 generalize hP:(λ s:Stp=>!Xr s)=pp
 refine Za func263 rfl rfl rfl λ u R=>?_
 simp only[Zc,kA]
 repeat' (first|refine zW ?_|intro _)
 refine lpG Nat [0,1,7] (λ z=>[(8,.int .i64 z),(4,.int .i64 0)]) (λ z=>ρ) (λ z=>[]) (λ z=>z<=n/\∀x∈l.take z,pp x=false) (λ z=>n-z) 0 ⟨aZ _,by simp⟩ ?_
 rintro k hI
 try simp only[kB] at hI ⊢
 try dsimp only at hI ⊢
 obtain⟨hk,hok⟩:=hI
 by_cases hlt:k<n
 ·obtain⟨b,off,C,T,fr,rfl,hb,hfit,hc⟩:=h.get (show k<l.length by omega)
  have hf:=λ (e:pp l[k]=true)=>idx_found (p:=pp) (show k<l.length by omega) e hok
  have ht:=λ (e:pp l[k]=false)=>take_more (p:=λ x=>pp x=false) (show k<l.length by omega) e hok
  have hp:pp l[k]=(λ s:Stp=>!Xr s) l[k]:=by rw[hP]
  cases hx:pp l[k]
  ·have hok2:=ht hx
   rw[hx] at hp
   generalize l[k]=x at *
   repeat' (first|(refine Zb (.tmp 11) ?_;refine qR rfl rfl (done1_spec _ _) ?_;try simp only[kA,<-hp,Bool.not_true,Bool.not_false])|refine zW ?_|intro _)
   refine rnG (k+1) (⟨hlt,hok2⟩)
  ·have e:=hf hx
   rw[hx] at hp
   have e2:idxI pp l=(k:Int):=by unfold idxI;rw[e]
   rw[e2]
   generalize l[k]=x at *
   repeat' (first|(refine Zb (.tmp 11) ?_;refine qR rfl rfl (done1_spec _ _) ?_;try simp only[kA,<-hp,Bool.not_true,Bool.not_false])|refine zW ?_|intro _)
   exact qE (L':=[]) ⟨rfl,rfl,rfl⟩
 ·have hk2:k=l.length:=by omega
  rw[hk2,List.take_length] at hok
  have e2:idxI pp l=-1:=by unfold idxI;rw[idx_none hok]
  rw[e2]
  repeat' (first|refine zW ?_|intro _)
  exact qE (L':=[]) ⟨rfl,rfl,rfl⟩
theorem contains_spec (ρ:Hp)(a:Option Addr)(n c:Nat)(l:List Stp)(h:AIn ρ 6 stpV a n l)(hn:n<=1000000) :
  Spec prog 221 [.slice a n c,.func (.func 222) ⟨[]⟩ ⟨[]⟩] ρ [] (λ z ρ' L'=>z=.bool (!(l.all Xr))/\ρ'=ρ/\L'=[]):=by
 have hi:=idxStp_spec ρ a n c l h hn
 have e:decide (0<=idxI (λ s=>!Xr s) l)=!(l.all Xr):=by
  unfold idxI
  cases hf:l.findIdx? (λ s=>!Xr s) with
  | none=>
   rw[List.findIdx?_eq_none_iff] at hf
   have:l.all Xr=true:=List.all_eq_true.2 (λ x hx=>by have:=hf x hx;simpa using this)
   rw[this];rfl
  | some i=>
   obtain⟨h1,h2,_⟩:=List.findIdx?_eq_some_iff_getElem.1 hf
   have:l.all Xr=false:=by
    rw[List.all_eq_false]
    exact⟨_,aM h1,by simpa using h2⟩
   rw[this];simp
 rw[<-e]
 generalize idxI (λ s=>!Xr s) l=q at *
 refine Za func221 rfl rfl rfl λ u R=>?_
 simp only[Zc,kA]
 repeat' (first|(refine Zb (.func 263) ?_;refine qR rfl rfl (hi) ?_;try simp only[kA])|refine zW ?_|intro _)
 refine qF (L':=[]) ?_
 exact⟨WR (by simp),rfl,rfl⟩
abbrev nilS:SV:=⟨none,0,0⟩
theorem bare_spec (ρ:Hp)(v:RV)(r:Rc)(hi:v.i.n<=1000000)(hs:v.s.n<=1000000)(ht:v.t.n<=1000000)(hd:v.d.n<=1000000):Spec prog 166 [.agg ⟨recV v r⟩] ρ []
  (λ z ρ' L'=>z=.bool (decide (r.next=0/\v.i.n=0/\v.s.n=0/\v.t.n=0/\v.d.n=0/\r.nextTxn=0))/\ρ'=ρ/\L'=[]):=by
 refine Za func166 rfl rfl rfl λ u R=>?_
 simp only[Zc,kA]
 repeat' (first|refine zW ?_|(refine zG (λ hb=>?_) (λ hb=>?_)<;>(try simp only[kH] at hb))|intro _)
 all_goals (refine qF (L':=[]) ?_;exact⟨WR (by (try simp[*]);first|done|omega|(intros;omega)|(constructor<;>intros<;>(try simp_all)<;>omega)),rfl,rfl⟩)
theorem aplain_spec (ρ:Hp)(ab:Nat)(v:RV)(r:Rc):Spec prog 160 [.pointer (some ⟨ab,0,none⟩)] ρ [Wf ab v r] (λ z ρ' L'=>z=.bool true/\ρ'=ρ/\L'=[Wf ab v r]):=by
 refine Za func160 rfl rfl rfl λ u R=>?_
 simp only[Zc,kA]
 repeat' (first|refine zW ?_|intro _)
 exact qE (L':=[Wf ab v r]) ⟨rfl,rfl,rfl⟩
theorem achange_spec (ρ:Hp)(ab:Nat)(v:RV)(r:Rc)(h:RcIn ρ v r):Spec prog 161 [.pointer (some ⟨ab,0,none⟩)] ρ [Wf ab v r]
  (λ z ρ' L'=>z=.bool (decide (0<r.ims.length) && imsOk true r.ims)/\ρ'=ρ/\L'=[Wf ab { v with i:=nilS } r]):=by
 have hl:=h.i.at'.len
 have him:=images_spec ρ v.i r.ims h.i h.im true
 refine Za func161 rfl rfl rfl λ u R=>?_
 simp only[Zc,kA]
 by_cases h0:0<v.i.n
 ·rw[decide_eq_true (show 0<r.ims.length by omega),Bool.true_and]
  repeat' (first|(refine Zb (.func 220) ?_;refine qR rfl rfl (him) ?_;try simp only[kA])|refine zW ?_|intro _)
  exact qE (L':=[Wf ab { v with i:=nilS } r]) ⟨rfl,rfl,rfl⟩
 ·rw[decide_eq_false (show ¬0<r.ims.length by omega),Bool.false_and]
  repeat' (first|refine zW ?_|intro _)
  exact qE (L':=[Wf ab { v with i:=nilS } r]) ⟨rfl,rfl,rfl⟩
theorem anested_spec (ρ:Hp)(ab:Nat)(v:RV)(r:Rc):Spec prog 162 [.pointer (some ⟨ab,0,none⟩)] ρ [Wf ab v r]
  (λ z ρ' L'=>z=.bool (decide (r.next<r.prev))/\ρ'=ρ/\L'=[Wf ab v { r with next:=0 }]):=by
 refine Za func162 rfl rfl rfl λ u R=>?_
 simp only[Zc,kA]
 repeat' (first|refine zW ?_|intro _)
 refine qF (L':=[Wf ab v { r with next:=0 }]) ?_
 exact⟨WR (by simp),rfl,rfl⟩
theorem adone_spec (ρ:Hp)(ab:Nat)(v:RV)(r:Rc)(h:RcIn ρ v r):Spec prog 163 [.pointer (some ⟨ab,0,none⟩)] ρ [Wf ab v r]
  (λ z ρ' L'=>z=.bool (decide (r.next<r.prev) && (decide (0<r.steps.length/\r.steps.length<=2) && r.steps.all Xr))/\ρ'=ρ/\L'=[Wf ab { v with s:=nilS } { r with next:=0 }]):=by
 have hl:=h.s.at'.len
 have hco:=contains_spec ρ v.s.a v.s.n v.s.c r.steps h.s.at' h.s.big
 have hne:=anested_spec ρ ab { v with s:=nilS } r
 rw[hl]
 generalize r.steps.all Xr=q at *
 refine Za func163 rfl rfl rfl λ u R=>?_
 simp only[Zc,kA]
 repeat' (first|(refine Zb (.func 162) ?_;refine qR rfl rfl (hne) ?_;try simp only[kA])|(refine Zb (.func 221) ?_;refine qR rfl rfl (hco) ?_;try simp only[kA])|refine zW ?_|(refine zG (λ hb=>?_) (λ hb=>?_)<;>(try simp only[kH] at hb))|intro _)
 all_goals (refine qF (L':=[Wf ab { v with s:=nilS } { r with next:=0 }]) ?_;exact⟨WR (by (try simp[*]);first|done|omega|(intros;omega)|(constructor<;>intros<;>(try simp_all)<;>omega)),rfl,rfl⟩)
theorem aundone_spec (ρ:Hp)(ab:Nat)(v:RV)(r:Rc)(h:RcIn ρ v r):Spec prog 164 [.pointer (some ⟨ab,0,none⟩)] ρ [Wf ab v r]
  (λ z ρ' L'=>z=.bool (decide (r.next<r.lsn) && imsOk false r.ims)/\ρ'=ρ/\L'=[Wf ab { v with i:=nilS } { r with next:=0 }]):=by
 have him:=images_spec ρ v.i r.ims h.i h.im false
 generalize imsOk false r.ims=q at *
 refine Za func164 rfl rfl rfl λ u R=>?_
 simp only[Zc,kA]
 repeat' (first|refine zW ?_|intro _)
 refine tpZ [0] (.f [1,2,3,4,5,6,7,8,9,10,11] .o) ?_
 repeat' (refine iT ?_;first|refine rA ?_)
 all_goals (repeat' (first|(refine Zb (.func 220) ?_;refine qR rfl rfl (him) ?_;try simp only[kA])|refine zW ?_|(refine zG (λ hb=>?_) (λ hb=>?_)<;>(try simp only[kH] at hb))|intro _))
 all_goals (refine qF (L':=[Wf ab { v with i:=nilS } { r with next:=0 }]) ?_;exact⟨WR (by (try simp[*]);first|done|omega|(intros;omega)|(constructor<;>intros<;>(try simp_all)<;>omega)),rfl,rfl⟩)
theorem ackpt_spec (ρ:Hp)(ab:Nat)(v:RV)(r:Rc)(h:RcIn ρ v r):Spec prog 165 [.pointer (some ⟨ab,0,none⟩)] ρ [Wf ab v r]
  (λ z ρ' L'=>z=.bool (decide (1<=r.nextTxn/\r.nextTxn<=1073741824/\r.txns.length<=8) && (upB (ckTOk r.lsn r.nextTxn) CkT.txn r.txns r.txns.length && upB (ckPOk r.lsn) CkP.page r.dirty r.dirty.length))/\ρ'=ρ /\
   L'=[Wf ab { v with t:=nilS,d:=nilS } { r with nextTxn:=0 }]):=by
 have hl:=h.t.at'.len
 have ht:=λ nb pb=>risesCkT_spec ρ v.t.a v.t.n v.t.c r.txns h.t.at' h.t.big nb pb ab r.nextTxn { v with t:=nilS,d:=nilS } { r with nextTxn:=0 }
 have hd:=λ pb=>risesCkP_spec ρ v.d.a v.d.n v.d.c r.dirty h.d.at' h.d.big pb ab { v with t:=nilS,d:=nilS } { r with nextTxn:=0 }
 dsimp only at ht hd
 generalize upB (ckTOk r.lsn r.nextTxn) CkT.txn r.txns r.txns.length=q1 at *
 generalize upB (ckPOk r.lsn) CkP.page r.dirty r.dirty.length=q2 at *
 rw[hl]
 refine Za func165 rfl rfl rfl λ u R=>?_
 simp only[Zc,kA]
 repeat' (first|refine zW ?_|intro _)
 rename_i pb
 refine Yt [0,1,2,3,4,5,6,7,8,9,10,11,12,13,14] (.e 15 [16,17] (.e 18 [] .o)) ([ptrC pb ab,Wf ab v r]) ?_
 repeat' (refine iT ?_;first|refine rA ?_|(refine rE ?_<;>(refine qEf ?_;try intro _)<;>(try simp only[kA])<;>refine zN ?_))
 all_goals (repeat' (first|refine zW ?_|intro _))
 refine Yt [0,1,2,3,4,5] (.e 6 [7,8,9] (.e 10 [11,12,13] (.e 14 [] .o))) ([ptrC pb ab]) ?_
 repeat' (refine iT ?_;first|refine rA ?_|(refine rE ?_<;>(refine qEf ?_)<;>(try simp only[kA])<;>refine zN ?_))
 all_goals (repeat' (first|(refine Zb (.func 224) ?_;refine qR rfl rfl (ht _ _) ?_;try simp only[kA])|(refine Zb (.func 227) ?_;refine qR rfl rfl (hd _) ?_;try simp only[kA])|refine zW ?_|(refine zG (λ hb=>?_) (λ hb=>?_)<;>(try simp only[kH] at hb))|intro _))
 all_goals (refine qF (L':=[Wf ab { v with t:=nilS,d:=nilS } { r with nextTxn:=0 }]) ?_;exact⟨WR (by (try simp[*]);first|done|omega|(intros;omega)|(constructor<;>intros<;>(try simp_all)<;>omega)),rfl,rfl⟩)
structure BareR (v':RV)(r' r:Rc):Prop where
 i:v'.i.n<=1000000
 s:v'.s.n<=1000000
 t:v'.t.n<=1000000
 d:v'.d.n<=1000000
 eq:decide (r'.next=0/\v'.i.n=0/\v'.s.n=0/\v'.t.n=0/\v'.d.n=0/\r'.nextTxn=0)=bareOk r
def askF (k:Int):Nat:=if k=2 then 161 else if k=3 then 162 else if k=4 then 163 else if k=5 then 164 else if k=9 then 165 else 160
theorem ask_spec (ρ:Hp)(ab:Nat)(v:RV)(r:Rc)(h:RcIn ρ v r)(hk:1<=r.kind/\r.kind<=9):Zz prog (askF r.kind)/\Spec prog (askF r.kind) [.pointer (some ⟨ab,0,none⟩)] ρ [Wf ab v r]
  (λ z ρ' L'=>z=.bool (askOk r)/\ρ'=ρ/\∃v' r',BareR v' r' r/\L'=[Wf ab v' r']):=by
 have li:=h.i.at'.len
 have ls:=h.s.at'.len
 have lt:=h.t.at'.len
 have ld:=h.d.at'.len
 have bi:=h.i.big
 have bs:=h.s.big
 have bt:=h.t.big
 have bd:=h.d.big
 have z0:nilS.n=0:=rfl
 have ei:r.ims=[]↔v.i.n=0:=by rw[<-li];exact List.length_eq_zero_iff.symm
 have es:r.steps=[]↔v.s.n=0:=by rw[<-ls];exact List.length_eq_zero_iff.symm
 have et:r.txns=[]↔v.t.n=0:=by rw[<-lt];exact List.length_eq_zero_iff.symm
 have ed:r.dirty=[]↔v.d.n=0:=by rw[<-ld];exact List.length_eq_zero_iff.symm
 unfold askF askOk
 have hb:∀(v':RV) (r':Rc),(v'.i.n<=1000000/\v'.s.n<=1000000/\v'.t.n<=1000000/\v'.d.n<=1000000)->((r'.next=0/\v'.i.n=0/\v'.s.n=0/\v'.t.n=0/\v'.d.n=0/\r'.nextTxn=0) ↔
   ((r.next=0\/r.kind=3\/r.kind=4\/r.kind=5)/\(v.i.n=0\/r.kind=2\/r.kind=5)/\(v.s.n=0\/r.kind=4)/\((v.t.n=0/\v.d.n=0/\r.nextTxn=0)\/r.kind=9)))->BareR v' r' r:=λ v' r' h1 h2=>
  ⟨h1.1,h1.2.1,h1.2.2.1,h1.2.2.2,by unfold bareOk;apply decide_eq_decide.2;rw[ei,es,et,ed];exact h2⟩
 by_cases k2:r.kind=2
 ·rw[if_pos k2,if_pos k2]
  refine⟨inferInstance,(achange_spec ρ ab v r h).mono ?_⟩
  rintro z ρ' L' _ ⟨rfl,rfl,rfl⟩
  exact⟨rfl,rfl,_,_,hb { v with i:=nilS } r (by dsimp only;omega) (by dsimp only;omega),rfl⟩
 ·rw[if_neg k2,if_neg k2]
  by_cases k3:r.kind=3
  ·rw[if_pos k3,if_pos k3]
   refine⟨inferInstance,(anested_spec ρ ab v r).mono ?_⟩
   rintro z ρ' L' _ ⟨rfl,rfl,rfl⟩
   exact⟨rfl,rfl,_,_,hb v { r with next:=0 } (by omega) (by dsimp only;omega),rfl⟩
  ·rw[if_neg k3,if_neg k3]
   by_cases k4:r.kind=4
   ·rw[if_pos k4,if_pos k4]
    refine⟨inferInstance,(adone_spec ρ ab v r h).mono ?_⟩
    rintro z ρ' L' _ ⟨rfl,rfl,rfl⟩
    exact⟨rfl,rfl,_,_,hb { v with s:=nilS } { r with next:=0 } (by dsimp only;omega) (by dsimp only;omega),rfl⟩
   ·rw[if_neg k4,if_neg k4]
    by_cases k5:r.kind=5
    ·rw[if_pos k5,if_pos k5]
     refine⟨inferInstance,(aundone_spec ρ ab v r h).mono ?_⟩
     rintro z ρ' L' _ ⟨rfl,rfl,rfl⟩
     exact⟨rfl,rfl,_,_,hb { v with i:=nilS } { r with next:=0 } (by dsimp only;omega) (by dsimp only;omega),rfl⟩
    ·rw[if_neg k5,if_neg k5]
     by_cases k9:r.kind=9
     ·rw[if_pos k9,if_pos k9]
      refine⟨inferInstance,(ackpt_spec ρ ab v r h).mono ?_⟩
      rintro z ρ' L' _ ⟨rfl,rfl,rfl⟩
      exact⟨rfl,rfl,_,_,hb { v with t:=nilS,d:=nilS } { r with nextTxn:=0 } (by dsimp only;omega) (by dsimp only;omega),rfl⟩
     ·rw[if_neg k9,if_neg k9]
      refine⟨inferInstance,(aplain_spec ρ ab v r).mono ?_⟩
      rintro z ρ' L' _ ⟨rfl,rfl,rfl⟩
      exact⟨rfl,rfl,_,_,hb v r (by omega) (by omega),rfl⟩
theorem askF_chain {f:Nat->Option Value}{k:Int}(hk:1<=k/\k<=9):(if k=9 then f 165 else if k=8 then f 160 else if k=7 then f 160 else if k=6 then f 160 else if k=5 then f 164 else
  if k=4 then f 163 else if k=3 then f 162 else if k=2 then f 161 else if k=1 then f 160 else none)=f (askF k):=by
 unfold askF
 rcases (show k=1\/k=2\/k=3\/k=4\/k=5\/k=6\/k=7\/k=8\/k=9 by omega) with e|e|e|e|e|e|e|e|e<;>subst e<;>rfl
theorem rcheck_spec (ρ:Hp)(v:RV)(r:Rc)(h:RcIn ρ v r):Spec prog 100 [.agg ⟨recV v r⟩] ρ [] (λ z ρ' L'=>z=.int .i64 (if Xh r then 0 else 220)/\ρ'=ρ/\L'=[]):=by
 have hnil:ZP .i64 []:=by intro e he;simp at he
 have hg0:∀k:Int,Ym [] k=none:=λ _=>rfl
 refine Za func100 rfl rfl rfl λ u R=>?_
 simp only[Zc,kA]
 repeat' (first|(refine ZV rfl rfl rfl hnil (λ es1 ck1 i1 j1=>?_))|(refine ZV rfl rfl rfl i1 (λ es2 ck2 i2 j2=>?_))|(refine ZV rfl rfl rfl i2 (λ es3 ck3 i3 j3=>?_))|(refine ZV rfl rfl rfl i3 (λ es4 ck4 i4 j4=>?_))|(refine ZV rfl rfl rfl i4 (λ es5 ck5 i5 j5=>?_))|(refine ZV rfl rfl rfl i5 (λ es6 ck6 i6 j6=>?_))|(refine ZV rfl rfl rfl i6 (λ es7 ck7 i7 j7=>?_))|(refine ZV rfl rfl rfl i7 (λ es8 ck8 i8 j8=>?_))|refine zV ?_|intro _)
 rename_i rb ab mb
 refine ZV rfl rfl rfl i8 (λ es9 ck9 i9 j9=>?_)
 have hg:=j9 r.kind
 rw[j8,j7,j6,j5,j4,j3,j2,j1,hg0] at hg
 clear j1 j2 j3 j4 j5 j6 j7 j8 j9 i1 i2 i3 i4 i5 i6 i7 i8
 by_cases hk:1<=r.kind/\r.kind<=9
 ·obtain⟨hF,hS⟩:=ask_spec ρ ab v r h hk
  have hgF:Ym es9 r.kind=some (Value.func (.func (askF r.kind)) ⟨[.pointer (some ⟨ab,0,none⟩)]⟩ ⟨[]⟩):=by
   rw[hg]
   exact askF_chain (f:=λ F=>some (Value.func (.func F) ⟨[.pointer (some ⟨ab,0,none⟩)]⟩ ⟨[]⟩)) hk
  clear hg
  generalize askF r.kind=F at *
  repeat' (first|(refine Zb (.tmp 90) ?_;refine qC rfl rfl (hS) ?_;rintro v ρ' L' hle ⟨rfl,rfl,v',r',hB,rfl⟩<;>(try simp only[kA]))|(refine Zb (.func 166) ?_;refine qR rfl rfl (bare_spec _ v' r' hB.i hB.s hB.t hB.d) ?_;try simp only[kA,hB.eq])|refine zV ?_|(refine zG (λ hb=>?_) (λ hb=>?_)<;>(try simp only[kH,kI] at hb))|intro _)
  all_goals (refine qF (L':=[]) ?_;refine⟨?_,rfl,rfl⟩)
  all_goals first|(have hh:headOk r=false:=decide_eq_false (by omega);simp only[Xh,hh,Bool.false_and,Bool.and_false,aB,if_false])|(have hh:headOk r=true:=decide_eq_true (by omega);have h9:decide (1<=r.kind/\r.kind<=9)=true:=decide_eq_true hk;simp[Xh,hh,h9, *])
 ·have hgN:Ym es9 r.kind=none:=by
   rw[hg]
   simp only[show ¬r.kind=9 by omega,show ¬r.kind=8 by omega,show ¬r.kind=7 by omega,show ¬r.kind=6 by omega,show ¬r.kind=5 by omega,show ¬r.kind=4 by omega,show ¬r.kind=3 by omega,show ¬r.kind=2 by omega,show ¬r.kind=1 by omega,if_false]
  clear hg
  have e0:Xh r=false:=by simp[Xh,hk]
  rw[e0]
  repeat' (first|refine zV ?_|(refine zG (λ hb=>?_) (λ hb=>?_)<;>(try simp only[kH,kI] at hb))|intro _)
  all_goals (refine qF (L':=[]) ?_;exact⟨rfl,rfl,rfl⟩)
def layF (k:Int):Nat:=if k=2 then 170 else if k=3 then 171 else if k=4 then 172 else if k=5 then 173 else 174
theorem lay_spec (wb:Nat)(v:RV)(r:Rc)(hL:LayOk r)(hk:r.kind=2\/r.kind=3\/r.kind=4\/r.kind=5\/r.kind=9):Zz prog (layF r.kind)/\∀(ρ:Hp) (w:Value) (l:List UInt8) (sp:List Value),OwnB w l sp->l.length<=60000->RcIn ρ v r ->
  Spec prog (layF r.kind) [.pointer (some ⟨wb,0,none⟩)] ρ [Wz w l sp,wrC wb v r w] (WrP ρ wb v r (l++recTB r)):=by
 unfold layF recTB
 rcases hk with e|e|e|e|e
 ·rw[if_pos e,if_pos e]
  exact⟨inferInstance,λ ρ w l sp hown hn h=>wimages_spec ρ wb v r w l sp hown (by omega) h hL⟩
 ·rw[if_neg (by omega),if_pos e,if_neg (by omega),if_pos e]
  exact⟨inferInstance,λ ρ w l sp hown hn h=>wnested_spec ρ wb v r w l sp hown (by omega) hL.next⟩
 ·rw[if_neg (by omega),if_neg (by omega),if_pos e,if_neg (by omega),if_neg (by omega),if_pos e]
  exact⟨inferInstance,λ ρ w l sp hown hn h=>wdone_spec ρ wb v r w l sp hown (by omega) h hL⟩
 ·rw[if_neg (by omega),if_neg (by omega),if_neg (by omega),if_pos e,if_neg (by omega),if_neg (by omega),if_neg (by omega),if_pos e]
  exact⟨inferInstance,λ ρ w l sp hown hn h=>wundone_spec ρ wb v r w l sp hown (by omega) h hL⟩
 ·rw[if_neg (by omega),if_neg (by omega),if_neg (by omega),if_neg (by omega),if_neg (by omega),if_neg (by omega),if_neg (by omega),if_neg (by omega),if_pos e]
  exact⟨inferInstance,λ ρ w l sp hown hn h=>wckpt_spec ρ wb v r w l sp hown (by omega) h hL⟩
theorem layF_chain {f:Nat->Option Value}{k:Int}(hk:k=2\/k=3\/k=4\/k=5\/k=9):(if k=9 then f 174 else if k=5 then f 173 else if k=4 then f 172 else if k=3 then f 171 else if k=2 then f 170 else none)=f (layF k):=by
 unfold layF
 rcases hk with e|e|e|e|e<;>subst e<;>rfl
theorem recTB_none {r:Rc}(hk:¬(r.kind=2\/r.kind=3\/r.kind=4\/r.kind=5\/r.kind=9)):recTB r=[]:=by
 unfold recTB
 rw[if_neg (by omega),if_neg (by omega),if_neg (by omega),if_neg (by omega),if_neg (by omega)]
theorem rlaid_spec (ρ:Hp)(v:RV)(r:Rc)(h:RcIn ρ v r)(hL:LayOk r):Spec prog 102 [.agg ⟨recV v r⟩] ρ []
  (λ z ρ' L'=>ρ.le ρ'/\∃a c,z=.slice a (YG r).length c/\(YG r).length<=c/\SIn ρ' Zk a (YG r).length (YG r)/\L'=[]):=by
 have hρ:=Hp.le_refl ρ
 have hnil:ZP .i64 []:=by intro e he;simp at he
 have hg0:∀k:Int,Ym [] k=none:=λ _=>rfl
 have k1:=hL.kind
 have k2:=hL.lsn
 have k3:=hL.txn
 have k4:=hL.prev
 refine Za func102 rfl rfl rfl λ u R=>?_
 simp only[Zc,kA]
 repeat' (first|(refine Zl rfl rfl rfl rfl (by simp) rfl rfl (λ bs=>?_);refine Zt _ (h:=Rem.here) (λ ρz hlz hfz=>?_);have hbs:=hfz _ (List.mem_singleton.2 rfl);clear hfz;have hρ:=Hp.le_trans hρ hlz;clear hlz;(try simp only[List.nil_append]))|(rename_i rb wb;refine Zb (.func 167) ?_;refine tl_call rfl rfl (Xd _ _ v r (.slice none 0 0) [] [] (OwnS.nil 1) (by decide) _ r.kind hbs k1) (take_cons' rem_nil' (take_cons' ZJ take_nil')) rfl ?_;rintro z1 ρ1 L1 hle0 ⟨rfl,hl1,w1,sp1,hown,rfl⟩;simp only[kA] at hown ⊢;have hρ:=Hp.le_trans hρ hl1;clear hl1)|(refine Zb (.func 168) ?_;refine qC rfl rfl ((wlong_spec _ _ v r w1 _ sp1 hown (by (try simp only[aL,aC,List.length_nil,List.length_map,Zh])<;>omega) _ r.lsn hbs k2)) ?_;rintro v ρ' L' hle ⟨rfl,hl1,w2,sp2,hown,rfl⟩<;>(try simp only[kA]);have hρ:=Hp.le_trans hρ hl1;clear hl1)|(refine Zb (.func 169) ?_;refine qC rfl rfl ((wtxn_spec _ _ v r w2 _ sp2 hown (by (try simp only[aL,aC,List.length_nil,List.length_map,Zh])<;>omega) r.txn k3)) ?_;rintro v ρ' L' hle ⟨rfl,hl1,w3,sp3,hown,rfl⟩<;>(try simp only[kA]);have hρ:=Hp.le_trans hρ hl1;clear hl1)|(refine Zb (.func 168) ?_;refine qC rfl rfl ((wlong_spec _ _ v r w3 _ sp3 hown (by (try simp only[aL,aC,List.length_nil,List.length_map,Zh])<;>omega) _ r.prev hbs k4)) ?_;rintro v ρ' L' hle ⟨rfl,hl1,w4,sp4,hown,rfl⟩<;>(try simp only[kA]);have hρ:=Hp.le_trans hρ hl1;clear hl1)|(refine ZV rfl rfl rfl hnil (λ es1 ck1 i1 j1=>?_))|(refine ZV rfl rfl rfl i1 (λ es2 ck2 i2 j2=>?_))|(refine ZV rfl rfl rfl i2 (λ es3 ck3 i3 j3=>?_))|(refine ZV rfl rfl rfl i3 (λ es4 ck4 i4 j4=>?_))|refine zV ?_|intro _)
 rename_i mb
 refine ZV rfl rfl rfl i4 (λ es5 ck5 i5 j5=>?_)
 have hg:=j5 r.kind
 rw[j4,j3,j2,j1,hg0] at hg
 clear j1 j2 j3 j4 j5 i1 i2 i3 i4
 have hH:tB r.kind::(be 8 r.lsn++be 4 r.txn.toNat++be 8 r.prev)=recHB r:=by simp[recHB]
 have hHl:(recHB r).length<=100:=by simp[recHB,Zh]
 simp only[kA,hH] at hown ⊢
 by_cases hk:r.kind=2\/r.kind=3\/r.kind=4\/r.kind=5\/r.kind=9
 ·obtain⟨hF,hS⟩:=lay_spec wb v r hL hk
  have hS:=λ ρ (hle:Hp.le _ ρ)=>hS ρ w4 _ sp4 hown (by omega) (h.mono hle)
  have hgF:Ym es5 r.kind=some (Value.func (.func (layF r.kind)) ⟨[.pointer (some ⟨wb,0,none⟩)]⟩ ⟨[]⟩):=by
   rw[hg]
   exact layF_chain (f:=λ F=>some (Value.func (.func F) ⟨[.pointer (some ⟨wb,0,none⟩)]⟩ ⟨[]⟩)) hk
  clear hg
  generalize layF r.kind=F at *
  repeat' (first|(refine Zb (.tmp 46) ?_;refine qC rfl rfl (hS _ hρ) ?_;rintro v ρ' L' hle ⟨rfl,hl1,w5,sp5,hown,rfl⟩<;>(try simp only[kA]);have hρ:=Hp.le_trans hρ hl1;clear hl1)|refine zV ?_|intro _)
  have hB:recHB r++recTB r=YG r:=rfl
  rw[hB] at hown ⊢
  obtain⟨va,vc,rfl,_⟩:=hown.slice
  repeat' (first|refine zV ?_|intro _)
  refine ZB (Wz (.slice va (YG r).length vc) (YG r) sp5) (h:=by repeat (first|exact ZJ|apply Ya)) (λ ρ6 hle6 hfz=>?_)
  obtain⟨a6,c6,e6,hc6,hs6⟩:=hown.sIn hfz
  cases e6
  exact qE ⟨Hp.le_trans hρ hle6,va,vc,rfl,hc6,hs6,rfl⟩
 ·have hgN:Ym es5 r.kind=none:=by
   rw[hg]
   simp only[show ¬r.kind=9 by omega,show ¬r.kind=5 by omega,show ¬r.kind=4 by omega,show ¬r.kind=3 by omega,show ¬r.kind=2 by omega,if_false]
  clear hg
  have hB:recHB r=YG r:=by unfold YG;rw[recTB_none hk,aN]
  rw[hB] at hown ⊢
  obtain⟨va,vc,rfl,_⟩:=hown.slice
  repeat' (first|refine zV ?_|intro _)
  refine ZB (Wz (.slice va (YG r).length vc) (YG r) sp4) (h:=by repeat (first|exact ZJ|apply Ya)) (λ ρ6 hle6 hfz=>?_)
  obtain⟨a6,c6,e6,hc6,hs6⟩:=hown.sIn hfz
  cases e6
  exact qE ⟨Hp.le_trans hρ hle6,va,vc,rfl,hc6,hs6,rfl⟩
theorem Ws {k:Nat}{x rest:List UInt8}(h:x.length=k):Yc k (x++rest) 0=(ZM x,rest,0):=by
 unfold Yc
 rw[if_neg (by simp),if_neg (by simp;omega),List.take_left' h,List.drop_left' h]
theorem unbe_one (b:UInt8):ZM [b]=b.toNat:=by simp[ZM]
theorem tB_toNat {t:Int}(h0:0<=t)(h1:t<256):((tB t).toNat:Int)=t:=by
 obtain⟨n,rfl⟩:∃n:Nat,t=n:=⟨t.toNat,by omega⟩
 simp only[tB,Int.toNat_natCast,UInt8.toNat_ofNat']
 have e:(2:Nat) ^ 8=256:=by decide
 rw[e];omega
theorem rowR_back {r:Row}(hr:Xi r=true)(hf:XU r)(rest:List UInt8):WA (ZY r++rest) 0 false=(r,rest,0,false):=by
 obtain⟨h0,h3,h8⟩:=rowOk_iff hr
 obtain⟨hid,hval⟩:=hf
 obtain⟨t,id,val,note⟩:=r
 dsimp only at h0 h3 h8 hid hval
 have e0:ZY ⟨t,id,val,note⟩++rest=[tB t]++(be 2 id++(be 8 (vN val)++([UInt8.ofNat note.length]++(note++rest)))):=by simp[ZY,keyB]
 have e1:Yc 1 (ZY ⟨t,id,val,note⟩++rest) 0=((tB t).toNat,be 2 id++(be 8 (vN val)++([UInt8.ofNat note.length]++(note++rest))),0):=by rw[e0,Ws (k:=1) (x:=[tB t]) rfl,unbe_one]
 have e2:=Ws (k:=2) (x:=be 2 id) (rest:=be 8 (vN val)++([UInt8.ofNat note.length]++(note++rest))) (Zh _ _)
 have e3:=Ws (k:=8) (x:=be 8 (vN val)) (rest:=[UInt8.ofNat note.length]++(note++rest)) (Zh _ _)
 have e4:=Ws (k:=1) (x:=[UInt8.ofNat note.length]) (rest:=note++rest) rfl
 rw[Wy,Nat.mod_eq_of_lt (by omega)] at e2
 rw[Wy,Nat.mod_eq_of_lt (by have:=vN_lt val;omega)] at e3
 have hlen:(UInt8.ofNat note.length).toNat=note.length:=by
  rw[UInt8.toNat_ofNat']
  have e:(2:Nat) ^ 8=256:=by decide
  rw[e];omega
 rw[unbe_one,hlen] at e4
 have e5:VA note.length (note++rest) 0=(note,rest,0):=by
  unfold VA
  rw[if_neg (by simp),if_neg (by simp),List.take_left' rfl,List.drop_left' rfl]
 have ht:=tB_toNat h0 (by omega:t<256)
 unfold WA
 simp only[e1,e2,e3,e4,e5]
 have hb1:XK false 0 (decide (((tB t).toNat:Int)<3))=false:=by rw[ht,decide_eq_true h3];rfl
 have hb2:XK false 0 (decide ((note.length:Int)<=8))=false:=by rw[decide_eq_true (by omega)];rfl
 simp only[hb1,hb2,Bool.not_false,decide_true,Bool.and_self,if_true]
 rw[ht,i64N_vN hval]
theorem kidRB_back {k:Kid}(hid:k.id<65536)(ht:0<=k.t/\k.t<3)(hp:0<k.page/\k.page<64)(rest:List UInt8):XY (XJ k++rest) 0 false=(k,rest,0,false):=by
 obtain⟨t,id,page⟩:=k
 dsimp only at hid ht hp
 have e0:XJ ⟨t,id,page⟩++rest=[tB t]++(be 2 id++([tB page]++rest)):=by simp[XJ,keyB]
 have e1:Yc 1 (XJ ⟨t,id,page⟩++rest) 0=((tB t).toNat,be 2 id++([tB page]++rest),0):=by rw[e0,Ws (k:=1) (x:=[tB t]) rfl,unbe_one]
 have e2:=Ws (k:=2) (x:=be 2 id) (rest:=[tB page]++rest) (Zh _ _)
 have e3:=Ws (k:=1) (x:=[tB page]) (rest:=rest) rfl
 rw[Wy,Nat.mod_eq_of_lt (by omega)] at e2
 rw[unbe_one] at e3
 unfold XY kidR
 simp only[e1,e2,e3,tB_toNat ht.1 (by omega:t<256),tB_toNat (by omega:0<=page) (by omega:page<256)]
theorem manyTo_back {α:Type}{f:List UInt8->Int->Bool->α×Yu}{enc:α->List UInt8}:∀(xs:List α),(∀x∈xs,∀rest,f (enc x++rest) 0 false=(x,rest,0,false))->∀rest,XM f xs.length (xs.flatMap enc++rest) 0 false=(xs,rest,0,false)
 | [],_,rest=>rfl
 | x::xs,h,rest=>by
  rw[aC,XM,if_pos (by decide),List.flatMap_cons,aA,h x (by simp)]
  dsimp only
  rw[manyTo_back xs (λ y hy=>h y (by simp[hy]))]
theorem manyR_back {α:Type}{f:List UInt8->Int->Bool->α×Yu}{enc:α->List UInt8}{xs:List α}(hl:xs.length<=4)(h:∀x∈xs,∀rest,f (enc x++rest) 0 false=(x,rest,0,false))(rest:List UInt8) :
  Xl f (UInt8.ofNat xs.length::(xs.flatMap enc++rest)) 0 false=(xs,rest,0,false):=by
 have hlen:(UInt8.ofNat xs.length).toNat=xs.length:=by
  rw[UInt8.toNat_ofNat']
  have e:(2:Nat) ^ 8=256:=by decide
  rw[e];omega
 have e1:Yc 1 (UInt8.ofNat xs.length::(xs.flatMap enc++rest)) 0=(xs.length,xs.flatMap enc++rest,0):=by
  have:=Ws (k:=1) (x:=[UInt8.ofNat xs.length]) (rest:=xs.flatMap enc++rest) rfl
  rw[unbe_one,hlen] at this
  exact this
 unfold Xl
 simp only[e1]
 have hb:XK false 0 (decide ((xs.length:Int)<=4))=false:=by rw[decide_eq_true (by omega)];rfl
 rw[hb]
 exact manyTo_back xs h rest
structure IdFit (c:ZO):Prop where
 row:∀r∈c.rows,XU r
 kid:∀k∈c.kids,k.id<65536
theorem contB_form {c:ZO}(h:Zp c=true):(c.kind=0/\c=⟨0,[],[]⟩/\Yf c=[0])\/(c.kind=1/\c.kids=[]/\Yf c=1::(UInt8.ofNat c.rows.length::c.rows.flatMap ZY))\/(c.kind=2/\c.rows=[]/\Yf c=2::(UInt8.ofNat c.kids.length::c.kids.flatMap XJ)):=by
 have hF:=(YF h).kind
 obtain⟨kind,rows,kids⟩:=c
 dsimp only at hF ⊢
 rcases hF with⟨rfl,rfl,rfl⟩|⟨rfl,rfl⟩|⟨rfl,rfl,_⟩
 ·exact .inl ⟨rfl,rfl,by simp[Yf,cntB];rfl⟩
 ·exact .inr (.inl ⟨rfl,rfl,by simp[Yf,cntB];rfl⟩)
 ·exact .inr (.inr ⟨rfl,rfl,by simp[Yf,cntB];rfl⟩)
theorem contentR_back {c:ZO}(h:Zp c=true)(hf:IdFit c)(rest:List UInt8):YM (Yf c++rest)=(c,rest,0,false):=by
 have hF:=YF h
 have hrb:∀r∈c.rows,∀rest,WA (ZY r++rest) 0 false=(r,rest,0,false):=λ r hr rest=>rowR_back (hF.row r hr) (hf.row r hr) rest
 have hkb:∀k∈c.kids,∀rest,XY (XJ k++rest) 0 false=(k,rest,0,false):=λ k hk rest=>kidRB_back (hf.kid k hk) (hF.kid k hk).1 (hF.kid k hk).2 rest
 have hrl:=hF.rl
 have hkl:=hF.kl
 rcases contB_form h with⟨hk,rfl,e⟩|⟨hk,hks,e⟩|⟨hk,hrs,e⟩
 ·rw[e]
  have e1:Yc 1 ([0]++rest) 0=(0,rest,0):=by rw[Ws (k:=1) (x:=[0]) rfl];rfl
  unfold YM contE
  simp only[e1]
  rfl
 ·obtain⟨kind,rows,kids⟩:=c
  dsimp only at hk hks
  subst hk;subst hks
  rw[e]
  have e1:Yc 1 (1::(UInt8.ofNat rows.length::rows.flatMap ZY)++rest) 0=(1,UInt8.ofNat rows.length::(rows.flatMap ZY++rest),0):=by
   have:=Ws (k:=1) (x:=[1]) (rest:=UInt8.ofNat rows.length::(rows.flatMap ZY++rest)) rfl
   exact this
  have hb:XK false 0 (decide (((1:Nat):Int)<=2))=false:=rfl
  unfold YM contE
  simp only[e1,hb,Vw,manyR_back hrl hrb rest,Bool.not_false,decide_true,Bool.and_self,if_true]
  have hn:XK false 0 (Zp ⟨((1:Nat):Int),rows,[]⟩)=false:=by rw[show Zp ⟨((1:Nat):Int),rows,[]⟩=true from h];rfl
  rw[hn];rfl
 ·obtain⟨kind,rows,kids⟩:=c
  dsimp only at hk hrs
  subst hk;subst hrs
  rw[e]
  have e1:Yc 1 (2::(UInt8.ofNat kids.length::kids.flatMap XJ)++rest) 0=(2,UInt8.ofNat kids.length::(kids.flatMap XJ++rest),0):=by
   have:=Ws (k:=1) (x:=[2]) (rest:=UInt8.ofNat kids.length::(kids.flatMap XJ++rest)) rfl
   exact this
  have hb:XK false 0 (decide (((2:Nat):Int)<=2))=false:=rfl
  unfold YM contE
  simp only[e1,hb,Vw,manyR_back hkl hkb rest,Bool.not_false,decide_true,Bool.and_self,if_true,show ¬((2:Nat)=1) by decide,if_false]
  have hn:XK false 0 (Zp ⟨((2:Nat):Int),[],kids⟩)=false:=by rw[show Zp ⟨((2:Nat):Int),[],kids⟩=true from h];rfl
  rw[hn];rfl
theorem takeCont_back {c:ZO}(h:Zp c=true)(hf:IdFit c)(rest:List UInt8):Zq (Yf c++rest)=(c,(((Yf c).length:Nat):Int),0):=by
 unfold Zq
 simp only[contentR_back h hf rest]
 simp[takenN,takenE]
theorem takeRow_back {r:Row}(h:Xi r=true)(hf:XU r)(rest:List UInt8):Yd (ZY r++rest)=(r,(((ZY r).length:Nat):Int),0):=by
 unfold Yd
 simp only[rowR_back h hf rest]
 simp[takenN,takenE]
def rdN (k:Nat)(s:Yu):Nat×Yu:=((Yc k s.1 s.2.1).1,(Yc k s.1 s.2.1).2.1,(Yc k s.1 s.2.1).2.2,s.2.2)
def okS (s:Yu):Bool:=!s.2.2 && decide (s.2.1=0)
def skipS (n:Int)(s:Yu):Yu:=((VA n.toNat s.1 s.2.1).2.1,(VA n.toNat s.1 s.2.1).2.2,s.2.2)
def tkT {α:Type}(t:List UInt8->α×Int×Int)(z:α)(s:Yu):α×Yu:=if okS s then (if (t s.1).2.2=0 then ((t s.1).1,skipS (t s.1).2.1 s) else (z,s.1,s.2.1,true)) else (z,s)
abbrev ztC:ZO:=⟨0,[],[]⟩
abbrev ztR:Row:=⟨0,0,0,[]⟩
abbrev nilCV:CV:=⟨none,0,0,none,0,0⟩
def imDb (two:Bool)(s:Yu):ZO×Yu:=if two then tkT Zq ztC s else (ztC,s)
def imDa (two:Bool)(p:Nat)(s:Yu):Im×Yu:=(⟨p,nilCV,(imDb two s).1,nilCV,(tkT Zq ztC (imDb two s).2).1⟩,(tkT Zq ztC (imDb two s).2).2)
def imD (two:Bool)(s:Yu):Im×Yu:=imDa two (rdN 1 s).1 (rdN 1 s).2
def stpDr (k:Nat)(s:Yu):Stp×Yu:=(⟨k,(tkT Yd ztR s).1,0⟩,(tkT Yd ztR s).2)
def stpDb (k t i:Nat)(s:Yu):Stp×Yu:=if k=1 then (⟨k,⟨t,i,0,[]⟩,i64N (rdN 8 s).1⟩,(rdN 8 s).2) else (⟨k,⟨t,i,0,[]⟩,0⟩,s)
def stpDi (k t:Nat)(s:Yu):Stp×Yu:=stpDb k t (rdN 2 s).1 (rdN 2 s).2
def stpDt (k:Nat)(s:Yu):Stp×Yu:=if k=2\/k=3 then stpDr k s else stpDi k (rdN 1 s).1 (rdN 1 s).2
def stpD (s:Yu):Stp×Yu:=stpDt (rdN 1 s).1 (rdN 1 s).2
def ckTe (t f l u:Nat)(s:Yu):CkT×Yu:=(⟨t,f,l,u,(rdN 1 s).1⟩,(rdN 1 s).2)
def ckTu (t f l:Nat)(s:Yu):CkT×Yu:=ckTe t f l (rdN 8 s).1 (rdN 8 s).2
def ckTl (t f:Nat)(s:Yu):CkT×Yu:=ckTu t f (rdN 8 s).1 (rdN 8 s).2
def ckTf (t:Nat)(s:Yu):CkT×Yu:=ckTl t (rdN 8 s).1 (rdN 8 s).2
def ckTD (s:Yu):CkT×Yu:=ckTf (rdN 4 s).1 (rdN 4 s).2
def ckPr (p:Nat)(s:Yu):CkP×Yu:=(⟨p,(rdN 8 s).1⟩,(rdN 8 s).2)
def ckPD (s:Yu):CkP×Yu:=ckPr (rdN 1 s).1 (rdN 1 s).2
def Xu {α:Type}(f:Yu->α×Yu):Nat->Yu->List α×Yu
 | 0,s=>([],s)
 | n+1,s=>if okS s then ((f s).1::(Xu f n (f s).2).1,(Xu f n (f s).2).2) else ([],s)
def YR {α:Type}(f:Yu->α×Yu)(s:Yu):List α×Yu:=Xu f (rdN 1 s).1 (rdN 1 s).2
def hdP (k l t:Nat)(s:Yu):Rc×Yu:=(⟨k,l,t,(rdN 8 s).1,0,[],[],0,[],[]⟩,(rdN 8 s).2)
def hdT (k l:Nat)(s:Yu):Rc×Yu:=hdP k l (rdN 4 s).1 (rdN 4 s).2
def hdL (k:Nat)(s:Yu):Rc×Yu:=hdT k (rdN 8 s).1 (rdN 8 s).2
def headD (s:Yu):Rc×Yu:=hdL (rdN 1 s).1 (rdN 1 s).2
def chD (r:Rc)(s:Yu):Rc×Yu:=({ r with ims:=(YR (imD (decide (r.kind=2))) s).1 },(YR (imD (decide (r.kind=2))) s).2)
def neD (r:Rc)(s:Yu):Rc×Yu:=({ r with next:=(rdN 8 s).1 },(rdN 8 s).2)
def doD (r:Rc)(s:Yu):Rc×Yu:=({ r with steps:=(YR stpD s).1 },(YR stpD s).2)
def cxD (r:Rc)(s:Yu):Rc×Yu:=({ r with nextTxn:=(rdN 4 s).1 },(rdN 4 s).2)
def ctD (r:Rc)(s:Yu):Rc×Yu:=({ r with txns:=(YR ckTD s).1 },(YR ckTD s).2)
def cdD (r:Rc)(s:Yu):Rc×Yu:=({ r with dirty:=(YR ckPD s).1 },(YR ckPD s).2)
abbrev thenD (f g:Rc->Yu->Rc×Yu)(r:Rc)(s:Yu):Rc×Yu:=g (f r s).1 (f r s).2
def tailD (r:Rc)(s:Yu):Rc×Yu:=
 if r.kind=2 then chD r s else if r.kind=3 then neD r s else if r.kind=4 then thenD neD doD r s else if r.kind=5 then thenD neD chD r s
 else if r.kind=9 then thenD (thenD cxD ctD) cdD r s else (r,s)
def decD (l:List UInt8):Rc×Yu:=tailD (headD (l,0,false)).1 (headD (l,0,false)).2
def decOk (l:List UInt8):Bool:=okS (decD l).2 && (decide ((decD l).2.1.length=0) && Xh (decD l).1)
def zeroRc:Rc:=⟨0,0,0,0,0,[],[],0,[],[]⟩
def decR (l:List UInt8):Rc:=if decOk l then (decD l).1 else zeroRc
abbrev FwB {α:Type}(f:Yu->α×Yu)(enc:α->List UInt8)(x:α):Prop:=∀rest,f (enc x++rest,0,false)=(x,rest,0,false)
abbrev BkB {α:Type}(f:Yu->α×Yu)(enc:α->List UInt8)(fit:α->Prop):Prop:=∀{s:Yu} {x:α} {l':List UInt8},f s=(x,l',0,false)->s=(enc x++l',0,false)/\fit x
theorem XW {k x:Nat}(h:x<256 ^ k)(rest:List UInt8):rdN k (be k x++rest,0,false)=(x,rest,0,false):=by
 unfold rdN
 simp only[Ws (Zh k x),Wy,Nat.mod_eq_of_lt h]
theorem XV {k:Nat}{s:Yu}{x:Nat}{l':List UInt8}(h:rdN k s=(x,l',0,false)):s=(be k x++l',0,false)/\x<256 ^ k:=by
 obtain⟨l,st,bad⟩:=s
 unfold rdN at h
 simp only[Prod.mk.injEq] at h
 obtain⟨h1,h2,h3,h4⟩:=h
 have hb:=Wm k l st
 obtain⟨rfl,hl,e⟩:=Wv h3
 rw[e] at h1 h2 hb
 dsimp only at h1 h2 hb
 subst h1 h2 h4
 exact⟨by rw[be_take hl,List.take_append_drop],hb⟩
theorem tkC_fw {c:ZO}(h:Zp c=true)(hf:IdFit c)(rest:List UInt8):tkT Zq ztC (Yf c++rest,0,false)=(c,rest,0,false):=by
 unfold tkT
 rw[if_pos (show okS (Yf c++rest,0,false)=true from rfl)]
 simp only[takeCont_back h hf rest,if_true,skipS,Int.toNat_natCast]
 unfold VA
 rw[if_neg (by simp),if_neg (by simp),List.drop_left' rfl]
theorem tkR_fw {c:Row}(h:Xi c=true)(hf:XU c)(rest:List UInt8):tkT Yd ztR (ZY c++rest,0,false)=(c,rest,0,false):=by
 unfold tkT
 rw[if_pos (show okS (ZY c++rest,0,false)=true from rfl)]
 simp only[takeRow_back h hf rest,if_true,skipS,Int.toNat_natCast]
 unfold VA
 rw[if_neg (by simp),if_neg (by simp),List.drop_left' rfl]
theorem skipS_bk {n:Nat}{s:Yu}{l':List UInt8}(hn:n<=s.1.length)(h:skipS n s=(l',0,false)):s=(s.1.take n++l',0,false):=by
 obtain⟨l,st,bad⟩:=s
 unfold skipS at h
 simp only[Prod.mk.injEq,Int.toNat_natCast] at h
 obtain⟨h2,h3,h4⟩:=h
 obtain⟨rfl,hl,e⟩:=rawR_zero h3
 rw[e] at h2
 dsimp only at h2
 subst h2 h4
 dsimp only
 rw[List.take_append_drop]
theorem tkC_bk:BkB (tkT Zq ztC) Yf (λ c=>Zp c=true/\ContFit c):=by
 intro s x l' h
 unfold tkT at h
 split at h
 ·split at h
  ·rename_i h0
   obtain⟨n,e1,hn,g1,g2,g3⟩:=takeCont_ok h0
   simp only[Prod.mk.injEq] at h
   obtain⟨h1,h2⟩:=h
   rw[e1] at h2
   subst h1
   refine⟨?_,g1,g3⟩
   rw[g2]
   exact skipS_bk hn h2
  ·simp only[Prod.mk.injEq] at h
   exact absurd h.2.2.2 (by decide)
 ·rename_i h0
  simp only[Prod.mk.injEq] at h
  rw[h.2] at h0
  exact absurd rfl h0
theorem tkR_bk:BkB (tkT Yd ztR) ZY (λ c=>Xi c=true/\XU c):=by
 intro s x l' h
 unfold tkT at h
 split at h
 ·split at h
  ·rename_i h0
   obtain⟨n,e1,hn,g1,g2,g3⟩:=takeRow_ok h0
   simp only[Prod.mk.injEq] at h
   obtain⟨h1,h2⟩:=h
   rw[e1] at h2
   subst h1
   refine⟨?_,g1,g3⟩
   rw[g2]
   exact skipS_bk hn h2
  ·simp only[Prod.mk.injEq] at h
   exact absurd h.2.2.2 (by decide)
 ·rename_i h0
  simp only[Prod.mk.injEq] at h
  rw[h.2] at h0
  exact absurd rfl h0
theorem manyS_fw {α:Type}{f:Yu->α×Yu}{enc:α->List UInt8}:∀(xs:List α),(∀x∈xs,FwB f enc x)->∀rest,Xu f xs.length (xs.flatMap enc++rest,0,false)=(xs,rest,0,false)
 | [],_,rest=>rfl
 | x::xs,h,rest=>by
  rw[aC,Xu,if_pos (by rfl),List.flatMap_cons,aA,h x (by simp)]
  simp only[manyS_fw xs (λ y hy=>h y (by simp[hy])) rest]
theorem manyS_bk {α:Type}{f:Yu->α×Yu}{enc:α->List UInt8}{fit:α->Prop}(hf:BkB f enc fit):∀{n:Nat} {s:Yu} {xs:List α} {l':List UInt8},Xu f n s=(xs,l',0,false)->s=(xs.flatMap enc++l',0,false)/\xs.length=n/\∀x∈xs,fit x
 | 0,s,xs,l',h=>by
  rw[Xu] at h
  simp only[Prod.mk.injEq] at h
  obtain⟨rfl,rfl⟩:=h
  exact⟨rfl,rfl,by simp⟩
 | n+1,s,xs,l',h=>by
  rw[Xu] at h
  split at h
  ·simp only[Prod.mk.injEq] at h
   obtain⟨rfl,h2⟩:=h
   obtain⟨g1,g2,g3⟩:=manyS_bk hf (n:=n) (s:=(f s).2) (xs:=(Xu f n (f s).2).1) (l':=l') (by rw[<-h2])
   obtain⟨k1,k2⟩:=hf (s:=s) (x:=(f s).1) (l':=(Xu f n (f s).2).1.flatMap enc++l') (by rw[<-g1])
   refine⟨?_,by simp[g2], ?_⟩
   ·rw[List.flatMap_cons,aA];exact k1
   ·intro y hy
    rcases List.mem_cons.1 hy with rfl|hy
    ·exact k2
    ·exact g3 y hy
  ·rename_i h0
   simp only[Prod.mk.injEq] at h
   rw[h.2] at h0
   exact absurd (by rfl) h0
theorem manyD_fw {α:Type}{f:Yu->α×Yu}{enc:α->List UInt8}{xs:List α}(hl:xs.length<=255)(h:∀x∈xs,FwB f enc x):FwB (YR f) (Xt enc) xs:=by
 intro rest
 unfold YR Xt
 have e:(UInt8.ofNat xs.length::xs.flatMap enc)++rest=be 1 xs.length++(xs.flatMap enc++rest):=by rw[Wl];simp
 rw[e,XW (by omega)]
 exact manyS_fw xs h rest
theorem manyD_bk {α:Type}{f:Yu->α×Yu}{enc:α->List UInt8}{fit:α->Prop}(hf:BkB f enc fit):BkB (YR f) (Xt enc) (λ xs=>xs.length<=255/\∀x∈xs,fit x):=by
 intro s xs l' h
 unfold YR at h
 obtain⟨g1,g2,g3⟩:=manyS_bk hf h
 obtain⟨k1,k2⟩:=XV (s:=s) (k:=1) (x:=(rdN 1 s).1) (l':=xs.flatMap enc++l') (by rw[<-g1])
 refine⟨?_,by omega,g3⟩
 rw[k1,<-g2,Wl]
 simp[Xt]
abbrev Im.plain (x:Im):Im:=⟨x.page,nilCV,x.b,nilCV,x.a⟩
abbrev Rc.plain (r:Rc):Rc:={ r with ims:=r.ims.map Im.plain }
theorem imD_fw {two:Bool}{x:Im}(hp:0<=x.page/\x.page<64)(ha:Zp x.a=true)(hb:Zp x.b=true)(fa:IdFit x.a)(fb:IdFit x.b)(h0:two=false->x.b=ztC):FwB (imD two) (imB two) x.plain:=by
 intro rest
 have e:imB two x.plain++rest=be 1 x.page.toNat++((if two then Yf x.b else [])++(Yf x.a++rest)):=by
  rw[Wl];simp[imB,tB]
 unfold imD
 rw[e,XW (by omega)]
 unfold imDa
 have e2:imDb two ((if two then Yf x.b else [])++(Yf x.a++rest),0,false)=(x.b,Yf x.a++rest,0,false):=by
  unfold imDb
  cases two
  ·rw[h0 rfl];rfl
  ·simp only[if_true];exact tkC_fw hb fb _
 simp only[e2,tkC_fw ha fa rest,Prod.mk.injEq,and_true]
 have:((x.page.toNat:Nat):Int)=x.page:=by omega
 rw[this]
structure ImP (two:Bool)(x:Im):Prop where
 eq:x=x.plain
 page:0<=x.page
 a:Zp x.a=true/\ContFit x.a
 b:two=true->Zp x.b=true/\ContFit x.b
 z:two=false->x.b=ztC
theorem imD_bk {two:Bool}:BkB (imD two) (imB two) (ImP two):=by
 intro s x l' h
 unfold imD imDa at h
 simp only[Prod.mk.injEq] at h
 obtain⟨h1,h2⟩:=h
 obtain⟨a1,a2⟩:=tkC_bk (s:=(imDb two (rdN 1 s).2).2) (x:=(tkT Zq ztC (imDb two (rdN 1 s).2).2).1) (l':=l') (by rw[<-h2])
 have hb:(rdN 1 s).2=((if two then Yf (imDb two (rdN 1 s).2).1 else [])++(Yf (tkT Zq ztC (imDb two (rdN 1 s).2).2).1++l'),0,false)/\(two=true->Zp (imDb two (rdN 1 s).2).1=true/\ContFit (imDb two (rdN 1 s).2).1)/\(two=false->(imDb two (rdN 1 s).2).1=ztC):=by
  generalize (tkT Zq ztC (imDb two (rdN 1 s).2).2).1=ca at *
  unfold imDb at a1 ⊢
  cases two
  ·exact⟨by simpa using a1,by simp,λ _=>rfl⟩
  ·simp only[if_true] at a1 ⊢
   obtain⟨b1,b2⟩:=tkC_bk (s:=(rdN 1 s).2) (x:=(tkT Zq ztC (rdN 1 s).2).1) (l':=Yf ca++l') (by rw[<-a1])
   exact⟨b1,λ _=>b2,by simp⟩
 obtain⟨hb1,hb2,hb3⟩:=hb
 obtain⟨p1,p2⟩:=XV (k:=1) (s:=s) (x:=(rdN 1 s).1) (by rw[<-hb1])
 generalize (tkT Zq ztC (imDb two (rdN 1 s).2).2).1=ca at *
 generalize (imDb two (rdN 1 s).2).1=cb at *
 generalize (rdN 1 s).1=p at *
 subst h1
 refine⟨?_,⟨rfl,by dsimp only;omega,a2,hb2,hb3⟩⟩
 rw[p1,Wl]
 simp[imB,tB]
structure StpF (s:Stp):Prop where
 row:XU s.row
 by':i64in s.by'
theorem stpD_fw {s:Stp}(hs:Xr s=true)(hf:StpF s):FwB stpD Vs s:=by
 intro rest
 obtain⟨k,⟨t,id,val,note⟩,b⟩:=s
 obtain⟨⟨hid,hval⟩,hby⟩:=hf
 dsimp only at hid hval hby
 have hk:k=1\/k=2\/k=3\/k=4:=by
  unfold Xr at hs
  dsimp only at hs
  by_cases h1:k=1<;>by_cases h2:k=2<;>by_cases h3:k=3<;>by_cases h4:k=4<;>simp_all
 have hlead:∀X,stpD (tB k::X,0,false)=stpDt k.toNat (X,0,false):=λ X=>by
  unfold stpD
  have e:tB k::X=be 1 k.toNat++X:=by rw[Wl];rfl
  rw[e,XW (by omega)]
 unfold Vs
 rw[List.cons_append,hlead]
 have hkk:((k.toNat:Nat):Int)=k:=by omega
 by_cases h23:k=2\/k=3
 ·have hok:b=0/\Xi ⟨t,id,val,note⟩=true:=by
   unfold Xr at hs
   dsimp only at hs
   rw[if_neg (by omega),if_neg (by omega),if_pos h23,aE,decide_eq_true_eq] at hs
   exact hs
  rw[if_pos h23]
  unfold stpDt stpDr
  rw[if_pos (by omega),tkR_fw hok.2 ⟨hid,hval⟩]
  simp only[hkk,hok.1]
 ·rw[if_neg h23]
  have hon:onlyOk ⟨k,⟨t,id,val,note⟩,b⟩=true/\(k≠1->b=0):=by
   unfold Xr at hs
   dsimp only at hs
   by_cases h1:k=1
   ·rw[if_pos h1] at hs;exact⟨hs,λ h=>absurd h1 h⟩
   ·rw[if_neg h1,if_pos (by omega),aE,decide_eq_true_eq] at hs
    exact⟨hs.1,λ _=>hs.2⟩
  obtain⟨hon,hb0⟩:=hon
  unfold onlyOk at hon
  rw[aE,decide_eq_true_eq,decide_eq_true_eq] at hon
  obtain⟨⟨g1,g2⟩,g3,g4⟩:=hon
  dsimp only at g1 g2 g3 g4
  subst g1 g2
  unfold stpDt
  rw[if_neg (by omega)]
  have e:tB t::(be 2 id++(if k=1 then be 8 (vN b) else []))++rest=be 1 t.toNat++(be 2 id++((if k=1 then be 8 (vN b) else [])++rest)):=by rw[Wl];simp[tB]
  dsimp only
  rw[e,XW (by omega)]
  unfold stpDi
  rw[XW (by omega)]
  unfold stpDb
  have htt:((t.toNat:Nat):Int)=t:=by omega
  by_cases h1:k=1
  ·rw[if_pos h1,if_pos (by omega),XW (by have:=vN_lt b;omega)]
   simp only[hkk,htt,i64N_vN hby]
  ·rw[if_neg h1,if_neg (by omega)]
   simp only[hkk,htt,hb0 h1,List.nil_append]
theorem stpD_bk:BkB stpD Vs StpF:=by
 intro s x l' h
 unfold stpD at h
 have main:∀(k:Nat) (s:Yu),k<256->stpDt k s=(x,l',0,false)->x.kind=k/\StpF x/\s=((if x.kind=2\/x.kind=3 then ZY x.row else tB x.row.t::(be 2 x.row.id++(if x.kind=1 then be 8 (vN x.by') else [])))++l',0,false):=by
  intro k s hk h
  unfold stpDt at h
  split at h
  ·rename_i h23
   unfold stpDr at h
   simp only[Prod.mk.injEq] at h
   obtain⟨rfl,h2⟩:=h
   obtain⟨k1,k2⟩:=tkR_bk (s:=s) (x:=(tkT Yd ztR s).1) (l':=l') (by rw[<-h2])
   refine⟨rfl,⟨k2.2,by dsimp only;omega⟩, ?_⟩
   dsimp only
   rw[if_pos (by omega)]
   exact k1
  ·rename_i h23
   unfold stpDi stpDb at h
   split at h
   ·rename_i h1
    simp only[Prod.mk.injEq] at h
    obtain⟨rfl,h2⟩:=h
    obtain⟨k1,k2⟩:=XV (k:=8) (s:=(rdN 2 (rdN 1 s).2).2) (x:=(rdN 8 (rdN 2 (rdN 1 s).2).2).1) (l':=l') (by rw[<-h2])
    obtain⟨m1,m2⟩:=XV (k:=2) (s:=(rdN 1 s).2) (x:=(rdN 2 (rdN 1 s).2).1) (by rw[<-k1])
    obtain⟨n1,n2⟩:=XV (k:=1) (s:=s) (x:=(rdN 1 s).1) (by rw[<-m1])
    refine⟨rfl,⟨⟨by dsimp only;omega,by dsimp only;omega⟩,i64N_fit _⟩, ?_⟩
    dsimp only
    rw[if_neg (by omega),if_pos (by omega),vN_i64N (by omega)]
    refine n1.trans ?_
    simp[Wl,tB]
   ·rename_i h1
    simp only[Prod.mk.injEq] at h
    obtain⟨rfl,h2⟩:=h
    obtain⟨m1,m2⟩:=XV (k:=2) (s:=(rdN 1 s).2) (x:=(rdN 2 (rdN 1 s).2).1) (l':=l') (by rw[<-h2])
    obtain⟨n1,n2⟩:=XV (k:=1) (s:=s) (x:=(rdN 1 s).1) (by rw[<-m1])
    refine⟨rfl,⟨⟨by dsimp only;omega,by dsimp only;omega⟩,by dsimp only;omega⟩, ?_⟩
    dsimp only
    rw[if_neg (by omega),if_neg (by omega)]
    refine n1.trans ?_
    simp[Wl,tB]
 have hlt:(rdN 1 s).1<256:=by
  have:=Wm 1 s.1 s.2.1
  simpa [rdN] using this
 obtain⟨g1,g2,g3⟩:=main _ _ hlt h
 obtain⟨n1,n2⟩:=XV (k:=1) (s:=s) (x:=(rdN 1 s).1) (by rw[<-g3])
 refine⟨?_,g2⟩
 rw[n1]
 unfold Vs
 rw[show tB x.kind=UInt8.ofNat (rdN 1 s).1 by rw[g1];rfl]
 simp[Wl]
structure CkTF (t:CkT):Prop where
 txn:0<=t.txn/\t.txn<4294967296
 first:t.first<18446744073709551616
 last:t.last<18446744073709551616
 undo:t.undo<18446744073709551616
 state:0<=t.state/\t.state<256
theorem ckTD_fw {t:CkT}(h:CkTF t):FwB ckTD Vu t:=by
 intro rest
 obtain⟨n,f,l,u,e⟩:=t
 obtain⟨h1,h2,h3,h4,h5⟩:=h
 dsimp only at h1 h2 h3 h4 h5
 have e0:Vu ⟨n,f,l,u,e⟩++rest=be 4 n.toNat++(be 8 f++(be 8 l++(be 8 u++(be 1 e.toNat++rest)))):=by rw[Wl];simp[Vu,tB]
 rw[e0]
 unfold ckTD ckTf ckTl ckTu ckTe
 rw[XW (by omega)]
 simp only[XW (k:=8) (x:=f) (by omega),XW (k:=8) (x:=l) (by omega),XW (k:=8) (x:=u) (by omega),XW (k:=1) (x:=e.toNat) (by omega)]
 rw[show ((n.toNat:Nat):Int)=n by omega,show ((e.toNat:Nat):Int)=e by omega]
theorem ckTD_bk:BkB ckTD Vu CkTF:=by
 intro s x l' h
 unfold ckTD ckTf ckTl ckTu ckTe at h
 simp only[Prod.mk.injEq] at h
 obtain⟨rfl,h2⟩:=h
 generalize hs1:rdN 4 s=s1 at *
 generalize hs2:rdN 8 s1.2=s2 at *
 generalize hs3:rdN 8 s2.2=s3 at *
 generalize hs4:rdN 8 s3.2=s4 at *
 generalize hs5:rdN 1 s4.2=s5 at *
 obtain⟨x5,y5⟩:=s5
 dsimp only at h2
 subst h2
 obtain⟨k5,b5⟩:=XV hs5
 obtain⟨x4,y4⟩:=s4
 dsimp only at k5
 subst k5
 obtain⟨k4,b4⟩:=XV hs4
 obtain⟨x3,y3⟩:=s3
 dsimp only at k4
 subst k4
 obtain⟨k3,b3⟩:=XV hs3
 obtain⟨x2,y2⟩:=s2
 dsimp only at k3
 subst k3
 obtain⟨k2,b2⟩:=XV hs2
 obtain⟨x1,y1⟩:=s1
 dsimp only at k2
 subst k2
 obtain⟨k1,b1⟩:=XV hs1
 refine⟨?_,⟨by dsimp only;omega,by dsimp only;omega,by dsimp only;omega,by dsimp only;omega,by dsimp only;omega⟩⟩
 rw[k1]
 simp[Vu,tB,Wl]
structure CkPF (p:CkP):Prop where
 page:0<=p.page/\p.page<256
 since:p.since<18446744073709551616
theorem ckPD_fw {p:CkP}(h:CkPF p):FwB ckPD ckPB p:=by
 intro rest
 obtain⟨n,f⟩:=p
 obtain⟨h1,h2⟩:=h
 dsimp only at h1 h2
 have e0:ckPB ⟨n,f⟩++rest=be 1 n.toNat++(be 8 f++rest):=by rw[Wl];simp[ckPB,tB]
 rw[e0]
 unfold ckPD ckPr
 rw[XW (by omega)]
 simp only[XW (k:=8) (x:=f) (by omega)]
 rw[show ((n.toNat:Nat):Int)=n by omega]
theorem ckPD_bk:BkB ckPD ckPB CkPF:=by
 intro s x l' h
 unfold ckPD ckPr at h
 simp only[Prod.mk.injEq] at h
 obtain⟨rfl,h2⟩:=h
 generalize hs1:rdN 1 s=s1 at *
 generalize hs2:rdN 8 s1.2=s2 at *
 obtain⟨x2,y2⟩:=s2
 dsimp only at h2
 subst h2
 obtain⟨k2,b2⟩:=XV hs2
 obtain⟨x1,y1⟩:=s1
 dsimp only at k2
 subst k2
 obtain⟨k1,b1⟩:=XV hs1
 refine⟨?_,⟨by dsimp only;omega,by dsimp only;omega⟩⟩
 rw[k1]
 simp[ckPB,tB,Wl]
structure RcF (r:Rc):Prop where
 im:∀x∈r.ims,IdFit x.b/\IdFit x.a
 st:∀s∈r.steps,StpF s
theorem up_all {α:Type}{right:α->Bool}{by':α->Int}{l:List α}(h:upB right by' l l.length=true):∀i (hi:i<l.length),right l[i]=true/\(i=0\/by' (l[i-1]'(by omega))<by' l[i]):=by
 intro i hi
 obtain⟨h1,h2⟩:=(Vj h (aR _)).2 i hi hi
 refine⟨h1, ?_⟩
 rcases h2 with h2|h2
 ·exact .inl h2
 ·exact .inr (of_decide_eq_true h2)
theorem up_mem {α:Type}{right:α->Bool}{by':α->Int}{l:List α}(h:upB right by' l l.length=true):∀x∈l,right x=true:=by
 intro x hx
 obtain⟨i,hi,rfl⟩:=List.mem_iff_getElem.1 hx
 exact (up_all h i hi).1
theorem ckP_len {lsn:Nat}{l:List CkP}(h:upB (ckPOk lsn) CkP.page l l.length=true):l.length<=64:=by
 have hp:∀i (hi:i<l.length),0<=l[i].page/\l[i].page<64:=λ i hi=>by
  have:=(up_all h i hi).1
  unfold ckPOk pageOk at this
  rw[aE,decide_eq_true_eq] at this
  exact this.1
 have hi:∀i (hi:i<l.length),(i:Int)<=l[i].page:=by
  intro i
  induction i with
  | zero=>intro hi;exact (hp 0 hi).1
  | succ i ih=>
   intro hi
   have h1:=ih (by omega)
   have h2:=(up_all h (i+1) hi).2
   simp only[Nat.add_sub_cancel] at h2
   omega
 rcases Nat.lt_or_ge 64 l.length with hl|hl
 ·have:=hi 64 hl
  have:=hp 64 hl
  omega
 ·exact hl
structure RecOk (r:Rc):Prop where
 kind:1<=r.kind/\r.kind<=9
 lsn:1<=r.lsn/\r.lsn<=1099511627776/\r.prev<r.lsn
 txn:0<=r.txn/\r.txn<=1073741824
 next:r.next<=r.lsn
 n0:r.next=0\/r.kind=3\/r.kind=4\/r.kind=5
 i0:r.ims=[]\/r.kind=2\/r.kind=5
 s0:r.steps=[]\/r.kind=4
 c0:(r.txns=[]/\r.dirty=[]/\r.nextTxn=0)\/r.kind=9
 il:r.ims.length<=16
 im:∀x∈r.ims,(0<=x.page/\x.page<64)/\Zp x.a=true/\Zp x.b=true
 i5:r.kind=5->∀x∈r.ims,x.b=ztC
 sl:r.steps.length<=2
 st:∀s∈r.steps,Xr s=true
 nt:0<=r.nextTxn/\r.nextTxn<=1073741824
 tl:r.txns.length<=8
 tx:∀t∈r.txns,ckTOk r.lsn r.nextTxn t=true
 dl:r.dirty.length<=64
 di:∀p∈r.dirty,ckPOk r.lsn p=true
theorem ims_facts {b:Bool}{l:List Im}(h:imsOk b l=true):l.length<=16/\(∀x∈l,(0<=x.page/\x.page<64)/\Zp x.a=true/\Zp x.b=true)/\(b=false->∀x∈l,x.b=ztC):=by
 unfold imsOk at h
 rw[aE,decide_eq_true_eq] at h
 obtain⟨h1,h2⟩:=h
 have h3:=up_mem h2
 have h4:∀x∈l,(0<=x.page/\x.page<64)/\Zp x.a=true/\Zp x.b=true/\(b=true\/x.b.kind=0):=λ x hx=>by
  have:=h3 x hx
  unfold imOk pageOk at this
  rw[aE,aE,aE,Bool.or_eq_true,decide_eq_true_eq,decide_eq_true_eq] at this
  exact this
 refine⟨h1,λ x hx=>⟨(h4 x hx).1,(h4 x hx).2.1,(h4 x hx).2.2.1⟩,λ hb x hx=>?_⟩
 obtain⟨_,_,g3,g4⟩:=h4 x hx
 have g5:x.b.kind=0:=by
  rcases g4 with g4|g4
  ·rw[hb] at g4;cases g4
  ·exact g4
 rcases contB_form g3 with e|e|e
 ·exact e.2.1
 ·omega
 ·omega
theorem recOk_facts {r:Rc}(h:Xh r=true):RecOk r:=by
 unfold Xh headOk bareOk at h
 rw[aE,aE,aE,decide_eq_true_eq,decide_eq_true_eq,decide_eq_true_eq] at h
 obtain⟨hk,⟨h1,h2,h3,h4,h5,h6,h7⟩,ha,b1,b2,b3,b4⟩:=h
 unfold askOk at ha
 obtain⟨k,lsn,txn,prev,next,ims,steps,nt,txns,dirty⟩:=r
 dsimp only at *
 by_cases k2:k=2
 ·rw[if_pos k2,aE] at ha
  obtain⟨f1,f2,f3⟩:=ims_facts ha.2
  obtain rfl:steps=[]:=by rcases b3 with b3|b3<;>first|exact b3|omega
  obtain⟨rfl,rfl,rfl⟩:txns=[]/\dirty=[]/\nt=0:=by rcases b4 with b4|b4<;>first|exact b4|omega
  exact⟨hk,⟨h1,h2,h3⟩,⟨h4,h5⟩,by dsimp only;omega,b1,b2,b3,b4,f1,f2,λ e=>by dsimp only at e;omega,by simp,by simp,by simp,by simp,by simp,by simp,by simp⟩
 ·rw[if_neg k2] at ha
  by_cases k3:k=3
  ·rw[if_pos k3,decide_eq_true_eq] at ha
   obtain rfl:ims=[]:=by rcases b2 with b2|b2<;>first|exact b2|omega
   obtain rfl:steps=[]:=by rcases b3 with b3|b3<;>first|exact b3|omega
   obtain⟨rfl,rfl,rfl⟩:txns=[]/\dirty=[]/\nt=0:=by rcases b4 with b4|b4<;>first|exact b4|omega
   exact⟨hk,⟨h1,h2,h3⟩,⟨h4,h5⟩,by dsimp only;omega,b1,b2,b3,b4,by simp,by simp,by simp,by simp,by simp,by simp,by simp,by simp,by simp,by simp⟩
  ·rw[if_neg k3] at ha
   by_cases k4:k=4
   ·rw[if_pos k4,aE,aE,decide_eq_true_eq,decide_eq_true_eq] at ha
    obtain rfl:ims=[]:=by rcases b2 with b2|b2<;>first|exact b2|omega
    obtain⟨rfl,rfl,rfl⟩:txns=[]/\dirty=[]/\nt=0:=by rcases b4 with b4|b4<;>first|exact b4|omega
    exact⟨hk,⟨h1,h2,h3⟩,⟨h4,h5⟩,by dsimp only;omega,b1,b2,b3,b4,by simp,by simp,by simp,ha.2.1.2,List.all_eq_true.1 ha.2.2,by simp,by simp,by simp,by simp,by simp⟩
   ·rw[if_neg k4] at ha
    by_cases k5:k=5
    ·rw[if_pos k5,aE,decide_eq_true_eq] at ha
     obtain⟨f1,f2,f3⟩:=ims_facts ha.2
     obtain rfl:steps=[]:=by rcases b3 with b3|b3<;>first|exact b3|omega
     obtain⟨rfl,rfl,rfl⟩:txns=[]/\dirty=[]/\nt=0:=by rcases b4 with b4|b4<;>first|exact b4|omega
     exact⟨hk,⟨h1,h2,h3⟩,⟨h4,h5⟩,by dsimp only;omega,b1,b2,b3,b4,f1,f2,λ _=>f3 rfl,by simp,by simp,by simp,by simp,by simp,by simp,by simp⟩
    ·rw[if_neg k5] at ha
     obtain rfl:ims=[]:=by rcases b2 with b2|b2<;>first|exact b2|omega
     obtain rfl:steps=[]:=by rcases b3 with b3|b3<;>first|exact b3|omega
     by_cases k9:k=9
     ·rw[if_pos k9,aE,aE,decide_eq_true_eq] at ha
      obtain⟨⟨a1,a2,a3⟩,a4,a5⟩:=ha
      exact⟨hk,⟨h1,h2,h3⟩,⟨h4,h5⟩,by dsimp only;omega,b1,b2,b3,b4,by simp,by simp,by simp,by simp,by simp,⟨by dsimp only;omega,a2⟩,a3,up_mem a4,ckP_len a5,up_mem a5⟩
     ·obtain⟨rfl,rfl,rfl⟩:txns=[]/\dirty=[]/\nt=0:=by rcases b4 with b4|b4<;>first|exact b4|omega
      exact⟨hk,⟨h1,h2,h3⟩,⟨h4,h5⟩,by dsimp only;omega,b1,b2,b3,b4,by simp,by simp,by simp,by simp,by simp,by simp,by simp,by simp,by simp,by simp⟩
theorem ckT_facts {lsn:Nat}{next:Int}{t:CkT}(h:ckTOk lsn next t=true)(hl:lsn<=1099511627776)(hn:next<=1073741824):CkTF t:=by
 unfold ckTOk at h
 rw[decide_eq_true_eq] at h
 obtain⟨a1,a2,a3,a4,a5,a6,a7,a8⟩:=h
 exact⟨by omega,by omega,by omega,by omega,by omega⟩
theorem ckP_facts {lsn:Nat}{p:CkP}(h:ckPOk lsn p=true)(hl:lsn<=1099511627776):CkPF p/\p.page<64:=by
 unfold ckPOk pageOk at h
 rw[aE,decide_eq_true_eq,decide_eq_true_eq] at h
 obtain⟨⟨a1,a2⟩,a3,a4⟩:=h
 exact⟨⟨by omega,by omega⟩,by omega⟩
theorem Vi {r:Rc}(h:Xh r=true):LayOk r:=by
 have f:=recOk_facts h
 have l1:=f.lsn
 have l2:=f.next
 have l3:=f.txn
 have l4:=f.nt
 have l5:=f.kind
 exact⟨by omega,by omega,by omega,by omega,by omega,by omega,f.il,f.im,f.sl,f.st,f.tl,λ t ht=>by
   have g:=ckT_facts (f.tx t ht) l1.2.1 l4.2
   exact⟨g.txn,g.first,g.last,g.undo,g.state.1,g.state.2⟩,f.dl,λ p hp=>by
   obtain⟨g,g2⟩:=ckP_facts (f.di p hp) l1.2.1
   exact⟨⟨g.page.1,g2⟩,g.since⟩⟩
theorem headD_fw {k lsn prev:Nat}{txn:Nat}(h1:k<256)(h2:lsn<18446744073709551616)(h3:txn<4294967296)(h4:prev<18446744073709551616)(rest:List UInt8) :
  headD (be 1 k++(be 8 lsn++(be 4 txn++(be 8 prev++rest))),0,false)=(⟨k,lsn,txn,prev,0,[],[],0,[],[]⟩,rest,0,false):=by
 unfold headD hdL hdT hdP
 rw[XW (by omega)]
 simp only[XW (k:=8) (x:=lsn) (by omega),XW (k:=4) (x:=txn) (by omega),XW (k:=8) (x:=prev) (by omega)]
theorem dec_fw {r:Rc}(h:Xh r=true)(hf:RcF r)(rest:List UInt8):decD (YG r++rest)=(r.plain,rest,0,false):=by
 obtain⟨f1,f2,f3,f4,n0,i0,s0,c0,f5,f6,f7,f8,f9,f10,f11,f12,f13,f14⟩:=recOk_facts h
 obtain⟨q1,q2⟩:=hf
 obtain⟨k,lsn,txn,prev,next,ims,steps,nt,txns,dirty⟩:=r
 dsimp only at *
 have e:YG ⟨k,lsn,txn,prev,next,ims,steps,nt,txns,dirty⟩++rest=be 1 k.toNat++(be 8 lsn++(be 4 txn.toNat++(be 8 prev++(recTB ⟨k,lsn,txn,prev,next,ims,steps,nt,txns,dirty⟩++rest)))):=by
  rw[Wl];simp[YG,recHB,tB]
 unfold decD
 rw[e,headD_fw (by omega) (by omega) (by omega) (by omega)]
 rw[show ((k.toNat:Nat):Int)=k by omega,show ((txn.toNat:Nat):Int)=txn by omega]
 unfold tailD recTB imsB
 dsimp only
 have hI:∀two:Bool,(two=false->∀x∈ims,x.b=ztC)->∀X,YR (imD two) (Xt (imB two) ims++X,0,false)=(ims.map Im.plain,X,0,false):=λ two h0 X=>by
  have:=manyD_fw (f:=imD two) (enc:=imB two) (xs:=ims.map Im.plain) (by simp;omega) (λ x hx=>by
   obtain⟨y,hy,rfl⟩:=List.mem_map.1 hx
   exact imD_fw (f6 y hy).1 (f6 y hy).2.1 (f6 y hy).2.2 (q1 y hy).2 (q1 y hy).1 (λ h=>h0 h y hy)) X
  have e:Xt (imB two) ims=Xt (imB two) (ims.map Im.plain):=by unfold Xt;rw[List.length_map,List.flatMap_map];rfl
  rw[e]
  exact this
 by_cases k2:k=2
 ·rw[if_pos k2,if_pos k2]
  obtain rfl:steps=[]:=by rcases s0 with e|e<;>first|exact e|omega
  obtain⟨rfl,rfl,rfl⟩:txns=[]/\dirty=[]/\nt=0:=by rcases c0 with e|e<;>first|exact e|omega
  obtain rfl:next=0:=by omega
  unfold chD
  dsimp only
  rw[hI _ (λ e=>by simp[k2] at e)]
 ·rw[if_neg k2,if_neg k2]
  by_cases k3:k=3
  ·rw[if_pos k3,if_pos k3]
   obtain rfl:ims=[]:=by rcases i0 with e|e<;>first|exact e|omega
   obtain rfl:steps=[]:=by rcases s0 with e|e<;>first|exact e|omega
   obtain⟨rfl,rfl,rfl⟩:txns=[]/\dirty=[]/\nt=0:=by rcases c0 with e|e<;>first|exact e|omega
   unfold neD
   rw[XW (k:=8) (x:=next) (by omega)]
   rfl
  ·rw[if_neg k3,if_neg k3]
   by_cases k4:k=4
   ·rw[if_pos k4,if_pos k4]
    obtain rfl:ims=[]:=by rcases i0 with e|e<;>first|exact e|omega
    obtain⟨rfl,rfl,rfl⟩:txns=[]/\dirty=[]/\nt=0:=by rcases c0 with e|e<;>first|exact e|omega
    unfold thenD neD doD
    rw[aA,XW (k:=8) (x:=next) (by omega)]
    dsimp only
    rw[manyD_fw (by omega) (λ s hs=>stpD_fw (f9 s hs) (q2 s hs))]
    rfl
   ·rw[if_neg k4,if_neg k4]
    by_cases k5:k=5
    ·rw[if_pos k5,if_pos k5]
     obtain rfl:steps=[]:=by rcases s0 with e|e<;>first|exact e|omega
     obtain⟨rfl,rfl,rfl⟩:txns=[]/\dirty=[]/\nt=0:=by rcases c0 with e|e<;>first|exact e|omega
     unfold thenD neD chD
     rw[aA,XW (k:=8) (x:=next) (by omega)]
     dsimp only
     rw[hI _ (λ _=>f7 k5)]
    ·rw[if_neg k5,if_neg k5]
     obtain rfl:ims=[]:=by rcases i0 with e|e<;>first|exact e|omega
     obtain rfl:steps=[]:=by rcases s0 with e|e<;>first|exact e|omega
     obtain rfl:next=0:=by omega
     by_cases k9:k=9
     ·rw[if_pos k9,if_pos k9]
      unfold thenD cxD ctD cdD
      rw[aA,XW (k:=4) (x:=nt.toNat) (by omega)]
      dsimp only
      rw[aA,manyD_fw (by omega) (λ t ht=>ckTD_fw (ckT_facts (f12 t ht) f2.2.1 f10.2))]
      dsimp only
      rw[manyD_fw (by omega) (λ p hp=>ckPD_fw (ckP_facts (f14 p hp) f2.2.1).1)]
      dsimp only
      rw[show ((nt.toNat:Nat):Int)=nt by omega]
      rfl
     ·rw[if_neg k9,if_neg k9]
      obtain⟨rfl,rfl,rfl⟩:txns=[]/\dirty=[]/\nt=0:=by rcases c0 with e|e<;>first|exact e|omega
      rfl
theorem ContFit.id' {c:ZO}(h:ContFit c):IdFit c:=⟨h.row,λ k hk=>(h.kid k hk).id⟩
theorem headD_bk {s:Yu}{r:Rc}{l':List UInt8}(h:headD s=(r,l',0,false)):s=(recHB r++l',0,false)/\r=⟨r.kind,r.lsn,r.txn,r.prev,0,[],[],0,[],[]⟩:=by
 unfold headD hdL hdT hdP at h
 simp only[Prod.mk.injEq] at h
 obtain⟨rfl,h2⟩:=h
 generalize hs1:rdN 1 s=s1 at *
 generalize hs2:rdN 8 s1.2=s2 at *
 generalize hs3:rdN 4 s2.2=s3 at *
 generalize hs4:rdN 8 s3.2=s4 at *
 obtain⟨x4,y4⟩:=s4
 dsimp only at h2
 subst h2
 obtain⟨k4,b4⟩:=XV hs4
 obtain⟨x3,y3⟩:=s3
 dsimp only at k4
 subst k4
 obtain⟨k3,b3⟩:=XV hs3
 obtain⟨x2,y2⟩:=s2
 dsimp only at k3
 subst k3
 obtain⟨k2,b2⟩:=XV hs2
 obtain⟨x1,y1⟩:=s1
 dsimp only at k2
 subst k2
 obtain⟨k1,b1⟩:=XV hs1
 refine⟨?_,rfl⟩
 rw[k1]
 simp[recHB,tB,Wl]
theorem chD_bk {r0:Rc}{s:Yu}{r:Rc}{l':List UInt8}(h:chD r0 s=(r,l',0,false)):s=(imsB r++l',0,false)/\r={ r0 with ims:=r.ims }/\r.ims=r.ims.map Im.plain/\∀x∈r.ims,IdFit x.b/\IdFit x.a:=by
 unfold chD at h
 simp only[Prod.mk.injEq] at h
 obtain⟨rfl,h2⟩:=h
 obtain⟨g1,g2,g3⟩:=manyD_bk (f:=imD (decide (r0.kind=2))) imD_bk (s:=s) (x:=(YR (imD (decide (r0.kind=2))) s).1) (l':=l') (by rw[<-h2])
 generalize (YR (imD (decide (r0.kind=2))) s).1=xs at *
 refine⟨g1,rfl, ?_,λ x hx=>?_⟩
 ·dsimp only
  have:∀(l:List Im),(∀x∈l,x=x.plain)->l=l.map Im.plain:=by
   intro l
   induction l with
   | nil=>intro _;rfl
   | cons a r ih=>intro h;rw[List.map_cons,<-h a (by simp),<-ih (λ x hx=>h x (by simp[hx]))]
  exact this xs (λ x hx=>(g3 x hx).eq)
 ·have f:=g3 x hx
  refine⟨?_,f.a.2.id'⟩
  cases hb:decide (r0.kind=2)
  ·rw[f.z hb];exact⟨by simp,by simp⟩
  ·exact (f.b hb).2.id'
theorem neD_bk {r0:Rc}{s:Yu}{r:Rc}{l':List UInt8}(h:neD r0 s=(r,l',0,false)):s=(be 8 r.next++l',0,false)/\r={ r0 with next:=r.next }:=by
 unfold neD at h
 simp only[Prod.mk.injEq] at h
 obtain⟨rfl,h2⟩:=h
 obtain⟨g1,g2⟩:=XV (k:=8) (s:=s) (x:=(rdN 8 s).1) (l':=l') (by rw[<-h2])
 exact⟨g1,rfl⟩
theorem doD_bk {r0:Rc}{s:Yu}{r:Rc}{l':List UInt8}(h:doD r0 s=(r,l',0,false)):s=(Xt Vs r.steps++l',0,false)/\r={ r0 with steps:=r.steps }/\∀x∈r.steps,StpF x:=by
 unfold doD at h
 simp only[Prod.mk.injEq] at h
 obtain⟨rfl,h2⟩:=h
 obtain⟨g1,g2,g3⟩:=manyD_bk (f:=stpD) stpD_bk (s:=s) (x:=(YR stpD s).1) (l':=l') (by rw[<-h2])
 exact⟨g1,rfl,g3⟩
theorem cxD_bk {r0:Rc}{s:Yu}{r:Rc}{l':List UInt8}(h:cxD r0 s=(r,l',0,false)):s=(be 4 r.nextTxn.toNat++l',0,false)/\r={ r0 with nextTxn:=r.nextTxn }:=by
 unfold cxD at h
 simp only[Prod.mk.injEq] at h
 obtain⟨rfl,h2⟩:=h
 obtain⟨g1,g2⟩:=XV (k:=4) (s:=s) (x:=(rdN 4 s).1) (l':=l') (by rw[<-h2])
 exact⟨g1,rfl⟩
theorem ctD_bk {r0:Rc}{s:Yu}{r:Rc}{l':List UInt8}(h:ctD r0 s=(r,l',0,false)):s=(Xt Vu r.txns++l',0,false)/\r={ r0 with txns:=r.txns }:=by
 unfold ctD at h
 simp only[Prod.mk.injEq] at h
 obtain⟨rfl,h2⟩:=h
 obtain⟨g1,g2⟩:=manyD_bk (f:=ckTD) ckTD_bk (s:=s) (x:=(YR ckTD s).1) (l':=l') (by rw[<-h2])
 exact⟨g1,rfl⟩
theorem cdD_bk {r0:Rc}{s:Yu}{r:Rc}{l':List UInt8}(h:cdD r0 s=(r,l',0,false)):s=(Xt ckPB r.dirty++l',0,false)/\r={ r0 with dirty:=r.dirty }:=by
 unfold cdD at h
 simp only[Prod.mk.injEq] at h
 obtain⟨rfl,h2⟩:=h
 obtain⟨g1,g2⟩:=manyD_bk (f:=ckPD) ckPD_bk (s:=s) (x:=(YR ckPD s).1) (l':=l') (by rw[<-h2])
 exact⟨g1,rfl⟩
theorem pair_eq {α:Type}{p:α×Yu}{l:List UInt8}(h:p.2=(l,0,false)):p=(p.1,l,0,false):=by rw[<-h]
theorem tailD_bk {k:Int}{lsn:Nat}{txn:Int}{prev:Nat}{s:Yu}{r:Rc}{l':List UInt8}(h:tailD ⟨k,lsn,txn,prev,0,[],[],0,[],[]⟩ s=(r,l',0,false)):s=(recTB r++l',0,false)/\(r.kind=k/\r.lsn=lsn/\r.txn=txn/\r.prev=prev)/\r=r.plain/\RcF r:=by
 unfold tailD at h
 dsimp only at h
 have fin:∀r:Rc,r.ims=r.ims.map Im.plain->r=r.plain:=λ r e=>by
  obtain⟨k,lsn,txn,prev,next,ims,steps,nt,txns,dirty⟩:=r
  dsimp only[Rc.plain] at e ⊢
  rw[<-e]
 unfold recTB
 by_cases k2:k=2
 ·rw[if_pos k2] at h
  obtain⟨g1,g2,g3,g4⟩:=chD_bk h
  rw[g2];dsimp only;rw[if_pos k2]
  rw[g2] at g1 g3 g4
  exact⟨g1,⟨rfl,rfl,rfl,rfl⟩,fin _ g3,⟨g4,by simp⟩⟩
 ·rw[if_neg k2] at h
  by_cases k3:k=3
  ·rw[if_pos k3] at h
   obtain⟨g1,g2⟩:=neD_bk h
   rw[g2];dsimp only;rw[if_neg k2,if_pos k3]
   exact⟨g1,⟨rfl,rfl,rfl,rfl⟩,fin _ rfl,⟨by simp,by simp⟩⟩
  ·rw[if_neg k3] at h
   by_cases k4:k=4
   ·rw[if_pos k4] at h
    obtain⟨g1,g2,g3⟩:=doD_bk h
    obtain⟨f1,f2⟩:=neD_bk (pair_eq g1)
    rw[f2] at g2
    generalize (neD ⟨k,lsn,txn,prev,0,[],[],0,[],[]⟩ s).1=r1 at *
    rw[g2];dsimp only;rw[if_neg k2,if_neg k3,if_pos k4]
    exact⟨by rw[f1,aA],⟨rfl,rfl,rfl,rfl⟩,fin _ rfl,⟨by simp,g3⟩⟩
   ·rw[if_neg k4] at h
    by_cases k5:k=5
    ·rw[if_pos k5] at h
     obtain⟨g1,g2,g3,g4⟩:=chD_bk h
     obtain⟨f1,f2⟩:=neD_bk (pair_eq g1)
     rw[f2] at g2
     generalize (neD ⟨k,lsn,txn,prev,0,[],[],0,[],[]⟩ s).1=r1 at *
     rw[g2];dsimp only;rw[if_neg k2,if_neg k3,if_neg k4,if_pos k5]
     have e:imsB r=imsB { (⟨k,lsn,txn,prev,r1.next,[],[],0,[],[]⟩:Rc) with ims:=r.ims }:=by rw[<-g2]
     dsimp only at e
     exact⟨by rw[f1,aA,e],⟨rfl,rfl,rfl,rfl⟩,fin _ g3,⟨g4,by simp⟩⟩
    ·rw[if_neg k5] at h
     by_cases k9:k=9
     ·rw[if_pos k9] at h
      obtain⟨g1,g2⟩:=cdD_bk h
      obtain⟨f1,f2⟩:=ctD_bk (pair_eq g1)
      obtain⟨e1,e2⟩:=cxD_bk (pair_eq f1)
      generalize (thenD cxD ctD ⟨k,lsn,txn,prev,0,[],[],0,[],[]⟩ s).1=r2 at *
      generalize (cxD ⟨k,lsn,txn,prev,0,[],[],0,[],[]⟩ s).1=r1 at *
      obtain⟨n1,hn⟩:∃n:Int,r1={ (⟨k,lsn,txn,prev,0,[],[],0,[],[]⟩:Rc) with nextTxn:=n }:=⟨_,e2⟩
      subst hn
      obtain⟨t1,ht⟩:∃t,r2={ (⟨k,lsn,txn,prev,0,[],[],n1,[],[]⟩:Rc) with txns:=t }:=⟨_,f2⟩
      subst ht
      obtain⟨d1,hd⟩:∃d,r={ (⟨k,lsn,txn,prev,0,[],[],n1,t1,[]⟩:Rc) with dirty:=d }:=⟨_,g2⟩
      subst hd
      dsimp only at e1 ⊢
      rw[if_neg k2,if_neg k3,if_neg k4,if_neg k5,if_pos k9]
      exact⟨by rw[e1];simp,⟨rfl,rfl,rfl,rfl⟩,fin _ rfl,⟨by simp,by simp⟩⟩
     ·rw[if_neg k9] at h
      simp only[Prod.mk.injEq] at h
      obtain⟨rfl,rfl⟩:=h
      dsimp only;rw[if_neg k2,if_neg k3,if_neg k4,if_neg k5,if_neg k9]
      exact⟨rfl,⟨rfl,rfl,rfl,rfl⟩,fin _ rfl,⟨by simp,by simp⟩⟩
theorem dec_bk {l l':List UInt8}{r:Rc}(h:decD l=(r,l',0,false)):l=YG r++l'/\r=r.plain/\RcF r:=by
 unfold decD at h
 have hh:∃r0 s0,headD (l,0,false)=(r0,s0):=⟨_,_,rfl⟩
 obtain⟨r0,s0,e0⟩:=hh
 rw[e0] at h
 dsimp only at h
 have hr0:∃k lsn txn prev,r0=⟨k,lsn,txn,prev,0,[],[],0,[],[]⟩:=by
  unfold headD hdL hdT hdP at e0
  simp only[Prod.mk.injEq] at e0
  exact⟨_,_,_,_,e0.1.symm⟩
 obtain⟨k,lsn,txn,prev,rfl⟩:=hr0
 obtain⟨g1,⟨g2,g3,g4,g5⟩,g6,g7⟩:=tailD_bk h
 subst g1
 obtain⟨f1,f2⟩:=headD_bk e0
 simp only[Prod.mk.injEq] at f1
 refine⟨?_,g6,g7⟩
 rw[f1.1]
 unfold YG recHB
 rw[g2,g3,g4,g5]
 simp
theorem up_map {α β:Type}(g:α->β)(right:β->Bool)(by':β->Int)(l:List α):∀k,upB right by' (l.map g) k=upB (λ x=>right (g x)) (λ x=>by' (g x)) l k:=by
 intro k
 unfold upB
 rw[List.length_map]
 generalize l.length=m
 induction k with
 | zero=>simp[ZA]
 | succ k ih=>
  rw[ZA,ZA,ih]
  simp only[List.getElem?_map]
  cases l[k]? with
  | none=>rfl
  | some x=>cases l[k-1]?<;>rfl
theorem recOk_plain (r:Rc):Xh r.plain=Xh r:=by
 unfold Xh headOk askOk bareOk imsOk
 dsimp only[Rc.plain]
 simp only[List.length_map,up_map,List.map_eq_nil_iff]
 rfl
theorem dec_enc {r:Rc}(h:Xh r=true)(hf:RcF r):decOk (YG r)=true/\decR (YG r)=r.plain:=by
 have:=dec_fw h hf []
 rw[aN] at this
 have e:decOk (YG r)=true:=by
  unfold decOk
  rw[this]
  simp only[recOk_plain,h]
  rfl
 refine⟨e, ?_⟩
 unfold decR
 rw[if_pos e,this]
theorem okS_iff {s:Yu}(h:okS s=true):s.2=(0,false):=by
 obtain⟨l,st,bad⟩:=s
 unfold okS at h
 rw[aE,decide_eq_true_eq] at h
 obtain⟨h1,h2⟩:=h
 cases bad
 ·dsimp only at h2;rw[h2]
 ·cases h1
theorem enc_dec {l:List UInt8}(h:decOk l=true):Xh (decR l)=true/\YG (decR l)=l/\RcF (decR l)/\decR l=(decR l).plain/\decD l=(decR l,[],0,false):=by
 unfold decR
 rw[if_pos h]
 unfold decOk at h
 rw[aE,aE,decide_eq_true_eq] at h
 obtain⟨h1,h2,h3⟩:=h
 have e:decD l=((decD l).1,[],0,false):=by
  have g1:=okS_iff h1
  have g2:=List.eq_nil_of_length_eq_zero h2
  rw[<-g2,<-g1]
 obtain⟨k1,k2,k3⟩:=dec_bk e
 rw[aN] at k1
 exact⟨h3,k1.symm,k3,k2,e⟩
def sectsB (n:Nat):Nat:=max 1 ((n+51) / 52)
theorem rsects_spec (ρ:Hp)(n:Nat)(hn:n<=4611686018427387904):Spec prog 101 [.int .i64 n] ρ [] (λ v ρ' L'=>v=.int .i64 (sectsB n:Nat)/\ρ'=ρ/\L'=[]):=by
 refine Za func101 rfl rfl rfl λ u R=>?_
 simp only[Zc,kA]
 have e:max 1 (IntKind.i64.wrap (((n:Int)+52-1).tdiv 52))=((sectsB n:Nat):Int):=by
  rw[Int.tdiv_eq_ediv_of_nonneg (by omega),WL (by simp only[lo,hi];omega)]
  unfold sectsB;omega
 repeat' (first|refine zV ?_|intro _)
 rw[e]
 exact qE ⟨rfl,rfl,rfl⟩
theorem listB_le {α:Type}(f:α->List UInt8)(m:Nat)(l:List α)(h:∀x∈l,(f x).length<=m):(Xt f l).length<=1+l.length*m:=by
 have:=YH f m l h
 unfold Xt
 rw[aC];omega
theorem recB_le {r:Rc}(h:LayOk r):(YG r).length<=4000:=by
 have h1:(recHB r).length=21:=by simp[recHB,Zh]
 have h2:(imsB r).length<=1+r.ims.length*165:=listB_le _ 165 r.ims (λ x hx=>imB_len (h.im x hx).2.1 (h.im x hx).2.2)
 have h3:(Xt Vs r.steps).length<=1+r.steps.length*21:=listB_le _ 21 r.steps (λ x hx=>stpB_len (h.st x hx))
 have h4:(Xt Vu r.txns).length<=1+r.txns.length*29:=listB_le _ 29 r.txns (λ x hx=>Nat.le_of_eq (ckTB_len x))
 have h5:(Xt ckPB r.dirty).length<=1+r.dirty.length*9:=listB_le _ 9 r.dirty (λ x hx=>Nat.le_of_eq (ckPB_len x))
 have a1:=h.il
 have a2:=h.sl
 have a3:=h.tl
 have a4:=h.dl
 have h6:(recTB r).length<=3900:=by
  unfold recTB
  split
  ·omega
  ·split
   ·rw[Zh];omega
   ·split
    ·rw[aL,Zh];omega
    ·split
     ·rw[aL,Zh];omega
     ·split
      ·rw[aL,aL,Zh];omega
      ·simp
 unfold YG
 rw[aL];omega
theorem rencode_spec (ρ:Hp)(v:RV)(r:Rc)(h:RcIn ρ v r):Spec prog 50 [.agg ⟨recV v r⟩] ρ []
  (λ z ρ' L'=>ρ.le ρ'/\∃a n c,z=.tuple ⟨[.slice a n c,.int .i64 (if Xh r then 0 else 220)]⟩/\n<=c/\SIn ρ' Zk a n (if Xh r then YG r else [])/\L'=[]):=by
 have hck:=rcheck_spec ρ v r h
 refine Za func50 rfl rfl rfl λ u R=>?_
 simp only[Zc,kA]
 cases hok:Xh r
 ·rw[hok] at hck
  repeat' (first|(refine Zb (.func 100) ?_;refine qR rfl rfl (hck) ?_;try simp only[kA,if_false,aB])|refine zV ?_|intro _)
  exact qE ⟨Hp.le_refl _,none,0,0,rfl,aR _,SIn.nil,rfl⟩
 ·rw[hok] at hck
  have hla:=rlaid_spec ρ v r h (Vi hok)
  repeat' (first|(refine Zb (.func 100) ?_;refine qR rfl rfl (hck) ?_;try simp only[kA,if_true])|(refine Zb (.func 102) ?_;refine qC rfl rfl (hla) ?_;rintro v ρ' L' hle ⟨hle1,a,c,rfl,hc,hs,rfl⟩<;>(try simp only[kA]))|refine zV ?_|intro _)
  exact qE ⟨hle1,a,_,c,rfl,hc,hs,rfl⟩
def costN (r:Rc):Nat:=if Xh r then sectsB (YG r).length else 0
def errN (r:Rc):Int:=if Xh r then 0 else 220
theorem rcost_spec (ρ:Hp)(v:RV)(r:Rc)(h:RcIn ρ v r):Spec prog 44 [.agg ⟨recV v r⟩] ρ []
  (λ z ρ' L'=>ρ.le ρ'/\z=.tuple ⟨[.int .i64 (costN r:Nat),.int .i64 (errN r)]⟩/\L'=[]):=by
 have hck:=rcheck_spec ρ v r h
 unfold costN errN
 refine Za func44 rfl rfl rfl λ u R=>?_
 simp only[Zc,kA]
 cases hok:Xh r
 ·rw[hok] at hck
  repeat' (first|(refine Zb (.func 100) ?_;refine qR rfl rfl (hck) ?_;try simp only[kA,if_false,aB])|refine zV ?_|intro _)
  exact qE ⟨Hp.le_refl _,rfl,rfl⟩
 ·rw[hok] at hck
  have hla:=rlaid_spec ρ v r h (Vi hok)
  have hb:=recB_le (Vi hok)
  repeat' (first|(refine Zb (.func 100) ?_;refine qR rfl rfl (hck) ?_;try simp only[kA,if_true])|(refine Zb (.func 102) ?_;refine qC rfl rfl (hla) ?_;rintro v ρ' L' hle ⟨hle1,a,c,rfl,hc,hs,rfl⟩<;>(try simp only[kA]))|(refine Zb (.func 101) ?_;refine qR rfl rfl (rsects_spec _ _ (by omega)) ?_;try simp only[kA])|refine zV ?_|intro _)
  exact qE ⟨hle1,rfl,rfl⟩
end Go.Proofs.E
namespace Go.Proofs.E
open Go Tryz
set_option maxRecDepth 4000
set_option maxHeartbeats 1000000
attribute [local irreducible] Yl TL TC TE Spec YW R1 Hp.le EnvLe TS TR YS Zv TP QP
abbrev Blk:=List UInt8
abbrev Xo:=List (Blk×Option Blk)
def Xb (s:Xo):List Value:=(s.map λ p=>p.1.map Zk).flatten
structure SecsOk (s:Xo):Prop where
 len:s.length<=2048
 pos:0<s.length
 held:∀p∈s,p.1.length=64
 cached:∀p∈s,∀c,p.2=some c->c.length=64
def bv (b:Blk):Value:=.agg ⟨b.map Zk⟩
structure MapOk (s:Xo)(es:List MapEntry):Prop where
 keys:ZP .i64 es
 get:∀j:Int,Ym es j=if 0<=j then ((s[j.toNat]?).bind (·.2)).map bv else none
structure HB where
 b:Nat
 cap:Nat
 sp:List Value
def dO (hb:HB)(mb n:Nat)(ops armed failing:Int)(dead:Bool):Obj:=.cells ⟨[.slice (some ⟨hb.b,0,none⟩) n hb.cap,.map (some mb),.int .i64 ops,.int .i64 armed,.int .i64 failing,.bool dead]⟩ 99 (0,0)
set_option maxHeartbeats 400000 in
set_option maxHeartbeats 400000 in
theorem lives_dead (ρ:Hp)(b:Nat)(hb:HB)(mb n:Nat)(ops armed failing:Int):Spec prog 57 [.pointer (some ⟨b,0,none⟩)] ρ [[(b,dO hb mb n ops armed failing true)]] (λ v ρ' L'=>v=.int .i64 9/\ρ'=ρ/\L'=[[(b,dO hb mb n ops armed failing true)]]):=by
 refine Za func57 rfl rfl rfl λ u R=>?_
 simp only[Zc,kA,dO]
 repeat' (first|refine zW ?_|intro _)
 exact te_end rfl rfl rfl (by exact res1 rfl (ZZ rfl)) (Hp.le_refl _) (by infer_instance) (by infer_instance) ⟨rfl,rfl,rfl⟩
set_option maxHeartbeats 400000 in
theorem lives_ok (ρ:Hp)(b:Nat)(hb:HB)(mb n:Nat)(ops armed failing:Int):Spec prog 57 [.pointer (some ⟨b,0,none⟩)] ρ [[(b,dO hb mb n ops armed failing false)]] (λ v ρ' L'=>v=.int .i64 0/\ρ'=ρ/\L'=[[(b,dO hb mb n ops armed failing false)]]):=by
 refine Za func57 rfl rfl rfl λ u R=>?_
 simp only[Zc,kA,dO]
 repeat' (first|refine zW ?_|intro _)
 exact te_end rfl rfl rfl (by exact res1 rfl (ZZ rfl)) (Hp.le_refl _) (by infer_instance) (by infer_instance) ⟨rfl,rfl,rfl⟩
theorem counts_dO4 (ρ:Hp)(b:Nat)(hb:HB)(mb n:Nat)(ops armed failing:Int)(dead:Bool)(h1:-1<=failing)(h2:failing<=9223372036854775807) :
  Spec prog 219 [.pointer (some ⟨b,4,none⟩)] ρ [[(b,dO hb mb n ops armed failing dead)]] (λ v ρ' L'=>v=.bool (failing == 0)/\ρ'=ρ/\L'=[[(b,dO hb mb n ops armed (max (failing-1) (-1)) dead)]]):=by
 refine Za func219 rfl rfl rfl λ u R=>?_
 simp only[Zc,kA,dO]
 repeat' (first|refine zW ?_|intro _)
 exact qE ⟨rfl,rfl,rfl⟩
theorem counts_dO3 (ρ:Hp)(b:Nat)(hb:HB)(mb n:Nat)(ops armed failing:Int)(dead:Bool)(h1:-1<=armed)(h2:armed<=9223372036854775807) :
  Spec prog 219 [.pointer (some ⟨b,3,none⟩)] ρ [[(b,dO hb mb n ops armed failing dead)]] (λ v ρ' L'=>v=.bool (armed == 0)/\ρ'=ρ/\L'=[[(b,dO hb mb n ops (max (armed-1) (-1)) failing dead)]]):=by
 refine Za func219 rfl rfl rfl λ u R=>?_
 simp only[Zc,kA,dO]
 repeat' (first|refine zW ?_|intro _)
 exact qE ⟨rfl,rfl,rfl⟩
theorem does_dead (ρ:Hp)(b:Nat)(hb:HB)(mb n:Nat)(ops armed failing i:Int)(d l:Value):Spec prog 154 [.pointer (some ⟨b,0,none⟩),.int .i64 i,d,l] ρ [[(b,dO hb mb n ops armed failing true)]]
  (λ v ρ' L'=>v=.int .i64 9/\ρ'=ρ/\L'=[[(b,dO hb mb n ops armed failing true)]]):=by
 refine Za func154 rfl rfl rfl λ u R=>?_
 simp only[Zc,kA]
 repeat' (first|(refine Zb (.func 57) ?_;refine qR rfl rfl (lives_dead _ _ _ _ _ _ _ _) ?_;try simp only[kA])|refine zW ?_|intro _)
 exact qE ⟨rfl,rfl,rfl⟩
theorem does_arg (ρ:Hp)(b:Nat)(hb:HB)(mb n:Nat)(ops armed failing i:Int)(d l:Value)(hi:i<0\/(n:Int)<=i):Spec prog 154 [.pointer (some ⟨b,0,none⟩),.int .i64 i,d,l] ρ [[(b,dO hb mb n ops armed failing false)]]
  (λ v ρ' L'=>v=.int .i64 2/\ρ'=ρ/\L'=[[(b,dO hb mb n ops armed failing false)]]):=by
 refine Za func154 rfl rfl rfl λ u R=>?_
 simp only[Zc,kA]
 by_cases h0:i<0
 ·repeat' (first|(refine Zb (.func 57) ?_;refine qR rfl rfl (lives_ok _ _ _ _ _ _ _ _) ?_;try simp only[kA,dO])|refine zW ?_|intro _)
  exact qE ⟨rfl,rfl,rfl⟩
 ·repeat' (first|(refine Zb (.func 57) ?_;refine qR rfl rfl (lives_ok _ _ _ _ _ _ _ _) ?_;try simp only[kA,dO])|refine zW ?_|intro _)
  exact qE ⟨rfl,rfl,rfl⟩
theorem does_ok_r (ρ:Hp)(b:Nat)(hb:HB)(mb n:Nat)(ops armed failing i:Int)(kd:Nat)(cd:List Value)(X:SH)(Post:Value->Hp->SH->Prop)(h0:0<=i)(h1:i<n)(hf:failing≠0)(hf1:-1<=failing)(hf2:failing<=9223372036854775807)[hF:Zz prog kd]
  (hd:Spec prog kd cd ρ ([(b,dO hb mb n (IntKind.i64.wrap (ops+1)) armed (max (failing-1) (-1)) false)]::X) Post) :
  Spec prog 154 [.pointer (some ⟨b,0,none⟩),.int .i64 i,.func (.func kd) ⟨[]⟩ ⟨cd⟩,.nilFunc] ρ ([(b,dO hb mb n ops armed failing false)]::X) (λ v ρ' L'=>v=.int .i64 0/\∃v0,Post v0 ρ' L'):=by
 refine Za func154 rfl rfl rfl λ u R=>?_
 simp only[Zc,kA]
 repeat' (first|(refine Zb (.func 57) ?_;refine qC rfl rfl (lives_ok _ _ _ _ _ _ _ _) ?_;rintro v ρ' L' hle ⟨rfl,rfl,rfl⟩<;>(try simp only[kA,dO]))|refine zW ?_|intro _)
 have hfb:(failing == 0)=false:=by simpa using hf
 refine Yt [0,1,2,4,5] (.e 3 [] (.f [6,7,8,9,10,11,12,13,14] .o)) ([]) ?_
 repeat' (refine iT ?_;first|refine rA ?_|(refine rE ?_<;>(refine Zb (.func 219) ?_;refine qC rfl rfl (counts_dO4 _ _ _ _ _ _ _ _ _ hf1 hf2) ?_;rintro v ρ' L' hle ⟨rfl,rfl,rfl⟩<;>(try simp only[kA,dO,hfb]))<;>(try simp only[kA])<;>refine zN ?_))
 unfold dO at hd
 repeat' (first|(refine Zb (.tmp 65) ?_;refine tl_call rfl rfl hd tk rfl ?_;rintro v ρ' L' hle hp)|refine zW ?_|intro _)
 exact qE ⟨rfl,_,hp⟩
theorem does_ok_w (ρ:Hp)(b:Nat)(hb:HB)(mb n:Nat)(ops armed failing i:Int)(kd kl:Nat)(cd cl:List Value)(X:SH)(Post:Value->Hp->SH->Prop)(h0:0<=i)(h1:i<n)(hf:failing≠0)(hf1:-1<=failing)(hf2:failing<=9223372036854775807)
  (ha:armed≠0) (ha1:-1<=armed) (ha2:armed<=9223372036854775807) [hF:Zz prog kd]
  (hd:Spec prog kd cd ρ ([(b,dO hb mb n (IntKind.i64.wrap (ops+1)) (max (armed-1) (-1)) (max (failing-1) (-1)) false)]::X) Post) :
  Spec prog 154 [.pointer (some ⟨b,0,none⟩),.int .i64 i,.func (.func kd) ⟨[]⟩ ⟨cd⟩,.func (.func kl) ⟨[]⟩ ⟨cl⟩] ρ ([(b,dO hb mb n ops armed failing false)]::X) (λ v ρ' L'=>v=.int .i64 0/\∃v0,Post v0 ρ' L'):=by
 refine Za func154 rfl rfl rfl λ u R=>?_
 simp only[Zc,kA]
 repeat' (first|(refine Zb (.func 57) ?_;refine qC rfl rfl (lives_ok _ _ _ _ _ _ _ _) ?_;rintro v ρ' L' hle ⟨rfl,rfl,rfl⟩<;>(try simp only[kA,dO]))|refine zW ?_|intro _)
 have hfb:(failing == 0)=false:=by simpa using hf
 refine Yt [0,1,2,4,5] (.e 3 [] (.f [6,7,8,9,10,11,12,13,14] .o)) ([]) ?_
 repeat' (refine iT ?_;first|refine rA ?_|(refine rE ?_<;>(refine Zb (.func 219) ?_;refine qC rfl rfl (counts_dO4 _ _ _ _ _ _ _ _ _ hf1 hf2) ?_;rintro v ρ' L' hle ⟨rfl,rfl,rfl⟩<;>(try simp only[kA,dO,hfb]))<;>(try simp only[kA])<;>refine zN ?_))
 unfold dO at hd
 repeat' (first|(refine Zb (.func 219) ?_;refine qC rfl rfl (counts_dO3 _ _ _ _ _ _ _ _ _ ha1 ha2) ?_;rintro v ρ' L' hle ⟨rfl,rfl,rfl⟩<;>(try simp only[kA,dO]))|(refine Zb (.tmp 65) ?_;refine tl_call rfl rfl hd tk rfl ?_;rintro v ρ' L' hle hp)|refine zW ?_|intro _)
 exact qE ⟨rfl,_,hp⟩
theorem does_fail_r (ρ:Hp)(b:Nat)(hb:HB)(mb n:Nat)(ops armed i:Int)(d:Value)(h0:0<=i)(h1:i<n) :
  Spec prog 154 [.pointer (some ⟨b,0,none⟩),.int .i64 i,d,.nilFunc] ρ [[(b,dO hb mb n ops armed 0 false)]] (λ v ρ' L'=>v=.int .i64 8/\ρ'=ρ/\L'=[[(b,dO hb mb n (IntKind.i64.wrap (ops+1)) armed (-1) false)]]):=by
 refine Za func154 rfl rfl rfl λ u R=>?_
 simp only[Zc,kA]
 repeat' (first|(refine Zb (.func 57) ?_;refine qR rfl rfl (lives_ok _ _ _ _ _ _ _ _) ?_;try simp only[kA,dO])|refine zW ?_|intro _)
 refine Yt [0,1,2,4,5] (.e 3 [] (.f [6,7,8,9,10,11,12,13,14] .o)) ([]) ?_
 repeat' (refine iT ?_;first|refine rA ?_|(refine rE ?_<;>(refine Zb (.func 219) ?_;refine qR rfl rfl (counts_dO4 _ _ _ _ _ _ _ 0 _ (by decide) (by decide)) ?_;try simp only[kA,dO])<;>(try simp only[kA])<;>refine zN ?_))
 repeat' (first|refine zW ?_|intro _)
 exact qE ⟨rfl,rfl,rfl⟩
theorem does_fail_w (ρ:Hp)(b:Nat)(hb:HB)(mb n:Nat)(ops armed i:Int)(d:Value)(kl:Nat)(cl:List Value)(h0:0<=i)(h1:i<n)(ha:armed≠0) :
  Spec prog 154 [.pointer (some ⟨b,0,none⟩),.int .i64 i,d,.func (.func kl) ⟨[]⟩ ⟨cl⟩] ρ [[(b,dO hb mb n ops armed 0 false)]] (λ v ρ' L'=>v=.int .i64 8/\ρ'=ρ/\L'=[[(b,dO hb mb n (IntKind.i64.wrap (ops+1)) armed (-1) false)]]):=by
 refine Za func154 rfl rfl rfl λ u R=>?_
 simp only[Zc,kA]
 repeat' (first|(refine Zb (.func 57) ?_;refine qR rfl rfl (lives_ok _ _ _ _ _ _ _ _) ?_;try simp only[kA,dO])|refine zW ?_|intro _)
 refine Yt [0,1,2,4,5] (.e 3 [] (.f [6,7,8,9,10,11,12,13,14] .o)) ([]) ?_
 repeat' (refine iT ?_;first|refine rA ?_|(refine rE ?_<;>(refine Zb (.func 219) ?_;refine qR rfl rfl (counts_dO4 _ _ _ _ _ _ _ 0 _ (by decide) (by decide)) ?_;try simp only[kA,dO])<;>(try simp only[kA])<;>refine zN ?_))
 repeat' (first|refine zW ?_|intro _)
 exact qE ⟨rfl,rfl,rfl⟩
theorem does_dies (ρ:Hp)(b:Nat)(hb:HB)(mb n:Nat)(ops failing i:Int)(d:Value)(kl:Nat)(cl:List Value)(X:SH)(Post:Value->Hp->SH->Prop)(h0:0<=i)(h1:i<n)(hf1:-1<=failing)(hf2:failing<=9223372036854775807)[hF:Zz prog kl]
  (hd:Spec prog kl cl ρ ([(b,dO hb mb n (IntKind.i64.wrap (ops+1)) 0 (max (failing-1) (-1)) true)]::X) Post) :
  Spec prog 154 [.pointer (some ⟨b,0,none⟩),.int .i64 i,d,.func (.func kl) ⟨[]⟩ ⟨cl⟩] ρ ([(b,dO hb mb n ops 0 failing false)]::X) (λ v ρ' L'=>v=.int .i64 9/\∃v0,Post v0 ρ' L'):=by
 refine Za func154 rfl rfl rfl λ u R=>?_
 simp only[Zc,kA]
 repeat' (first|(refine Zb (.func 57) ?_;refine qC rfl rfl (lives_ok _ _ _ _ _ _ _ _) ?_;rintro v ρ' L' hle ⟨rfl,rfl,rfl⟩<;>(try simp only[kA,dO]))|refine zW ?_|intro _)
 refine Yt [0,1,2,4,5] (.e 3 [] (.f [6,7,8,9,10,11,12,13,14] .o)) ([]) ?_
 repeat' (refine iT ?_;first|refine rA ?_|(refine rE ?_<;>(refine Zb (.func 219) ?_;refine qC rfl rfl (counts_dO4 _ _ _ _ _ _ _ _ _ hf1 hf2) ?_;rintro v ρ' L' hle ⟨rfl,rfl,rfl⟩<;>(try simp only[kA,dO]))<;>(try simp only[kA])<;>refine zN ?_))
 unfold dO at hd
 repeat' (first|(refine Zb (.tmp 55) ?_;refine tl_call rfl rfl hd tk rfl ?_;rintro v ρ' L' hle hp)|refine zW ?_|intro _)
 exact qE ⟨rfl,_,hp⟩
end Go.Proofs.E
namespace Go.Proofs.E
open Go Tryz
set_option maxRecDepth 4000
set_option maxHeartbeats 1000000
attribute [local irreducible] Yl TL TC TE Spec YW R1 Hp.le EnvLe TS TR YS Zv TP QP
theorem heldC_length {s:Xo}(h:∀p∈s,p.1.length=64):(Xb s).length=s.length*64:=by
 induction s with
 | nil=>rfl
 | cons p r ih=>
  have h1:=h p (by simp)
  have h2:=ih (λ q hq=>h q (by simp[hq]))
  simp only[Xb,List.map_cons,aF,aL,List.length_map,aC] at *
  omega
theorem heldC_take:∀{s:Xo} {i:Nat} (h:∀p∈s,p.1.length=64) (hi:i<s.length),((Xb s).drop (i*64)).take 64=(s[i].1).map Zk
 | [],i,h,hi=>by simp at hi
 | p::r,0,h,hi=>by
  have h1:=h p (by simp)
  simp only[Xb,List.map_cons,aF,Nat.zero_mul,List.drop_zero,List.getElem_cons_zero]
  rw[List.take_append_of_le_length (by simp[h1]),aT (by simp[h1])]
 | p::r,i+1,h,hi=>by
  have h1:=h p (by simp)
  have ih:=heldC_take (s:=r) (i:=i) (λ q hq=>h q (by simp[hq])) (by simpa using hi)
  simp only[Xb,List.map_cons,aF,List.getElem_cons_succ] at ih ⊢
  have e:(i+1)*64=(p.1.map Zk).length+i*64:=by simp[h1];omega
  rw[e,<-List.drop_drop,List.drop_left]
  exact ih
theorem stc_heldC:∀{s:Xo} {i:Nat} {b:Blk} (x:Option Blk) (h:∀p∈s,p.1.length=64) (hb:b.length=64) (hi:i<s.length),stc (Xb s) (i*64) (b.map Zk)=Xb (s.set i (b,x))
 | [],i,b,x,h,hb,hi=>by simp at hi
 | p::r,0,b,x,h,hb,hi=>by
  have h1:=h p (by simp)
  simp only[stc,Xb,List.map_cons,aF,Nat.zero_mul,List.take_zero,List.nil_append,Nat.zero_add,List.set_cons_zero]
  congr 1
  have e:(b.map Zk).length=(p.1.map Zk).length:=by simp[hb,h1]
  rw[e,List.drop_left]
 | p::r,i+1,b,x,h,hb,hi=>by
  have h1:=h p (by simp)
  have ih:=stc_heldC (s:=r) (i:=i) (b:=b) x (λ q hq=>h q (by simp[hq])) hb (by simpa using hi)
  simp only[stc,Xb,List.map_cons,aF,List.set_cons_succ] at ih ⊢
  have e:(i+1)*64=(p.1.map Zk).length+i*64:=by simp[h1];omega
  rw[e,List.take_length_add_append,Nat.add_assoc,<-List.drop_drop,List.drop_left,<-ih]
  simp
theorem heldC_take' {s:Xo}{i:Nat}(sp:List Value)(h:∀p∈s,p.1.length=64)(hi:i<s.length):((Xb s++sp).drop (i*64)).take 64=(s[i].1).map Zk:=by
 have hl:=heldC_length h
 rw[List.drop_append_of_le_length (by omega),List.take_append_of_le_length (by simp;omega)]
 exact heldC_take h hi
theorem stc_heldC' {s:Xo}{i:Nat}{b:Blk}(sp:List Value)(x:Option Blk)(h:∀p∈s,p.1.length=64)(hb:b.length=64)(hi:i<s.length):stc (Xb s++sp) (i*64) (b.map Zk)=Xb (s.set i (b,x))++sp:=by
 have hl:=heldC_length h
 rw[<-stc_heldC x h hb hi]
 unfold stc
 rw[List.take_append_of_le_length (by omega),List.drop_append_of_le_length (by simp;omega)]
 simp
theorem heldC_length' {s:Xo}(sp:List Value)(h:∀p∈s,p.1.length=64):(Xb s++sp).length=s.length*64+sp.length:=by
 rw[aL,heldC_length h]
def putC (s:Xo)(i:Nat)(b:Blk):Xo:=s.set i ((s[i]?.getD ([],none)).1,some b)
theorem Xq {s:Xo}{i b}:(putC s i b).length=s.length:=by simp[putC]
theorem heldC_putC {s:Xo}{i:Nat}{b:Blk}(hi:i<s.length):Xb (putC s i b)=Xb s:=by
 unfold Xb putC
 rw[List.map_set]
 congr 1
 apply List.ext_getElem? ;intro j
 rw[List.getElem?_set]
 by_cases e:i=j
 ·subst e;simp[hi]
 ·simp[e]
theorem SecsOk.putC {s:Xo}{i:Nat}{b:Blk}(h:SecsOk s)(hb:b.length=64)(hi:i<s.length):SecsOk (putC s i b):=by
 have hm:∀p∈E.putC s i b,p∈s\/p=(s[i].1,some b):=λ p hp=>by
  unfold E.putC at hp
  rcases List.mem_or_eq_of_mem_set hp with h1|h1
  ·exact .inl h1
  ·right;rw[h1];simp[hi]
 refine⟨by rw[Xq];exact h.len,by rw[Xq];exact h.pos,λ p hp=>?_,λ p hp c hc=>?_⟩
 ·rcases hm p hp with h1|rfl
  ·exact h.held p h1
  ·exact h.held s[i] (aM hi)
 ·rcases hm p hp with h1|rfl
  ·exact h.cached p h1 c hc
  ·simp only[Option.some.injEq] at hc;subst hc;exact hb
theorem MapOk.put {s:Xo}{es es':List MapEntry}{i:Int}{b:Blk}(h:MapOk s es)(h0:0<=i)(hi:i<s.length)(hk:ZP .i64 es')(hg:∀j,Ym es' j=if j=i then some (bv b) else Ym es j):MapOk (putC s i.toNat b) es':=by
 refine⟨hk,λ j=>?_⟩
 rw[hg]
 by_cases e:j=i
 ·subst e
  have:j.toNat<s.length:=by omega
  simp[putC,h0,this]
 ·rw[if_neg e,h.get]
  by_cases h1:0<=j
  ·have hne:i.toNat≠j.toNat:=by omega
   simp only[h1,if_true,putC]
   rw[List.getElem?_set_ne hne]
  ·simp[h1]
def says1 (p:Blk×Option Blk):Blk:=p.2.getD p.1
theorem MapOk.at {s:Xo}{es:List MapEntry}(h:MapOk s es){i:Nat}(hi:i<s.length):Ym es i=(s[i].2).map bv:=by
 rw[h.get];simp[hi]
def YC (s:Xo):Prop:=∀p∈s,p.2=none
theorem MapOk.empty {s:Xo}(h:YC s):MapOk s []:=by
 refine⟨λ e he=>by simp at he,λ j=>?_⟩
 by_cases h1:0<=j
 ·simp only[h1,if_true,Ym,List.find?_nil,Option.map_none]
  cases hs:s[j.toNat]? with
  | none=>simp
  | some p=>simp[h p (List.mem_of_getElem? hs)]
 ·simp[Ym,h1]
structure DS where
 secs:Xo
 ops:Int
 armed:Int
 failing:Int
 dead:Bool
structure DS.Ok (D:DS):Prop where
 secs:SecsOk D.secs
 a1:-1<=D.armed
 a2:D.armed<=9223372036854775807
 f1:-1<=D.failing
 f2:D.failing<=9223372036854775807
def Xx (b:Nat)(hb:HB)(mb:Nat)(es:List MapEntry)(ck:Nat)(D:DS):SH:=[[(b,dO hb mb D.secs.length D.ops D.armed D.failing D.dead)],[(hb.b,.cells ⟨Xb D.secs++hb.sp⟩ 105 (0,0))],[(mb,.map ⟨es⟩ ck)]]
def cnt (n:Int):Int:=max (n-1) (-1)
def DS.tick (D:DS):DS:={ D with ops:=IntKind.i64.wrap (D.ops+1),failing:=cnt D.failing }
theorem write1 (ρ:Hp)(b:Nat)(hb:HB)(mb xb pb ib n:Nat)(ops armed failing i:Int)(dead:Bool)(es:List MapEntry)(ck:Nat)(blk:Blk)(hb64:blk.length=64)(hk:ZP .i64 es) :
  Spec prog 153 [.pointer (some ⟨xb,0,none⟩),.pointer (some ⟨pb,0,none⟩),.pointer (some ⟨ib,0,none⟩)] ρ
   [[(b,dO hb mb n ops armed failing dead)],[(mb,.map ⟨es⟩ ck)],[(xb,.cells ⟨blk.map Zk⟩ 105 (0,0))],[(pb,.cells ⟨[.pointer (some ⟨b,0,none⟩)]⟩ 24 (0,0))],[(ib,.cells ⟨[.int .i64 i]⟩ 3 (0,0))]]
   (λ v ρ' L'=>v=.tuple ⟨[]⟩/\ρ'=ρ/\∃es' ck',ZP .i64 es'/\(∀j,Ym es' j=if j=i then some (bv blk) else Ym es j) /\
    L'=[[(b,dO hb mb n ops armed failing dead)],[(mb,.map ⟨es'⟩ ck')],[(xb,.cells ⟨blk.map Zk⟩ 105 (0,0))],[(pb,.cells ⟨[.pointer (some ⟨b,0,none⟩)]⟩ 24 (0,0))],[(ib,.cells ⟨[.int .i64 i]⟩ 3 (0,0))]]):=by
 refine Za func153 rfl rfl rfl λ u R=>?_
 simp only[Zc,kA,dO]
 have hl:(blk.map Zk).length=64:=by simpa using hb64
 repeat' (first|refine zW ?_|intro _)
 refine tc_draw 6 (by decide +kernel) (by decide +kernel) ?_
 repeat' (first|(refine jLd ?_;refine sLd ?_)|(refine jFa ?_;refine sFa ?_)|(refine jNc ?_;refine sNc ?_)|(refine j_gd ?_;first|refine sWant ?_|refine sSkip ?_|refine sSkipU ?_))
 all_goals refine ts_nil ?_
 refine YQ rfl rfl rfl hk (λ es' ck' h1 h2=>?_)
 repeat' (first|refine zW ?_|intro _)
 exact qE ⟨rfl,rfl,es',ck',h1,h2,rfl⟩
def DS.write (D:DS)(i:Int)(blk:Blk):DS×Int:=
 if D.dead then (D,9) else if i<0\/(D.secs.length:Int)<=i then (D,2)
 else if D.armed=0 then ({ D.tick with dead:=true,secs:=putC D.secs i.toNat blk },9)
 else if D.failing=0 then (D.tick,8)
 else ({ D.tick with armed:=cnt D.armed,secs:=putC D.secs i.toNat blk },0)
theorem dwrite_spec (ρ:Hp)(b:Nat)(hb:HB)(mb:Nat)(es:List MapEntry)(ck:Nat)(D:DS)(i:Int)(blk:Blk)(hb64:blk.length=64)(hD:D.Ok)(hm:MapOk D.secs es) :
  Spec prog 95 [.pointer (some ⟨b,0,none⟩),.int .i64 i,bv blk] ρ (Xx b hb mb es ck D)
   (λ v ρ' L'=>v=.int .i64 (D.write i blk).2/\ρ'=ρ/\∃es' ck',MapOk (D.write i blk).1.secs es'/\L'=Xx b hb mb es' ck' (D.write i blk).1):=by
 obtain⟨s,ops,armed,failing,dead⟩:=D
 obtain⟨hs,a1,a2,f1,f2⟩:=hD
 dsimp only at hs a1 a2 f1 f2 hm
 have hl:(blk.map Zk).length=64:=by simpa using hb64
 have hk:=hm.keys
 cases dead with
 | true=>
  have he:DS.write ⟨s,ops,armed,failing,true⟩ i blk=(⟨s,ops,armed,failing,true⟩,9):=by simp[DS.write]
  simp only[he]
  refine Za func95 rfl rfl rfl λ u R=>?_
  simp only[Zc,kA,Xx,bv]
  repeat' (first|(refine Zb (.func 154) ?_;refine qR rfl rfl (does_dead _ _ _ _ _ _ _ _ _ _ _) ?_;try simp only[kA])|refine zW ?_|intro _)
  exact qE ⟨rfl,rfl,es,ck,hm,rfl⟩
 | false=>
  by_cases hi:i<0\/(s.length:Int)<=i
  ·have he:DS.write ⟨s,ops,armed,failing,false⟩ i blk=(⟨s,ops,armed,failing,false⟩,2):=by simp[DS.write,hi]
   simp only[he]
   refine Za func95 rfl rfl rfl λ u R=>?_
   simp only[Zc,kA,Xx,bv]
   repeat' (first|(refine Zb (.func 154) ?_;refine qR rfl rfl (does_arg _ _ _ _ _ _ _ _ _ _ _ hi) ?_;try simp only[kA])|refine zW ?_|intro _)
   exact qE ⟨rfl,rfl,es,ck,hm,rfl⟩
  ·have hi0:0<=i:=by omega
   have hi1:i<s.length:=by omega
   have hlen:(putC s i.toNat blk).length=s.length:=Xq
   have hheld:Xb (putC s i.toNat blk)=Xb s:=heldC_putC (by omega)
   by_cases ha:armed=0
   ·subst ha
    have he:DS.write ⟨s,ops,0,failing,false⟩ i blk=(⟨putC s i.toNat blk,IntKind.i64.wrap (ops+1),0,cnt failing,true⟩,9):=by simp[DS.write,hi,DS.tick]
    simp only[he]
    refine Za func95 rfl rfl rfl λ u R=>?_
    simp only[Zc,kA,Xx,bv,hlen,hheld]
    repeat' (first|(refine Zb (.func 154) ?_;refine qC rfl rfl (does_dies _ _ _ _ _ _ _ _ _ _ _ _ _ hi0 hi1 f1 f2 (write1 _ _ _ _ _ _ _ _ _ _ _ _ _ _ _ blk hb64 hk)) ?_;rintro v ρ' L' hle ⟨rfl,v0,h0,rfl,es',ck',h1,h2,rfl⟩<;>(try simp only[kA]))|refine zW ?_|intro _)
    exact qE ⟨rfl,rfl,es',ck',hm.put hi0 hi1 h1 h2,rfl⟩
   ·by_cases hf:failing=0
    ·subst hf
     have he:DS.write ⟨s,ops,armed,0,false⟩ i blk=(⟨s,IntKind.i64.wrap (ops+1),armed,-1,false⟩,8):=by simp[DS.write,hi,DS.tick,ha,cnt]
     simp only[he]
     refine Za func95 rfl rfl rfl λ u R=>?_
     simp only[Zc,kA,Xx,bv]
     repeat' (first|(refine Zb (.func 154) ?_;refine qR rfl rfl (does_fail_w _ _ _ _ _ _ _ _ _ _ _ hi0 hi1 ha) ?_;try simp only[kA])|refine zW ?_|intro _)
     exact qE ⟨rfl,rfl,es,ck,hm,rfl⟩
    ·have he:DS.write ⟨s,ops,armed,failing,false⟩ i blk=(⟨putC s i.toNat blk,IntKind.i64.wrap (ops+1),cnt armed,cnt failing,false⟩,0):=by simp[DS.write,hi,DS.tick,ha,hf]
     simp only[he]
     refine Za func95 rfl rfl rfl λ u R=>?_
     simp only[Zc,kA,Xx,bv,hlen,hheld]
     repeat' (first|(refine Zb (.func 154) ?_;refine qC rfl rfl (does_ok_w _ _ _ _ _ _ _ _ _ _ _ _ _ _ _ hi0 hi1 hf f1 f2 ha a1 a2 (write1 _ _ _ _ _ _ _ _ _ _ _ _ _ _ _ blk hb64 hk)) ?_;rintro v ρ' L' hle ⟨rfl,v0,h0,rfl,es',ck',h1,h2,rfl⟩<;>(try simp only[kA]))|refine zW ?_|intro _)
     exact qE ⟨rfl,rfl,es',ck',hm.put hi0 hi1 h1 h2,rfl⟩
end Go.Proofs.E
