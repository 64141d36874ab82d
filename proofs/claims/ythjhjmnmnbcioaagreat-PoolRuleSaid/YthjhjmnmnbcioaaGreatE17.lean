/- Laws of PoolRule. Part 17 of 26. -/
import Derived.Test.YthjhjmnmnbcioaaGreatE16
set_option linter.unusedVariables false
set_option linter.unusedSimpArgs false
set_option linter.unusedSectionVars false
namespace Go.Proofs.E
open Go Tryz
set_option maxRecDepth 4000
set_option maxHeartbeats 1000000
attribute [local irreducible] Yl TL TC TE Spec YW R1 Hp.le EnvLe TS TR YS Zv TP QP
def MR (P:List MH)(pv:PV):Prop:=∀n,n<64->pv (n:Nat)=if (P.getD n zMH).is then some ((P.getD n zMH).c,(P.getD n zMH).lsn,(P.getD n zMH).rc) else none
def QH (Q:List MH)(held:Nat->ZS):Prop:=∀n,n<64->held n=((Q.getD n zMH).c,(Q.getD n zMH).lsn)
theorem getD_set {P:List MH}{n m:Nat}{y:MH}(hn:n<P.length):(P.set n y).getD m zMH=if m=n then y else P.getD m zMH:=by
 rw[List.getD_eq_getElem?_getD,List.getD_eq_getElem?_getD,List.getElem?_set]
 by_cases h:m=n
 ·subst h;simp[hn]
 ·rw[if_neg (λ e=>h e.symm),if_neg h]
theorem MR.set {P:List MH}{pv:PV}(h:MR P pv)(hl:P.length=64){n:Nat}(hn:n<64){y:MH}(hy:y.is=true):MR (P.set n y) (VC pv (n:Nat) (y.c,y.lsn,y.rc)):=λ m hm=>by
 rw[getD_set (by omega)]
 unfold VC
 by_cases e:m=n
 ·subst e;simp[hy]
 ·rw[if_neg (by omega),if_neg e];exact h m hm
theorem MR.del {P:List MH}{pv:PV}(h:MR P pv)(hl:P.length=64){n:Nat}(hn:n<64):MR (P.set n zMH) (λ k=>if k=(n:Int) then none else pv k):=λ m hm=>by
 rw[getD_set (by omega)]
 by_cases e:m=n
 ·subst e;simp[zMH]
 ·dsimp only;rw[if_neg (by omega),if_neg e];exact h m hm
theorem QH.set {Q:List MH}{held:Nat->ZS}(h:QH Q held)(hl:Q.length=64){n:Nat}(hn:n<64){y:MH}:QH (Q.set n y) (upd held n (y.c,y.lsn)):=λ m hm=>by
 rw[getD_set (by omega)]
 unfold upd
 by_cases e:m=n
 ·subst e;simp
 ·rw[if_neg e,if_neg e];exact h m hm
theorem MR.seen {P Q:List MH}{pv:PV}{held:Nat->ZS}(h:MR P pv)(hq:QH Q held){n:Nat}(hn:n<64):Yx held pv (n:Nat)=if (P.getD n zMH).is then ((P.getD n zMH).c,(P.getD n zMH).lsn,(P.getD n zMH).rc) else ((Q.getD n zMH).c,(Q.getD n zMH).lsn,0):=by
 unfold Yx
 rw[h n hn,Int.toNat_natCast,hq n hn]
 split<;>rfl
theorem MR.hold {P Q:List MH}{pv:PV}{held:Nat->ZS}(h:MR P pv)(hq:QH Q held)(hl:P.length=64){n:Nat}(hn:n<64):MR (holdM P Q n) (Wd held pv (n:Nat)):=by
 unfold holdM Wd
 rw[h.seen hq hn]
 by_cases hi:(P.getD n zMH).is=true
 ·rw[if_pos hi,if_pos hi]
  intro m hm
  unfold VC
  by_cases e:m=n
  ·subst e;rw[if_pos rfl,if_pos hi]
  ·rw[if_neg (by omega)];exact h m hm
 ·rw[if_neg hi,if_neg hi]
  exact h.set hl hn rfl
theorem holdM_len {P Q:List MH}{n:Nat}:(holdM P Q n).length=P.length:=by unfold holdM;split<;>simp
theorem madeM:madeCells (Value.agg ⟨[.bool false,.int .i64 0,.slice none 0 0,.slice none 0 0,.int .u64 0,.int .u64 0]⟩).cells 384=⟨((List.replicate 64 zMH).map mhV).flatten⟩:=by kernel_rfl
theorem new17r_spec (ρ:Hp):Spec prog 29 [] ρ [] (λ v ρ' L'=>ρ.le ρ'/\L'=[]/\∃pa pc qa qc,v=.agg ⟨mdV pa pc qa qc 1 0⟩/\MAIn ρ' pa (List.replicate 64 zMH)/\MAIn ρ' qa (List.replicate 64 zMH)):=by
 refine Za func29 rfl rfl rfl λ u R=>?_
 simp only[Zc,kA]
 repeat' (first|refine zV ?_|intro _)
 refine Yt [] (.b 0 1 [] [] (.e 1 [2] (.e 3 [] .o)) (.e 0 [2] (.e 3 [] .o))) ([]) ?_
 repeat' (refine iT ?_;first|refine rAb ?_|((first|(refine iE ?_;refine rE ?_)|(refine iB ?_;refine rB ?_ ?_))<;>((first|(refine WK rfl rfl (by omega) (by omega) (by omega) (by omega) rfl (λ bm=>?_))|(refine qEf ?_;try intro _))<;>(try simp only[kA])<;>refine zN ?_)))
 all_goals (repeat' (first|refine zV ?_|intro _))
 all_goals
  simp only[show Int.toNat 64=64 from rfl,show 64*6=384 from rfl,madeM]
  refine ZB _ (h:=Rem.here) (λ ρ4 hl4 hz4=>?_)
  refine ZB _ (h:=Rem.here) (λ ρ5 hl5 hz5=>?_)
  have hb1:=Hp.at' hl5 (hz4 _ (List.mem_singleton.2 rfl))
  have hb2:=hz5 _ (List.mem_singleton.2 rfl)
  dsimp only at hb1 hb2
  have hc5:∀x∈List.replicate 64 zMH,CIn ρ5 x.w x.c.rows x.c.kids:=λ x hx=>by rw[(List.mem_replicate.1 hx).2];exact CIn.nil
  refine qF (L':=[]) ?_
  exact⟨Hp.le_trans hl4 hl5,rfl,_,64,_,64,rfl,MAIn.of (sp:=[]) (by simp) (by rw[aN];assumption) hc5,MAIn.of (sp:=[]) (by simp) (by rw[aN];assumption) hc5⟩
theorem change17r_spec (ρ:Hp)(pa:Option Addr)(pc:Nat)(qa:Option Addr)(qc:Nat)(next fl:Nat)(P Q:List MH)(hP:MAIn ρ pa P)(hQ:MAIn ρ qa Q)(pv:PV)(held:Nat->ZS)(hM:MR P pv)(hH:QH Q held)
  (lsn:Nat) (a:Option Addr) (n c:Nat) (l:List Sh) (h:ShsIn ρ a n c l) (hid:∀s∈l,IdFit s.c) :
  Spec prog 85 [.agg ⟨mdV pa pc qa qc next fl⟩,.int .u64 (lsn:Nat),.slice a n c] ρ []
   (λ v ρ' L'=>ρ.le ρ'/\L'=[]/\∃pa' pc' qa' qc' P',v=.tuple ⟨[.agg ⟨mdV pa' pc' qa' qc' next fl⟩,.int .i64 (askE (decide (1<=lsn/\lsn<next)) held pv lsn l)]⟩/\MAIn ρ' pa' P'/\MAIn ρ' qa' Q/\MR P' (chgV (decide (1<=lsn/\lsn<next)) held pv lsn l)):=by
 have hl:=h.at'.len
 have hbig:=h.big
 have hcg:chgV (decide (1<=lsn/\lsn<next)) held pv lsn l=if askE (decide (1<=lsn/\lsn<next)) held pv lsn l=0 then chgsV lsn (askV (decide (1<=lsn/\lsn<next)) held pv l) l else askV (decide (1<=lsn/\lsn<next)) held pv l:=rfl
 rw[hcg]
 generalize hE:askE (decide (1<=lsn/\lsn<next)) held pv lsn l=E
 generalize hV:askV (decide (1<=lsn/\lsn<next)) held pv l=V
 unfold askE at hE
 unfold askV at hV
 refine Za func85 rfl rfl rfl λ u R=>?_
 simp only[Zc,kA]
 by_cases hk:¬(1<=lsn/\lsn<next)\/l=[]
 ·have hk2:decide (1<=lsn/\lsn<next)=false\/l=[]:=hk.imp (λ h=>decide_eq_false h) id
  rw[if_pos hk2] at hE hV
  subst hE;subst hV
  rw[if_neg (by omega)]
  have hcs:lsn<1\/(¬lsn<1/\next<=lsn)\/(¬lsn<1/\¬next<=lsn/\n=0):=by
   rcases hk with h1|h1
   ·omega
   ·have:n=0:=by rw[<-hl,h1];rfl
    omega
  rcases hcs with h1|⟨h1,h2⟩|⟨h1,h2,h3⟩
  all_goals (repeat' (first|refine zV ?_|intro _))
  all_goals exact qE (L':=[]) ⟨Hp.le_refl _,rfl,_,_,_,_,P,rfl,hP,hQ,hM⟩
 ·have hk1:1<=lsn/\lsn<next:=Classical.not_not.1 (λ h=>hk (.inl h))
  have hne:l≠[]:=λ h=>hk (.inr h)
  have hn0:¬n=0:=λ e=>hne (List.eq_nil_of_length_eq_zero (by omega))
  have hk2:¬(decide (1<=lsn/\lsn<next)=false\/l=[]):=by
   rintro (h1|h1)
   ·exact absurd hk1 (of_decide_eq_false h1)
   ·exact hne h1
  rw[if_neg hk2] at hE hV
  clear hk hk2
  obtain⟨hk1,hk3⟩:=hk1
  repeat' (first|refine zV ?_|intro _)
  rename_i b3 b6
  refine lpG Nat [1,2,3,6] (λ z=>[(8,.int .i64 z),(7,.int .i64 0)]) (λ z=>ρ) (λ z=>[[(b6,.cells ⟨[.slice none 0 0,.slice none 0 0,.int .u64 0,.int .u64 0,.int .u64 0]⟩ 73 (0,0))],[(b3,.cells ⟨mdV pa pc qa qc next fl⟩ 73 (0,0))]]) (λ z=>z<=n/\Wt (prevS l z) (l.drop z)=Wt (-1) l) (λ z=>n-z) 0 ⟨aZ _,by rw[prevS_zero];rfl⟩ ?_
  rintro i hI
  try simp only[kB] at hI ⊢
  try dsimp only at hI ⊢
  obtain⟨hi,hri⟩:=hI
  by_cases hlt:i<n
  ·have hil:i<l.length:=by omega
   obtain⟨b,off,C,T,fr,e1,hb0,hfit,hc⟩:=h.at'.get hil
   have hs:=riseS_drop hil
   rw[hri] at hs
   have hth:=λ ρ=>XS ρ (l[i]).page
   have hbad:(¬(0<=(l[i]).page/\(l[i]).page<64)\/(l[i]).page<=prevS l i)->Wt (-1) l=false:=λ hx=>by
    rw[hs,decide_eq_false (by omega)];rfl
   have hgood:0<=(l[i]).page/\(l[i]).page<64->prevS l i<(l[i]).page->Wt (prevS l (i+1)) (l.drop (i+1))=Wt (-1) l:=λ h1 h2=>by
    rw[hs,decide_eq_true ⟨h2,h1⟩,Bool.true_and]
   have hpg:C[off+i*4+0]?=some (.int .i64 (l[i]).page):=by
    have:=congrArg (λ l:List Value=>l[0]?) hc
    simp only[List.getElem?_take_of_lt (show 0<4 by omega),List.getElem?_drop] at this
    exact this
   rw[e1]
   by_cases hi0:i=0
   ·have hpr:prevS l i=-1:=by rw[hi0];exact prevS_zero l
    rw[hpr] at hbad hgood
    have hi0':¬((i:Int) > 0):=by omega
    clear hs hri
    generalize l[i]=x at *
    by_cases hx:0<=x.page/\x.page<64
    ·simp only[decide_eq_true hx] at hth
     have hgd:=hgood hx (by omega)
     repeat' (first|refine zV ?_|intro _)
     refine Yt [0,1,2,3,4] (.e 5 [] (.f [6,7,8,9,10,11,12,13,14,15,16,17,18,19,20,21,22,23,24] .o)) ([]) ?_
     repeat' (refine iT ?_;first|refine rA ?_|(refine rE ?_<;>(refine Zb (.func 146) ?_;refine qR rfl rfl (hth _) ?_;try simp only[kA])<;>(try simp only[kA])<;>refine zN ?_))
     all_goals (repeat' (first|refine zV ?_|intro _))
     all_goals rw[<-e1]
     all_goals refine rnG (i+1) (⟨hlt,hgd⟩)
    ·simp only[decide_eq_false hx] at hth
     rw[if_pos (hbad (.inl hx))] at hE hV
     subst hE;subst hV
     rw[if_neg (by omega)]
     repeat' (first|refine zV ?_|intro _)
     refine Yt [0,1,2,3,4] (.e 5 [] (.f [6,7,8,9,10,11,12,13,14,15,16,17,18,19,20,21,22,23,24] .o)) ([]) ?_
     repeat' (refine iT ?_;first|refine rA ?_|(refine rE ?_<;>(refine Zb (.func 146) ?_;refine qR rfl rfl (hth _) ?_;try simp only[kA])<;>(try simp only[kA])<;>refine zN ?_))
     all_goals (repeat' (first|refine zV ?_|intro _))
     all_goals exact qE (L':=[]) ⟨Hp.le_refl _,rfl,_,_,_,_,P,rfl,hP,hQ,hM⟩
   ·have hpr:=prevS_pos hi0 hil
    rw[hpr] at hbad hgood
    obtain⟨b2,off2,C2,T2,fr2,f1,hb2,hfit2,hc2⟩:=h.at'.get (show i-1<l.length by omega)
    rw[e1] at f1
    cases f1
    rw[hb0] at hb2
    cases hb2
    have ek:((i:Int)-1).toNat=i-1:=by omega
    have hc4:C[off+((i:Int)-1).toNat*4+0]?=some (.int .i64 (l[i-1]'(by omega)).page):=by
     rw[ek]
     have:=congrArg (λ l:List Value=>l[0]?) hc2
     simp only[List.getElem?_take_of_lt (show 0<4 by omega),List.getElem?_drop] at this
     exact this
    clear hc2 hs hri
    generalize l[i]=x at *
    generalize l[i-1]'(by omega)=y at *
    by_cases hx:0<=x.page/\x.page<64
    ·simp only[decide_eq_true hx] at hth
     by_cases hyx:y.page<x.page
     ·have hyx':¬x.page<=y.page:=by omega
      have hgd:=hgood hx hyx
      repeat' (first|refine zV ?_|intro _)
      refine Yt [0,1,2,3,4] (.e 5 [] (.f [6,7,8,9,10,11,12,13,14,15,16,17,18,19,20,21,22,23,24] .o)) ([]) ?_
      repeat' (refine iT ?_;first|refine rA ?_|(refine rE ?_<;>(refine Zb (.func 146) ?_;refine qR rfl rfl (hth _) ?_;try simp only[kA])<;>(try simp only[kA])<;>refine zN ?_))
      all_goals (repeat' (first|refine zV ?_|intro _))
      all_goals rw[<-e1]
      all_goals refine rnG (i+1) (⟨hlt,hgd⟩)
     ·have hyx':x.page<=y.page:=by omega
      rw[if_pos (hbad (.inr hyx'))] at hE hV
      subst hE;subst hV
      rw[if_neg (by omega)]
      repeat' (first|refine zV ?_|intro _)
      refine Yt [0,1,2,3,4] (.e 5 [] (.f [6,7,8,9,10,11,12,13,14,15,16,17,18,19,20,21,22,23,24] .o)) ([]) ?_
      repeat' (refine iT ?_;first|refine rA ?_|(refine rE ?_<;>(refine Zb (.func 146) ?_;refine qR rfl rfl (hth _) ?_;try simp only[kA])<;>(try simp only[kA])<;>refine zN ?_))
      all_goals (repeat' (first|refine zV ?_|intro _))
      all_goals exact qE (L':=[]) ⟨Hp.le_refl _,rfl,_,_,_,_,P,rfl,hP,hQ,hM⟩
    ·simp only[decide_eq_false hx] at hth
     rw[if_pos (hbad (.inl hx))] at hE hV
     subst hE;subst hV
     rw[if_neg (by omega)]
     repeat' (first|refine zV ?_|intro _)
     refine Yt [0,1,2,3,4] (.e 5 [] (.f [6,7,8,9,10,11,12,13,14,15,16,17,18,19,20,21,22,23,24] .o)) ([]) ?_
     repeat' (refine iT ?_;first|refine rA ?_|(refine rE ?_<;>(refine Zb (.func 146) ?_;refine qR rfl rfl (hth _) ?_;try simp only[kA])<;>(try simp only[kA])<;>refine zN ?_))
     all_goals (repeat' (first|refine zV ?_|intro _))
     all_goals exact qE (L':=[]) ⟨Hp.le_refl _,rfl,_,_,_,_,P,rfl,hP,hQ,hM⟩
  ·have hrise:Wt (-1) l=true:=by rw[<-hri,List.drop_of_length_le (by omega)];rfl
   rw[if_neg (by rw[hrise];simp)] at hE hV
   have hpgs:=WE hrise
   clear hri
   repeat' (first|refine zV ?_|intro _)
   clear hlt hi
   refine lpG Nat [1,2,3,6] (λ z=>[(9,.int .i64 z),(7,.int .i64 0)]) (λ z=>ρ) (λ z=>[[(b6,.cells ⟨[.slice none 0 0,.slice none 0 0,.int .u64 0,.int .u64 0,.int .u64 0]⟩ 73 (0,0))],[(b3,.cells ⟨mdV pa pc qa qc next fl⟩ 73 (0,0))]]) (λ z=>z<=n/\(l.take z).all (λ s=>Zp s.c)=true) (λ z=>n-z) 0 ⟨aZ _,rfl⟩ ?_
   rintro i hI
   try simp only[kB] at hI ⊢
   try dsimp only at hI ⊢
   obtain⟨hi,hall⟩:=hI
   by_cases hlt:i<n
   ·have hil:i<l.length:=by omega
    obtain⟨b,off,C,T,fr,e1,hb0,hfit,hc⟩:=h.at'.get hil
    have hidx:=hid _ (aM hil)
    have hrg:=right_spec ρ _ _ (h.cin _ (aM hil)) (λ r hr=>(hidx.row r hr).id) (λ k hk=>hidx.kid k hk)
    have hnx:Zp (l[i]).c=true->(l.take (i+1)).all (λ s=>Zp s.c)=true:=λ h=>by
     rw[Vm l i hil,List.all_append,hall];simp[h]
    have hbad:Zp (l[i]).c=false->l.all (λ s=>Zp s.c)=false:=λ h=>by
     rw[List.all_eq_false];exact⟨_,aM hil,by simp[h]⟩
    have hpt:(C.drop (off+i*4+1)).take 3=Yv (l[i]).c.kind (l[i]).w:=by
     have:=congrArg (λ l=>(l.drop 1).take 3) hc
     simp only[List.drop_take,List.drop_drop,List.take_take] at this
     exact this
    rw[e1]
    generalize l[i]=x at *
    cases hq:Zp x.c
    ·rw[hq] at hrg
     rw[if_pos (hbad hq)] at hE hV
     subst hE;subst hV
     rw[if_neg (by omega)]
     repeat' (first|(refine Zb (.func 147) ?_;refine qR rfl rfl (hrg) ?_;try simp only[kA])|refine zV ?_|intro _)
     exact qE (L':=[]) ⟨Hp.le_refl _,rfl,_,_,_,_,P,rfl,hP,hQ,hM⟩
    ·rw[hq] at hrg
     have hnx:=hnx hq
     repeat' (first|(refine Zb (.func 147) ?_;refine qR rfl rfl (hrg) ?_;try simp only[kA])|refine zV ?_|intro _)
     rw[<-e1]
     refine rnG (i+1) (⟨hlt,hnx⟩)
   ·have hall2:l.all (λ s=>Zp s.c)=true:=by rw[aT (by omega)] at hall;exact hall
    rw[if_neg (by rw[hall2];simp)] at hE hV
    clear hall
    repeat' (first|refine zV ?_|intro _)
    clear hlt hi
    refine lpG (Nat×Hp×(Option Addr)×Nat×(Option Addr)×Nat×(List MH)) [1,2,3,6,7] (λ z=>[(10,.int .i64 z.1)]) (λ z=>z.2.1) (λ z=>[[(b6,.cells ⟨[.slice none 0 0,.slice none 0 0,.int .u64 0,.int .u64 0,.int .u64 0]⟩ 73 (0,0))],[(b3,.cells ⟨mdV z.2.2.1 z.2.2.2.1 z.2.2.2.2.1 z.2.2.2.2.2.1 next fl⟩ 73 (0,0))]]) (λ z=>z.1<=n/\ρ.le z.2.1/\MAIn z.2.1 z.2.2.1 z.2.2.2.2.2.2/\MAIn z.2.1 z.2.2.2.2.1 Q/\MR z.2.2.2.2.2.2 (XG held pv (l.take z.1))) (λ z=>n-z.1) (0,ρ,pa,pc,qa,qc,P) ⟨aZ _,Hp.le_refl _,hP,hQ,hM⟩ ?_
    rintro⟨i,ρ1,pa1,pc1,qa1,qc1,P1⟩ hI
    try simp only[kB] at hI ⊢
    try dsimp only at hI ⊢
    obtain⟨hi,hl1,hP1,hQ1,hM1⟩:=hI
    by_cases hlt:i<n
    ·have hil:i<l.length:=by omega
     obtain⟨b,off,C,T,fr,e1,hb0,hfit,hc⟩:=(h.mono hl1).at'.get hil
     have hpx:=hpgs _ (aM hil)
     have hsn:XG held pv (l.take (i+1))=Wd held (XG held pv (l.take i)) (l[i]).page:=by rw[Vm l i hil,holdsV_snoc]
     have hpg:C[off+i*4+0]?=some (.int .i64 (l[i]).page):=by
      have:=congrArg (λ l:List Value=>l[0]?) hc
      simp only[List.getElem?_take_of_lt (show 0<4 by omega),List.getElem?_drop] at this
      exact this
     rw[e1]
     generalize l[i]=x at *
     obtain⟨xp,xw,xc⟩:=x
     obtain⟨pn,hpn⟩:∃pn:Nat,xp=pn:=⟨xp.toNat,by dsimp only at hpx;omega⟩
     subst hpn
     dsimp only at hpx hsn hpg
     have hh:=hold17_spec ρ1 pa1 pc1 qa1 qc1 next fl P1 Q hP1 hQ1 pn (by omega)
     have hM2:=hM1.hold hH hP1.len (show pn<64 by omega)
     rw[<-hsn] at hM2
     repeat' (first|refine zV ?_|intro _)
     refine Yt [1,2,3,4,5] (.e 0 [] (.e 6 [] (.e 7 [] .o))) ([]) ?_
     repeat' (refine iT ?_;first|refine rA ?_|(refine rE ?_<;>((first|(refine Zb (.func 148) ?_;refine qC rfl rfl hh ?_;rintro v3 ρ3 L3 hq3 ⟨hl3,rfl,pa2,pc2,qa2,qc2,rfl,hP2,hQ2⟩;try simp only[kA])|(refine i_qq ?_;refine qQ ?_)|refine qEf ?_)<;>(try simp only[kA])<;>refine zN ?_)))
     repeat' (first|refine zV ?_|intro _)
     rw[<-e1]
     refine rnG (i+1,ρ3,pa2,pc2,qa2,qc2,holdM P1 Q pn) (⟨hlt,Hp.le_trans hl1 hl3,hP2,hQ2,hM2⟩)
    ·rw[aT (by omega)] at hM1
     rw[hV] at hM1 hE
     have hsome:=λ s hs=>holdsV_mem held l pv s hs
     rw[hV] at hsome
     have hP1l:=hP1.len
     repeat' (first|refine zV ?_|intro _)
     clear hlt hi
     refine lpG Nat [1,2,3,6] (λ z=>[(11,.int .i64 z),(7,.int .i64 0)]) (λ z=>ρ1) (λ z=>[[(b6,.cells ⟨[.slice none 0 0,.slice none 0 0,.int .u64 0,.int .u64 0,.int .u64 0]⟩ 73 (0,0))],[(b3,.cells ⟨mdV pa1 pc1 qa1 qc1 next fl⟩ 73 (0,0))]]) (λ z=>z<=n/\(l.take z).any (λ s=>decide (lsn<=(Yx held V s.page).2.1))=false) (λ z=>n-z) 0 ⟨aZ _,rfl⟩ ?_
     rintro i hI
     try simp only[kB] at hI ⊢
     try dsimp only at hI ⊢
     obtain⟨hi,hany⟩:=hI
     by_cases hlt:i<n
     ·have hil:i<l.length:=by omega
      obtain⟨b,off,C,T,fr,e1,hb0,hfit,hc⟩:=(h.mono hl1).at'.get hil
      have hpx:=hpgs _ (aM hil)
      have hsx:=hsome _ (aM hil)
      have hnx:decide (lsn<=(Yx held V (l[i]).page).2.1)=false->(l.take (i+1)).any (λ s=>decide (lsn<=(Yx held V s.page).2.1))=false:=λ h=>by
       rw[Vm l i hil,List.any_append,hany];simpa using h
      have hbad:decide (lsn<=(Yx held V (l[i]).page).2.1)=true->l.any (λ s=>decide (lsn<=(Yx held V s.page).2.1))=true:=λ h=>by
       rw[List.any_eq_true];exact⟨_,aM hil,h⟩
      have hpg:C[off+i*4+0]?=some (.int .i64 (l[i]).page):=by
       have:=congrArg (λ l:List Value=>l[0]?) hc
       simp only[List.getElem?_take_of_lt (show 0<4 by omega),List.getElem?_drop] at this
       exact this
      rw[e1]
      generalize l[i]=x at *
      obtain⟨xp,xw,xc⟩:=x
      obtain⟨pn,hpn⟩:∃pn:Nat,xp=pn:=⟨xp.toNat,by dsimp only at hpx;omega⟩
      subst hpn
      dsimp only at hpx hpg hsx hnx hbad
      rw[hM1.seen hH (show pn<64 by omega)] at hnx hbad
      rw[hM1 pn (by omega)] at hsx
      rw[getD_mh (show pn<P1.length by omega)] at hsx hnx hbad
      obtain⟨bp,op,Cp,Tp,fp,f1,hbp,hfp,hcp⟩:=hP1.at'.get (show pn<P1.length by omega)
      rw[f1]
      generalize P1[pn]=y at *
      have hyi:y.is=true:=by
       cases hy:y.is
       ·rw[hy,if_neg (by simp)] at hsx;cases hsx
       ·rfl
      rw[hyi,if_pos rfl] at hnx hbad
      have hyl:=cell_of (k:=4) hcp rfl (by omega)
      repeat' (first|refine zV ?_|intro _)
      by_cases hge:lsn<=y.lsn
      ·rw[if_pos (hbad (decide_eq_true hge))] at hE
       subst hE
       rw[if_neg (by omega)]
       refine Yt [0] (.f [1,2,3,4,5,6,7,8,9,10,11] .o) ([[(b3,.cells ⟨mdV (some ⟨bp,op,none⟩) pc1 qa1 qc1 next fl⟩ 73 (0,0))]]) ?_
       repeat' (refine iT ?_;first|refine rA ?_)
       repeat' (first|refine zV ?_|intro _)
       exact qE (L':=[]) ⟨hl1,rfl,_,_,_,_,P1,rfl,f1 ▸ hP1,hQ1,hM1⟩
      ·have hnx:=hnx (decide_eq_false hge)
       refine Yt [0] (.f [1,2,3,4,5,6,7,8,9,10,11] .o) ([[(b3,.cells ⟨mdV (some ⟨bp,op,none⟩) pc1 qa1 qc1 next fl⟩ 73 (0,0))]]) ?_
       repeat' (refine iT ?_;first|refine rA ?_)
       repeat' (first|refine zV ?_|intro _)
       rw[<-f1,<-e1]
       refine rnG (i+1) (⟨hlt,hnx⟩)
     ·rw[aT (by omega)] at hany
      rw[hany,if_neg (by simp)] at hE
      subst hE
      rw[if_pos rfl]
      have hcp:=copied17_spec ρ1 pa1 pc1 qa1 qc1 next fl P1 Q hP1 hQ1
      clear hany
      repeat' (first|(refine Zb (.func 149) ?_;refine qC rfl rfl hcp ?_;rintro v3 ρ3 L3 hq3 ⟨rfl,b1,c1,s1,b2,c2,s2,rfl,hc1,hc2,ho1,ho2,rfl⟩;try simp only[kA];refine Zt (mownC b2 Q s2) (h:=by repeat (first|exact ZJ|apply Ya)) (λ ρ4 hl4 hz4=>?_))|refine zV ?_|intro _)
      clear hlt hi
      have hb2:=hz4 _ (List.mem_singleton.2 rfl)
      have hl14:=Hp.le_trans hl1 hl4
      have hlS:∀P2:List MH,P2.length=64->((P2.map mhV).flatten++s1).length=384+s1.length:=λ P2 h2=>by rw[aL,XO,h2]
      refine lpG (Nat×(List MH)) [1,2,3,6,7] (λ z=>[(12,.int .i64 z.1)]) (λ z=>ρ4) (λ z=>[mownC b1 z.2 s1,[(b6,.cells ⟨[.slice none 0 0,.slice none 0 0,.int .u64 0,.int .u64 0,.int .u64 0]⟩ 73 (0,0))],[(b3,.cells ⟨mdV (some ⟨b1,0,none⟩) c1 (some ⟨b2,0,none⟩) c2 next fl⟩ 73 (0,0))]]) (λ z=>z.1<=n/\z.2.length=64/\(∀x∈z.2,CIn ρ4 x.w x.c.rows x.c.kids)/\MR z.2 (chgsV lsn V (l.take z.1))) (λ z=>n-z.1) (0,P1) ⟨aZ _,hP1l,λ x hx=>(hP1.cin x hx).mono hl4,hM1⟩ ?_
      rintro⟨i,P2⟩ hI
      try simp only[kB] at hI ⊢
      try dsimp only at hI ⊢
      obtain⟨hi,hP2l,hP2c,hM2⟩:=hI
      by_cases hlt:i<n
      ·have hil:i<l.length:=by omega
       obtain⟨b,off,C,T,fr,e1,hb0,hfit,hc⟩:=(h.mono hl14).at'.get hil
       have hpx:=hpgs _ (aM hil)
       have hsx:=hsome _ (aM hil)
       have hcx:=(h.mono hl14).cin _ (aM hil)
       have hsn:chgsV lsn V (l.take (i+1))=newV lsn (chgsV lsn V (l.take i)) (l[i]).page (l[i]).c:=by rw[Vm l i hil,chgsV_snoc]
       have hpg:C[off+i*4+0]?=some (.int .i64 (l[i]).page):=by
        have:=congrArg (λ l:List Value=>l[0]?) hc
        simp only[List.getElem?_take_of_lt (show 0<4 by omega),List.getElem?_drop] at this
        exact this
       have hpt:(C.drop (off+i*4+1)).take 3=Yv (l[i]).c.kind (l[i]).w:=by
        have:=congrArg (λ l=>(l.drop 1).take 3) hc
        simp only[List.drop_take,List.drop_drop,List.take_take] at this
        exact this
       have hsx:=chgsV_has (lsn:=lsn) (l.take i) hsx
       rw[e1]
       generalize l[i]=x at *
       obtain⟨xp,xw,xc⟩:=x
       obtain⟨pn,hpn⟩:∃pn:Nat,xp=pn:=⟨xp.toNat,by dsimp only at hpx;omega⟩
       subst hpn
       dsimp only at hpx hpg hpt hsx hsn hcx
       generalize chgsV lsn V (l.take i)=pw at *
       rw[hM2 pn (by omega)] at hsx
       have hMy:=hM2 pn (by omega)
       rw[getD_mh (show pn<P2.length by omega)] at hsx hMy
       have hyi:(P2[pn]'(by omega)).is=true:=by
        cases hy:(P2[pn]'(by omega)).is
        ·rw[hy,if_neg (by simp)] at hsx;cases hsx
        ·rfl
       rw[hyi,if_pos rfl] at hMy
       have hset1:=set_flat (o:=1) (vs:=Yv xc.kind xw) (sp:=s1) (show pn<P2.length by omega) (y:=⟨true,xw,xc,(P2[pn]'(by omega)).lsn,(P2[pn]'(by omega)).rc⟩) (by rw[<-hyi];rfl) (show 1+3<=6 by omega)
       have hnew:newV lsn pw pn xc=VC pw pn (xc,lsn,if (P2[pn]'(by omega)).rc=0 then lsn else (P2[pn]'(by omega)).rc):=by
        unfold newV;rw[hMy];rfl
       rw[hnew] at hsn
       clear hnew hMy hsx hyi
       generalize P2[pn]'(by omega)=y at *
       obtain⟨yi,yw,yc,yl,yr⟩:=y
       dsimp only at hset1 hsn
       have hA:=hlS (P2.set pn ⟨true,xw,xc,yl,yr⟩) (by rw[List.length_set];exact hP2l)
       have hset2:=set_flat (l:=P2.set pn ⟨true,xw,xc,yl,yr⟩) (n:=pn) (o:=4) (vs:=[.int .u64 lsn]) (sp:=s1) (y:=⟨true,xw,xc,lsn,yr⟩) (by rw[List.length_set];omega) (by rw[List.getElem_set_self];rfl) (show 4+1<=6 by omega)
       rw[List.set_set] at hset2
       have hB:=hlS (P2.set pn ⟨true,xw,xc,lsn,yr⟩) (by rw[List.length_set];exact hP2l)
       have hset3:=set_flat (l:=P2.set pn ⟨true,xw,xc,lsn,yr⟩) (n:=pn) (o:=5) (vs:=[.int .u64 lsn]) (sp:=s1) (y:=⟨true,xw,xc,lsn,lsn⟩) (by rw[List.length_set];omega) (by rw[List.getElem_set_self];rfl) (show 5+1<=6 by omega)
       rw[List.set_set] at hset3
       have hgB:=get_flat (l:=P2.set pn ⟨true,xw,xc,lsn,yr⟩) (n:=pn) (by rw[List.length_set];omega) s1
       rw[List.getElem_set_self,show pn*6=0+pn*6 by omega] at hgB
       have hgr:=cell_of (k:=5) hgB rfl (by omega)
       dsimp only at hgr
       have hl0:=hlS P2 hP2l
       repeat' (first|refine zV ?_|intro _)
       refine Yt [0] (.f [1,2,3,4,5,6,7,8] .o) ([[(b3,.cells ⟨mdV (some ⟨b1,0,none⟩) c1 (some ⟨b2,0,none⟩) c2 next fl⟩ 73 (0,0))]]) ?_
       repeat' (refine iT ?_;first|refine rA ?_)
       repeat' (first|refine zV ?_|intro _)
       rw[show stc ((P2.map mhV).flatten++s1) (0+pn*6+1) (Yv xc.kind xw)=((P2.set pn ⟨true,xw,xc,yl,yr⟩).map mhV).flatten++s1 by rw[Nat.zero_add];exact hset1]
       repeat' (first|refine zV ?_|intro _)
       rw[show stc (((P2.set pn ⟨true,xw,xc,yl,yr⟩).map mhV).flatten++s1) (0+pn*6+4) [.int .u64 lsn]=((P2.set pn ⟨true,xw,xc,lsn,yr⟩).map mhV).flatten++s1 by rw[Nat.zero_add];exact hset2]
       clear hset1 hset2 hA hl0 hpt hpg
       by_cases hyr:yr=0
       ·rw[if_pos hyr] at hsn
        have hyr':((yr:Nat):Int)=0:=by omega
        repeat' (first|refine zV ?_|intro _)
        rw[show stc (((P2.set pn ⟨true,xw,xc,lsn,yr⟩).map mhV).flatten++s1) (0+pn*6+5) [.int .u64 lsn]=((P2.set pn ⟨true,xw,xc,lsn,lsn⟩).map mhV).flatten++s1 by rw[Nat.zero_add];exact hset3]
        have hM3:=hM2.set hP2l (show pn<64 by omega) (y:=⟨true,xw,xc,lsn,lsn⟩) rfl
        dsimp only at hM3
        rw[<-hsn] at hM3
        rw[<-e1]
        refine rnG (i+1,P2.set pn ⟨true,xw,xc,lsn,lsn⟩) (⟨hlt,by rw[List.length_set];exact hP2l,cin_set hP2c hcx,hM3⟩)
       ·rw[if_neg hyr] at hsn
        have hyr':¬((yr:Nat):Int)=0:=by omega
        repeat' (first|refine zV ?_|intro _)
        have hM3:=hM2.set hP2l (show pn<64 by omega) (y:=⟨true,xw,xc,lsn,yr⟩) rfl
        dsimp only at hM3
        rw[<-hsn] at hM3
        rw[<-e1]
        refine rnG (i+1,P2.set pn ⟨true,xw,xc,lsn,yr⟩) (⟨hlt,by rw[List.length_set];exact hP2l,cin_set hP2c hcx,hM3⟩)
      ·rw[aT (by omega)] at hM2
       repeat' (first|refine zV ?_|intro _)
       refine ZB (mownC b1 P2 s1) (λ ρ5 hl5 hz5=>?_)
       have hb1:=hz5 _ (List.mem_singleton.2 rfl)
       have hl45:=Hp.le_trans hl4 hl5
       exact qE (L':=[]) ⟨Hp.le_trans hl14 hl5,rfl,_,c1,_,c2,P2,rfl,MAIn.of hP2l hb1 (λ x hx=>(hP2c x hx).mono hl5),MAIn.of hQ.len (Hp.at' hl5 hb2) (λ x hx=>(hQ.cin x hx).mono (Hp.le_trans hl14 hl5)),hM2⟩
def hAV (held:Nat->ZS)(pv:PV):Nat->PV
 | 0=>pv
 | i+1=>Wd held (hAV held pv i) (i:Nat)
theorem hAV_at (held:Nat->ZS)(pv:PV):∀(i n:Nat),i<=n->hAV held pv i (n:Nat)=pv (n:Nat)
 | 0,_,_=>rfl
 | i+1,n,h=>by
  unfold hAV Wd VC
  rw[if_neg (by omega)]
  exact hAV_at held pv i n (by omega)
theorem seenV_hAV (held:Nat->ZS)(pv:PV)(i:Nat):Yx held (hAV held pv i) (i:Nat)=Yx held pv (i:Nat):=by
 unfold Yx;rw[hAV_at held pv i i (aR _)]
def Vx (held:Nat->ZS)(pv:PV)(i:Nat):List ZO:=(List.range i).map (λ n=>(Yx held pv (n:Nat)).1)
theorem contsV_succ (held:Nat->ZS)(pv:PV)(i:Nat):Vx held pv (i+1)=Vx held pv i++[(Yx held pv (i:Nat)).1]:=by
 unfold Vx;rw[List.range_succ,List.map_append];rfl
def foC (cs:List ZO):Fo:=λ n=>cs.getD n ⟨0,[],[]⟩
theorem foOf_foC (l:List CC):Yw l=foC (l.map (·.2)):=by
 funext n
 unfold Yw foC
 rw[List.getD_eq_getElem?_getD,List.getD_eq_getElem?_getD,List.getElem?_map]
 cases l[n]?<;>rfl
theorem flatL_snoc {O:List CC}{x:CC}:((O++[x]).map ccV).flatten=(O.map ccV).flatten++ccV x:=by rw[List.map_append,List.flatten_append];simp
theorem hold_lv2 (ρ:Hp)(pb fb lb mb db base num t:Nat)(hp:PoIn ρ pb fb lb mb)(hf:FIn ρ fb db base)(hb:base<=100000)(hn:num<64)(k:DK)(D:DS)(hD:DOk k D)(pg:Pgs)(es:List MapEntry)(ck:Nat)(hm:MpIn ρ es pg)(held:Nat->ZS)(hF:FO D base t held)(hL:Lv1 D) :
  Spec prog 143 [.pointer (some ⟨pb,0,none⟩),.int .i64 num] ρ (Yr mb es ck::Zg db k D)
   (λ v ρ' L'=>ρ.le ρ'/\∃g es' ck' pg' D',v=.tuple ⟨[.agg ⟨pgV g⟩,.int .i64 0]⟩/\g.c=(Yx held (vw pg) num).1/\CIn ρ' g.w g.c.rows g.c.kids/\MpIn ρ' es' pg'/\vw pg'=Wd held (vw pg) num/\DOk k D'/\Lv D D'/\FO D' base t held/\L'=Yr mb es' ck'::Zg db k D'):=by
 have hr:=(hF.readL hL hn).1
 refine (hold_spec ρ pb fb lb mb db base num hp hf hb hn k D hD pg es ck hm (λ _=>by rw[hr])).mono ?_
 rintro v ρ' L' _ ⟨h1,g,es',ck',h2,h3,h4,h5,h6⟩
 obtain⟨e1,e2⟩:=h3.view hF hL hn
 obtain⟨e3,e4⟩:=holdD_lv (pg:=pg) hF hL hn
 exact⟨h1,g,es',ck',_,_,h2,by rw[<-e2],h4.cin num g (by unfold updG;rw[if_pos rfl]),h4,e1,h5,e3,e4,h6⟩
def ForIn (ρ:Hp)(cs:List ZO)(fv:Value)(e:Int):Prop:=e=(if docF (foC cs) then 0 else 230)/\∃a n c l,fv=.agg ⟨[.slice a n c]⟩/\n<=64/\FoIn ρ a n l/\l.map (·.2)=if docF (foC cs) then cs else []
theorem ForIn.mono {ρ ρ' cs fv e}(h:ForIn ρ cs fv e)(hle:ρ.le ρ'):ForIn ρ' cs fv e:=by
 obtain⟨h1,a,n,c,l,h2,h3,h4,h5⟩:=h
 exact⟨h1,a,n,c,l,h2,h3,h4.mono hle,h5⟩
theorem forest17_spec (ρ:Hp)(pb fb lb mb db base t:Nat)(hp:PoIn ρ pb fb lb mb)(hf:FIn ρ fb db base)(hb:base<=100000)(k:DK)(D:DS)(hD:DOk k D)(pg:Pgs)(es:List MapEntry)(ck:Nat)(hm:MpIn ρ es pg)(held:Nat->ZS)(hF:FO D base t held)(hL:Lv1 D)
  (hok:∀n,n<64->Zp (Yx held (vw pg) (n:Nat)).1=true) :
  Spec prog 89 [.pointer (some ⟨pb,0,none⟩)] ρ (Yr mb es ck::Zg db k D)
   (λ v ρ' L'=>ρ.le ρ'/\∃fv e es' ck' pg' D',v=.tuple ⟨[fv,.int .i64 e]⟩/\ForIn ρ' (Vx held (vw pg) 64) fv e/\MpIn ρ' es' pg'/\vw pg'=hAV held (vw pg) 64/\DOk k D'/\Lv D D'/\FO D' base t held/\L'=Yr mb es' ck'::Zg db k D'):=by
 refine Za func89 rfl rfl rfl λ u R=>?_
 simp only[Zc,kA]
 repeat' (first|refine zV ?_|intro _)
 rename_i b2 b4
 refine lpG (Nat×Hp×(List CC)×Value×(List Value)×(List MapEntry)×Nat×Pgs×DS) [0,2,4] (λ z=>[(13,.int .i64 z.1),(3,.int .i64 0)]) (λ z=>z.2.1) (λ z=>[(b4,.cells ⟨[z.2.2.2.1]⟩ 161 (0,0))]::ZG z.2.2.2.1 ((z.2.2.1.map ccV).flatten) z.2.2.2.2.1 88::[(b2,.cells ⟨[.slice none 0 0]⟩ 161 (0,0))]::(Yr mb z.2.2.2.2.2.1 z.2.2.2.2.2.2.1::Zg db k z.2.2.2.2.2.2.2.2)) (λ z=>z.1<=64/\ρ.le z.2.1/\OwnS z.2.2.2.1 z.1 ((z.2.2.1.map ccV).flatten) z.2.2.2.2.1 3/\(∀x∈z.2.2.1,CIn z.2.1 x.1 x.2.rows x.2.kids)/\z.2.2.1.map (·.2)=Vx held (vw pg) z.1/\MpIn z.2.1 z.2.2.2.2.2.1 z.2.2.2.2.2.2.2.1/\vw z.2.2.2.2.2.2.2.1=hAV held (vw pg) z.1/\DOk k z.2.2.2.2.2.2.2.2/\Lv D z.2.2.2.2.2.2.2.2/\FO z.2.2.2.2.2.2.2.2 base t held) (λ z=>64-z.1) (0,ρ,[],.slice none 0 0,[],es,ck,pg,D) ⟨aZ _,Hp.le_refl _,OwnS.nil 3,by simp,rfl,hm,rfl,hD,hL,hF⟩ ?_
 rintro⟨i,ρ1,O,v,sp,es1,ck1,pg1,D1⟩ hI
 try simp only[kB] at hI ⊢
 try dsimp only at hI ⊢
 obtain⟨hi,hl1,hown,hcin,hmap,hm1,hv1,hD1,hL1,hF1⟩:=hI
 obtain⟨va,vc,rfl,hvc⟩:=hown.slice
 by_cases hlt:i<64
 ·have hh:=hold_lv2 ρ1 pb fb lb mb db base i t (Hp.at' hl1 hp) (hf.mono hl1) hb hlt k D1 hD1 pg1 es1 ck1 hm1 held hF1 hL1.next
  rw[hv1,seenV_hAV] at hh
  have hcp:=λ {ρ':Hp} {g:Pg} (h:CIn ρ' g.w g.c.rows g.c.kids)=>copied_spec ρ' g.c.kind g.w g.c.rows g.c.kids h
  repeat' (first|(refine Zb (.func 143) ?_;refine qC rfl rfl hh ?_;rintro v3 ρ3 L3 hq3 ⟨hl3,g,es2,ck2,pg2,D2,rfl,hgc,hgi,hm2,hv2,hD2,hL2,hF2,rfl⟩;try simp only[kB])|refine zV ?_|intro _)
  rename_i b6
  refine Yt [0,2,3] (.b 1 4 [] [] (.e 4 [] (.e 5 [] (.e 6 [7] (.e 8 [] .o)))) (.b 1 5 [] [] (.e 5 [] (.e 6 [7] (.e 8 [] .o))) (.e 1 [] (.e 6 [7] (.e 8 [] .o))))) ([[(b6,.cells ⟨pgV g⟩ 217 (0,0))]]) ?_
  repeat' (refine iT ?_;first|refine rA ?_|((first|(refine iE ?_;refine rE ?_)|(refine iB ?_;refine rB ?_ ?_))<;>((first|(refine Zb (.func 137) ?_;refine qC rfl rfl (hcp hgi) ?_;rintro v4 ρ4 L4 hq4 ⟨hl4,w4,rfl,hC4,rfl⟩;simp only[kA])|(refine Ys (css:=[Yv g.c.kind w4]) (sz:=3) rfl rfl rfl rfl (by simp) (by simp) rfl (λ bs=>?_);simp only[aF,List.flatten_nil,aN])|(refine YA (ys:=Yv g.c.kind w4) (m:=1) (sz:=3) rfl rfl hown (hR:=by repeat (first|exact ZJ|apply Ya)) SrcV.lit rfl rfl (by decide) rfl (by omega) (by omega) rfl (λ v5 sp5 hown5=>?_);obtain⟨va2,vc2,rfl,hvc2⟩:=hown5.slice)|(refine i_qq ?_;refine qQ ?_)|(refine qEf ?_;try intro _))<;>(try simp only[kA])<;>refine zN ?_)))
  all_goals (repeat' (first|refine zV ?_|intro _))
  all_goals
   rw[show (O.map ccV).flatten++Yv g.c.kind w4=((O++[(w4,g.c)]).map ccV).flatten from (flatL_snoc (O:=O) (x:=(w4,g.c))).symm] at hown5 ⊢
   have hcin5:∀x∈O++[(w4,g.c)],CIn ρ4 x.1 x.2.rows x.2.kids:=λ x hx=>by
    rcases List.mem_append.1 hx with hx|hx
    ·exact (hcin x hx).mono (Hp.le_trans hl3 hl4)
    ·rw[List.mem_singleton.1 hx];exact hC4
   have hmap5:(O++[(w4,g.c)]).map (·.2)=Vx held (vw pg) (i+1):=by rw[List.map_append,hmap,contsV_succ,<-hgc];rfl
  all_goals refine rnG (i+1,ρ4,O++[(w4,g.c)],.slice va2 (i+1) vc2,sp5,es2,ck2,pg2,D2) (⟨hlt,Hp.le_trans hl1 (Hp.le_trans hl3 hl4),hown5,hcin5,hmap5,hm2.mono hl4,hv2,hD2,hL1.trans hL2,hF2⟩)
 ·have hi64:i=64:=by omega
  subst hi64
  have hOl:O.length=64:=by have:=congrArg List.length hmap;simpa [Vx] using this
  have hOok:∀x∈O,Zp x.2=true:=λ x hx=>by
   have:x.2∈O.map (·.2):=List.mem_map.2 ⟨x,hx,rfl⟩
   rw[hmap] at this
   obtain⟨n,hn,e⟩:=List.mem_map.1 this
   rw[<-e];exact hok n (List.mem_range.1 hn)
  repeat' (first|refine zV ?_|intro _)
  refine Zt (ZG (.slice va 64 vc) ((O.map ccV).flatten) sp 88) (h:=by repeat (first|exact ZJ|apply Ya)) (λ ρ5 hl5 hz5=>?_)
  obtain⟨ra,rc,e,hrc,hRA⟩:=hown.aIn (g:=ccV) (l:=O) hOl (λ _ _=>rfl) hz5
  cases e
  have hFo:FoIn ρ5 va 64 O:=⟨hRA,λ x hx=>(hcin x hx).mono hl5⟩
  have hck:=check13_spec O hOl hOok vc va ρ5 hFo
  rw[codeF_docF (foOf_ok hOok) (FoOk.kid (foOf_ok hOok)),foOf_foC,hmap] at hck
  have hfin:=Hp.le_trans hl1 hl5
  have hm5:=hm1.mono hl5
  cases hq:docF (foC (Vx held (vw pg) 64))
  ·rw[hq] at hck
   repeat' (first|(refine Zb (.func 150) ?_;refine qC rfl rfl (hck) ?_;rintro v ρ' L' hle ⟨rfl,rfl,rfl⟩<;>(try simp only[kA,if_false,aB]))|refine zV ?_|intro _)
   exact qE (L':=Yr mb es1 ck1::Zg db k D1) ⟨hfin,.agg ⟨[.slice none 0 0]⟩,230,es1,ck1,pg1,D1,rfl,⟨by rw[hq];rfl,none,0,0,[],rfl,by omega,⟨AIn.nil,by simp⟩,by rw[hq];rfl⟩,hm5,hv1,hD1,hL1,hF1,rfl⟩
  ·rw[hq] at hck
   repeat' (first|(refine Zb (.func 150) ?_;refine qC rfl rfl (hck) ?_;rintro v ρ' L' hle ⟨rfl,rfl,rfl⟩<;>(try simp only[kA,if_true]))|refine zV ?_|intro _)
   exact qE (L':=Yr mb es1 ck1::Zg db k D1) ⟨hfin,.agg ⟨[.slice va 64 vc]⟩,0,es1,ck1,pg1,D1,rfl,⟨by rw[hq];rfl,va,64,vc,O,rfl,by omega,hFo,by rw[hq,if_pos rfl];exact hmap⟩,hm5,hv1,hD1,hL1,hF1,rfl⟩
theorem holdV_self (held:Nat->ZS)(pv:PV)(n:Int):Wd held pv n n=some (Yx held pv n):=by unfold Wd VC;rw[if_pos rfl]
theorem forest17r_spec (ρ:Hp)(pa:Option Addr)(pc:Nat)(qa:Option Addr)(qc:Nat)(next fl:Nat)(P Q:List MH)(hP:MAIn ρ pa P)(hQ:MAIn ρ qa Q)(pv:PV)(held:Nat->ZS)(hM:MR P pv)(hH:QH Q held)
  (hok:∀n,n<64->Fit (Yx held pv (n:Nat)).1) :
  Spec prog 90 [.agg ⟨mdV pa pc qa qc next fl⟩] ρ []
   (λ v ρ' L'=>ρ.le ρ'/\L'=[]/\∃pa' pc' qa' qc' P' fv e,v=.tuple ⟨[.agg ⟨mdV pa' pc' qa' qc' next fl⟩,fv,.int .i64 e]⟩/\ForIn ρ' (Vx held pv 64) fv e/\MAIn ρ' pa' P'/\MAIn ρ' qa' Q/\MR P' (hAV held pv 64)):=by
 refine Za func90 rfl rfl rfl λ u R=>?_
 simp only[Zc,kA]
 repeat' (first|refine zV ?_|intro _)
 rename_i b1 b2 b3 b5
 refine lpG (Nat×Hp×(Option Addr)×Nat×(Option Addr)×Nat×(List MH)×(List CC)×Value×(List Value)) [1,2,3,4,5] (λ z=>[(6,.int .i64 z.1)]) (λ z=>z.2.1) (λ z=>[(b5,.cells ⟨[z.2.2.2.2.2.2.2.2.1]⟩ 161 (0,0))]::ZG z.2.2.2.2.2.2.2.2.1 ((z.2.2.2.2.2.2.2.1.map ccV).flatten) z.2.2.2.2.2.2.2.2.2 88::[[(b3,.cells ⟨[.slice none 0 0]⟩ 161 (0,0))],[(b2,.cells ⟨[.slice none 0 0,.slice none 0 0,.int .u64 0,.int .u64 0,.int .u64 0]⟩ 73 (0,0))],[(b1,.cells ⟨mdV z.2.2.1 z.2.2.2.1 z.2.2.2.2.1 z.2.2.2.2.2.1 next fl⟩ 73 (0,0))]]) (λ z=>z.1<=64/\ρ.le z.2.1/\OwnS z.2.2.2.2.2.2.2.2.1 z.1 ((z.2.2.2.2.2.2.2.1.map ccV).flatten) z.2.2.2.2.2.2.2.2.2 3/\(∀x∈z.2.2.2.2.2.2.2.1,CIn z.2.1 x.1 x.2.rows x.2.kids)/\z.2.2.2.2.2.2.2.1.map (·.2)=Vx held pv z.1/\MAIn z.2.1 z.2.2.1 z.2.2.2.2.2.2.1/\MAIn z.2.1 z.2.2.2.2.1 Q/\MR z.2.2.2.2.2.2.1 (hAV held pv z.1)) (λ z=>64-z.1) (0,ρ,pa,pc,qa,qc,P,[],.slice none 0 0,[]) ⟨aZ _,Hp.le_refl _,OwnS.nil 3,by simp,rfl,hP,hQ,hM⟩ ?_
 rintro⟨i,ρ1,pa1,pc1,qa1,qc1,P1,O,v,sp⟩ hI
 try simp only[kB] at hI ⊢
 try dsimp only at hI ⊢
 obtain⟨hi,hl1,hown,hcin,hmap,hP1,hQ1,hM1⟩:=hI
 obtain⟨va,vc,rfl,hvc⟩:=hown.slice
 by_cases hlt:i<64
 ·have hh:=hold17_spec ρ1 pa1 pc1 qa1 qc1 next fl P1 Q hP1 hQ1 i hlt
  have hM2:MR (holdM P1 Q i) (hAV held pv (i+1)):=hM1.hold hH hP1.len hlt
  have hl2:(holdM P1 Q i).length=64:=by rw[holdM_len];exact hP1.len
  generalize holdM P1 Q i=P2 at *
  have hat:=hM2 i hlt
  rw[show hAV held pv (i+1) (i:Nat)=some (Yx held pv (i:Nat)) by show Wd held (hAV held pv i) (i:Nat) (i:Nat)=_;rw[holdV_self,seenV_hAV]] at hat
  rw[getD_mh (show i<P2.length by omega)] at hat
  repeat' (first|(refine Zb (.func 148) ?_;refine qC rfl rfl hh ?_;rintro v3 ρ3 L3 hq3 ⟨hl3,rfl,pa2,pc2,qa2,qc2,rfl,hP2,hQ2⟩;try simp only[kA])|refine zV ?_|intro _)
  obtain⟨bp,op,Cp,Tp,fp,f1,hbp,hfp,hcp⟩:=hP2.at'.get (show i<P2.length by omega)
  have hcx:=hP2.cin _ (aM (show i<P2.length by omega))
  subst f1
  generalize P2[i]'(by omega)=y at *
  have hyp:=part_of hcp
  have hyc:y.c=(Yx held pv (i:Nat)).1:=by
   split at hat
   ·rw[Option.some.injEq] at hat;rw[hat]
   ·cases hat
  refine Yt [0,2,3,4,5,6,7] (.b 1 8 [] [] (.e 8 [] (.e 9 [10] (.e 11 [] .o))) (.e 1 [] (.e 9 [10] (.e 11 [] .o)))) ([[(b1,.cells ⟨mdV (some ⟨bp,op,none⟩) pc2 qa2 qc2 next fl⟩ 73 (0,0))]]) ?_
  repeat' (refine iT ?_;first|refine rA ?_|((first|(refine iE ?_;refine rE ?_)|(refine iB ?_;refine rB ?_ ?_))<;>((first|(refine Ys (css:=[Yv y.c.kind y.w]) (sz:=3) rfl rfl rfl rfl (by simp) (by simp) rfl (λ bs=>?_);simp only[aF,List.flatten_nil,aN])|(refine YA (ys:=Yv y.c.kind y.w) (m:=1) (sz:=3) rfl rfl hown (hR:=by repeat (first|exact ZJ|apply Ya)) SrcV.lit rfl rfl (by decide) rfl (by omega) (by omega) rfl (λ v5 sp5 hown5=>?_);obtain⟨va2,vc2,rfl,hvc2⟩:=hown5.slice)|(refine i_qq ?_;refine qQ ?_)|(refine qEf ?_;try intro _))<;>(try simp only[kA])<;>refine zN ?_)))
  all_goals (repeat' (first|refine zV ?_|intro _))
  all_goals
   rw[show (O.map ccV).flatten++Yv y.c.kind y.w=((O++[(y.w,y.c)]).map ccV).flatten from (flatL_snoc (O:=O) (x:=(y.w,y.c))).symm] at hown5 ⊢
   have hcin5:∀x∈O++[(y.w,y.c)],CIn ρ3 x.1 x.2.rows x.2.kids:=λ x hx=>by
    rcases List.mem_append.1 hx with hx|hx
    ·exact (hcin x hx).mono hl3
    ·rw[List.mem_singleton.1 hx];exact hcx
   have hmap5:(O++[(y.w,y.c)]).map (·.2)=Vx held pv (i+1):=by rw[List.map_append,hmap,contsV_succ,<-hyc];rfl
  all_goals refine rnG (i+1,ρ3,some ⟨bp,op,none⟩,pc2,qa2,qc2,P2,O++[(y.w,y.c)],.slice va2 (i+1) vc2,sp5) (⟨hlt,Hp.le_trans hl1 hl3,hown5,hcin5,hmap5,hP2,hQ2,hM2⟩)
 ·have hi64:i=64:=by omega
  subst hi64
  have hOl:O.length=64:=by have:=congrArg List.length hmap;simpa [Vx] using this
  have hOx:∀x∈O,Fit x.2:=λ x hx=>by
   have:x.2∈O.map (·.2):=List.mem_map.2 ⟨x,hx,rfl⟩
   rw[hmap] at this
   obtain⟨n,hn,e⟩:=List.mem_map.1 this
   rw[<-e];exact hok n (List.mem_range.1 hn)
  repeat' (first|refine zV ?_|intro _)
  refine Zt (ZG (.slice va 64 vc) ((O.map ccV).flatten) sp 88) (h:=by repeat (first|exact ZJ|apply Ya)) (λ ρ5 hl5 hz5=>?_)
  obtain⟨ra,rc,e,hrc,hRA⟩:=hown.aIn (g:=ccV) (l:=O) hOl (λ _ _=>rfl) hz5
  cases e
  have hFo:FoIn ρ5 va 64 O:=⟨hRA,λ x hx=>(hcin x hx).mono hl5⟩
  have hck:=right13_spec O hOl (λ x hx=>(hOx x hx).ok) (λ x hx=>⟨λ r hr=>((hOx x hx).id.row r hr).id,λ k hk=>(hOx x hx).id.kid k hk⟩) vc va ρ5 hFo
  rw[foOf_foC,hmap] at hck
  have hP5:=hP1.mono hl5
  have hQ5:=hQ1.mono hl5
  cases hq:docF (foC (Vx held pv 64))
  ·rw[hq] at hck
   repeat' (first|(refine Zb (.func 151) ?_;refine qC rfl rfl hck ?_;rintro v6 ρ6 L6 hq6 ⟨rfl,hl6,rfl⟩;try simp only[kA])|refine zV ?_|intro _)
   exact qE (L':=[]) ⟨Hp.le_trans hl1 (Hp.le_trans hl5 hl6),rfl,_,_,_,_,P1,.agg ⟨[.slice none 0 0]⟩,230,rfl,⟨by rw[hq];rfl,none,0,0,[],rfl,by omega,⟨AIn.nil,by simp⟩,by rw[hq];rfl⟩,hP5.mono hl6,hQ5.mono hl6,hM1⟩
  ·rw[hq] at hck
   repeat' (first|(refine Zb (.func 151) ?_;refine qC rfl rfl hck ?_;rintro v6 ρ6 L6 hq6 ⟨rfl,hl6,rfl⟩;try simp only[kA])|refine zV ?_|intro _)
   refine Yt [0,1] (.e 2 [] (.e 3 [] (.f [4] .o))) ([[(b5,.cells ⟨[.slice va 64 vc]⟩ 161 (0,0))],[(b1,.cells ⟨mdV pa1 pc1 qa1 qc1 next fl⟩ 73 (0,0))]]) ?_
   repeat' (refine iT ?_;first|refine rA ?_|(refine rE ?_<;>(refine qEf ?_)<;>(try simp only[kA])<;>refine zN ?_))
   all_goals (repeat' (first|refine zV ?_|intro _))
   all_goals exact qE (L':=[]) ⟨Hp.le_trans hl1 (Hp.le_trans hl5 hl6),rfl,_,_,_,_,P1,.agg ⟨[.slice va 64 vc]⟩,0,rfl,⟨by rw[hq];rfl,va,64,vc,O,rfl,by omega,hFo.mono hl6,by rw[hq,if_pos rfl];exact hmap⟩,hP5.mono hl6,hQ5.mono hl6,hM1⟩
structure Inv (m:Nat)(pv:PV)(held:Nat->ZS):Prop where
 hfit:∀n,n<64->Fit (held n).1/\(held n).2<=m
 pfit:∀n,n<64->∀x,pv (n:Nat)=some x->Fit x.1/\x.2.1<=m
theorem Inv.seen {m:Nat}{pv:PV}{held:Nat->ZS}(h:Inv m pv held){n:Nat}(hn:n<64):Fit (Yx held pv (n:Nat)).1/\(Yx held pv (n:Nat)).2.1<=m:=by
 unfold Yx
 cases hp:pv (n:Nat) with
 | none=>rw[Option.getD_none,Int.toNat_natCast];exact h.hfit n hn
 | some x=>exact h.pfit n hn x hp
theorem Inv.set {m:Nat}{pv:PV}{held:Nat->ZS}(h:Inv m pv held){k:Int}{y:ZO×Nat×Nat}(hy:Fit y.1/\y.2.1<=m):Inv m (VC pv k y) held:=⟨h.hfit,λ n hn x hx=>by
 unfold VC at hx
 split at hx
 ·cases hx;exact hy
 ·exact h.pfit n hn x hx⟩
theorem Inv.hold {m:Nat}{pv:PV}{held:Nat->ZS}(h:Inv m pv held){k:Int}(hk:0<=k/\k<64):Inv m (Wd held pv k) held:=by
 obtain⟨n,rfl⟩:∃n:Nat,k=n:=⟨k.toNat,by omega⟩
 exact h.set (h.seen (by omega))
theorem Inv.holds {m:Nat}{held:Nat->ZS}:∀{pv:PV} (l:List Sh),Inv m pv held->(∀s∈l,0<=s.page/\s.page<64)->Inv m (XG held pv l) held
 | _,[],h,_=>h
 | _,s::r,h,hl=>Inv.holds r (h.hold (hl s (by simp))) (λ x hx=>hl x (by simp[hx]))
theorem Inv.hAV {m:Nat}{pv:PV}{held:Nat->ZS}(h:Inv m pv held):∀i,i<=64->Inv m (hAV held pv i) held
 | 0,_=>h
 | i+1,hi=>(Inv.hAV h i (by omega)).hold (by omega)
theorem Inv.chgs {m lsn:Nat}{held:Nat->ZS}(hl:lsn<=m):∀{pv:PV} (l:List Sh),Inv m pv held->(∀s∈l,Fit s.c)->Inv m (chgsV lsn pv l) held
 | _,[],h,_=>h
 | _,s::r,h,hf=>Inv.chgs hl r (h.set ⟨hf s (by simp),hl⟩) (λ x hx=>hf x (by simp[hx]))
theorem Inv.ask {m:Nat}{pv:PV}{held:Nat->ZS}(h:Inv m pv held)(known:Bool)(l:List Sh):Inv m (askV known held pv l) held:=by
 unfold askV
 split
 ·exact h
 ·split
  ·exact h
  ·rename_i h1
   split
   ·exact h
   ·exact h.holds l (WE (by simpa using h1))
theorem Inv.chg {m:Nat}{pv:PV}{held:Nat->ZS}(h:Inv m pv held){known:Bool}{lsn:Nat}{l:List Sh}(hk:known=decide (1<=lsn/\lsn<=m))(hid:∀s∈l,IdFit s.c):Inv m (chgV known held pv lsn l) held:=by
 unfold chgV
 split
 ·rename_i hE
  obtain⟨h1,h2,h3,h4,h5⟩:=askE_zero hE
  rw[hk] at h1
  have h1:=of_decide_eq_true h1
  rw[h4]
  exact Inv.chgs h1.2 l (h.holds l (WE h2)) (λ s hs=>⟨(List.all_eq_true.1 h3) s hs,hid s hs⟩)
 ·exact h.ask known l
theorem Inv.mono {m m':Nat}{pv:PV}{held:Nat->ZS}(h:Inv m pv held)(hm:m<=m'):Inv m' pv held:=
 ⟨λ n hn=>⟨(h.hfit n hn).1,by have:=(h.hfit n hn).2;omega⟩,λ n hn x hx=>⟨(h.pfit n hn x hx).1,by have:=(h.pfit n hn x hx).2;omega⟩⟩
theorem Inv.evict {m:Nat}{pg:Pgs}{held:Nat->ZS}(h:Inv m (vw pg) held)(k:Int):Inv m (vw (evictG pg k)) held:=by
 unfold evictG
 split
 ·rw[vw_del]
  refine⟨h.hfit,λ n hn x hx=>?_⟩
  split at hx
  ·cases hx
  ·exact h.pfit n hn x hx
 ·exact h
theorem Inv.steal {m:Nat}{pv:PV}{held:Nat->ZS}(h:Inv m pv held){n:Nat}(hn:n<64){x:ZO×Nat×Nat}(hx:pv (n:Nat)=some x):Inv m (VC pv (n:Nat) (x.1,x.2.1,0)) (upd held n (x.1,x.2.1)):=by
 have hp:=h.pfit n hn x hx
 refine⟨λ k hk=>?_,λ k hk y hy=>?_⟩
 ·unfold upd
  split
  ·exact hp
  ·exact h.hfit k hk
 ·unfold VC at hy
  split at hy
  ·cases hy;exact hp
  ·exact h.pfit k hk y hy
theorem fit_zero:Fit (⟨0,[],[]⟩:ZO):=⟨by decide,⟨λ r hr=>by simp at hr,λ k hk=>by simp at hk⟩⟩
theorem Inv.zero {pg:Pgs}(h:∀n,pg n=none):Inv 0 (vw pg) (λ _=>zHeld):=⟨λ n _=>⟨fit_zero,aR _⟩,λ n _ x hx=>by unfold vw at hx;rw[h] at hx;cases hx⟩
theorem read_dead {D:DS}(h:D.dead=true)(base num:Nat):(Xy D base num).1.2.2=9/\(Xy D base num).2=D:=by
 have hr:∀i:Int,D.read i=(D,Xs,9):=λ i=>by unfold DS.read;rw[if_pos h]
 have h0:slR D base num 0=(D,(Xs,Xs),9):=by
  unfold slR Wo slD
  rw[hr,if_pos (by simp)]
 have hc:Zo D base num=((zSl,0),D,9):=by
  unfold Zo
  rw[h0,if_pos (by simp)]
 unfold Xy
 rw[hc,if_pos (.inl (by simp))]
 exact⟨rfl,rfl⟩
abbrev PaIn (ρ:Hp)(xb db fb lb pb:Nat):Prop:=ρ xb=some (.cells ⟨[.pointer (some ⟨db,0,none⟩),.pointer (some ⟨fb,0,none⟩),.pointer (some ⟨lb,0,none⟩),.pointer (some ⟨pb,0,none⟩)]⟩ 81 (0,0))
theorem kformat17 (ρ:Hp)(db:Nat)(k:DK)(D:DS)(hk:DOk k D)(hc:D.Calm)(he:YC D.secs)(hl:902+256<=D.secs.length) :
  Spec prog 82 [.pointer (some ⟨db,0,none⟩),.int .i64 902] ρ (Zg db k D) (λ v ρ' L'=>ρ.le ρ'/\∃fb k' D',v=.tuple ⟨[.pointer (some ⟨fb,0,none⟩),.int .i64 0]⟩/\FIn ρ' fb db 902/\DOk k' D'/\FO D' 902 0 (λ _=>zHeld)/\D'.Calm/\YC D'.secs/\D'.secs.length=D.secs.length/\(∀i,i<902->img D' i=img D i)/\L'=Zg db k' D'):=by
 obtain⟨e0,e1,e2⟩:=FO.format (base:=902) hk.ok hc he hl
 obtain⟨g0,g1,g2⟩:=FO.formatL (base:=902) hc he hl
 refine (Format_spec ρ db k D hk 902 hl e0).mono ?_
 rintro v ρ' L' _ ⟨hle,fb,k',h3,h4,h5,h6⟩
 exact⟨hle,fb,k',_,h3,h4,h5,e2,e1,g0,g1,λ i hi=>g2 i (.inl hi),h6⟩
theorem begun17_spec (ρ:Hp):Spec prog 28 [] ρ [] (λ v ρ' L'=>ρ.le ρ'/\∃xb db fb lb rb pb mb w k R D,v=.tuple ⟨[.pointer (some ⟨xb,0,none⟩),.bool true]⟩/\PaIn ρ' xb db fb lb pb/\PoIn ρ' pb fb lb mb/\FIn ρ' fb db 902/\RIn ρ' R w/\DOk k D/\StoK R 0 0 D 0 (λ _=>zHeld) /\
   L'=Yr mb [] 0::ZW lb rb (pS R 0 0) (.slice none 0 0)::(Yb rb db R w++Zg db k D)):=by
 refine Za func28 rfl rfl rfl λ u R=>?_
 simp only[Zc,kA]
 repeat' (first|(refine Zb (.func 6) ?_;refine qC rfl rfl (knew _ 1158 (by omega) (by omega)) ?_;rintro v ρ' L' hle ⟨rfl,db,k0,rfl,hk0,rfl⟩<;>(try simp only[kA]))|(refine Zb (.func 7) ?_;refine qC rfl rfl (kformat16 _ 450 1158 (by omega) (by omega) (by omega) (by omega) db k0 hk0) ?_;rintro v1 ρ1 L1 hle1 ⟨hl1,lb,rb,w1,k1,D1,rfl,hk1,hr1,g1,hlen1,rfl⟩;try simp only[kB])|(refine Zb (.func 82) ?_;refine qC rfl rfl (kformat17 _ db k1 D1 hk1 g1.calm g1.ro.empty (by omega)) ?_;rintro v2 ρ2 L2 hle2 ⟨hl2,fb,k2,D2,rfl,hf2,hk2,fo2,c2,em2,len2,im2,rfl⟩;try simp only[kB])|(refine Zb (.func 83) ?_;refine qC rfl rfl (new17_spec _ fb lb) ?_;rintro v3 ρ3 L3 hle3 ⟨hl3,pb,mb,rfl,hp3,rfl⟩;try simp only[kB])|refine zW ?_|intro _)
 rename_i xb
 refine ZB [(xb,.cells ⟨[.pointer (some ⟨db,0,none⟩),.pointer (some ⟨fb,0,none⟩),.pointer (some ⟨lb,0,none⟩),.pointer (some ⟨pb,0,none⟩)]⟩ 81 (0,0))] (h:=Rem.here) (λ ρ4 hl4 hf4=>?_)
 have hx:=hf4 _ (List.mem_singleton.2 rfl)
 have hg2:Good ⟨ZI 450,[],0,false⟩ D2:=g1.frame hk2.ok c2 em2 len2 (λ i hi=>im2 i (by have:({ h:=ZI 450,ents:=[],used:=0,broken:=false }:RgS).h.size=450:=rfl;omega))
 have hfin:=Hp.le_trans hl1 (Hp.le_trans hl2 (Hp.le_trans hl3 hl4))
 exact qE (L':=Yr mb [] 0::ZW lb rb (pS ⟨ZI 450,[],0,false⟩ 0 0) (.slice none 0 0)::(Yb rb db ⟨ZI 450,[],0,false⟩ w1++Zg db k2 D2)) ⟨Hp.le_trans hl1 (Hp.le_trans hl2 (Hp.le_trans hl3 hl4)),xb,db,fb,lb,rb,pb,mb,w1,k2,_,D2,rfl,hx,Hp.at' hl4 hp3,hf2.mono (Hp.le_trans hl3 hl4),hr1.mono (Hp.le_trans hl2 (Hp.le_trans hl3 hl4)),hk2,⟨hg2,fo2,rfl,rfl,rfl,aR _,by omega⟩,rfl⟩
theorem pS_in {ρ:Hp}(R:RgS):LgIn ρ (pS R 0 0) (.slice none 0 0) []:=newLg_in
theorem appends17_spec (ρ:Hp)(xb db fb lb rb pb:Nat)(hx:PaIn ρ xb db fb lb pb)(R:RgS)(fl m:Nat)(hm:m<300)(v:Value)(sp:List Value)(h:LgIn ρ (pS R fl m) v sp) :
  Spec prog 75 [.pointer (some ⟨xb,0,none⟩)] ρ [ZW lb rb (pS R fl m) v,YK (pS R fl m) v sp]
   (λ z ρ' L'=>z=.bool true/\ρ.le ρ'/\∃v' sp',LgIn ρ' (pS R fl (m+1)) v' sp'/\L'=[ZW lb rb (pS R fl (m+1)) v',YK (pS R fl (m+1)) v' sp']):=by
 have ha:=append16_yes ρ lb rb (pS R fl m) v sp h (Vt (m+1) 1) (begR_in _ _) 0 (pS_app R fl m hm)
 rw[pS_more] at ha
 have hn:=Vh ρ lb rb (pS R fl m) v sp h
 rw[pS_next] at hn
 refine Za func75 rfl rfl rfl λ u R=>?_
 simp only[Zc,kA]
 repeat' (first|refine zW ?_|intro _)
 refine Yt [0,1,2,3,4,5,6,7] (.e 8 [9] (.e 10 [] (.f [11,12] .o))) ([]) ?_
 repeat' (refine iT ?_;first|refine rA ?_|(refine rE ?_<;>((first|(refine Zb (.func 36) ?_;refine qR rfl rfl (hn) ?_;try simp only[kA])|(refine Zb (.func 13) ?_;refine qC rfl rfl ha ?_;rintro v1 ρ1 L1 hle1 ⟨rfl,hl1,v',sp',hin,rfl⟩;try simp only[kB]))<;>(try simp only[kA])<;>refine zN ?_)))
 all_goals (repeat' (first|refine zW ?_|intro _))
 all_goals exact qE (L':=[ZW lb rb (pS _ fl (m+1)) v',YK (pS _ fl (m+1)) v' sp']) ⟨rfl,hl1,v',sp',hin,rfl⟩
abbrev leaf7:ZO:=⟨1,[⟨0,1,7,[]⟩],[]⟩
theorem leaf7_fit:Fit leaf7:=⟨by decide,⟨λ r hr=>by simp at hr;subst hr;exact⟨by decide,by decide⟩,λ k hk=>by simp at hk⟩⟩
theorem leaf17_spec (ρ:Hp):Spec prog 77 [.int .i64 7] ρ [] (λ v ρ' L'=>ρ.le ρ'/\∃w,v=.agg ⟨Yv 1 w⟩/\CIn ρ' w leaf7.rows leaf7.kids/\L'=[]):=by
 refine Za func77 rfl rfl rfl λ u R=>?_
 simp only[Zc,kA]
 repeat' (first|(refine tl_y (y_build (vs:=[.agg ⟨[.int .i64 0,.int .u16 1]⟩,.int .i64 7]) (cells:=⟨Yz ⟨0,1,7,[]⟩⟩) rfl rfl) rfl rfl ?_)|(refine Ys (css:=[Yz ⟨0,1,7,[]⟩]) (sz:=4) rfl rfl rfl rfl (by simp) (by simp) rfl (λ bs=>?_);refine Zt [(bs,.cells ⟨([Yz ⟨0,1,7,[]⟩]:List (List Value)).flatten⟩ 171 (0,0))] (h:=Rem.here) (λ ρ1 hl1 hfz=>?_))|refine zW ?_|intro _)
 have hb:=hfz _ (List.mem_singleton.2 rfl)
 have hA:AIn ρ1 4 Yz (some ⟨bs,0,none⟩) 1 leaf7.rows:=⟨rfl,.inr ⟨bs,0,_,_,_,rfl,hb,by simp,by simp⟩,λ x hx=>by simp at hx;subst hx;rfl⟩
 have hC:CIn ρ1 ⟨some ⟨bs,0,none⟩,1,1,none,0,0⟩ leaf7.rows leaf7.kids:=⟨hA,AIn.nil,by dsimp only;omega,by dsimp only;omega,aR _,aR _⟩
 exact qE (L':=[]) ⟨hl1,⟨some ⟨bs,0,none⟩,1,1,none,0,0⟩,rfl,hC,rfl⟩
def pg0:Pgs:=λ _=>none
theorem mp0 {ρ:Hp}:MpIn ρ [] pg0:=⟨(by intro e he;cases he),List.Pairwise.nil,λ _=>rfl,(by intro n g h;cases h)⟩
theorem wk17_a (w:CV):askE true (λ _=>zHeld) (vw pg0) 1 [⟨5,w,leaf7⟩]=0:=by rfl
theorem wk17_v (w:CV):chgV true (λ _=>zHeld) (vw pg0) 1 [⟨5,w,leaf7⟩]=VC (VC (vw pg0) 5 (⟨0,[],[]⟩,0,0)) 5 (leaf7,1,1):=by
 unfold chgV
 rw[wk17_a w,if_pos rfl]
 rfl
theorem ev_dirty {pg:Pgs}{g:Pg}(h:pg 5=some g)(h0:g.rc≠0):Wc pg 5=270:=by
 unfold Wc;rw[if_pos (by omega),h];show (if g.rc=0 then (0:Int) else 270)=270;rw[if_neg h0]
theorem ev_gone {pg:Pgs}(h:Wc pg 5=270):evictG pg 5=pg:=by unfold evictG;rw[h,if_neg (by omega)]
theorem ev_zero {pg:Pgs}{g:Pg}(_:pg 5=some g):Wc (updG pg (5:Nat) { g with rc:=0 }) 5=0:=by
 unfold Wc;rw[if_pos (by omega)];rfl
theorem wakes17_spec (ρ:Hp):Spec prog 27 [] ρ [] (λ v ρ' L'=>v=.bool true/\ρ.le ρ'/\L'=[]):=by
 refine Za func27 rfl rfl rfl λ u R=>?_
 simp only[Zc,kA]
 repeat' (first|(refine Zb (.func 75) ?_;refine qC rfl rfl (appends17_spec _ xb db fb lb rb pb hx2 R0 0 1 (by omega) va2 sp2 hin2) ?_;rintro v3 ρ3 L3 hle3 ⟨rfl,hl3,va3,sp3,hin3,rfl⟩;have hx3:=Hp.at' hl3 hx2;try simp only[kB])|(refine Zb (.func 75) ?_;refine qC rfl rfl (appends17_spec _ xb db fb lb rb pb hx1 R0 0 0 (by omega) _ [] (pS_in R0)) ?_;rintro v2 ρ2 L2 hle2 ⟨rfl,hl2,va2,sp2,hin2,rfl⟩;have hx2:=Hp.at' hl2 hx1;try simp only[kB])|(refine Zb (.func 28) ?_;refine qC rfl rfl (begun17_spec _) ?_;rintro v1 ρ1 L1 hle1 ⟨hl1,xb,db,fb,lb,rb,pb,mb,w1,k1,R0,D1,rfl,hx1,hp1,hf1,hr1,hk1,st1,rfl⟩;try simp only[kB])|refine zV ?_|intro _)
 have hl13:=Hp.le_trans hl2 hl3
 have hp3:=Hp.at' hl13 hp1
 have hf3:=hf1.mono hl13
 have hr3:=hr1.mono hl13
 have st3:StoK R0 0 2 D1 0 (λ _=>zHeld):=(st1.more (by omega)).more (by omega)
 have hS3:(recF (pS R0 0 2) 1).isSome=true:=by rw[pS_rec];rfl
 refine Yt [0,1,2,3] (.e 4 [5] (.e 6 [] (.e 7 [8,9,10,11,12,13] (.e 14 [15,16,17,18,19,20,21] (.e 22 [23,24,25,26,27,28,29] (.e 30 [] (.f [31,32] .o))))))) ([]) ?_
 repeat' (refine iT ?_;first|refine rAb ?_|(refine rE ?_<;>((try refine ZX ?_);(first|(refine Zb (.func 78) ?_;refine qC rfl rfl hE9 ?_;rintro v9 ρ9 L9 hle9 ⟨rfl,rfl,es9,ck9,hm9,rfl⟩;try simp only[kB])|(refine Zb (.func 79) ?_;refine qC rfl rfl hS8 ?_;rintro v8 ρ8 L8 hle8 ⟨rfl,hl8,es8,ck8,w8,k8,hm8,hr8,hk8,rfl⟩;simp only[if_true] at hm8;have hx8:=Hp.at' hl8 hx6;have hp8:=Hp.at' hl8 hp6;have hf8:=hf6.mono hl8;have hE9:=evict17_spec ρ8 pb fb lb mb hp8 5 _ es8 ck8 hm8;rw[ev_zero hg6] at hE9;try simp only[kB])|(refine Zb (.func 78) ?_;refine qC rfl rfl hE7 ?_;rintro v7 ρ7 L7 hle7 ⟨rfl,rfl,es7,ck7,hm7,rfl⟩;rw[ev_gone hev6] at hm7;have hS8:=steal17_spec _ pb fb lb mb rb db 902 5 hp6 hf6 (by omega) (by omega) pg6 es7 ck7 hm7 g6 hg6 hok6 hrc6 (pS R0 0 2) va3 sp3 hin6 w1 hr6 k1 D6 hk6 (by show 0<1000000000000000;omega);rw[e8] at hS8;try simp only[kB])|(refine Zb (.func 76) ?_;refine qC rfl rfl hch ?_;rintro v6 ρ6 L6 hle6 ⟨rfl,hl6,es6,ck6,pg6,D6,hm6,hv6,hk6,hL6,hF6,rfl⟩;have hx6:=Hp.at' hl6 hx5;have hp6:=Hp.at' hl6 hp5;have hf6:=hf5.mono hl6;have hin6:=hin5.mono hl6;have hr6:=hr5.mono hl6;obtain⟨g6,hg6,q1,q2,q3⟩:=vw_some (pg:=pg6) (n:=5) (x:=(leaf7,1,1)) (by rw[hv6];rfl);have hev6:=ev_dirty hg6 (by rw[q3];decide);have hE7:=evict17_spec ρ6 pb fb lb mb hp6 5 pg6 es6 ck6 hm6;rw[hev6] at hE7;have hok6:PgOk g6:=⟨by rw[q1];exact leaf7_fit.ok,by rw[q1];exact leaf7_fit.id,by rw[q2];decide⟩;have hrc6:g6.rc≠0:=(by rw[q3];decide);have st6:=st3.lv hL6 hF6;obtain⟨R8,D8,e8,st8⟩:=st6.steal (num:=5) (g:=g6) (by omega) (by rw[q1];exact leaf7_fit) (by rw[q2];show (1:Nat)<=2;omega) (by decide);try simp only[kB])|(refine Zb (.func 77) ?_;refine qC rfl rfl (leaf17_spec _) ?_;rintro v4 ρ4 L4 hle4 ⟨hl4,w4,rfl,hC4,rfl⟩;have hx4:=Hp.at' hl4 hx3;try simp only[kB])|(refine Ys (css:=[sheV ⟨5,w4,leaf7⟩]) (sz:=4) rfl rfl rfl rfl (by simp) (by simp) rfl (λ bs=>?_);refine Zt [(bs,.cells ⟨([sheV ⟨5,w4,leaf7⟩]:List (List Value)).flatten⟩ 150 (0,0))] (h:=Rem.here) (λ ρ5 hl5 hfz=>?_);have hl35:=Hp.le_trans hl4 hl5;have hx5:=Hp.at' hl5 hx4;have hp5:=Hp.at' hl35 hp3;have hf5:=hf3.mono hl35;have hin5:=hin3.mono hl35;have hr5:=hr3.mono hl35;have hch:=change17_spec ρ5 pb fb lb mb rb db 902 0 hp5 hf5 (by omega) (pS R0 0 2) va3 sp3 hin5 k1 D1 hk1 pg0 [] 0 mp0 (λ _=>zHeld) st3.fo st3.good.calm.lv 1 (some ⟨bs,0,none⟩) 1 1 [⟨5,w4,leaf7⟩] ⟨⟨rfl,.inr ⟨bs,0,_,_,_,rfl,hfz _ (List.mem_singleton.2 rfl),by simp,by simp⟩,λ x hx=>by simp at hx;subst hx;rfl⟩,by omega,λ s hs=>by rw[List.mem_singleton.1 hs];exact hC4.mono hl5⟩;rw[hS3,wk17_a,wk17_v] at hch)|(refine qEf ?_;try intro _))<;>(try simp only[kA])<;>refine zN ?_)))
 all_goals
  have hgone:vw (evictG (updG pg6 (5:Nat) { c:=g6.c,w:=g6.w,lsn:=g6.lsn,rc:=0 }) 5) (5:Nat)=none:=by
   unfold evictG;rw[ev_zero hg6,if_pos rfl,vw_del];rfl
  have hsv:Yx (upd (λ _=>zHeld) 5 (g6.c,g6.lsn)) (vw (evictG (updG pg6 (5:Nat) { c:=g6.c,w:=g6.w,lsn:=g6.lsn,rc:=0 }) 5)) (5:Nat)=(leaf7,1,0):=by
   unfold Yx;rw[hgone,q1,q2];rfl
  have hfs:(pS R8 (max 0 g6.lsn) 2).fl=1:=by show max 0 g6.lsn=1;rw[q2];rfl
  have hPg:=page_lv _ pb fb lb mb db 902 5 1 hp8 hf8 (by omega) (by omega) k8 D8 hk8 _ es9 ck9 hm9 _ st8.fo st8.good.calm.lv
  rw[hsv] at hPg
  have hFl:=λ ρ=>Vy ρ lb rb (pS R8 (max 0 g6.lsn) 2) va3
  rw[hfs] at hFl
  dsimp only at hPg
  repeat' (first|(refine Zb (.func 80) ?_;refine qC rfl rfl hPg ?_;rintro v10 ρ10 L10 hle10 ⟨hl10,w10,es10,ck10,pg10,D10,rfl,hC10,hm10,hv10,hk10,hL10,hF10,rfl⟩;have hx10:=Hp.at' hl10 hx8;try simp only[kB])|refine zV ?_|intro _)
  rename_i b3
  refine Yt [0,1,2,3,4,5,6,7] (.e 8 [] (.e 9 [10,11,12,13,14,15] (.e 16 [] (.f [17,18,19] .o)))) ([[(b3,.cells ⟨Yv 1 w10⟩ 88 (0,0))]]) ?_
  repeat' (refine iT ?_;first|refine rA ?_|(refine rE ?_<;>((try refine ZX ?_);(first|(refine Zb (.func 77) ?_;refine qC rfl rfl (leaf17_spec _) ?_;rintro v11 ρ11 L11 hle11 ⟨hl11,w11,rfl,hC11,rfl⟩;have hx11:=Hp.at' hl11 hx10;have hSm:=sameR_spec ρ11 w10 w11 leaf7 leaf7 (hC10.mono hl11) hC11;rw[decide_eq_true rfl] at hSm;try simp only[kB])|(refine Zb (.func 81) ?_;refine qR rfl rfl (hSm) ?_;try simp only[kA])|(refine Zb (.func 34) ?_;refine qR rfl rfl (hFl _) ?_;try simp only[kA]))<;>(try simp only[kA])<;>refine zN ?_)))
  all_goals (repeat' (first|refine zV ?_|intro _))
  all_goals have hfin:=Hp.le_trans hl1 (Hp.le_trans hl13 (Hp.le_trans (Hp.le_trans hl4 hl5) (Hp.le_trans hl6 (Hp.le_trans hl8 (Hp.le_trans hl10 hl11)))))
  all_goals exact qE (L':=[]) ⟨rfl,hfin,rfl⟩
theorem wrap_ops {a:Int}(h0:0<=a)(h1:a<1000000):IntKind.i64.wrap (a+1)=a+1:=by
 simp[IntKind.wrap,IntKind.signed,IntKind.bits]
 omega
theorem lays_ops:∀(l:List (Nat×Blk)) (D:DS),D.Calm->(∀p∈l,p.1<D.secs.length)->0<=D.ops->D.ops+l.length<900000->(DS.lays l D).1.ops=D.ops+l.length+1
 | [],D,h,_,h0,h1=>by
  simp only[List.length_nil] at h1
  rw[DS.lays,h.sync_eq]
  simp only[List.length_nil]
  rw[wrap_ops h0 (by omega)];omega
 | p::r,D,h,hl,h0,h1=>by
  simp only[aC] at h1
  have hp:=hl p (by simp)
  unfold DS.lays
  rw[h.write_eq hp,if_pos rfl,wrap_ops h0 (by omega)]
  rw[lays_ops r _ ⟨rfl,rfl,rfl⟩ (λ q hq=>by simp only[Xq];exact hl q (by simp[hq])) (by dsimp only;omega) (by dsimp only;omega)]
  simp only[aC];omega
structure EmptyD (D:DS)(n q:Nat):Prop where
 calm:D.Calm
 em:YC D.secs
 len:D.secs.length=n
 ops0:0<=D.ops
 ops1:D.ops<=257*q
theorem EmptyD.new (n:Nat):EmptyD (DS.new n) n 0:=⟨new_calm,fresh_empty,by simp[DS.new,fresh],by simp[DS.new],by simp[DS.new]⟩
theorem EmptyD.mono {D:DS}{n q:Nat}(h:EmptyD D n q):EmptyD D n (q+1):=⟨h.calm,h.em,h.len,h.ops0,by have:=h.ops1;omega⟩
theorem EmptyD.format {D:DS}{n q base:Nat}(h:EmptyD D n q)(hok:D.Ok)(hq:q<=4)(hb:base+256<=n) :
  (DS.lays (ZC base) D).2=0/\EmptyD (DS.lays (ZC base) D).1 n (q+1)/\(DS.lays (ZC base) D).1.ops=D.ops+257:=by
 obtain⟨hc,he,hl,h0,h1⟩:=h
 have hidx:∀p∈ZC base,p.1<D.secs.length:=λ p hp=>by
  simp only[ZC,List.mem_map,List.mem_range] at hp
  obtain⟨k,hk,rfl⟩:=hp
  dsimp only;omega
 obtain⟨l0,l1,l2⟩:=XN (ZC base) D hc hidx
 have l3:=lays_ops (ZC base) D hc hidx h0 (by rw[noughtsF_len];omega)
 rw[noughtsF_len] at l3
 refine⟨l0,⟨l1,by rw[l2];exact ZK,by rw[YX];exact hl,by rw[l3];omega,by rw[l3];omega⟩,by rw[l3];omega⟩
def shortR (r:Row):Row:=⟨r.t,r.id,r.val,r.note.take 9⟩
theorem take_min9 (l:List UInt8):l.take (min (l.length:Int) 9).toNat=l.take 9:=by
 by_cases h:l.length<=9
 ·rw[show (min (l.length:Int) 9).toNat=l.length by omega,aT (aR _),aT h]
 ·rw[show (min (l.length:Int) 9).toNat=9 by omega]
structure CInW (ρ:Hp)(v:CV)(rows:List Row)(kids:List Kid):Prop where
 r:AIn ρ 4 Yz v.ra v.rn rows
 k:AIn ρ 3 XD v.ka v.kn kids
 rb:v.rn<=9223372036854775807
 kb:v.kn<=9223372036854775807
 rc:v.rn<=v.rc
 kc:v.kn<=v.kc
theorem CInW.mono {ρ ρ' v rows kids}(h:CInW ρ v rows kids)(hle:ρ.le ρ'):CInW ρ' v rows kids:=⟨h.r.mono hle,h.k.mono hle,h.rb,h.kb,h.rc,h.kc⟩
theorem flatK_one (l:List Kid):((l.map XD).flatten).all (·.oneCell')=true:=by
 induction l with
 | nil=>rfl
 | cons k r ih=>simp only[List.map_cons,aF,List.all_append,ih,Bool.and_true];rfl
theorem flatR_one (l:List Row):((l.map Yz).flatten).all (·.oneCell')=true:=by
 induction l with
 | nil=>rfl
 | cons k r ih=>simp only[List.map_cons,aF,List.all_append,ih,Bool.and_true];rfl
theorem row_get {sp:List Value}:∀(acc:List Row) (k:Nat) (r:Row),acc[k]?=some r->((acc.map Yz).flatten++sp)[0+k*4+3]?=some (strV r.note)
 | [],k,r,h=>by cases h
 | a::t,0,r,h=>by cases h;rfl
 | a::t,k+1,r,h=>by
  have ih:=row_get (sp:=sp) t k r (by simpa using h)
  rw[show 0+(k+1)*4+3=(0+k*4+3)+4 by omega]
  simpa only [List.map_cons,aF,Yz,kA,List.getElem?_cons_succ] using ih
theorem row_set {sp:List Value}(s:List UInt8):∀(acc:List Row) (k:Nat) (r:Row),acc[k]?=some r->((acc.map Yz).flatten++sp).set (0+k*4+3) (strV s)=((acc.set k ⟨r.t,r.id,r.val,s⟩).map Yz).flatten++sp
 | [],k,r,h=>by cases h
 | a::t,0,r,h=>by cases h;rfl
 | a::t,k+1,r,h=>by
  have ih:=row_set (sp:=sp) s t k r (by simpa using h)
  rw[show 0+(k+1)*4+3=(0+k*4+3)+4 by omega]
  simp only[List.map_cons,aF,Yz,kA,List.set_cons_succ]
  rw[ih]
theorem row_setL {sp:List Value}(s:List UInt8){acc:List Row}{k:Nat}{r:Row}(h:acc[k]?=some r):SetL ((acc.map Yz).flatten++sp) (0+k*4+3) (strV s) (((acc.set k ⟨r.t,r.id,r.val,s⟩).map Yz).flatten++sp):=by
 have h1:=row_get (sp:=sp) acc k r h
 have hlt:0+k*4+3<((acc.map Yz).flatten++sp).length:=by
  rcases Nat.lt_or_ge (0+k*4+3) ((acc.map Yz).flatten++sp).length with hh|hh
  ·exact hh
  ·rw[List.getElem?_eq_none hh] at h1;cases h1
 refine⟨hlt, ?_⟩
 rw[<-row_set s acc k r h,List.set_eq_take_append_cons_drop,if_pos hlt]
 simp[stc]
theorem set_step (RS:List Row)(k:Nat)(h:k<RS.length):((RS.take k).map shortR++RS.drop k).set k (shortR RS[k])=(RS.take (k+1)).map shortR++RS.drop (k+1):=by
 rw[List.set_append_right _ _ (by simp;omega),List.drop_eq_getElem_cons h,aG h]
 rw[show k-((RS.take k).map shortR).length=0 by simp;omega]
 simp only[List.set_cons_zero,List.map_append,List.map_cons,List.map_nil,aA,kA]
theorem get_step (RS:List Row)(k:Nat)(h:k<RS.length):((RS.take k).map shortR++RS.drop k)[k]?=some RS[k]:=by
 rw[List.getElem?_append_right (by simp;omega),List.drop_eq_getElem_cons h]
 simp[show k-min k RS.length=0 by omega]
end Go.Proofs.E
namespace Go.Proofs.E
open Go Go.RowKit Tryz
set_option maxHeartbeats 1000000
attribute [local irreducible] Yl TL TC TE Spec YW R1 Hp.le EnvLe TS TR YS Zv TP QP
set_option maxRecDepth 8000
theorem rs_flat {α:Type}{sz:Nat}{g:α->List Value}{C:List Value}{off:Nat}:∀(l:List α) (k:Nat),k<=l.length->(∀i (h:i<l.length),(C.drop (off+i*sz)).take sz=g l[i])->(C.drop off).take (k*sz)=((l.take k).map g).flatten
 | l,0,_,_=>by simp
 | l,k+1,hk,h=>by
  have ih:=rs_flat l k (by omega) h
  rw[show l.take (k+1)=l.take k++[l[k]'(by omega)] from aG (by omega),Nat.add_mul,Nat.one_mul,List.take_add,ih,List.drop_drop,h k (by omega)]
  simp only[List.map_append,List.flatten_append,List.map_cons,List.map_nil,aF,List.flatten_nil,aN]
theorem aIn_of {ρ:Hp}{α:Type}{sz:Nat}{g:α->List Value}{P:α->Prop}{cs:List Value}{s:Option Addr×Nat×Nat×List α}(hg:∀x,(g x).length=sz)(h:RS ρ sz (λ cs x=>cs=g x/\P x) cs s):AIn ρ sz g s.1 s.2.1 s.2.2.2/\(∀x∈s.2.2.2,P x)/\s.2.1<=s.2.2.1/\s.2.1<=9223372036854775807:=by
 obtain⟨a,n,c,ks⟩:=s
 obtain⟨h1,h2,h3,h4,h5⟩:=h
 dsimp only at h1 h2 h3 h4 h5 ⊢
 refine⟨⟨h4, ?_,λ x _=>hg x⟩,λ x hx=>?_,h2,by omega⟩
 ·by_cases h0:n=0
  ·exact .inl h0
  ·right
   obtain⟨b,off,C,T,fr,e1,e2,e3,e4⟩:=h5 0 (by omega)
   have same:∀i (h:i<ks.length),off+i*sz+sz<=C.length/\(C.drop (off+i*sz)).take sz=g ks[i]:=λ i hi=>by
    obtain⟨b',off',C',T',fr',f1,f2,f3,f4⟩:=h5 i hi
    rw[e1] at f1
    cases f1
    rw[e2] at f2
    cases f2
    exact⟨f3,f4.1⟩
   refine⟨b,off,C,T,fr,e1,e2, ?_, ?_⟩
   ·have:=(same (n-1) (by omega)).1
    have e:n*sz=(n-1)*sz+sz:=by
     obtain⟨m,rfl⟩:∃m,n=m+1:=⟨n-1,by omega⟩
     rw[Nat.add_mul];simp
    omega
   ·have:=rs_flat (sz:=sz) (g:=g) ks n (by omega) (λ i hi=>(same i hi).2)
    rw[this,aT (by omega)]
 ·obtain⟨i,hi,rfl⟩:=List.mem_iff_getElem.1 hx
  obtain⟨_,_,_,_,_,_,_,_,f⟩:=h5 i hi
  exact f.2
section
variable {H:Type}{enc:TypeId×Value->H}{w:World}
theorem opn_str:Opn enc prog w 9 (λ cs (l:List UInt8)=>cs=[strV l]):=λ fuel cs x h=>by
 obtain⟨s,rfl,_,_⟩:=DataW.trod_string underlying9 h
 obtain⟨⟨l⟩⟩:=s
 exact⟨l,rfl⟩
theorem opn_key:Opn enc prog w 169 (λ cs (k:Int×Nat)=>cs=Vp k.1 k.2/\k.2<65536):=λ fuel cs x h=>by
 obtain⟨hl,hf⟩:=WC underlying169 h
 have hl:cs.length=2:=by rw[hl];kernel_rfl
 obtain⟨c0,c1,rfl⟩:∃c0 c1,cs=[c0,c1]:=by
  match cs,hl with
  | [c0,c1],_=>exact⟨c0,c1,rfl⟩
 obtain⟨t,h0,_⟩:=YL h underlying169 0 0 1 rfl rfl rfl (by kernel_rfl) (opn_int underlying3)
 obtain⟨i,h1,i0,i1⟩:=YL h underlying169 1 1 1 rfl rfl rfl (by kernel_rfl) (opn_int underlying167)
 simp only[List.drop_zero,List.drop_succ_cons,List.take_succ_cons,List.take_zero,List.cons.injEq,and_true] at h0 h1
 subst h0;subst h1
 simp only[lo,hi] at i0 i1
 refine⟨(t,i.toNat), ?_,by dsimp only;omega⟩
 have:((i.toNat:Nat):Int)=i:=by omega
 simp only[Vp,this]
theorem opn_row:Opn enc prog w 171 (λ cs (r:Row)=>cs=Yz r/\XU r):=λ fuel cs x h=>by
 obtain⟨hl,hf⟩:=WC underlying171 h
 have hl:cs.length=4:=by rw[hl];kernel_rfl
 obtain⟨c0,c1,c2,c3,rfl⟩:∃c0 c1 c2 c3,cs=[c0,c1,c2,c3]:=by
  match cs,hl with
  | [c0,c1,c2,c3],_=>exact⟨c0,c1,c2,c3,rfl⟩
 obtain⟨⟨t,i⟩,h0,hi0⟩:=YL h underlying171 0 0 2 rfl rfl rfl (by kernel_rfl) opn_key
 obtain⟨v,h1,v0,v1⟩:=YL h underlying171 1 2 1 rfl rfl rfl (by kernel_rfl) (opn_int underlying2)
 obtain⟨s,h2⟩:=YL h underlying171 2 3 1 rfl rfl rfl (by kernel_rfl) opn_str
 simp only[List.drop_zero,List.drop_succ_cons,List.take_succ_cons,List.take_zero,List.cons.injEq,and_true,Vp] at h0 h1 h2
 obtain⟨rfl,rfl⟩:=h0
 subst h1;subst h2
 simp only[lo,hi] at v0 v1
 exact⟨⟨t,i,v,s⟩,rfl,⟨hi0,v0,v1⟩⟩
theorem opn_kid:Opn enc prog w 227 (λ cs (k:Kid)=>cs=XD k/\k.id<65536):=λ fuel cs x h=>by
 obtain⟨hl,hf⟩:=WC underlying227 h
 have hl:cs.length=3:=by rw[hl];kernel_rfl
 obtain⟨c0,c1,c2,rfl⟩:∃c0 c1 c2,cs=[c0,c1,c2]:=by
  match cs,hl with
  | [c0,c1,c2],_=>exact⟨c0,c1,c2,rfl⟩
 obtain⟨⟨t,i⟩,h0,hi0⟩:=YL h underlying227 0 0 2 rfl rfl rfl (by kernel_rfl) opn_key
 obtain⟨v,h1,_⟩:=YL h underlying227 1 2 1 rfl rfl rfl (by kernel_rfl) (opn_int underlying3)
 simp only[List.drop_zero,List.drop_succ_cons,List.take_succ_cons,List.take_zero,List.cons.injEq,and_true,Vp] at h0 h1
 obtain⟨rfl,rfl⟩:=h0
 subst h1
 exact⟨⟨t,i,v⟩,rfl,hi0⟩
structure ContI (ρ:Hp)(x:CV×ZO):Prop where
 c:CInW ρ x.1 x.2.rows x.2.kids
 row:∀r∈x.2.rows,XU r
 kid:∀k∈x.2.kids,k.id<65536
theorem opn_cont:Opn enc prog w 88 (λ cs (x:CV×ZO)=>cs=Yv x.2.kind x.1/\ContI (hpOf w) x):=λ fuel cs x h=>by
 obtain⟨hl,hf⟩:=WC underlying88 h
 have hl:cs.length=3:=by rw[hl];kernel_rfl
 obtain⟨c0,c1,c2,rfl⟩:∃c0 c1 c2,cs=[c0,c1,c2]:=by
  match cs,hl with
  | [c0,c1,c2],_=>exact⟨c0,c1,c2,rfl⟩
 obtain⟨k,h0,_⟩:=YL h underlying88 0 0 1 rfl rfl rfl (by kernel_rfl) (opn_int underlying3)
 obtain⟨⟨ra,rn,rc,rows⟩,h1⟩:=YL h underlying88 1 1 1 rfl rfl rfl (by kernel_rfl) (opn_slice (sz:=4) underlying85 (by kernel_rfl) (by decide) opn_row)
 obtain⟨⟨ka,kn,kc,kids⟩,h2⟩:=YL h underlying88 2 2 1 rfl rfl rfl (by kernel_rfl) (opn_slice (sz:=3) underlying86 (by kernel_rfl) (by decide) opn_kid)
 obtain⟨g1,g2,g3,g4⟩:=aIn_of rowV_len h1
 obtain⟨k1,k2,k3,k4⟩:=aIn_of kidV_len h2
 replace h1:=h1.cells
 replace h2:=h2.cells
 simp only[List.drop_zero,List.drop_succ_cons,List.take_succ_cons,List.take_zero,List.cons.injEq,and_true] at h0 h1 h2
 subst h0;subst h1;subst h2
 exact⟨(⟨ra,rn,rc,ka,kn,kc⟩,⟨k,rows,kids⟩),rfl,⟨⟨g1,k1,g4,k4,g3,k3⟩,g2,k2⟩⟩
end
section
variable {H:Type}{enc:TypeId×Value->H}{w:World}
structure ShI (ρ:Hp)(s:Sh):Prop where
 page:-9223372036854775808<=s.page/\s.page<=9223372036854775807
 c:ContI ρ (s.w,s.c)
theorem opn_sheet:Opn enc prog w 150 (λ cs (s:Sh)=>cs=sheV s/\ShI (hpOf w) s):=λ fuel cs x h=>by
 obtain⟨hl,hf⟩:=WC underlying150 h
 have hl:cs.length=4:=by rw[hl];kernel_rfl
 obtain⟨c0,c1,c2,c3,rfl⟩:∃c0 c1 c2 c3,cs=[c0,c1,c2,c3]:=by
  match cs,hl with
  | [c0,c1,c2,c3],_=>exact⟨c0,c1,c2,c3,rfl⟩
 obtain⟨p,h0,p0,p1⟩:=YL h underlying150 0 0 1 rfl rfl rfl (by kernel_rfl) (opn_int underlying3)
 obtain⟨⟨cw,cc⟩,h2,hcI⟩:=YL h underlying150 1 1 3 rfl rfl rfl (by kernel_rfl) opn_cont
 simp only[List.drop_zero,List.drop_succ_cons,List.take_succ_cons,List.take_zero,List.cons.injEq,and_true,Yv] at h0 h2
 obtain⟨h2,h3,h4⟩:=h2
 subst h0;subst h2;subst h3;subst h4
 simp only[lo,hi] at p0 p1
 exact⟨⟨p,cw,cc⟩,rfl,⟨⟨p0,p1⟩,hcI⟩⟩
structure OpV where
 kind:Int
 page:Int
 at':Int
 a:Option Addr
 n:Nat
 c:Nat
 l:List Sh
abbrev opC (e:OpV):List Value:=[.int .i64 e.kind,.int .i64 e.page,.int .i64 e.at',.slice e.a e.n e.c]
structure OpIn (ρ:Hp)(e:OpV):Prop where
 kind:-9223372036854775808<=e.kind/\e.kind<=9223372036854775807
 page:-9223372036854775808<=e.page/\e.page<=9223372036854775807
 at':-9223372036854775808<=e.at'/\e.at'<=9223372036854775807
 l:AIn ρ 4 sheV e.a e.n e.l
 lc:e.n<=e.c
 lb:e.n<=9223372036854775807
 sh:∀s∈e.l,ShI ρ s
theorem opn_op17:Opn enc prog w 77 (λ cs (e:OpV)=>cs=opC e/\OpIn (hpOf w) e):=λ fuel cs x h=>by
 obtain⟨hl,hf⟩:=WC underlying77 h
 have hl:cs.length=4:=by rw[hl];kernel_rfl
 obtain⟨c0,c1,c2,c3,rfl⟩:∃c0 c1 c2 c3,cs=[c0,c1,c2,c3]:=by
  match cs,hl with
  | [c0,c1,c2,c3],_=>exact⟨c0,c1,c2,c3,rfl⟩
 obtain⟨p,h0,p0,p1⟩:=YL h underlying77 0 0 1 rfl rfl rfl (by kernel_rfl) (opn_int underlying3)
 obtain⟨q,h1,q0,q1⟩:=YL h underlying77 1 1 1 rfl rfl rfl (by kernel_rfl) (opn_int underlying3)
 obtain⟨r,h2,r0,r1⟩:=YL h underlying77 2 2 1 rfl rfl rfl (by kernel_rfl) (opn_int underlying3)
 obtain⟨⟨ra,rn,rc,rows⟩,h3⟩:=YL h underlying77 3 3 1 rfl rfl rfl (by kernel_rfl) (opn_slice (sz:=4) underlying75 (by kernel_rfl) (by decide) opn_sheet)
 obtain⟨g1,g2,g3,g4⟩:=aIn_of (g:=sheV) (λ _=>rfl) h3
 replace h3:=h3.cells
 simp only[List.drop_zero,List.drop_succ_cons,List.take_succ_cons,List.take_zero,List.cons.injEq,and_true] at h0 h1 h2 h3
 subst h0;subst h1;subst h2;subst h3
 simp only[lo,hi] at p0 p1 q0 q1 r0 r1
 exact⟨⟨p,q,r,ra,rn,rc,rows⟩,rfl,⟨⟨p0,p1⟩,⟨q0,q1⟩,⟨r0,r1⟩,g1,g3,g4,g2⟩⟩
end
end Go.Proofs.E
namespace Go.Proofs.E
open Go Tryz
set_option maxRecDepth 4000
set_option maxHeartbeats 1000000
attribute [local irreducible] Yl TL TC TE Spec YW R1 Hp.le EnvLe TS TR YS Zv TP QP
theorem ContI.mono17 {ρ ρ':Hp}{x:CV×ZO}(h:ContI ρ x)(hl:ρ.le ρ'):ContI ρ' x:=⟨h.c.mono hl,h.row,h.kid⟩
theorem OpIn.mono {ρ ρ':Hp}{e:OpV}(h:OpIn ρ e)(hl:ρ.le ρ'):OpIn ρ' e:=⟨h.kind,h.page,h.at',h.l.mono hl,h.lc,h.lb,λ s hs=>⟨(h.sh s hs).page,(h.sh s hs).c.mono17 hl⟩⟩
structure ShG (ρ:Hp)(s:Sh):Prop where
 c:CIn ρ s.w s.c.rows s.c.kids
 id:IdFit s.c
theorem ShG.mono {ρ ρ':Hp}{s:Sh}(h:ShG ρ s)(hl:ρ.le ρ'):ShG ρ' s:=⟨h.c.mono hl,h.id⟩
abbrev flatS (l:List Sh):List Value:=(l.map sheV).flatten
theorem take_six {α:Type}(l:List α)(n m:Nat)(h:l.length=n)(hm:m=min n 6):l.take m=l.take 6:=by
 subst h;subst hm
 rcases Nat.le_total l.length 6 with h|h
 ·rw[Nat.min_eq_left h,List.take_length,aT h]
 ·rw[Nat.min_eq_right h]
theorem shortR_fit {r:Row}(h:XU r):XU (shortR r):=⟨h.id,h.val⟩
theorem few17_spec (ρ:Hp)(e:OpV)(he:OpIn ρ e) :
  Spec prog 31 [.agg ⟨opC e⟩] ρ [] (λ v ρ' L'=>ρ.le ρ'/\∃a n c l,v=.agg ⟨[.int .i64 e.kind,.int .i64 e.page,.int .i64 e.at',.slice a n c]⟩/\ShsIn ρ' a n c l/\(∀s∈l,IdFit s.c)/\L'=[]):=by
 have hln:=he.l.len
 have hlb:=he.lb
 refine Za func31 rfl rfl rfl λ u R=>?_
 simp only[Zc,kA]
 repeat' (first|refine zW ?_|intro _)
 rename_i b1 b2
 refine lpG (Nat×Hp×(List Sh)×Value×(List Value)) [1,2,8,9] (λ z=>[(10,.int .i64 z.1),(3,z.2.2.2.1)]) (λ z=>z.2.1) (λ z=>[[(b1,.cells ⟨opC e⟩ 77 (0,0))],[(b2,.cells ⟨[.int .i64 0,.int .i64 0,.int .i64 0,.slice none 0 0]⟩ 77 (0,0))],ZG z.2.2.2.1 (flatS z.2.2.1) z.2.2.2.2 150]) (λ z=>z.1<=e.n/\z.1<=6/\ρ.le z.2.1/\z.2.2.1.length=z.1/\OwnS z.2.2.2.1 z.2.2.1.length (flatS z.2.2.1) z.2.2.2.2 4/\∀s∈z.2.2.1,ShG z.2.1 s) (λ z=>e.n-z.1) (0,ρ,[],.slice none 0 0,[]) ⟨aZ _,aZ _,Hp.le_refl _,rfl,OwnS.nil 4,by simp⟩ ?_
 rintro⟨k,ρ1,acc,v,sp⟩ hI
 try simp only[kB] at hI ⊢
 try dsimp only at hI ⊢
 obtain⟨hk,hk6,hle1,hal,hown,hsh⟩:=hI
 have hfinish:∀{ρ2:Hp} {a:Option Addr} {c:Nat},ρ1.le ρ2->AIn ρ2 4 sheV a acc.length acc->acc.length<=c->ShsIn ρ2 a acc.length c acc:=λ h2 hA hc=>⟨hA,by omega,λ s hs=>(hsh s hs).c.mono h2⟩
 by_cases hlt:k<e.n
 ·by_cases h6:k=6
  ·refine Vn (ZG v (flatS acc) sp 150) (λ ρ2 hle2 hfz=>?_)
   obtain⟨a3,c3,rfl,hc3,hA3⟩:=hown.aIn rfl (λ x _=>rfl) hfz
   have hfin:=Hp.le_trans hle1 hle2
   have hin:=(he.l.mono hfin)
   obtain⟨bb,off,C,T,fr,e1,hb0,hfit,hc0⟩:=hin.get (show k<e.l.length by omega)
   rw[e1]
   generalize e.l[k]'(by omega)=x at *
   have h6':((k:Nat):Int)=6:=by omega
   repeat' (first|refine zW ?_|intro _)
   exact qE (L':=[]) ⟨hfin,a3,_,c3,acc,rfl,hfinish hle2 hA3 hc3,λ s hs=>(hsh s hs).id,rfl⟩
  ·have hkl:k<e.l.length:=by omega
   obtain⟨bb,off,C,T,fr,e1,hb0,hfit,hc0⟩:=(he.l.mono hle1).get hkl
   have hx:=he.sh _ (aM hkl)
   rw[e1]
   generalize e.l[k]=x at *
   obtain⟨xp,⟨ra,rn,rc,ka,kn,kc⟩,⟨kind,rows,kids⟩⟩:=x
   obtain⟨hxp,hxc⟩:=hx
   obtain⟨hcc,hcr,hck⟩:=hxc.mono17 hle1
   obtain⟨hr,hkd,hrb,hkb,hrc,hkc⟩:=hcc
   dsimp only at hr hkd hrb hkb hrc hkc hcr hck
   have hrl:=hr.len
   have hkl2:=hkd.len
   obtain⟨m,hm⟩:∃m,m=min kn 6:=⟨_,rfl⟩
   obtain⟨q,hq⟩:∃q,q=min rn 6:=⟨_,rfl⟩
   have hmt:(min (kn:Int) 6).toNat=m:=by omega
   have hqt:(min (rn:Int) 6).toNat=q:=by omega
   have hk5:=hkd.take (hi':=m) (by omega)
   have hr5:=hr.take (hi':=q) (by omega)
   rw[take_six _ _ _ hkl2 hm] at hk5
   rw[take_six _ _ _ hrl hq] at hr5
   have hm5:m<=6:=by omega
   have hq5:q<=6:=by omega
   have hcr5:∀r∈rows.take 6,XU r:=λ r hr=>hcr r (List.mem_of_mem_take hr)
   have hck5:∀r∈kids.take 6,r.id<65536:=λ r hr=>hck r (List.mem_of_mem_take hr)
   dsimp only[sheV] at hc0
   generalize kids.take 6=KS at *
   generalize rows.take 6=RS at *
   repeat' (first|(simp only[hqt];refine YA (n:=0) (xs:=[]) (sp:=[]) (ys:=(RS.map Yz).flatten) (m:=q) (sz:=4) rfl rfl (OwnS.zero _ 4) (hR:=by repeat (first|exact ZJ|apply Ya)) (AIn.srcV hr5) (by rw[flat_len Yz 4 _ (λ x _=>rfl),hr5.len]) (flatR_one _) (by decide) rfl (by omega) (by omega) rfl (λ v1 sp1 hown1=>?_);simp only[Nat.zero_add,List.nil_append] at hown1 ⊢;obtain⟨a1,c1,rfl,hlen1⟩:=hown1.len)|(simp only[hmt];refine YA (n:=0) (xs:=[]) (sp:=[]) (ys:=(KS.map XD).flatten) (m:=m) (sz:=3) rfl rfl (OwnS.zero _ 3) (hR:=by repeat (first|exact ZJ|apply Ya)) (AIn.srcV hk5) (by rw[flat_len XD 3 _ (λ x _=>rfl),hk5.len]) (flatK_one _) (by decide) rfl (by omega) (by omega) rfl (λ v2 sp2 hown2=>?_);simp only[Nat.zero_add,List.nil_append] at hown2 ⊢;obtain⟨a2,c2,rfl,hlen2⟩:=hown2.len)|refine zW ?_|intro _)
   rename_i b5 _ _
   have hRl:=hr5.len
   refine lpG (Nat×(List Row)) [1,2,3,4,5,8,9,10,11,12,13,14,15,16,17,18,19,20,21,22,23,24,25,26,27,28,29,30,31,32,33,34,35,36,37,38,39,40,41,42,43,44,45,46] (λ z=>[(47,.int .i64 z.1)]) (λ z=>ρ1) (λ z=>[ZG (.slice a2 m c2) (KS.map XD).flatten sp2 227,ZG (.slice a1 q c1) (z.2.map Yz).flatten sp1 171,[(b5,.cells ⟨[.int .i64 xp,.int .i64 kind,.slice a1 q c1,.slice a2 m c2]⟩ 150 (0,0))],[(b1,.cells ⟨opC e⟩ 77 (0,0))],[(b2,.cells ⟨[.int .i64 0,.int .i64 0,.int .i64 0,.slice none 0 0]⟩ 77 (0,0))],ZG v (flatS acc) sp 150]) (λ z=>z.1<=q/\z.2=(RS.take z.1).map shortR++RS.drop z.1) (λ z=>q-z.1) (0,RS) ⟨aZ _,by simp⟩ ?_
   rintro⟨j,ac⟩ hI
   try simp only[kB] at hI ⊢
   try dsimp only at hI ⊢
   obtain⟨hk0,hacc⟩:=hI
   by_cases hlt2:j<q
   ·have hal2:ac.length=q:=by rw[hacc];simp;omega
    obtain⟨pb,pc,e1'⟩:=hown1.pos (by omega)
    cases e1'
    have hkR:j<RS.length:=by rw[hRl];exact hlt2
    have hkv:=get_step RS j hkR
    have hset:=set_step RS j hkR
    rw[<-hacc] at hkv
    rw[<-hacc] at hset
    generalize RS[j]'hkR=r at *
    have hld:=row_get (sp:=sp1) ac j r hkv
    haveI hst:=row_setL (sp:=sp1) (r.note.take (min (r.note.length:Int) 9).toNat) hkv
    have e9:=take_min9 r.note
    repeat' (first|refine zW ?_|intro _)
    rw[show ZG (.slice (some ⟨pb,0,none⟩) q c1) ((ac.map Yz).flatten) sp1 171=[(pb,.cells ⟨(ac.map Yz).flatten++sp1⟩ 171 (0,0))] from rfl]
    refine tc_phase 21 (Zv _ _ ([[(pb,.cells ⟨(ac.map Yz).flatten++sp1⟩ 171 (0,0))],[(b5,.cells ⟨[.int .i64 xp,.int .i64 kind,.slice (some ⟨pb,0,none⟩) q c1,.slice a2 m c2]⟩ 150 (0,0))]])) (by decide +kernel) (stays_of (hT:=tk) (Hp.le_refl _)) ?_
    simp only[List.take_succ_cons,List.take_zero]
    all_goals (refine rFa 0 ?_;refine rFa 1 ?_;refine rLd 2 ?_;refine rMv 3 ?_;refine rFa 4 ?_;refine rFa 5 ?_;refine rLd 6 ?_;refine rMv 7 ?_;refine rIa 8 ?_;refine rFa 9 ?_;refine rLd 10 ?_;refine rFa 11 ?_;refine rFa 12 ?_;refine rLd 13 ?_;refine rMv 14 ?_;refine rIa 15 ?_;refine rFa 16 ?_;refine rLd 17 ?_;refine rBi 18 ?_;refine rBi 19 ?_;refine rSl 20 ?_;refine rDone ?_)
    all_goals refine te_phase (fuel:=3) (m:=[true,true,true,true,true,true,true,true,true,true,true,true,true,true,true,true,true,true,true,true,true,false,false,false]) (Zv _ _ ([])) rfl rfl (stays_of (hT:=tk) (Hp.le_refl _)) ?_
    all_goals (refine rIa 21 ?_;refine rFa 22 ?_)
    all_goals (refine rStep (i:=23) ?_;((try refine ZX ?_);(first|(refine qEf ?_;try intro _))<;>((try simp only[kA]);refine tl_nil ?_;refine rNext ?_)))
    all_goals refine rDone ?_
    all_goals rw[e9]
    all_goals (repeat' (first|refine zW ?_|intro _))
    have hsr:(⟨r.t,r.id,r.val,r.note.take 9⟩:Row)=shortR r:=rfl
    rw[hsr]
    rw[<-show ZG (.slice (some ⟨pb,0,none⟩) q c1) (((ac.set j (shortR r)).map Yz).flatten) sp1 171=[(pb,.cells ⟨((ac.set j (shortR r)).map Yz).flatten++sp1⟩ 171 (0,0))] from rfl]
    refine rnG (j+1,ac.set j (shortR r)) (⟨hlt2,hset⟩)
   ·have hkq:j=q:=by omega
    have hfin:ac=RS.map shortR:=by rw[hacc,aT (by omega),List.drop_eq_nil_of_le (by omega),aN]
    have hal2:ac.length=q:=by rw[hfin];simp;omega
    have hown1':OwnS (.slice a1 q c1) q ((ac.map Yz).flatten) sp1 4:=by
     have hL:((ac.map Yz).flatten).length=((RS.map Yz).flatten).length:=by rw[flat_len Yz 4 _ (λ x _=>rfl),flat_len Yz 4 _ (λ x _=>rfl),hal2,hRl]
     rcases hown1.out with⟨h1,h2,h3,h4⟩|⟨b,cap,h1,h2,h3,h4⟩
     ·exact⟨.inl ⟨h1,h2,List.eq_nil_of_length_eq_zero (by rw[hL,h3];rfl),h4⟩⟩
     ·exact⟨.inr ⟨b,cap,h1,by rw[hL];exact h2,by rw[hL];exact h3,h4⟩⟩
    refine Vn (ZG (.slice a1 q c1) ((ac.map Yz).flatten) sp1 171) (λ ρ2 hle2 hfz1=>?_)
    obtain⟨a3,c3,e3,hc3,hA3⟩:=hown1'.aIn hal2 (λ x _=>rfl) hfz1
    cases e3
    refine Vn (ZG (.slice a2 m c2) ((KS.map XD).flatten) sp2 227) (λ ρ3 hle3 hfz2=>?_)
    obtain⟨a4,c4,e4,hc4,hA4⟩:=hown2.aIn hk5.len (λ x _=>rfl) hfz2
    cases e4
    have hle13:=Hp.le_trans hle2 hle3
    have hnew:ShG ρ3 ⟨xp,⟨a1,q,c1,a2,m,c2⟩,⟨kind,ac,KS⟩⟩:=⟨⟨hA3.mono hle3,hA4,by dsimp only;omega,by dsimp only;omega,hc3,hc4⟩,⟨λ r hr=>by
     rw[hfin] at hr
     obtain⟨r0,hr0,rfl⟩:=List.mem_map.1 hr
     exact shortR_fit (hcr5 r0 hr0),hck5⟩⟩
    have hsh2:∀s∈acc++[⟨xp,⟨a1,q,c1,a2,m,c2⟩,⟨kind,ac,KS⟩⟩],ShG ρ3 s:=λ s hs=>by
     rcases List.mem_append.1 hs with hs|hs
     ·exact (hsh s hs).mono hle13
     ·rw[List.mem_singleton.1 hs];exact hnew
    obtain⟨va,vc,rfl,_⟩:=hown.slice
    repeat' (first|(refine Ys (css:=[sheV ⟨xp,⟨a1,q,c1,a2,m,c2⟩,⟨kind,ac,KS⟩⟩]) (sz:=4) rfl rfl rfl rfl (by simp) (by simp) rfl (λ bs=>?_);simp only[aF,List.flatten_nil,aN])|(refine YA (ys:=sheV ⟨xp,⟨a1,q,c1,a2,m,c2⟩,⟨kind,ac,KS⟩⟩) (m:=1) (sz:=4) rfl rfl hown (hR:=by repeat (first|exact ZJ|apply Ya)) SrcV.lit rfl rfl (by decide) rfl (by omega) (by omega) rfl (λ v' sp' hown'=>?_);obtain⟨a',cap',rfl,hvl⟩:=hown'.slice)|refine zW ?_|intro _)
    rw[show flatS acc++sheV ⟨xp,⟨a1,q,c1,a2,m,c2⟩,⟨kind,ac,KS⟩⟩=flatS (acc++[⟨xp,⟨a1,q,c1,a2,m,c2⟩,⟨kind,ac,KS⟩⟩]) by simp[flatS]] at hown' ⊢
    refine rnG (k+1,ρ3,acc++[⟨xp,⟨a1,q,c1,a2,m,c2⟩,⟨kind,ac,KS⟩⟩],_,sp') (⟨hlt,by omega,Hp.le_trans hle1 hle13,by simp;omega,by simpa using hown',hsh2⟩)
 ·refine Vn (ZG v (flatS acc) sp 150) (λ ρ2 hle2 hfz=>?_)
  obtain⟨a3,c3,rfl,hc3,hA3⟩:=hown.aIn rfl (λ x _=>rfl) hfz
  have hfin:=Hp.le_trans hle1 hle2
  repeat' (first|refine zW ?_|intro _)
  exact qE (L':=[]) ⟨hfin,a3,_,c3,acc,rfl,hfinish hle2 hA3 hc3,λ s hs=>(hsh s hs).id,rfl⟩
theorem u64_nn17 (a:Int):0<=IntKind.u64.wrap a/\IntKind.u64.wrap a<18446744073709551616:=by
 have:IntKind.u64.wrap a=a % 18446744073709551616:=by simp only[IntKind.wrap];rfl
 omega
theorem at17_spec (ρ:Hp)(e:List Value)(kd pg at':Int)(a:Option Addr)(n c:Nat)(he:e=[.int .i64 kd,.int .i64 pg,.int .i64 at',.slice a n c])(next:Nat)(h:next<2000000000000) :
  Spec prog 84 [.agg ⟨e⟩,.int .u64 (next:Nat)] ρ [] (λ v ρ' L'=>(∃lsn:Nat,v=.int .u64 (lsn:Nat)/\lsn<18446744073709551616)/\ρ'=ρ/\L'=[]):=by
 subst he
 refine Za func84 rfl rfl rfl λ u R=>?_
 simp only[Zc,kA]
 repeat' (first|refine zW ?_|intro _)
 have h1:=u64_nn17 (IntKind.u64.wrap ((next:Int)-1)-(IntKind.u64.wrap at').tmod 8)
 exact qE (L':=[]) ⟨⟨(IntKind.u64.wrap (IntKind.u64.wrap ((next:Int)-1)-(IntKind.u64.wrap at').tmod 8)).toNat,by rw[Int.toNat_of_nonneg h1.1],by omega⟩,rfl,rfl⟩
abbrev zC17:ZO:=⟨0,[],[]⟩
abbrev LaF:=Int->Option ZO
structure Tl (m:Nat)(pv:PV)(held:Nat->ZS)(la:LaF):Prop where
 has:∀n:Nat,n<64->∀x,pv n=some x->x.1=(la n).getD zC17/\(x.2.2=0->held n=(x.1,x.2.1))/\(x.2.2≠0->(held n).2<x.2.1/\Fit x.1/\x.2.1<=m)
 no:∀n:Nat,n<64->pv n=none->(held n).1=(la n).getD zC17
theorem Tl.mono {m m':Nat}{pv:PV}{held:Nat->ZS}{la:LaF}(h:Tl m pv held la)(hm:m<=m'):Tl m' pv held la:=
 ⟨λ n hn x hx=>⟨(h.has n hn x hx).1,(h.has n hn x hx).2.1,λ h0=>by have:=(h.has n hn x hx).2.2 h0;exact⟨this.1,this.2.1,by omega⟩⟩,h.no⟩
theorem Tl.zero:Tl 0 (vw pg0) (λ _=>zHeld) (λ _=>none):=⟨λ n _ x hx=>(by cases hx),λ n _ _=>rfl⟩
theorem Tl.hold {m:Nat}{pv:PV}{held:Nat->ZS}{la:LaF}(h:Tl m pv held la)(k:Nat):Tl m (Wd held pv k) held la:=by
 refine⟨λ n hn x hx=>?_,λ n hn hx=>?_⟩
 ·unfold Wd VC at hx
  split at hx
  ·rename_i e
   obtain rfl:n=k:=by omega
   unfold Yx at hx
   cases hp:pv (n:Nat) with
   | none=>
    rw[hp] at hx
    simp only[Option.getD_none,Int.toNat_natCast,Option.some.injEq] at hx
    subst hx
    exact⟨h.no n hn hp,λ _=>rfl,λ h0=>absurd rfl h0⟩
   | some y=>
    rw[hp] at hx
    simp only[Option.getD_some,Option.some.injEq] at hx
    subst hx
    exact h.has n hn y hp
  ·exact h.has n hn x hx
 ·unfold Wd VC at hx
  split at hx
  ·cases hx
  ·exact h.no n hn hx
theorem Tl.holds {m:Nat}{held:Nat->ZS}{la:LaF}:∀(l:List Sh) {pv:PV},Tl m pv held la->(∀s∈l,0<=s.page/\s.page<64)->Tl m (XG held pv l) held la
 | [],pv,h,_=>h
 | s::r,pv,h,hl=>by
  have h1:=h.hold s.page.toNat
  rw[Int.toNat_of_nonneg (hl s (by simp)).1] at h1
  exact Tl.holds r h1 (λ x hx=>hl x (by simp[hx]))
def setA (la:LaF)(n:Int)(c:ZO):LaF:=λ k=>if k=n then some c else la k
def setsA:LaF->List Sh->LaF
 | la,[]=>la
 | la,s::r=>setsA (setA la s.page s.c) r
theorem Tl.new {m lsn:Nat}{pv:PV}{held:Nat->ZS}{la:LaF}(h:Tl m pv held la){n:Int}(h0:0<=n)(h64:n<64){x:ZO×Nat×Nat}(hx:pv n=some x)(hlt:x.2.1<lsn)(hm:lsn<=m){c:ZO}(hc:Fit c):Tl m (newV lsn pv n c) held (setA la n c):=by
 obtain⟨k,rfl⟩:∃k:Nat,n=k:=⟨n.toNat,by omega⟩
 have h1:=h.has k (by omega) x hx
 have hh:(held k).2<lsn:=by
  by_cases hr:x.2.2=0
  ·rw[h1.2.1 hr];exact hlt
  ·have:=(h1.2.2 hr).1;omega
 have hnz:(if ((pv (k:Nat)).getD (c,0,0)).2.2=0 then lsn else ((pv (k:Nat)).getD (c,0,0)).2.2)≠0:=by
  split
  ·omega
  ·rename_i h;exact h
 refine⟨λ j hj y hy=>?_,λ j hj hy=>?_⟩
 ·unfold newV VC at hy
  unfold setA
  split at hy
  ·rename_i e
   obtain rfl:j=k:=by omega
   rw[if_pos rfl]
   simp only[Option.some.injEq] at hy
   subst hy
   exact⟨rfl,λ h=>absurd h hnz,λ _=>⟨hh,hc,hm⟩⟩
  ·rename_i e
   rw[if_neg e]
   exact h.has j hj y hy
 ·unfold newV VC at hy
  unfold setA
  split at hy
  ·cases hy
  ·rename_i e
   rw[if_neg e]
   exact h.no j hj hy
theorem newV_other {lsn:Nat}{pv:PV}{n k:Int}{c:ZO}(h:k≠n):newV lsn pv n c k=pv k:=by unfold newV VC;rw[if_neg h]
theorem riseS_gt:∀{l:List Sh} {last:Int},Wt last l=true->∀s∈l,last<s.page
 | x::r,last,h,s,hs=>by
  rw[Wt,aE,decide_eq_true_eq] at h
  rcases List.mem_cons.1 hs with rfl|hs
  ·exact h.1.1
  ·have:=riseS_gt h.2 s hs;omega
theorem Tl.chgs {m lsn:Nat}{held:Nat->ZS}(hm:lsn<=m):∀(l:List Sh) {last:Int} {pv:PV} {la:LaF},Tl m pv held la->Wt last l=true->(∀s∈l,Fit s.c)->(∀s∈l,∃x,pv s.page=some x/\x.2.1<lsn)->Tl m (chgsV lsn pv l) held (setsA la l)
 | [],last,pv,la,h,_,_,_=>h
 | s::r,last,pv,la,h,hr,hf,hs=>by
  rw[Wt,aE,decide_eq_true_eq] at hr
  obtain⟨x,hx,hlt⟩:=hs s (by simp)
  refine Tl.chgs hm r (h.new hr.1.2.1 hr.1.2.2 hx hlt hm (hf s (by simp))) hr.2 (λ y hy=>hf y (by simp[hy])) (λ y hy=>?_)
  obtain⟨z,hz,hz2⟩:=hs y (by simp[hy])
  have:=riseS_gt hr.2 y hy
  exact⟨z,by rw[newV_other (by omega)];exact hz,hz2⟩
theorem Tl.steal {m:Nat}{pv:PV}{held:Nat->ZS}{la:LaF}(h:Tl m pv held la){n:Nat}(hn:n<64){x:ZO×Nat×Nat}(hx:pv n=some x):Tl m (VC pv n (x.1,x.2.1,0)) (upd held n (x.1,x.2.1)) la:=by
 have h1:=h.has n hn x hx
 refine⟨λ j hj y hy=>?_,λ j hj hy=>?_⟩
 ·unfold VC at hy
  unfold upd
  split at hy
  ·rename_i e
   obtain rfl:j=n:=by omega
   rw[if_pos rfl]
   simp only[Option.some.injEq] at hy
   subst hy
   exact⟨h1.1,λ _=>rfl,λ h=>absurd rfl h⟩
  ·rename_i e
   rw[if_neg (by omega)]
   exact h.has j hj y hy
 ·unfold VC at hy
  unfold upd
  split at hy
  ·cases hy
  ·rename_i e
   rw[if_neg (by omega)]
   exact h.no j hj hy
theorem Tl.evict {m:Nat}{pv:PV}{held:Nat->ZS}{la:LaF}(h:Tl m pv held la){n:Int}{x:ZO×Nat×Nat}(hx:pv n=some x)(h0:x.2.2=0):Tl m (λ k=>if k=n then none else pv k) held la:=by
 refine⟨λ j hj y hy=>?_,λ j hj hy=>?_⟩
 ·split at hy
  ·cases hy
  ·exact h.has j hj y hy
 ·split at hy
  ·rename_i e
   subst e
   have h1:=h.has j hj x hx
   rw[h1.2.1 h0];exact h1.1
  ·exact h.no j hj hy
theorem Tl.tells {m:Nat}{pv:PV}{held:Nat->ZS}{la:LaF}(h:Tl m pv held la){n:Nat}(hn:n<64):(Yx held pv n).1=(la n).getD zC17/\(((∃x,pv n=some x/\x.2.2≠0)/\(held n).2<(Yx held pv n).2.1)\/((¬∃x,pv n=some x/\x.2.2≠0)/\held n=((Yx held pv n).1,(Yx held pv n).2.1))):=by
 unfold Yx
 cases hp:pv (n:Nat) with
 | none=>
  refine⟨h.no n hn hp,.inr ⟨?_,rfl⟩⟩
  rintro⟨x,hx,_⟩
  cases hx
 | some x=>
  have h1:=h.has n hn x hp
  refine⟨h1.1, ?_⟩
  by_cases h0:x.2.2=0
  ·refine .inr ⟨?_,h1.2.1 h0⟩
   rintro⟨y,hy,hy2⟩
   cases hy;exact hy2 h0
  ·exact .inl ⟨⟨x,rfl,h0⟩,(h1.2.2 h0).1⟩
theorem u64_mod17 (a m:Int)(h0:0<m)(h1:m<=1000000):∃q:Nat,(IntKind.u64.wrap a).tmod m=q/\(q:Int)<m:=by
 have h2:=(u64_nn17 a).1
 have h3:(IntKind.u64.wrap a).tmod m=(IntKind.u64.wrap a) % m:=Int.tmod_eq_emod_of_nonneg h2
 have h4:=Int.emod_nonneg (IntKind.u64.wrap a) (show m≠0 by omega)
 have h5:=Int.emod_lt_of_pos (IntKind.u64.wrap a) h0
 exact⟨((IntKind.u64.wrap a) % m).toNat,by rw[h3];omega,by omega⟩
structure LaIn (ρ:Hp)(es:List MapEntry)(la:Int->Option (CV×ZO)):Prop where
 keys:ZP .i64 es
 get:∀n,Ym es n=(la n).map (λ x=>.agg ⟨Yv x.2.kind x.1⟩)
 cin:∀n x,la n=some x->CIn ρ x.1 x.2.rows x.2.kids
theorem LaIn.mono {ρ ρ' es la}(h:LaIn ρ es la)(hle:ρ.le ρ'):LaIn ρ' es la:=⟨h.keys,h.get,λ n x hx=>(h.cin n x hx).mono hle⟩
def setL17 (la:Int->Option (CV×ZO))(n:Int)(x:CV×ZO):Int->Option (CV×ZO):=λ k=>if k=n then some x else la k
theorem LaIn.put {ρ es es' la}(h:LaIn ρ es la){n:Int}{x:CV×ZO}(hk:ZP .i64 es')(hg:∀j,Ym es' j=if j=n then some (.agg ⟨Yv x.2.kind x.1⟩) else Ym es j)(hc:CIn ρ x.1 x.2.rows x.2.kids):LaIn ρ es' (setL17 la n x):=
 ⟨hk,λ j=>by
  rw[hg];unfold setL17
  split
  ·rfl
  ·exact h.get j,λ j y hy=>by
  unfold setL17 at hy
  split at hy
  ·cases hy;exact hc
  ·exact h.cin j y hy⟩
theorem LaIn.zero {ρ:Hp}:LaIn ρ [] (λ _=>none):=⟨(by intro e he;cases he),λ _=>rfl,(by intro n x hx;cases hx)⟩
theorem Tl.ask {m:Nat}{pv:PV}{held:Nat->ZS}{la:LaF}(h:Tl m pv held la)(known:Bool)(l:List Sh):Tl m (askV known held pv l) held la:=by
 unfold askV
 split
 ·exact h
 ·split
  ·exact h
  ·rename_i h1
   split
   ·exact h
   ·exact h.holds l (WE (by simpa using h1))
theorem Tl.chg {m:Nat}{pv:PV}{held:Nat->ZS}{la:LaF}(h:Tl m pv held la){known:Bool}{lsn:Nat}{l:List Sh}(hk:known=decide (1<=lsn/\lsn<=m))(hE:askE known held pv lsn l=0)(hf:∀s∈l,IdFit s.c):Tl m (chgV known held pv lsn l) held (setsA la l):=by
 obtain⟨h1,h2,h3,h4,h5⟩:=askE_zero hE
 rw[hk] at h1
 have h1:=of_decide_eq_true h1
 unfold chgV
 rw[if_pos hE,h4]
 refine Tl.chgs h1.2 l (h.holds l (WE h2)) h2 (λ s hs=>⟨(List.all_eq_true.1 h3) s hs,hf s hs⟩) (λ s hs=>?_)
 have h6:=holdsV_mem held l pv s hs
 obtain⟨x,hx⟩:=Option.isSome_iff_exists.1 h6
 refine⟨x,hx, ?_⟩
 have h7:=h5 s hs
 unfold Yx at h7
 rw[hx] at h7
 exact h7
theorem Tl.evictG {m:Nat}{pg:Pgs}{held:Nat->ZS}{la:LaF}(h:Tl m (vw pg) held la)(n:Int):Tl m (vw (evictG pg n)) held la:=by
 unfold E.evictG
 by_cases hE:Wc pg n=0
 ·rw[if_pos hE,vw_del]
  unfold Wc at hE
  by_cases hn:0<=n/\n<64
  ·rw[if_pos hn] at hE
   cases hp:pg n with
   | none=>rw[hp] at hE;simp at hE
   | some g=>
    rw[hp] at hE
    by_cases h0:g.rc=0
    ·exact h.evict (x:=(g.c,g.lsn,g.rc)) (by unfold vw;rw[hp];rfl) h0
    ·simp[h0] at hE
  ·rw[if_neg hn] at hE;omega
 ·rw[if_neg hE];exact h
structure DiM (es:List MapEntry)(l:List CkP):Prop where
 keys:ZP .i64 es
 yes:∀n,(∃p∈l,p.page=n)->Ym es n=some (.bool true)
 no:∀n,(¬∃p∈l,p.page=n)->Ym es n=none
theorem DiM.zero:DiM [] []:=⟨(by intro e he;cases he),(by rintro n ⟨p,hp,_⟩;cases hp),λ _ _=>rfl⟩
theorem DiM.add {es es':List MapEntry}{l:List CkP}(h:DiM es l){p:CkP}(hk:ZP .i64 es')(hg:∀j,Ym es' j=if j=p.page then some (.bool true) else Ym es j):DiM es' (l++[p]):=
 ⟨hk,λ n hn=>by
  rw[hg]
  split
  ·rfl
  ·rename_i hne
   obtain⟨q,hq,hqn⟩:=hn
   rcases List.mem_append.1 hq with hq|hq
   ·exact h.yes n ⟨q,hq,hqn⟩
   ·rw[List.mem_singleton.1 hq] at hqn;exact absurd hqn.symm hne,λ n hn=>by
  rw[hg,if_neg (λ e=>hn ⟨p,by simp,e.symm⟩)]
  exact h.no n (λ ⟨q,hq,hqn⟩=>hn ⟨q,by simp[hq],hqn⟩)⟩
abbrev poL (mb lb rb db m fl:Nat)(R:RgS)(w:RW)(D:DS)(k:DK)(es:List MapEntry)(ck:Nat)(va:Value)(sp:List Value):SH:=Yr mb es ck::ZW lb rb (pS R fl m) va::YK (pS R fl m) va sp::(Yb rb db R w++Zg db k D)
end Go.Proofs.E
