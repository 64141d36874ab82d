/- Laws of PoolRule. Part 10 of 26. -/
import Derived.Test.YthjhjmnmnbcioaaGreatE9
set_option linter.unusedVariables false
set_option linter.unusedSimpArgs false
set_option linter.unusedSectionVars false
namespace Go.Proofs.E
open Go Tryz
set_option maxRecDepth 4000
set_option maxHeartbeats 1000000
attribute [local irreducible] Yl TL TC TE Spec YW R1 Hp.le EnvLe TS TR YS Zv TP QP
theorem read1 (ρ:Hp)(b:Nat)(hb:HB)(mb pb ib rb:Nat)(s:Xo)(ops armed failing:Int)(i:Nat)(dead:Bool)(es:List MapEntry)(ck:Nat)(r:List Value)(hr:r.length=64)(hs:SecsOk s)(hm:MapOk s es)(hi:i<s.length) :
  Spec prog 182 [.pointer (some ⟨pb,0,none⟩),.pointer (some ⟨ib,0,none⟩),.pointer (some ⟨rb,0,none⟩)] ρ
   [[(b,dO hb mb s.length ops armed failing dead)],[(hb.b,.cells ⟨Xb s++hb.sp⟩ 105 (0,0))],[(mb,.map ⟨es⟩ ck)],[(pb,.cells ⟨[.pointer (some ⟨b,0,none⟩)]⟩ 24 (0,0))],[(ib,.cells ⟨[.int .i64 i]⟩ 3 (0,0))],[(rb,.cells ⟨r⟩ 105 (0,0))]]
   (λ v ρ' L'=>v=.tuple ⟨[]⟩/\ρ'=ρ/\L'=[[(b,dO hb mb s.length ops armed failing dead)],[(hb.b,.cells ⟨Xb s++hb.sp⟩ 105 (0,0))],[(mb,.map ⟨es⟩ ck)],[(pb,.cells ⟨[.pointer (some ⟨b,0,none⟩)]⟩ 24 (0,0))],[(ib,.cells ⟨[.int .i64 i]⟩ 3 (0,0))],[(rb,.cells ⟨(says1 s[i]).map Zk⟩ 105 (0,0))]]):=by
 have hk:=hm.keys
 have hat:=hm.at hi
 have hh:(s[i].1.map Zk).length=64:=by simpa using hs.held s[i] (aM hi)
 have ht:((Xb s++hb.sp).drop (0+i*64)).take 64=(s[i].1).map Zk:=by rw[Nat.zero_add];exact heldC_take' hb.sp hs.held hi
 have hlen:=heldC_length' hb.sp hs.held
 have o1:=ZH
 cases hc:s[i].2 with
 | none=>
  have hsay:says1 s[i]=s[i].1:=by simp[says1,hc]
  rw[hc] at hat
  simp only[Option.map_none] at hat
  have hone:=ZH s[i].1
  refine Za func182 rfl rfl rfl λ u R=>?_
  simp only[Zc,kA,dO,hsay]
  repeat' (first|refine zW ?_|intro _)
  refine tpZ [0,1,2,3,4,5,6,7,8] (.e 9 [] (.e 10 [] (.f [11] .o))) ?_
  repeat' (refine iT ?_;first|refine rA ?_|(refine rE ?_<;>(refine qEf ?_;try intro _)<;>(try simp only[kA])<;>refine zN ?_))
  repeat' (first|refine zW ?_|intro _)
  refine tc_draw 7 (by decide +kernel) (by decide +kernel) ?_
  repeat' (first|(refine jLd ?_;refine sLd ?_)|(refine jFa ?_;refine sFa ?_)|(refine jNc ?_;refine sNc ?_)|(refine jIa ?_;refine sIa ?_)|(refine j_gd ?_;first|refine sWant ?_|refine sSkip ?_|refine sSkipU ?_))
  all_goals refine ts_nil ?_
  repeat' (first|refine zW ?_|intro _)
  exact qE ⟨rfl,rfl,rfl⟩
 | some c=>
  have hsay:says1 s[i]=c:=by simp[says1,hc]
  have hcl:(c.map Zk).length=64:=by simpa using hs.cached s[i] (aM hi) c hc
  rw[hc] at hat
  simp only[Option.map_some] at hat
  have hone:=ZH c
  refine Za func182 rfl rfl rfl λ u R=>?_
  simp only[Zc,kA,dO,hsay]
  repeat' (first|refine zW ?_|intro _)
  refine tpZ [0,1,2,3,4,5,6,7,8] (.e 9 [] (.e 10 [] (.f [11] .o))) ?_
  repeat' (refine iT ?_;first|refine rA ?_|(refine rE ?_<;>(refine qEf ?_;try intro _)<;>(try simp only[kA])<;>refine zN ?_))
  repeat' (first|refine zW ?_|intro _)
  exact qE ⟨rfl,rfl,rfl⟩
def Xs:Blk:=List.replicate 64 0
theorem zblk_cells:List.replicate 64 (Value.int .u8 0)=Xs.map Zk:=by rfl
def DS.read (D:DS)(i:Int):DS×Blk×Int:=
 if D.dead then (D,Xs,9) else if i<0\/(D.secs.length:Int)<=i then (D,Xs,2)
 else if D.failing=0 then (D.tick,Xs,8)
 else (D.tick,says1 (D.secs[i.toNat]?.getD (Xs,none)),0)
theorem dread_spec (ρ:Hp)(b:Nat)(hb:HB)(mb:Nat)(es:List MapEntry)(ck:Nat)(D:DS)(i:Int)(hD:D.Ok)(hm:MapOk D.secs es) :
  Spec prog 119 [.pointer (some ⟨b,0,none⟩),.int .i64 i] ρ (Xx b hb mb es ck D)
   (λ v ρ' L'=>v=.tuple ⟨[bv (D.read i).2.1,.int .i64 (D.read i).2.2]⟩/\ρ'=ρ/\L'=Xx b hb mb es ck (D.read i).1):=by
 obtain⟨s,ops,armed,failing,dead⟩:=D
 obtain⟨hs,a1,a2,f1,f2⟩:=hD
 dsimp only at hs a1 a2 f1 f2 hm
 have hz0:(List.replicate 64 (Value.int .u8 0)).length=64:=by rfl
 have hz64:(List.replicate 64 (Value.int .u8 0)).all (·.oneCell')=true:=by rfl
 cases dead with
 | true=>
  have he:DS.read ⟨s,ops,armed,failing,true⟩ i=(⟨s,ops,armed,failing,true⟩,Xs,9):=by simp[DS.read]
  simp only[he]
  refine Za func119 rfl rfl rfl λ u R=>?_
  simp only[Zc,kA,Xx,bv,<-zblk_cells]
  repeat' (first|(refine Zb (.func 154) ?_;refine qR rfl rfl (does_dead _ _ _ _ _ _ _ _ _ _ _) ?_;try simp only[kA])|refine zW ?_|intro _)
  exact qE ⟨rfl,rfl,rfl⟩
 | false=>
  by_cases hi:i<0\/(s.length:Int)<=i
  ·have he:DS.read ⟨s,ops,armed,failing,false⟩ i=(⟨s,ops,armed,failing,false⟩,Xs,2):=by simp[DS.read,hi]
   simp only[he]
   refine Za func119 rfl rfl rfl λ u R=>?_
   simp only[Zc,kA,Xx,bv,<-zblk_cells]
   repeat' (first|(refine Zb (.func 154) ?_;refine qR rfl rfl (does_arg _ _ _ _ _ _ _ _ _ _ _ hi) ?_;try simp only[kA])|refine zW ?_|intro _)
   exact qE ⟨rfl,rfl,rfl⟩
  ·have hi0:0<=i:=by omega
   have hi1:i<s.length:=by omega
   by_cases hf:failing=0
   ·subst hf
    have he:DS.read ⟨s,ops,armed,0,false⟩ i=(⟨s,IntKind.i64.wrap (ops+1),armed,-1,false⟩,Xs,8):=by simp[DS.read,hi,DS.tick,cnt]
    simp only[he]
    refine Za func119 rfl rfl rfl λ u R=>?_
    simp only[Zc,kA,Xx,bv,<-zblk_cells]
    repeat' (first|(refine Zb (.func 154) ?_;refine qR rfl rfl (does_fail_r _ _ _ _ _ _ _ _ _ hi0 hi1) ?_;try simp only[kA])|refine zW ?_|intro _)
    exact qE ⟨rfl,rfl,rfl⟩
   ·obtain⟨k,rfl⟩:∃k:Nat,i=k:=⟨i.toNat,by omega⟩
    have hk:k<s.length:=by omega
    have hsay:(says1 s[k]).length=64:=by
     unfold says1
     cases hc:s[k].2 with
     | none=>exact hs.held s[k] (aM hk)
     | some c=>exact hs.cached s[k] (aM hk) c hc
    have hsl:((says1 s[k]).map Zk).length=64:=by simpa using hsay
    have hone:=ZH (says1 s[k])
    have he:DS.read ⟨s,ops,armed,failing,false⟩ (k:Int)=(⟨s,IntKind.i64.wrap (ops+1),armed,cnt failing,false⟩,says1 s[k],0):=by simp[DS.read,hi,DS.tick,hf,hk]
    simp only[he]
    refine Za func119 rfl rfl rfl λ u R=>?_
    simp only[Zc,kA,Xx,bv]
    repeat' (first|(refine Zb (.func 154) ?_;refine qC rfl rfl (does_ok_r _ _ _ _ _ _ _ _ _ _ _ _ _ hi0 hi1 hf f1 f2 (read1 _ _ _ _ _ _ _ _ _ _ _ _ _ _ _ _ hz0 hs hm hk)) ?_;rintro v ρ' L' hle ⟨rfl,v0,h0,rfl,rfl⟩<;>(try simp only[kA]))|refine zW ?_|intro _)
    exact qE ⟨rfl,rfl,rfl⟩
def isP (s:Xo)(i:Nat):Bool:=((s[i]?).bind (·.2)).isSome
def YT (s:Xo)(k:Nat):List Nat:=(List.range k).filter (isP s)
def pend (s:Xo):List Nat:=YT s s.length
theorem pendTo_succ_t {s:Xo}{k:Nat}(h:isP s k=true):YT s (k+1)=YT s k++[k]:=by simp[YT,List.range_succ,h]
theorem pendTo_succ_f {s:Xo}{k:Nat}(h:isP s k=false):YT s (k+1)=YT s k:=by simp[YT,List.range_succ,h]
theorem pendTo_pre {s:Xo}{k m:Nat}(h:k<=m):YT s k <+: YT s m:=by
 induction m with
 | zero=>
  have:k=0:=by omega
  subst this;exact List.prefix_refl _
 | succ m ih=>
  by_cases e:k=m+1
  ·subst e;exact List.prefix_refl _
  ·refine (ih (by omega)).trans ?_
   cases hp:isP s m
   ·rw[pendTo_succ_f hp];exact List.prefix_refl _
   ·rw[pendTo_succ_t hp];exact List.prefix_append _ _
def natE (i:Nat):List Value:=[.int .i64 i]
theorem pending1_iter (ρ0:Hp)(b:Nat)(hb:HB)(mb bx:Nat)(s:Xo)(ops armed failing:Int)(dead:Bool)(es:List MapEntry)(ck:Nat)(hm:MapOk s es)(hs:SecsOk s) :
  Iter prog 181 [] [.pointer (some ⟨bx,0,none⟩)] natE ρ0
   [[(bx,.cells ⟨[.pointer (some ⟨b,0,none⟩)]⟩ 24 (0,0))],[(b,dO hb mb s.length ops armed failing dead)],[(mb,.map ⟨es⟩ ck)]] (pend s):=by
 intro l J Jx hY ρ Lj hle hJ
 refine Za func181 rfl rfl rfl λ u R=>?_
 simp only[Zc,kA,dO]
 have hk:=hm.keys
 have hlen:=hs.len
 repeat' (first|refine zW ?_|intro _)
 refine tc_loop_e (λ (y:Nat×Hp×SH)=>⟨[(0,.func (.yield l) ⟨[]⟩ ⟨[]⟩),(1,.pointer (some ⟨bx,0,none⟩)),(10,.int .i64 s.length),(11,.int .i64 y.1)],y.2.1,
   [[(bx,.cells ⟨[.pointer (some ⟨b,0,none⟩)]⟩ 24 (0,0))],[(b,dO hb mb s.length ops armed failing dead)],[(mb,.map ⟨es⟩ ck)]]++y.2.2++R⟩)
  (λ y=>y.1<=s.length/\ρ.le y.2.1/\J (YT s y.1) y.2.1 y.2.2) (λ y=>s.length-y.1) (0,ρ,Lj) rfl ⟨by simp,Hp.le_refl _,hJ⟩
  ev_le rfl tk inferInstance ?_
 rintro⟨k,ρ1,L1⟩ ⟨h1,h2,h3⟩
 dsimp only at h1 h2 h3 ⊢
 simp only[kA,dO]
 by_cases hlt:k<s.length
 ·have hat:=hm.at hlt
  cases hc:s[k].2 with
  | none=>
   rw[hc] at hat
   simp only[Option.map_none] at hat
   have hp:isP s k=false:=by simp[isP,hlt,hc]
   repeat' (first|refine zW ?_|intro _)
   refine te_round_e (Lm:=[_,_,_]++L1) (R:=R) (k+1,ρ1,L1) rfl ⟨by omega,h2,by dsimp only;rw[pendTo_succ_f hp];exact h3⟩ ev_le rfl tk inferInstance (by dsimp only;omega)
  | some c=>
   rw[hc] at hat
   simp only[Option.map_some] at hat
   have hp:isP s k=true:=by simp[isP,hlt,hc]
   have hsub:=pendTo_succ_t hp
   have hpre:YT s k++[k] <+: pend s:=by rw[<-hsub];exact pendTo_pre (by omega)
   have hone:=ZH c
   have hcl:(c.map Zk).length=64:=by simpa using hs.cached s[k] (aM hlt) c hc
   have hy:=hY (YT s k) k ρ1 L1 hpre (Hp.le_trans hle h2) h3
   unfold dO at hy
   repeat' (first|(refine Zb (.tmp 25) ?_;refine qY rfl rfl (hy) ?_;rintro v ρ' L' hle ⟨Lj',rfl,⟨rfl,hj⟩|⟨rfl,hj⟩⟩<;>(try simp only[kA]))|refine zW ?_|intro _)
   ·refine te_round_e (Lm:=[_,_,_]++Lj') (R:=R) (k+1,ρ',Lj') rfl ⟨by omega,Hp.le_trans h2 hle,by dsimp only;rw[hsub];exact hj⟩ ev_le rfl tk inferInstance (by dsimp only;omega)
   ·exact te_end rfl rfl rfl (res0 rfl) (Hp.le_trans h2 hle) tk (by infer_instance) ⟨Lj',rfl,.inr hj⟩
 ·have hk2:k=s.length:=by omega
  subst hk2
  repeat' (first|refine zW ?_|intro _)
  exact te_end rfl rfl rfl (res0 rfl) h2 tk (by infer_instance) ⟨L1,rfl,.inl h3⟩
theorem pending_spec (ρ:Hp)(b:Nat):Spec prog 118 [.pointer (some ⟨b,0,none⟩)] ρ [] (λ v ρ' L'=>∃bx,v=.func (.func 181) ⟨[]⟩ ⟨[.pointer (some ⟨bx,0,none⟩)]⟩/\ρ'=ρ/\L'=[[(bx,.cells ⟨[.pointer (some ⟨b,0,none⟩)]⟩ 24 (0,0))]]):=by
 refine Za func118 rfl rfl rfl λ u R=>?_
 simp only[Zc,kA]
 repeat' (first|refine zW ?_|intro _)
 exact qE ⟨_,rfl,rfl,rfl⟩
theorem pendTo_length (s:Xo)(k:Nat):(YT s k).length<=k:=by
 unfold YT
 refine Nat.le_trans (List.length_filter_le _ _) (by simp)
theorem pend_length {s:Xo}(h:SecsOk s):(pend s).length<=2048:=Nat.le_trans (pendTo_length s _) h.len
theorem filter_range_pre (p:Nat->Bool):∀(n:Nat) (pre:List Nat) (y:Nat),(pre++[y]) <+: (List.range n).filter p->pre=(List.range y).filter p/\p y=true/\y<n
 | 0,pre,y,h=>by simp at h
 | n+1,pre,y,h=>by
  rw[List.range_succ,List.filter_append] at h
  cases hp:p n with
  | false=>
   have h':(pre++[y]) <+: (List.range n).filter p:=by simpa [hp] using h
   obtain⟨h1,h2,h3⟩:=filter_range_pre p n pre y h'
   exact⟨h1,h2,by omega⟩
  | true=>
   have h':(pre++[y]) <+: (List.range n).filter p++[n]:=by simpa [hp] using h
   by_cases hl:(pre++[y]).length<=((List.range n).filter p).length
   ·have h2:(pre++[y]) <+: (List.range n).filter p:=List.prefix_of_prefix_length_le h' (List.prefix_append _ _) hl
    obtain⟨h1,h2,h3⟩:=filter_range_pre p n pre y h2
    exact⟨h1,h2,by omega⟩
   ·have hlen:=h'.length_le
    have he:pre++[y]=(List.range n).filter p++[n]:=h'.eq_of_length (by simp at hl hlen ⊢;omega)
    obtain⟨h1,h2⟩:=List.append_inj' he rfl
    simp only[List.cons.injEq,and_true] at h2
    subst h2
    exact⟨h1,hp,by omega⟩
def setAfter (keep:Nat->Bool)(s:Xo)(m:Nat):Xo:=s.mapIdx λ i p=>if isP s i && decide ((YT s i).length<m) && keep (YT s i).length then (p.2.getD p.1,p.2) else p
def settled (keep:Nat->Bool)(s:Xo):Xo:=(setAfter keep s (pend s).length).map λ p=>(p.1,none)
theorem Wu {keep s m}:(setAfter keep s m).length=s.length:=by simp[setAfter]
theorem ZL {keep s}:(settled keep s).length=s.length:=by simp[settled,Wu]
theorem setAfter_zero {keep:Nat->Bool}{s:Xo}:setAfter keep s 0=s:=by
 unfold setAfter
 apply List.ext_getElem (by simp)
 intro i h1 h2
 simp
theorem heldC_settled {keep s}:Xb (settled keep s)=Xb (setAfter keep s (pend s).length):=by simp[Xb,settled,Function.comp_def]
theorem pendTo_lt {s:Xo}{i j:Nat}(h:i<j)(hp:isP s i=true):(YT s i).length<(YT s j).length:=by
 have:=(pendTo_pre (s:=s) (k:=i+1) (m:=j) (by omega)).length_le
 rw[pendTo_succ_t hp] at this
 simp at this;omega
theorem setAfter_succ {keep:Nat->Bool}{s:Xo}{y:Nat}{h c:Blk}(hy:s[y]?=some (h,some c)) :
  setAfter keep s ((YT s y).length+1)=if keep (YT s y).length then (setAfter keep s (YT s y).length).set y (c,some c) else setAfter keep s (YT s y).length:=by
 have hlt:y<s.length:=(List.getElem?_eq_some_iff.1 hy).1
 have hyv:s[y]=(h,some c):=(List.getElem?_eq_some_iff.1 hy).2
 have hpy:isP s y=true:=by simp[isP,hy]
 have key:∀i,i<s.length->i≠y->isP s i=true->((YT s i).length<(YT s y).length+1↔(YT s i).length<(YT s y).length):=by
  intro i hi hne hp
  rcases Nat.lt_trichotomy i y with h1|h1|h1
  ·have:=pendTo_lt h1 hp;omega
  ·exact absurd h1 hne
  ·have:=pendTo_lt h1 hpy;omega
 apply List.ext_getElem
 ·split<;>simp[setAfter]
 ·intro i h1 h2
  have hi:i<s.length:=by simpa [setAfter] using h1
  by_cases e:i=y
  ·subst e
   split
   ·rename_i hk
    simp[setAfter,hpy,hk,hyv]
   ·rename_i hk
    simp[setAfter,hpy,hk]
  ·have hne:y≠i:=λ h=>e h.symm
   have:∀(q:Xo) (hq:i<q.length) (v:Blk×Option Blk) (hq2:i<(q.set y v).length),(q.set y v)[i]=q[i]:=λ q hq v hq2=>by rw[List.getElem_set_ne hne]
   cases hp:isP s i with
   | false=>split<;>simp[setAfter,hp,List.getElem_set_ne hne]
   | true=>
    have hk:=key i hi e hp
    split<;>simp[setAfter,hp,List.getElem_set_ne hne,hk]
theorem SecsOk.setAfter {keep:Nat->Bool}{s:Xo}{m:Nat}(h:SecsOk s):SecsOk (setAfter keep s m):=by
 have hm:∀p∈E.setAfter keep s m,∃q∈s,p.2=q.2/\(p.1=q.1\/q.2=some p.1):=by
  intro p hp
  obtain⟨i,hi,rfl⟩:=List.mem_iff_getElem.1 hp
  have hi':i<s.length:=by simpa [E.setAfter] using hi
  refine⟨s[i],aM hi', ?_⟩
  simp only[E.setAfter,List.getElem_mapIdx]
  split
  ·refine⟨rfl, ?_⟩
   cases hc:s[i].2 with
   | none=>exact .inl rfl
   | some c=>exact .inr rfl
  ·exact⟨rfl,.inl rfl⟩
 refine⟨by rw[Wu];exact h.len,by rw[Wu];exact h.pos,λ p hp=>?_,λ p hp c hc=>?_⟩
 ·obtain⟨q,hq,h1,h2|h2⟩:=hm p hp
  ·rw[h2];exact h.held q hq
  ·exact h.cached q hq _ h2
 ·obtain⟨q,hq,h1,h2⟩:=hm p hp
  exact h.cached q hq c (by rw[<-h1];exact hc)
theorem SecsOk.settled {keep:Nat->Bool}{s:Xo}(h:SecsOk s):SecsOk (settled keep s):=by
 have h1:=h.setAfter (keep:=keep) (m:=(pend s).length)
 refine⟨by rw[ZL];exact h.len,by rw[ZL];exact h.pos,λ p hp=>?_,λ p hp c hc=>?_⟩
 ·obtain⟨q,hq,rfl⟩:=List.mem_map.1 hp
  exact h1.held q hq
 ·obtain⟨q,hq,rfl⟩:=List.mem_map.1 hp
  cases hc
theorem ZK {keep s}:YC (settled keep s):=λ p hp=>by
 obtain⟨q,hq,rfl⟩:=List.mem_map.1 hp
 rfl
theorem settle_spec (ρ:Hp)(b:Nat)(hb:HB)(mb:Nat)(es:List MapEntry)(ck:Nat)(s:Xo)(ops armed failing:Int)(dead:Bool)(kf:Nat)(kc:List Value)(Xk:SH)(keep:Nat->Bool)[hkF:Zz prog kf]
  (hK:∀nth,nth<2048->Spec prog kf ([.int .i64 (nth:Nat)]++kc) ρ Xk (λ v ρ' L'=>v=.bool (keep nth)/\ρ'=ρ/\L'=Xk)) (hs:SecsOk s) (hm:MapOk s es) :
  Spec prog 58 [.pointer (some ⟨b,0,none⟩),.func (.func kf) ⟨[]⟩ ⟨kc⟩] ρ ([[(b,dO hb mb s.length ops armed failing dead)],[(hb.b,.cells ⟨Xb s++hb.sp⟩ 105 (0,0))],[(mb,.map ⟨es⟩ ck)]]++Xk)
   (λ v ρ' L'=>v=.tuple ⟨[]⟩/\ρ.le ρ'/\∃mb' ck',L'=[[(b,dO hb mb' s.length ops armed failing dead)],[(hb.b,.cells ⟨Xb (settled keep s)++hb.sp⟩ 105 (0,0))],[(mb',.map ⟨[]⟩ ck')]]++Xk):=by
 rw[heldC_settled]
 have hpl:=pend_length hs
 have hk:=hm.keys
 refine Za func58 rfl rfl rfl λ u R=>?_
 simp only[Zc,kA,dO]
 repeat' (first|(refine Zb (.func 118) ?_;refine qC rfl rfl (pending_spec _ _) ?_;rintro v ρ' L' hle ⟨bx,rfl,rfl,rfl⟩<;>(try simp only[kA]))|refine zW ?_|intro _)
 rename_i bd bk bn
 refine tc_rangeFunc (S:=[[(bx,.cells ⟨[.pointer (some ⟨b,0,none⟩)]⟩ 24 (0,0))],[(b,dO hb mb s.length ops armed failing dead)],[(mb,.map ⟨es⟩ ck)]])
  (L0:=[[(bd,.cells ⟨[.pointer (some ⟨b,0,none⟩)]⟩ 24 (0,0))],[(bk,.cells ⟨[.func (.func kf) ⟨[]⟩ ⟨kc⟩]⟩ 136 (0,0))],[(bn,.cells ⟨[.int .i64 (0:Nat)]⟩ 3 (0,0))],[(hb.b,.cells ⟨Xb (setAfter keep s 0)++hb.sp⟩ 105 (0,0))]]++Xk) (R:=R) (R0:=?r0) rfl rfl (pending1_iter ρ' b hb mb bx s ops armed failing dead es ck hm hs) (Hp.le_refl _) (λ _=>rfl) rfl
  (λ pre ρ1 Lu=>ρ1=ρ'/\Lu=[[(bd,.cells ⟨[.pointer (some ⟨b,0,none⟩)]⟩ 24 (0,0))],[(bk,.cells ⟨[.func (.func kf) ⟨[]⟩ ⟨kc⟩]⟩ 136 (0,0))],[(bn,.cells ⟨[.int .i64 (pre.length:Nat)]⟩ 3 (0,0))],[(hb.b,.cells ⟨Xb (setAfter keep s pre.length)++hb.sp⟩ 105 (0,0))]]++Xk) (λ _ _ _=>False) ?k1 ?k2 ⟨rfl,rfl⟩ ?round ?done ?stop
 case k1=>unfold dO;exact tk
 case k2=>rw[setAfter_zero];exact tk
 case stop=>rintro D0 c ρ' Lu _ hf;exact hf.elim
 case round=>
  rintro l tm r pre y ρ1 Lu u R' hpre hle' ⟨rfl,rfl⟩ hr hrec
  simp only[envP,natE,kA]
  have hlen:=hpre.length_le
  simp only[aL,List.length_singleton] at hlen
  obtain⟨hpe,hpy,hy⟩:=filter_range_pre _ _ _ _ hpre
  repeat' (first|refine zW ?_|intro _)
  refine te_begin rfl hr (λ r' hbz hrec'=>?_)
  have hpl2:(YT s y).length=pre.length:=by rw[hpe];rfl
  obtain⟨hd0,c,hsy⟩:∃h c,s[y]?=some (h,some c):=by
   simp only[isP,Option.isSome_iff_exists] at hpy
   obtain⟨c,hc⟩:=hpy
   rw[List.getElem?_eq_getElem hy] at hc ⊢
   simp only[Option.bind_some] at hc
   exact⟨s[y].1,c,by rw[<-hc]⟩
  have hsv:s[y]=(hd0,some c):=(List.getElem?_eq_some_iff.1 hsy).2
  have hat:=hm.at hy
  rw[hsv] at hat
  simp only[Option.map_some] at hat
  have hc64:c.length=64:=hs.cached s[y] (aM hy) c (by rw[hsv])
  have hcl:(c.map Zk).length=64:=by simpa using hc64
  have hone:=ZH c
  have hsa:=hs.setAfter (keep:=keep) (m:=pre.length)
  have hhl:(Xb (setAfter keep s pre.length)++hb.sp).length=s.length*64+hb.sp.length:=by rw[heldC_length' _ hsa.held,Wu]
  have hnext:=setAfter_succ (keep:=keep) hsy
  rw[hpl2] at hnext
  have hst:=stc_heldC' hb.sp (s:=setAfter keep s pre.length) (i:=y) (b:=c) (some c) hsa.held hc64 (by rw[Wu];exact hy)
  repeat' (first|(refine Zb (.tmp 9) ?_;refine qC rfl rfl (hK pre.length (by omega)) ?_;rintro v ρ' L' hle ⟨rfl,rfl,hx⟩<;>(try simp only[kA,hx]))|refine zW ?_|intro _)
  cases hkp:keep pre.length with
  | false=>
   rw[hkp] at hnext
   simp only[aB,if_false] at hnext
   repeat' (first|refine zW ?_|intro _)
   refine ZR [(l,.loop r')] ?_
   refine te_next (Lu:=[[(bd,.cells ⟨[.pointer (some ⟨b,0,none⟩)]⟩ 24 (0,0))],[(bk,.cells ⟨[.func (.func kf) ⟨[]⟩ ⟨kc⟩]⟩ 136 (0,0))],[(bn,.cells ⟨[.int .i64 (pre.length+1:Nat)]⟩ 3 (0,0))],[(hb.b,.cells ⟨Xb (setAfter keep s pre.length)++hb.sp⟩ 105 (0,0))]]++Xk) rfl (Hp.le_refl _) ⟨hrec'.tmps.trans hrec.tmps,hrec'.params.trans hrec.params,hrec'.assign.trans hrec.assign,hrec'.body.trans hrec.body⟩ tk tk inferInstance ?_
   refine⟨rfl, ?_⟩
   simp[hnext]
  | true=>
   rw[hkp] at hnext
   simp only[if_true] at hnext
   rw[<-hnext] at hst
   repeat' (first|refine zW ?_|intro _)
   refine tc_draw 12 (by decide +kernel) (by decide +kernel) ?_
   repeat' (first|(refine jMv ?_;refine sMv ?_)|(refine jLd ?_;refine sLd ?_)|(refine jFa ?_;refine sFa ?_)|(refine jNc ?_;refine sNc ?_)|(refine jIa ?_;refine sIa ?_)|(refine jLu ?_;refine sLu ?_)|(refine j_gd ?_;first|refine sWant ?_|refine sSkip ?_|refine sSkipU ?_))
   all_goals refine ts_nil ?_
   repeat' (first|refine zW ?_|intro _)
   rw[Nat.zero_add,hst]
   refine ZR [(l,.loop r')] ?_
   refine te_next (Lu:=[[(bd,.cells ⟨[.pointer (some ⟨b,0,none⟩)]⟩ 24 (0,0))],[(bk,.cells ⟨[.func (.func kf) ⟨[]⟩ ⟨kc⟩]⟩ 136 (0,0))],[(bn,.cells ⟨[.int .i64 (pre.length+1:Nat)]⟩ 3 (0,0))],[(hb.b,.cells ⟨Xb (setAfter keep s (pre.length+1))++hb.sp⟩ 105 (0,0))]]++Xk) rfl (Hp.le_refl _) ⟨hrec'.tmps.trans hrec.tmps,hrec'.params.trans hrec.params,hrec'.assign.trans hrec.assign,hrec'.body.trans hrec.body⟩ tk tk inferInstance ?_
   refine⟨rfl, ?_⟩
   simp
 case done=>
  rintro D0 ρ1 Lu hle' ⟨rfl,rfl⟩
  simp only[kA,dO]
  repeat' (first|refine zW ?_|intro _)
  exact We rfl rfl rfl inferInstance (res0 rfl) (Hp.le_refl _) tk (by infer_instance) ⟨rfl,Hp.le_refl _,_,_,rfl⟩
theorem sync11 (ρ:Hp)(nth:Nat):Spec prog 156 [.int .i64 (nth:Nat)] ρ [] (λ v ρ' L'=>v=.bool true/\ρ'=ρ/\L'=[]):=by
 refine Za func156 rfl rfl rfl λ u R=>?_
 simp only[Zc,kA]
 repeat' (first|refine zW ?_|intro _)
 exact qE ⟨rfl,rfl,rfl⟩
theorem sync2 (ρ:Hp)(X:SH):Spec prog 157 [] ρ X (λ v ρ' L'=>v=.tuple ⟨[]⟩/\ρ'=ρ/\L'=X):=by
 refine Za func157 rfl rfl rfl λ u R=>?_
 simp only[Zc,kA]
 repeat' (first|refine zW ?_|intro _)
 exact te_end rfl rfl rfl (res0 rfl) (Hp.le_refl _) take_app' (by infer_instance) ⟨rfl,rfl,rfl⟩
theorem sync1 (ρ:Hp)(b:Nat)(hb:HB)(mb bx:Nat)(es:List MapEntry)(ck:Nat)(s:Xo)(ops armed failing:Int)(dead:Bool)(hs:SecsOk s)(hm:MapOk s es) :
  Spec prog 155 [.pointer (some ⟨bx,0,none⟩)] ρ ([(b,dO hb mb s.length ops armed failing dead)]::[[(hb.b,.cells ⟨Xb s++hb.sp⟩ 105 (0,0))],[(mb,.map ⟨es⟩ ck)],[(bx,.cells ⟨[.pointer (some ⟨b,0,none⟩)]⟩ 24 (0,0))]])
   (λ v ρ' L'=>v=.tuple ⟨[]⟩/\ρ.le ρ'/\∃mb' ck',L'=[[(b,dO hb mb' s.length ops armed failing dead)],[(hb.b,.cells ⟨Xb (settled (λ _=>true) s)++hb.sp⟩ 105 (0,0))],[(mb',.map ⟨[]⟩ ck')]]):=by
 refine Za func155 rfl rfl rfl λ u R=>?_
 simp only[Zc,kA]
 repeat' (first|(refine Zb (.func 58) ?_;refine qC rfl rfl (settle_spec _ _ _ _ _ _ _ _ _ _ _ 156 [] [] (λ _=>true) (λ nth _=>sync11 _ nth) hs hm) ?_;rintro v ρ' L' hle ⟨rfl,hle2,mb',ck',rfl⟩<;>(try simp only[kA]))|refine zW ?_|intro _)
 exact te_end rfl rfl rfl (res0 rfl) hle2 tk (by infer_instance) ⟨rfl,hle2,mb',ck',rfl⟩
def DS.sync (D:DS):DS×Int:=
 if D.dead then (D,9)
 else if D.armed=0 then ({ D.tick with dead:=true },9)
 else if D.failing=0 then (D.tick,8)
 else ({ D.tick with armed:=cnt D.armed,secs:=settled (λ _=>true) D.secs },0)
theorem dsync_spec (ρ:Hp)(b:Nat)(hb:HB)(mb:Nat)(es:List MapEntry)(ck:Nat)(D:DS)(hD:D.Ok)(hm:MapOk D.secs es) :
  Spec prog 96 [.pointer (some ⟨b,0,none⟩)] ρ (Xx b hb mb es ck D)
   (λ v ρ' L'=>v=.int .i64 D.sync.2/\ρ.le ρ'/\∃mb' es' ck',MapOk D.sync.1.secs es'/\L'=Xx b hb mb' es' ck' D.sync.1):=by
 obtain⟨s,ops,armed,failing,dead⟩:=D
 obtain⟨hs,a1,a2,f1,f2⟩:=hD
 dsimp only at hs a1 a2 f1 f2 hm
 have hpos:(0:Int)<s.length:=by have:=hs.pos;omega
 cases dead with
 | true=>
  have he:DS.sync ⟨s,ops,armed,failing,true⟩=(⟨s,ops,armed,failing,true⟩,9):=by simp[DS.sync]
  simp only[he]
  refine Za func96 rfl rfl rfl λ u R=>?_
  simp only[Zc,kA,Xx]
  repeat' (first|(refine Zb (.func 154) ?_;refine qR rfl rfl (does_dead _ _ _ _ _ _ _ _ _ _ _) ?_;try simp only[kA])|refine zW ?_|intro _)
  exact qE ⟨rfl,Hp.le_refl _,mb,es,ck,hm,rfl⟩
 | false=>
  by_cases ha:armed=0
  ·subst ha
   have he:DS.sync ⟨s,ops,0,failing,false⟩=(⟨s,IntKind.i64.wrap (ops+1),0,cnt failing,true⟩,9):=by simp[DS.sync,DS.tick]
   simp only[he]
   refine Za func96 rfl rfl rfl λ u R=>?_
   simp only[Zc,kA,Xx]
   repeat' (first|(refine Zb (.func 154) ?_;refine qC rfl rfl (does_dies _ _ _ _ _ _ _ _ _ _ _ [] _ (Int.le_refl 0) hpos f1 f2 (sync2 _ _)) ?_;rintro v ρ' L' hle ⟨rfl,v0,h0,rfl,rfl⟩<;>(try simp only[kA]))|refine zW ?_|intro _)
   exact qE ⟨rfl,Hp.le_refl _,mb,es,ck,hm,rfl⟩
  ·by_cases hf:failing=0
   ·subst hf
    have he:DS.sync ⟨s,ops,armed,0,false⟩=(⟨s,IntKind.i64.wrap (ops+1),armed,-1,false⟩,8):=by simp[DS.sync,DS.tick,ha,cnt]
    simp only[he]
    refine Za func96 rfl rfl rfl λ u R=>?_
    simp only[Zc,kA,Xx]
    repeat' (first|(refine Zb (.func 154) ?_;refine qR rfl rfl (does_fail_w _ _ _ _ _ _ _ _ _ _ _ (Int.le_refl 0) hpos ha) ?_;try simp only[kA])|refine zW ?_|intro _)
    exact qE ⟨rfl,Hp.le_refl _,mb,es,ck,hm,rfl⟩
   ·have he:DS.sync ⟨s,ops,armed,failing,false⟩=(⟨settled (λ _=>true) s,IntKind.i64.wrap (ops+1),cnt armed,cnt failing,false⟩,0):=by simp[DS.sync,DS.tick,ha,hf]
    simp only[he]
    refine Za func96 rfl rfl rfl λ u R=>?_
    simp only[Zc,kA,Xx,ZL]
    repeat' (first|(refine Zb (.func 154) ?_;refine qC rfl rfl (does_ok_w _ _ _ _ _ _ _ _ _ _ _ _ _ _ _ (Int.le_refl 0) hpos hf f1 f2 ha a1 a2 (sync1 _ _ _ _ _ es ck s _ _ _ _ hs hm)) ?_;rintro v ρ' L' hle ⟨rfl,v0,h0,hle2,mb',ck',rfl⟩<;>(try simp only[kA]))|refine zW ?_|intro _)
    exact te_end rfl rfl rfl (res1 rfl (ZZ rfl)) hle2 tk (by infer_instance) ⟨rfl,hle2,mb',[],ck',MapOk.empty ZK,rfl⟩
def DS.crash (keep:Nat->Bool)(D:DS):DS:=⟨settled keep D.secs,D.ops,-1,-1,false⟩
theorem crash_spec (ρ:Hp)(b:Nat)(hb:HB)(mb:Nat)(es:List MapEntry)(ck:Nat)(D:DS)(hD:D.Ok)(hm:MapOk D.secs es)(ka:Option Addr)(kn kp:Nat)(X:SH)(keep:Nat->Bool)
  (hK:∀bk nth,nth<2048->Spec prog 59 [.int .i64 (nth:Nat),.pointer (some ⟨bk,0,none⟩)] ρ ([(bk,.cells ⟨[.slice ka kn kp]⟩ 48 (0,0))]::X) (λ v ρ' L'=>v=.bool (keep nth)/\ρ'=ρ/\L'=[(bk,.cells ⟨[.slice ka kn kp]⟩ 48 (0,0))]::X)) :
  Spec prog 23 [.pointer (some ⟨b,0,none⟩),.slice ka kn kp] ρ (Xx b hb mb es ck D++X)
   (λ v ρ' L'=>v=.int .i64 0/\ρ.le ρ'/\∃mb' ck',L'=Xx b hb mb' [] ck' (D.crash keep)++X):=by
 obtain⟨s,ops,armed,failing,dead⟩:=D
 obtain⟨hs,a1,a2,f1,f2⟩:=hD
 dsimp only at hs a1 a2 f1 f2 hm
 have hpos:=hs.pos
 refine Za func23 rfl rfl rfl λ u R=>?_
 simp only[Zc,kA,Xx,DS.crash,ZL]
 repeat' (first|(refine Zb (.func 58) ?_;refine tl_call rfl rfl (settle_spec _ _ _ _ _ _ _ _ _ _ _ 59 [.pointer (some ⟨_,0,none⟩)] ([(_,.cells ⟨[.slice ka kn kp]⟩ 48 (0,0))]::X) keep (λ nth h=>hK _ nth h) hs hm) tk rfl ?_;rintro v ρ' L' hle ⟨rfl,hle2,mb',ck',rfl⟩;simp only[kA,dO])|refine zW ?_|intro _)
 exact te_end rfl rfl rfl (res1 rfl (ZZ rfl)) hle2 tk (by infer_instance) ⟨rfl,hle2,mb',ck',rfl⟩
def keepB (ks:List Bool)(nth:Nat):Bool:=ks[nth]?.getD false
theorem crash1_over (ρ:Hp)(bk nth:Nat)(ka:Option Addr)(kn kp:Nat)(X:SH)(h:kn<=nth):Spec prog 59 [.int .i64 (nth:Nat),.pointer (some ⟨bk,0,none⟩)] ρ ([(bk,.cells ⟨[.slice ka kn kp]⟩ 48 (0,0))]::X) (λ v ρ' L'=>v=.bool false/\ρ'=ρ/\L'=[(bk,.cells ⟨[.slice ka kn kp]⟩ 48 (0,0))]::X):=by
 refine Za func59 rfl rfl rfl λ u R=>?_
 simp only[Zc,kA]
 repeat' (first|refine zW ?_|intro _)
 exact te_end rfl rfl rfl (res1 rfl (ZZ rfl)) (Hp.le_refl _) (take_cons' ZJ take_app') (by infer_instance) ⟨rfl,rfl,rfl⟩
theorem crash1_imm (ρ:Hp)(bk nth kb o kn kp:Nat)(C:List Value)(T:TypeId)(fr:Nat×Nat)(f:Bool)(h:nth<kn)(hc:C[o+nth*1]?=some (.bool f))(hb:ρ kb=some (.cells ⟨C⟩ T fr)):Spec prog 59 [.int .i64 (nth:Nat),.pointer (some ⟨bk,0,none⟩)] ρ [[(bk,.cells ⟨[.slice (some ⟨kb,o,none⟩) kn kp]⟩ 48 (0,0))]] (λ v ρ' L'=>v=.bool f/\ρ'=ρ/\L'=[[(bk,.cells ⟨[.slice (some ⟨kb,o,none⟩) kn kp]⟩ 48 (0,0))]]):=by
 refine Za func59 rfl rfl rfl λ u R=>?_
 simp only[Zc,kA]
 repeat' (first|refine zW ?_|intro _)
 exact te_end rfl rfl rfl (res1 rfl (ZZ rfl)) (Hp.le_refl _) tk (by infer_instance) ⟨rfl,rfl,rfl⟩
def DS.arm (D:DS)(n:Int):DS×Int:=if D.dead then (D,9) else ({ D with armed:=max n (-1) },0)
def DS.fail (D:DS)(n:Int):DS×Int:=if D.dead then (D,9) else ({ D with failing:=max n (-1) },0)
theorem arm_spec (ρ:Hp)(b:Nat)(hb:HB)(mb n:Nat)(ops armed failing k:Int)(dead:Bool):Spec prog 21 [.pointer (some ⟨b,0,none⟩),.int .i64 k] ρ [[(b,dO hb mb n ops armed failing dead)]]
  (λ v ρ' L'=>v=.int .i64 (if dead then 9 else 0)/\ρ'=ρ/\L'=[[(b,dO hb mb n ops (if dead then armed else max k (-1)) failing dead)]]):=by
 cases dead with
 | true=>
  simp only[if_true]
  refine Za func21 rfl rfl rfl λ u R=>?_
  simp only[Zc,kA]
  repeat' (first|(refine Zb (.func 57) ?_;refine qR rfl rfl (lives_dead _ _ _ _ _ _ _ _) ?_;try simp only[kA])|refine zW ?_|intro _)
  exact qE ⟨rfl,rfl,rfl⟩
 | false=>
  simp only[aB,if_false]
  refine Za func21 rfl rfl rfl λ u R=>?_
  simp only[Zc,kA]
  repeat' (first|(refine Zb (.func 57) ?_;refine qR rfl rfl (lives_ok _ _ _ _ _ _ _ _) ?_;try simp only[kA,dO])|refine zW ?_|intro _)
  exact qE ⟨rfl,rfl,rfl⟩
theorem dead_spec (ρ:Hp)(b:Nat)(hb:HB)(mb n:Nat)(ops armed failing:Int)(dead:Bool):Spec prog 32 [.pointer (some ⟨b,0,none⟩)] ρ [[(b,dO hb mb n ops armed failing dead)]]
  (λ v ρ' L'=>v=.bool dead/\ρ'=ρ/\L'=[[(b,dO hb mb n ops armed failing dead)]]):=by
 refine Za func32 rfl rfl rfl λ u R=>?_
 simp only[Zc,kA,dO]
 repeat' (first|refine zW ?_|intro _)
 exact qE ⟨rfl,rfl,rfl⟩
theorem len_spec (ρ:Hp)(b:Nat)(hb:HB)(mb n:Nat)(ops armed failing:Int)(dead:Bool):Spec prog 39 [.pointer (some ⟨b,0,none⟩)] ρ [[(b,dO hb mb n ops armed failing dead)]]
  (λ v ρ' L'=>v=.int .i64 (n:Nat)/\ρ'=ρ/\L'=[[(b,dO hb mb n ops armed failing dead)]]):=by
 refine Za func39 rfl rfl rfl λ u R=>?_
 simp only[Zc,kA,dO]
 repeat' (first|refine zW ?_|intro _)
 exact qE ⟨rfl,rfl,rfl⟩
def fresh (n:Nat):Xo:=List.replicate n (Xs,none)
def DS.new (n:Nat):DS:=⟨fresh n,0,-1,-1,false⟩
theorem fresh_ok {n:Nat}(h0:0<n)(h1:n<=2048):SecsOk (fresh n):=by
 refine⟨by simpa [fresh] using h1,by simpa [fresh] using h0,λ p hp=>?_,λ p hp c hc=>?_⟩<;>(obtain⟨_,rfl⟩:=List.mem_replicate.1 hp)
 ·rfl
 ·cases hc
theorem fresh_empty {n:Nat}:YC (fresh n):=λ p hp=>by obtain⟨_,rfl⟩:=List.mem_replicate.1 hp;rfl
theorem madeCells_rep (x:Value)(m:Nat):∀n,0<m->madeCells ⟨List.replicate m x⟩ n=⟨List.replicate n x⟩:=by
 intro n hm
 apply Array.ext
 ·simp[madeCells]
 ·intro i h1 h2
  have h3:i % m<m:=Nat.mod_lt _ hm
  simp[madeCells,h3]
theorem heldC_fresh (n:Nat):Xb (fresh n)=List.replicate (n*64) (.int .u8 0):=by
 unfold Xb fresh
 rw[List.map_replicate]
 have:Xs.map Zk=List.replicate 64 (Value.int .u8 0):=by rfl
 rw[this,List.flatten_replicate_replicate]
theorem new_spec (ρ:Hp)(n:Nat)(h0:0<n)(h1:n<=2048):Spec prog 6 [.int .i64 (n:Nat)] ρ [] (λ v ρ' L'=>ρ'=ρ/\∃b hb mb ck,v=.tuple ⟨[.pointer (some ⟨b,0,none⟩),.int .i64 0]⟩/\L'=Xx b hb mb [] ck (DS.new n)):=by
 refine Za func6 rfl rfl rfl λ u R=>?_
 have hl:(DS.new n).secs.length=n:=by simp[DS.new,fresh]
 simp only[Zc,kA,Xx,hl]
 simp only[DS.new,heldC_fresh]
 repeat' (first|(refine WK rfl rfl (by omega) (by omega) (by omega) (by omega) rfl (λ hbn=>?_);simp only[Value.cells,madeCells_rep _ 64 _ (by decide),Int.toNat_natCast])|refine zW ?_|intro _)
 rename_i bm bd
 refine qE (L':=[[(bd,.cells _ 99 (0,0))],[(hbn,_)],[(bm,.map _ _)]]) ⟨rfl,bd,⟨hbn,n,[]⟩,bm,0,rfl, ?_⟩
 simp only[aN]
 rfl
theorem Hp.le_get {ρ ρ':Hp}(h:ρ.le ρ'){b:Nat}{o:Obj}(hb:ρ b=some o):ρ' b=some o:=hp_get h hb
def bb (f:Bool):Value:=.bool f
theorem bb_one (l:List Bool):(l.map bb).all (·.oneCell')=true:=by
 rw[List.all_eq_true];intro v hv;obtain⟨b,_,rfl⟩:=List.mem_map.1 hv;rfl
structure KeepIn (ρ:Hp)(ka:Option Addr)(kn kp:Nat)(ks:List Bool):Prop where
 le:kn<=kp
 len:ks.length=kn
 big:kn<=9223372036854775807
 out:kn=0\/∃kb off C T fr,ka=some ⟨kb,off,none⟩/\ρ kb=some (.cells ⟨C⟩ T fr)/\(C.drop off).take kn=ks.map bb
theorem KeepIn.mono {ρ ρ':Hp}{ka kn kp ks}(h:KeepIn ρ ka kn kp ks)(hle:ρ.le ρ'):KeepIn ρ' ka kn kp ks:=
 ⟨h.le,h.len,h.big,by
  rcases h.out with h0|⟨kb,off,C,T,fr,h1,h2,h3⟩
  ·exact .inl h0
  ·exact .inr ⟨kb,off,C,T,fr,h1,Hp.le_get hle h2,h3⟩⟩
theorem MapOk.arm {D:DS}{es n}(h:MapOk D.secs es):MapOk (D.arm n).1.secs es:=by unfold DS.arm;split<;>exact h
theorem MapOk.fail {D:DS}{es n}(h:MapOk D.secs es):MapOk (D.fail n).1.secs es:=by unfold DS.fail;split<;>exact h
theorem arm_disk (ρ:Hp)(b:Nat)(hb:HB)(mb:Nat)(es:List MapEntry)(ck:Nat)(D:DS)(k:Int):Spec prog 21 [.pointer (some ⟨b,0,none⟩),.int .i64 k] ρ (Xx b hb mb es ck D) (λ v ρ' L'=>v=.int .i64 (D.arm k).2/\ρ'=ρ/\L'=Xx b hb mb es ck (D.arm k).1):=by
 refine ((arm_spec ρ b hb mb D.secs.length D.ops D.armed D.failing k D.dead).frame [[(hb.b,.cells ⟨Xb D.secs++hb.sp⟩ 105 (0,0))],[(mb,.map ⟨es⟩ ck)]]).mono ?_
 rintro v ρ' L' _ ⟨L1,rfl,rfl,rfl,rfl⟩
 obtain⟨s,o,a,f,d⟩:=D
 cases d<;>exact⟨rfl,rfl,rfl⟩
theorem len_disk (ρ:Hp)(b:Nat)(hb:HB)(mb:Nat)(es:List MapEntry)(ck:Nat)(D:DS):Spec prog 39 [.pointer (some ⟨b,0,none⟩)] ρ (Xx b hb mb es ck D) (λ v ρ' L'=>v=.int .i64 (D.secs.length:Nat)/\ρ'=ρ/\L'=Xx b hb mb es ck D):=by
 refine ((len_spec ρ b hb mb D.secs.length D.ops D.armed D.failing D.dead).frame [[(hb.b,.cells ⟨Xb D.secs++hb.sp⟩ 105 (0,0))],[(mb,.map ⟨es⟩ ck)]]).mono ?_
 rintro v ρ' L' _ ⟨L1,rfl,rfl,rfl,rfl⟩
 exact⟨rfl,rfl,rfl⟩
theorem dead_disk (ρ:Hp)(b:Nat)(hb:HB)(mb:Nat)(es:List MapEntry)(ck:Nat)(D:DS):Spec prog 32 [.pointer (some ⟨b,0,none⟩)] ρ (Xx b hb mb es ck D) (λ v ρ' L'=>v=.bool D.dead/\ρ'=ρ/\L'=Xx b hb mb es ck D):=by
 refine ((dead_spec ρ b hb mb D.secs.length D.ops D.armed D.failing D.dead).frame [[(hb.b,.cells ⟨Xb D.secs++hb.sp⟩ 105 (0,0))],[(mb,.map ⟨es⟩ ck)]]).mono ?_
 rintro v ρ' L' _ ⟨L1,rfl,rfl,rfl,rfl⟩
 exact⟨rfl,rfl,rfl⟩
theorem read_len {D:DS}(hD:D.Ok)(i:Int):(D.read i).2.1.length=64:=by
 unfold DS.read
 split
 ·rfl
 ·split
  ·rfl
  ·split
   ·rfl
   ·rename_i h1 h2 h3
    have hlt:i.toNat<D.secs.length:=by omega
    simp only[List.getElem?_eq_getElem hlt,Option.getD_some]
    unfold says1
    cases hc:D.secs[i.toNat].2 with
    | none=>exact hD.secs.held _ (aM hlt)
    | some c=>exact hD.secs.cached _ (aM hlt) c hc
theorem read_secs {D:DS}(i:Int):(D.read i).1.secs=D.secs:=by
 unfold DS.read
 split
 ·rfl
 ·split
  ·rfl
  ·split<;>rfl
theorem MapOk.read {D:DS}{es i}(h:MapOk D.secs es):MapOk (D.read i).1.secs es:=by rw[read_secs];exact h
theorem new_okD {n:Nat}(h0:0<n)(h1:n<=2048):(DS.new n).Ok:=⟨fresh_ok h0 h1,by simp[DS.new],by simp[DS.new],by simp[DS.new],by simp[DS.new]⟩
theorem OwnS.pos {v n xs sp sz}(h:OwnS v n xs sp sz)(h0:0<n):∃b cap,v=.slice (some ⟨b,0,none⟩) n cap:=by
 rcases h.out with⟨_,h2,_⟩|⟨b,cap,h1,_⟩
 ·omega
 ·exact⟨b,cap,h1⟩
theorem OwnS.full {n:Nat}(b:Nat)(xs:List Value)(h:xs.length=n):OwnS (.slice (some ⟨b,0,none⟩) n n) n xs [] 1:=⟨.inr ⟨b,n,rfl,by omega,by simp;omega,aR _⟩⟩
theorem cnt_lo {n:Int}:-1<=cnt n:=by unfold cnt;omega
theorem cnt_hi {n:Int}(h:n<=9223372036854775807):cnt n<=9223372036854775807:=by unfold cnt;omega
theorem DS.Ok.tick {D:DS}(h:D.Ok):D.tick.Ok:=⟨h.secs,h.a1,h.a2,cnt_lo,cnt_hi h.f2⟩
theorem DS.Ok.read {D:DS}{i:Int}(h:D.Ok):(D.read i).1.Ok:=by
 unfold DS.read
 split
 ·exact h
 ·split
  ·exact h
  ·split<;>exact h.tick
theorem DS.Ok.write {D:DS}{i:Int}{b:Blk}(h:D.Ok)(hb:b.length=64):(D.write i b).1.Ok:=by
 unfold DS.write
 split
 ·exact h
 ·split
  ·exact h
  ·rename_i h1 h2
   have hi:i.toNat<D.secs.length:=by omega
   split
   ·exact⟨h.secs.putC hb hi,h.tick.a1,h.tick.a2,h.tick.f1,h.tick.f2⟩
   ·split
    ·exact h.tick
    ·exact⟨h.secs.putC hb hi,cnt_lo,cnt_hi h.a2,h.tick.f1,h.tick.f2⟩
theorem DS.Ok.sync {D:DS}(h:D.Ok):D.sync.1.Ok:=by
 unfold DS.sync
 split
 ·exact h
 ·split
  ·exact⟨h.secs,h.tick.a1,h.tick.a2,h.tick.f1,h.tick.f2⟩
  ·split
   ·exact h.tick
   ·exact⟨h.secs.settled,cnt_lo,cnt_hi h.a2,h.tick.f1,h.tick.f2⟩
theorem DS.Ok.crash {D:DS}{keep}(h:D.Ok):(D.crash keep).Ok:=⟨h.secs.settled,by simp[DS.crash],by simp[DS.crash],by simp[DS.crash],by simp[DS.crash]⟩
structure DS.Calm (D:DS):Prop where
 dead:D.dead=false
 armed:D.armed=-1
 failing:D.failing=-1
theorem new_calm {n}:(DS.new n).Calm:=⟨rfl,rfl,rfl⟩
theorem DS.Calm.read {D:DS}{i:Int}(h:D.Calm):(D.read i).1.Calm:=by
 obtain⟨s,o,a,f,d⟩:=D
 obtain⟨h1,h2,h3⟩:=h
 simp only at h1 h2 h3
 subst h1;subst h2;subst h3
 unfold DS.read
 simp only[aB,if_false]
 split
 ·exact⟨rfl,rfl,rfl⟩
 ·exact⟨rfl,rfl,rfl⟩
theorem DS.Calm.write {D:DS}{i:Int}{b:Blk}(h:D.Calm):(D.write i b).1.Calm:=by
 obtain⟨s,o,a,f,d⟩:=D
 obtain⟨h1,h2,h3⟩:=h
 simp only at h1 h2 h3
 subst h1;subst h2;subst h3
 unfold DS.write
 simp only[aB,if_false]
 split
 ·exact⟨rfl,rfl,rfl⟩
 ·exact⟨rfl,rfl,rfl⟩
theorem DS.Calm.sync_eq {D:DS}(h:D.Calm):D.sync=(⟨settled (λ _=>true) D.secs,IntKind.i64.wrap (D.ops+1),-1,-1,false⟩,0):=by
 obtain⟨s,o,a,f,d⟩:=D
 obtain⟨h1,h2,h3⟩:=h
 simp only at h1 h2 h3
 subst h1;subst h2;subst h3
 rfl
theorem isP_empty {s:Xo}(h:YC s)(j:Nat):isP s j=false:=by
 unfold isP
 cases hs:s[j]? with
 | none=>rfl
 | some p=>
  have:=h p (List.mem_of_getElem? hs)
  simp[this]
theorem DS.Calm.read_eq {D:DS}{i:Nat}(h:D.Calm)(hi:i<D.secs.length):D.read i=(⟨D.secs,IntKind.i64.wrap (D.ops+1),-1,-1,false⟩,says1 D.secs[i],0):=by
 obtain⟨s,o,a,f,d⟩:=D
 obtain⟨h1,h2,h3⟩:=h
 simp only at h1 h2 h3
 subst h1;subst h2;subst h3
 simp only at hi
 have hn:¬((i:Int)<0\/(s.length:Int)<=i):=by omega
 have hc:cnt (-1)=-1:=by decide
 unfold DS.read
 simp only[hn,if_false,aB,DS.tick,hc,show ¬((-1:Int)=0) by decide,Int.toNat_natCast,List.getElem?_eq_getElem hi,Option.getD_some]
theorem DS.Calm.write_eq {D:DS}{i:Nat}{b:Blk}(h:D.Calm)(hi:i<D.secs.length):D.write i b=(⟨putC D.secs i b,IntKind.i64.wrap (D.ops+1),-1,-1,false⟩,0):=by
 obtain⟨s,o,a,f,d⟩:=D
 obtain⟨h1,h2,h3⟩:=h
 simp only at h1 h2 h3
 subst h1;subst h2;subst h3
 simp only at hi
 have hn:¬((i:Int)<0\/(s.length:Int)<=i):=by omega
 have hc:cnt (-1)=-1:=by decide
 unfold DS.write
 simp only[hn,if_false,aB,DS.tick,hc,show ¬((-1:Int)=0) by decide,Int.toNat_natCast]
theorem DS.Calm.mk' {s o}:(⟨s,o,-1,-1,false⟩:DS).Calm:=⟨rfl,rfl,rfl⟩
theorem DS.Ok.mk' {s o}(h:SecsOk s):(⟨s,o,-1,-1,false⟩:DS).Ok:=⟨h,by simp,by simp,by simp,by simp⟩
theorem settled_at {keep:Nat->Bool}{s:Xo}{i:Nat}(hi:i<s.length)(h':i<(settled keep s).length) :
  (settled keep s)[i]=(if isP s i && keep (YT s i).length then (s[i].2.getD s[i].1,none) else (s[i].1,none)):=by
 have hlt:isP s i=true->(YT s i).length<(pend s).length:=λ hp=>by
  have:=(pendTo_pre (s:=s) (k:=i+1) (m:=s.length) (by omega)).length_le
  rw[pendTo_succ_t hp] at this
  simp only[aL,List.length_singleton] at this
  unfold pend;omega
 simp only[settled,setAfter,List.getElem_map,List.getElem_mapIdx]
 cases hp:isP s i with
 | false=>simp
 | true=>
  have:=hlt hp
  simp only[this,decide_true,Bool.true_and]
  cases keep (YT s i).length<;>simp
theorem settled_empty {f:Nat->Bool}{s:Xo}(h:YC s):settled f s=s:=by
 apply List.ext_getElem (by rw[ZL])
 intro i h1 h2
 rw[settled_at h2,isP_empty h]
 have:=h s[i] (aM h2)
 simp only[Bool.false_and,aB,if_false]
 cases hs:s[i] with
 | mk x y=>rw[hs] at this;simp only at this;rw[this]
abbrev Bs:=List UInt8
def pad (l:Bs):Blk:=(l++z8 64).take 64
theorem pad_len (l:Bs):(pad l).length=64:=by simp[pad,z8]
theorem pad_of {l:Bs}(h:l.length<=64):pad l=l++z8 (64-l.length):=by
 unfold pad z8
 rw[List.take_append,aT h,List.take_replicate,Nat.min_eq_left (by omega)]
theorem pad_take (l:Bs):pad (l.take 64)=pad l:=by
 by_cases h:l.length<=64
 ·rw[aT h]
 ·unfold pad
  rw[List.take_append_of_le_length (by simp;omega),List.take_take,List.take_append_of_le_length (by omega)];simp
structure Hd where
 turn:Nat
 first:Nat
 size:Nat
 place:Nat
 note:Bs
deriving DecidableEq
def Zs (n:Nat):Nat:=max 1 ((n+51) / 52)
theorem WJ (n:Nat):1<=Zs n:=by unfold Zs;omega
theorem sects_le {n:Nat}(h:n<=8000):Zs n<=154:=by unfold Zs;omega
def letB:Bs:=[98,117,114,115,114,105,110,103]
def Yg (turn n:Nat)(b:Bs)(k:Nat):Blk:=pad (be 4 turn++(be 5 n++(be 2 b.length++(UInt8.ofNat k::(b.drop (52*k)).take 52))))
def XC (h:Hd):Blk:=pad (letB++(be 4 h.turn++(be 2 h.size++(be 5 h.first++(be 2 h.place++(UInt8.ofNat h.note.length::h.note))))))
theorem partB_len (t n:Nat)(b:Bs)(k:Nat):(Yg t n b k).length=64:=pad_len _
theorem headB_len (h:Hd):(XC h).length=64:=pad_len _
def headOf (s:Blk):Hd:=⟨ZM ((s.drop 8).take 4),ZM ((s.drop 14).take 5),ZM ((s.drop 12).take 2),ZM ((s.drop 19).take 2),(s.drop 22).take (s.getD 21 0).toNat⟩
def zHd:Hd:=⟨0,0,0,0,[]⟩
def Hd.Right (h:Hd)(n:Nat):Prop:=1<=h.turn/\h.turn<=1073741824/\4<=h.size/\h.size<=1000/\1<=h.first/\h.first<=1099511627776/\h.place<h.size/\n<=32
instance (h:Hd)(n:Nat):Decidable (h.Right n):=by unfold Hd.Right;infer_instance
def XL (s:Blk):Hd×Bool:=if (headOf s).Right (s.getD 21 0).toNat then (headOf s,decide (XC (headOf s)=s)) else (zHd,false)
def Wa (a b:Blk):Hd×Bool:=if (XL a).2 && (!(XL b).2 || decide ((XL b).1.turn<=(XL a).1.turn)) then ((XL a).1,true) else XL b
def DS.lays:List (Nat×Blk)->DS->DS×Int
 | [],D=>D.sync
 | p::r,D=>if (D.write (p.1:Int) p.2).2=0 then DS.lays r (D.write (p.1:Int) p.2).1 else D.write (p.1:Int) p.2
def ZU (h:Hd)(n:Nat)(b:Bs)(at':Nat):List (Nat×Blk):=(List.range (Zs b.length)).map λ k=>(2+(at'+k) % h.size,Yg h.turn n b k)
theorem DS.Ok.lays:∀{l:List (Nat×Blk)} {D:DS},D.Ok->(∀p∈l,p.2.length=64)->(DS.lays l D).1.Ok
 | [],D,h,_=>h.sync
 | p::r,D,h,hl=>by
  have h1:=hl p (by simp)
  unfold DS.lays
  split
  ·exact DS.Ok.lays (h.write h1) (λ q hq=>hl q (by simp[hq]))
  ·exact h.write h1
theorem write_length (D:DS)(i:Int)(b:Blk):(D.write i b).1.secs.length=D.secs.length:=by
 unfold DS.write
 split
 ·rfl
 ·split
  ·rfl
  ·split
   ·simp[Xq]
   ·split
    ·rfl
    ·simp[Xq]
theorem sync_length (D:DS):D.sync.1.secs.length=D.secs.length:=by
 unfold DS.sync
 split
 ·rfl
 ·split
  ·rfl
  ·split
   ·rfl
   ·simp[ZL]
theorem YX:∀(l:List (Nat×Blk)) (D:DS),(DS.lays l D).1.secs.length=D.secs.length
 | [],D=>sync_length D
 | p::r,D=>by
  unfold DS.lays
  split
  ·rw[YX,write_length]
  ·exact write_length _ _ _
structure Rd (ρ:Hp)(X:SH)(a:Option Addr)(n:Nat)(l:Bs):Prop where
 len:l.length=n
 src:∀(x:Cx) (ρ':Hp) (L R:SH),ρ.le ρ'->Xj L X R->SrcV x ρ' L a (l.map Zk)
theorem Rd.mono {ρ ρ':Hp}{X:SH}{a:Option Addr}{n:Nat}{l:Bs}(h:Rd ρ X a n l)(hle:ρ.le ρ'):Rd ρ' X a n l:=⟨h.len,λ x ρ2 L R h2 hT=>h.src x ρ2 L R (Hp.le_trans hle h2) hT⟩
theorem SIn.rd {ρ:Hp}{a:Option Addr}{n:Nat}{l:Bs}(h:SIn ρ Zk a n l):Rd ρ [] a n l:=⟨h.len,λ x ρ' L R hle _=>(h.mono hle).srcV⟩
theorem OwnS.rd {ρ:Hp}{a:Option Addr}{n c:Nat}{l:Bs}{sp:List Value}{T:TypeId}(h:OwnS (.slice a n c) n (l.map Zk) sp 1):Rd ρ [ZG (.slice a n c) (l.map Zk) sp T] a n l:=by
 refine⟨?_,λ x ρ' L R hle hT=>?_⟩
 ·obtain⟨_,_,_,h2⟩:=h.len
  simpa using h2
 ·rcases h.out with⟨e1,h1,h2,h3⟩|⟨b,c',e1,h2,h3,h4⟩
  ·exact .inl h2
  ·cases e1
   refine .inr ⟨b,0,rfl,λ w hw j c hj=>?_⟩
   have hw':=hw.perm hT.out
   have hb:w.heap[b]?=some (.cells ⟨l.map Zk++sp⟩ T (0,0)):=hw'.here (b,.cells ⟨l.map Zk++sp⟩ T (0,0)) (by simp[ZG])
   simp only[World.cell?,hb,Option.isSome_none,aB,if_false,Nat.zero_add]
   simp only[List.getElem?_toArray]
   rw[List.getElem?_append_left (List.getElem?_eq_some_iff.1 hj).1];exact hj
theorem SrcV.sub {x:Cx}{ρ:Hp}{L:SH}{a:Option Addr}{ys:List Value}(h:SrcV x ρ L a ys){lo' k cap:Nat}(hk:lo'+k<=ys.length)(hc:ys.length<=cap):SrcV x ρ L (if cap=lo' then a else a.map (·.add (lo'*1))) ((ys.drop lo').take k):=by
 rcases h with rfl|⟨b,off,rfl,hs⟩
 ·left;simp
 ·by_cases h0:k=0
  ·left;simp[h0]
  ·right
   rw[if_neg (by omega)]
   refine⟨b,off+lo',by simp[YY],λ w hw j c hj=>?_⟩
   have hlt:j<k:=by
    have:=(List.getElem?_eq_some_iff.1 hj).1
    simp at this;omega
   rw[List.getElem?_take_of_lt hlt,List.getElem?_drop] at hj
   have:=hs w hw (lo'+j) c hj
   rw[Nat.add_assoc];exact this
structure DK where
 hb:HB
 mb:Nat
 es:List MapEntry
 ck:Nat
abbrev Zg (b:Nat)(k:DK)(D:DS):SH:=Xx b k.hb k.mb k.es k.ck D
structure DOk (k:DK)(D:DS):Prop where
 ok:D.Ok
 map:MapOk D.secs k.es
structure RgS where
 h:Hd
 ents:List Bs
 used:Nat
 broken:Bool
def XA (l:List Bs):Nat:=(l.map λ b=>Zs b.length).sum
theorem usedL_append (l m:List Bs):XA (l++m)=XA l+XA m:=by simp[XA]
theorem usedL_cons (b:Bs)(l:List Bs):XA (b::l)=Zs b.length+XA l:=by simp[XA]
theorem usedL_take_drop (l:List Bs)(n:Nat):XA (l.take n)+XA (l.drop n)=XA l:=by rw[<-usedL_append,List.take_append_drop]
theorem usedL_len (l:List Bs):l.length<=XA l:=by
 induction l with
 | nil=>simp[XA]
 | cons b r ih=>have:=WJ b.length;rw[usedL_cons];simp;omega
def RgS.next (R:RgS):Nat:=R.h.first+R.ents.length
structure RgS.Ok (R:RgS):Prop where
 turn:1<=R.h.turn/\R.h.turn<=1073741824
 size:4<=R.h.size/\R.h.size<=1000
 first:1<=R.h.first
 next:R.next<=1099511627776
 place:R.h.place<R.h.size
 note:R.h.note.length<=32
 used:R.used=XA R.ents
 fit:R.used<=R.h.size
 long:∀b∈R.ents,b.length<=8000
def Yp (h:Hd):List (Nat×Blk):=[(h.turn % 2,XC h)]
def Hd.cut (h:Hd)(n gone:Nat)(note:Bs):Hd:=⟨h.turn+1,h.first+n,h.size,(h.place+gone) % h.size,note⟩
def RgS.append (R:RgS)(b:Bs)(D:DS):RgS×DS×Int:=
 if R.broken then (R,D,8)
 else if 8000<b.length then (R,D,3)
 else if R.h.size-R.used<Zs b.length\/1099511627776<=R.next then (R,D,6)
 else if (DS.lays (ZU R.h R.next b (R.h.place+R.used)) D).2=0 then (⟨R.h,R.ents++[b],R.used+Zs b.length,false⟩,DS.lays (ZU R.h R.next b (R.h.place+R.used)) D)
 else ({ R with broken:=true },DS.lays (ZU R.h R.next b (R.h.place+R.used)) D)
def RgS.cutH (R:RgS)(n:Nat)(note:Bs):Hd:=R.h.cut n (XA (R.ents.take n)) note
def RgS.cut (R:RgS)(n:Int)(note:Bs)(D:DS):RgS×DS×Int:=
 if R.broken then (R,D,8)
 else if n<0\/(R.ents.length:Int)<n\/R.h.turn=1073741824 then (R,D,2)
 else if 32<note.length then (R,D,3)
 else if (DS.lays (Yp (R.cutH n.toNat note)) D).2=0 then (⟨R.cutH n.toNat note,R.ents.drop n.toNat,R.used-XA (R.ents.take n.toNat),false⟩,DS.lays (Yp (R.cutH n.toNat note)) D)
 else ({ R with broken:=true },DS.lays (Yp (R.cutH n.toNat note)) D)
def ZI (size:Nat):Hd:=⟨1,1,size,0,[]⟩
def ZD (size:Nat):List (Nat×Blk):=(List.range (size+2)).map λ i=>(i,Xs)
def WS (size:Int)(D:DS):Option RgS×DS×Int:=
 if size<4\/1000<size\/(D.secs.length:Int)<size+2 then (none,D,2)
 else if (DS.lays (ZD size.toNat) D).2=0 then
  if (DS.lays (Yp (ZI size.toNat)) (DS.lays (ZD size.toNat) D).1).2=0 then (some ⟨ZI size.toNat,[],0,false⟩,DS.lays (Yp (ZI size.toNat)) (DS.lays (ZD size.toNat) D).1)
  else (none,DS.lays (Yp (ZI size.toNat)) (DS.lays (ZD size.toNat) D).1)
 else (none,DS.lays (ZD size.toNat) D)
def Xp (n:Nat)(l:Bs):Bs:=(l++z8 n).take n
theorem Wq (n:Nat)(l:Bs):(Xp n l).length=n:=by simp[Xp,z8]
def entGo (h:Hd)(n at' turn size:Nat):Nat->Nat->Bs->DS->Option Bs×DS×Int
 | 0,_,acc,D=>(some (Xp size acc),D,0)
 | j+1,k,acc,D=>
  if (D.read ((2+(at'+k) % h.size:Nat):Int)).2.2≠0 then (none,(D.read ((2+(at'+k) % h.size:Nat):Int)).1,(D.read ((2+(at'+k) % h.size:Nat):Int)).2.2)
  else if Yg turn n (Xp size (acc++(D.read ((2+(at'+k) % h.size:Nat):Int)).2.1.drop 12)) k=(D.read ((2+(at'+k) % h.size:Nat):Int)).2.1 then
   entGo h n at' turn size j (k+1) (acc++(D.read ((2+(at'+k) % h.size:Nat):Int)).2.1.drop 12) (D.read ((2+(at'+k) % h.size:Nat):Int)).1
  else (none,(D.read ((2+(at'+k) % h.size:Nat):Int)).1,0)
def YE (s:Blk):Nat:=ZM (s.take 4)
def numOf (s:Blk):Nat:=ZM ((s.drop 4).take 5)
def Zu (s:Blk):Nat:=ZM ((s.drop 9).take 2)
def entGo0 (h:Hd)(n at' left:Nat)(s:Blk)(D:DS):Option Bs×DS×Int:=
 if YE s<1\/h.turn<YE s\/8000<Zu s\/left<Zs (Zu s) then (none,D,0)
 else if Yg (YE s) n (Xp (Zu s) (s.drop 12)) 0=s then entGo h n at' (YE s) (Zu s) (Zs (Zu s)-1) 1 (s.drop 12) D
 else (none,D,0)
def entryR (h:Hd)(n at' left:Nat)(D:DS):Option Bs×DS×Int:=
 if left=0 then (none,D,0)
 else if (D.read ((2+at' % h.size:Nat):Int)).2.2≠0 then (none,(D.read ((2+at' % h.size:Nat):Int)).1,(D.read ((2+at' % h.size:Nat):Int)).2.2)
 else entGo0 h n at' left (D.read ((2+at' % h.size:Nat):Int)).2.1 (D.read ((2+at' % h.size:Nat):Int)).1
def RgS.adds (R:RgS)(b:Bs):RgS:={ R with ents:=R.ents++[b],used:=R.used+Zs b.length }
def Xa:Nat->RgS->DS->RgS×DS×Int
 | 0,R,D=>(R,D,0)
 | f+1,R,D=>
  if R.next<1099511627776 then
   match entryR R.h R.next (R.h.place+R.used) (R.h.size-R.used) D with
   | (some b,D',e)=>if e=0 then Xa f (R.adds b) D' else (R,D',e)
   | (none,D',e)=>(R,D',e)
  else (R,D,0)
def openH (h:Hd)(D:DS):Option RgS×DS×Int:=
 if D.secs.length<h.size+2 then (none,D,140)
 else if (Xa (h.size+1) ⟨h,[],0,false⟩ D).2.2≠0 then (none,(Xa (h.size+1) ⟨h,[],0,false⟩ D).2)
 else if h.turn=1073741824 then (none,(Xa (h.size+1) ⟨h,[],0,false⟩ D).2.1,140)
 else if (DS.lays (Yp { h with turn:=h.turn+1 }) (Xa (h.size+1) ⟨h,[],0,false⟩ D).2.1).2=0 then
  (some { (Xa (h.size+1) ⟨h,[],0,false⟩ D).1 with h:={ h with turn:=h.turn+1 } },DS.lays (Yp { h with turn:=h.turn+1 }) (Xa (h.size+1) ⟨h,[],0,false⟩ D).2.1)
 else (none,DS.lays (Yp { h with turn:=h.turn+1 }) (Xa (h.size+1) ⟨h,[],0,false⟩ D).2.1)
def openR (D:DS):Option RgS×DS×Int:=
 if (D.read 0).2.2≠0 then (none,(D.read 0).1,(D.read 0).2.2)
 else if ((D.read 0).1.read 1).2.2≠0 then (none,((D.read 0).1.read 1).1,((D.read 0).1.read 1).2.2)
 else if (Wa (D.read 0).2.1 ((D.read 0).1.read 1).2.1).2=false then (none,((D.read 0).1.read 1).1,140)
 else openH (Wa (D.read 0).2.1 ((D.read 0).1.read 1).2.1).1 ((D.read 0).1.read 1).1
def YD (s:Xo)(l:List (Nat×Blk)):Xo:=l.foldl (λ s p=>putC s p.1 p.2) s
theorem Yn (l:List (Nat×Blk)):∀(s:Xo),(YD s l).length=s.length:=by
 induction l with
 | nil=>intro s;rfl
 | cons p r ih=>intro s;simp only[YD,List.foldl_cons] at ih ⊢;rw[ih,Xq]
theorem putC_at {s:Xo}{j i:Nat}{b:Blk}(hi:i<s.length)(h':i<(putC s j b).length):(putC s j b)[i]=if j=i then (s[i].1,some b) else s[i]:=by
 simp only[putC,List.getElem_set]
 by_cases e:j=i
 ·subst e;simp[hi]
 ·simp[e]
theorem putAll_at:∀(l:List (Nat×Blk)) (s:Xo) (i:Nat) (hi:i<s.length) (h':i<(YD s l).length),(YD s l)[i]=s[i]/\(∀p∈l,p.1≠i)\/∃p∈l,p.1=i/\(YD s l)[i]=(s[i].1,some p.2)
 | [],s,i,hi,h'=>.inl ⟨rfl,by simp⟩
 | p::r,s,i,hi,h'=>by
  have h1:i<(putC s p.1 p.2).length:=by rw[Xq];exact hi
  have hat:=putC_at hi h1
  rcases putAll_at r (putC s p.1 p.2) i h1 (by rw[Yn];exact h1) with⟨e1,e2⟩|⟨q,hq,e1,e2⟩
  ·by_cases hp:p.1=i
   ·rw[if_pos hp] at hat
    exact .inr ⟨p,by simp,hp,by rw[<-hat,<-e1];rfl⟩
   ·rw[if_neg hp] at hat
    refine .inl ⟨by rw[<-hat,<-e1];rfl,λ q hq=>?_⟩
    rcases List.mem_cons.1 hq with rfl|hq
    ·exact hp
    ·exact e2 q hq
  ·refine .inr ⟨q,by simp[hq],e1, ?_⟩
   have:(putC s p.1 p.2)[i].1=s[i].1:=by rw[hat];split<;>rfl
   rw[<-this,<-e2];rfl
theorem lays_out:∀(l:List (Nat×Blk)) (D:DS),D.dead=false->(∀p∈l,p.1<D.secs.length) ->
  (∃l',l' <+: l/\(DS.lays l D).1.secs=YD D.secs l'/\(DS.lays l D).2≠0) \/
  ((DS.lays l D).1.secs=settled (λ _=>true) (YD D.secs l)/\(DS.lays l D).2=0/\(DS.lays l D).1.dead=false)
 | [],D,hd,_=>by
  simp only[DS.lays,DS.sync,hd,aB,if_false]
  split
  ·exact .inl ⟨[],List.prefix_refl _,rfl,by simp⟩
  ·split
   ·exact .inl ⟨[],List.prefix_refl _,rfl,by simp⟩
   ·exact .inr ⟨rfl,rfl,hd⟩
 | p::r,D,hd,hl=>by
  have hp:=hl p (by simp)
  have hlt:¬((p.1:Int)<0\/(D.secs.length:Int)<=p.1):=by omega
  unfold DS.lays
  by_cases ha:D.armed=0
  ·have hw:D.write p.1 p.2=({ D.tick with dead:=true,secs:=putC D.secs p.1 p.2 },9):=by
    unfold DS.write
    rw[if_neg (by simp[hd]),if_neg hlt,if_pos ha];rfl
   rw[hw]
   rw[if_neg (by simp)]
   exact .inl ⟨[p],⟨r,rfl⟩,rfl,by simp⟩
  ·by_cases hf:D.failing=0
   ·have hw:D.write p.1 p.2=(D.tick,8):=by
     unfold DS.write
     rw[if_neg (by simp[hd]),if_neg hlt,if_neg ha,if_pos hf]
    rw[hw]
    rw[if_neg (by simp)]
    exact .inl ⟨[],⟨p::r,rfl⟩,rfl,by simp⟩
   ·have hw:D.write p.1 p.2=({ D.tick with armed:=cnt D.armed,secs:=putC D.secs p.1 p.2 },0):=by
     unfold DS.write
     rw[if_neg (by simp[hd]),if_neg hlt,if_neg ha,if_neg hf];rfl
    rw[hw,if_pos rfl]
    have ih:=lays_out r { D.tick with armed:=cnt D.armed,secs:=putC D.secs p.1 p.2 } hd (λ q hq=>by simp only[Xq];exact hl q (by simp[hq]))
    rcases ih with⟨l',⟨t,ht⟩,h2,h3⟩|h
    ·exact .inl ⟨p::l',⟨t,by rw[<-ht];rfl⟩,h2,h3⟩
    ·exact .inr h
theorem XN:∀(l:List (Nat×Blk)) (D:DS),D.Calm->(∀p∈l,p.1<D.secs.length)->(DS.lays l D).2=0/\(DS.lays l D).1.Calm/\(DS.lays l D).1.secs=settled (λ _=>true) (YD D.secs l)
 | [],D,h,_=>by
  rw[DS.lays,h.sync_eq]
  exact⟨rfl,⟨rfl,rfl,rfl⟩,rfl⟩
 | p::r,D,h,hl=>by
  have hp:=hl p (by simp)
  unfold DS.lays
  rw[h.write_eq hp,if_pos rfl]
  exact XN r _ ⟨rfl,rfl,rfl⟩ (λ q hq=>by simp only[Xq];exact hl q (by simp[hq]))
theorem settled_one {keep:Nat->Bool}{s:Xo}{i:Nat}(he:YC s)(l:List (Nat×Blk))(hi:i<s.length)(h':i<(settled keep (YD s l)).length) :
  (settled keep (YD s l))[i]=s[i]\/∃p∈l,p.1=i/\(settled keep (YD s l))[i]=(p.2,none):=by
 have hp:i<(YD s l).length:=by rw[Yn];exact hi
 have hn:=he s[i] (aM hi)
 rw[settled_at hp h']
 rcases putAll_at l s i hi hp with⟨e,_⟩|⟨p,hm,e1,e2⟩
 ·left
  have hip:isP (YD s l) i=false:=by simp[isP,hp,e,hn]
  rw[hip,e]
  simp only[Bool.false_and,aB,if_false]
  rw[<-hn]
 ·have hip:isP (YD s l) i=true:=by simp[isP,hp,e2]
  rw[hip,e2]
  cases hk:keep (YT (YD s l) i).length with
  | false=>left;simp[<-hn]
  | true=>right;exact⟨p,hm,e1,by simp⟩
theorem settled_all {s:Xo}{i:Nat}(he:YC s)(l:List (Nat×Blk))(hi:i<s.length)(h':i<(settled (λ _=>true) (YD s l)).length) :
  (settled (λ _=>true) (YD s l))[i]=s[i]/\(∀p∈l,p.1≠i)\/∃p∈l,p.1=i/\(settled (λ _=>true) (YD s l))[i]=(p.2,none):=by
 have hp:i<(YD s l).length:=by rw[Yn];exact hi
 have hn:=he s[i] (aM hi)
 rw[settled_at hp h']
 rcases putAll_at l s i hi hp with⟨e,h2⟩|⟨p,hm,e1,e2⟩
 ·left
  have hip:isP (YD s l) i=false:=by simp[isP,hp,e,hn]
  rw[hip,e]
  simp only[Bool.false_and,aB,if_false]
  exact⟨by rw[<-hn],h2⟩
 ·have hip:isP (YD s l) i=true:=by simp[isP,hp,e2]
  rw[hip,e2]
  right;exact⟨p,hm,e1,by simp⟩
theorem mid {A B C:Bs}{n m:Nat}(hA:A.length=n)(hB:B.length=m):((A++(B++C)).drop n).take m=B:=by
 subst hA;subst hB;rw[List.drop_left,List.take_left]
theorem fit52 (l:Bs):Xp 52 l=l.take 52++z8 (52-l.length):=by
 unfold Xp z8
 rw[List.take_append,List.take_replicate]
 congr 2;omega
theorem pad_drop {x l:Bs}(hx:x.length=12)(hl:l.length<=52):(pad (x++l)).drop 12=Xp 52 l:=by
 rw[pad_of (by simp;omega),<-hx,aA,List.drop_left,fit52,aT hl]
 congr 2;simp;omega
theorem partB_eq (t n:Nat)(b:Bs)(k:Nat):Yg t n b k=pad ((be 4 t++(be 5 n++(be 2 b.length++[UInt8.ofNat k])))++(b.drop (52*k)).take 52):=by
 unfold Yg;simp
theorem partB_drop (t n:Nat)(b:Bs)(k:Nat):(Yg t n b k).drop 12=Xp 52 (b.drop (52*k)):=by
 rw[partB_eq,pad_drop (by simp[Zh]) (by simp;omega),fit52,fit52,List.take_take]
 congr 2
 simp;omega
theorem partB_congr {t n:Nat}{b c:Bs}{k:Nat}(hl:b.length=c.length)(h:(b.drop (52*k)).take 52=(c.drop (52*k)).take 52):Yg t n b k=Yg t n c k:=by
 unfold Yg;rw[hl,h]
theorem partB_turn {t n:Nat}{b:Bs}{k:Nat}(ht:t<4294967296):YE (Yg t n b k)=t:=by
 have h:(Yg t n b k).take 4=be 4 t:=by
  unfold Yg pad
  rw[aA,List.take_take,Nat.min_eq_left (by omega),List.take_left' (Zh 4 t)]
 unfold YE
 rw[h,Wy,Nat.mod_eq_of_lt (by simpa using ht)]
theorem partB_num {t n:Nat}{b:Bs}{k:Nat}(hn:n<1099511627776):numOf (Yg t n b k)=n:=by
 have h:((Yg t n b k).drop 4).take 5=be 5 n:=by
  unfold Yg pad
  rw[List.drop_take,List.take_take,Nat.min_eq_left (by omega)]
  simp only[aA]
  exact mid (Zh 4 t) (Zh 5 n)
 unfold numOf
 rw[h,Wy,Nat.mod_eq_of_lt (by simpa using hn)]
theorem partB_size {t n:Nat}{b:Bs}{k:Nat}(hn:b.length<65536):Zu (Yg t n b k)=b.length:=by
 have h:((Yg t n b k).drop 9).take 2=be 2 b.length:=by
  unfold Yg pad
  rw[List.drop_take,List.take_take,Nat.min_eq_left (by omega)]
  simp only[aA]
  rw[<-aA (be 4 t)]
  exact mid (by simp[Zh]) (Zh 2 _)
 unfold Zu
 rw[h,Wy,Nat.mod_eq_of_lt (by simpa using hn)]
theorem sects_mul {n k:Nat}(h:k<Zs n):52*k<n\/(k=0/\n=0):=by unfold Zs at h;omega
theorem sects_end (n:Nat):n<=52*Zs n:=by unfold Zs;omega
theorem fit_step {size k:Nat}{b acc:Bs}(hb:b.length=size)(hk:k<Zs size)(hl:acc.length=52*k)(h:acc.take size=b.take (52*k)) :
  (acc++Xp 52 (b.drop (52*k))).take size=b.take (52*(k+1)):=by
 have hm:52*k<=size:=by rcases sects_mul hk with h|h<;>omega
 have ha:acc=b.take (52*k):=by rw[<-h,aT (by omega)]
 rw[List.take_append,aT (by omega),hl,ha]
 by_cases h52:52*(k+1)<=size
 ·have e:Xp 52 (b.drop (52*k))=(b.drop (52*k)).take 52:=by
   rw[fit52]
   have:52-(b.drop (52*k)).length=0:=by simp;omega
   rw[this];simp[z8]
  rw[e,List.take_take,Nat.min_eq_right (by omega),Nat.mul_add,Nat.mul_one,List.take_add]
 ·have e:(Xp 52 (b.drop (52*k))).take (size-52*k)=b.drop (52*k):=by
   rw[fit52,aT (l:=b.drop (52*k)) (by simp;omega),List.take_append_of_le_length (by simp;omega),aT (by simp;omega)]
  rw[e,List.take_append_drop,aT (by omega)]
theorem fit_of {size k:Nat}{b acc:Bs}(hb:b.length=size)(hl:acc.length=52*k)(h:acc.take size=b.take (52*k)):Xp size acc=b.take (52*k)++z8 (size-52*k):=by
 unfold Xp z8
 rw[List.take_append,h,List.take_replicate,hl]
 congr 2;omega
theorem part_fit {t n size k:Nat}{b acc:Bs}(hb:b.length=size)(hl:acc.length=52*(k+1))(h:acc.take size=b.take (52*(k+1))):Yg t n (Xp size acc) k=Yg t n b k:=by
 refine partB_congr (by rw[Wq,hb]) ?_
 rw[fit_of hb hl h]
 by_cases h52:52*(k+1)<=size
 ·rw[List.drop_append_of_le_length (by simp;omega),List.take_append_of_le_length (by simp;omega),List.drop_take,List.take_take]
  congr 1;omega
 ·have e:size-52*(k+1)=0:=by omega
  rw[e]
  simp only[z8,List.replicate_zero,aN]
  rw[List.drop_take,List.take_take]
  congr 1;omega
def entP (g:Nat->Blk)(m n at' turn size:Nat):Nat->Nat->Bs->Option Bs
 | 0,_,acc=>some (Xp size acc)
 | j+1,k,acc=>if Yg turn n (Xp size (acc++(g (2+(at'+k) % m)).drop 12)) k=g (2+(at'+k) % m) then entP g m n at' turn size j (k+1) (acc++(g (2+(at'+k) % m)).drop 12) else none
theorem entP_some {g:Nat->Blk}{m n at' t size:Nat}{b:Bs}(hb:b.length=size)(hg:∀k,k<Zs size->g (2+(at'+k) % m)=Yg t n b k) :
  ∀(j k:Nat) (acc:Bs),j+k=Zs size->acc.length=52*k->acc.take size=b.take (52*k)->entP g m n at' t size j k acc=some b
 | 0,k,acc,hjk,hl,h=>by
  have hk:k=Zs size:=by omega
  have he:=sects_end size
  subst hk
  rw[entP,fit_of hb hl h,aT (by omega)]
  have e:size-52*Zs size=0:=by omega
  rw[e];simp[z8]
 | j+1,k,acc,hjk,hl,h=>by
  have hk:k<Zs size:=by omega
  have hgk:=hg k hk
  have hst:=fit_step hb hk hl h
  have hl2:(acc++(Yg t n b k).drop 12).length=52*(k+1):=by simp[partB_len,hl];omega
  rw[entP,hgk,if_pos]
  ·exact entP_some hb hg j (k+1) _ (by omega) hl2 (by rw[partB_drop];exact hst)
  ·exact part_fit hb hl2 (by rw[partB_drop];exact hst)
theorem entP_inv {g:Nat->Blk}{m n at' t size:Nat}{b:Bs}(hg64:∀q,(g (2+q % m)).length=64):∀(j k:Nat) (acc:Bs),j+k=Zs size->acc.length=52*k->entP g m n at' t size j k acc=some b ->
  b.length=size/\acc.take size=b.take (52*k)/\∀i,k<=i->i<Zs size->g (2+(at'+i) % m)=Yg t n b i
 | 0,k,acc,hjk,hl,h=>by
  have hk:k=Zs size:=by omega
  have he:=sects_end size
  subst hk
  simp only[entP,Option.some.injEq] at h
  subst h
  refine⟨Wq _ _, ?_,λ i h1 h2=>by omega⟩
  have:Xp size acc=acc.take size:=by
   unfold Xp;rw[List.take_append_of_le_length (by omega)]
  rw[this,List.take_take,Nat.min_eq_right (by omega)]
 | j+1,k,acc,hjk,hl,h=>by
  have hk:k<Zs size:=by omega
  rw[entP] at h
  split at h
  ·rename_i hp
   have hl2:(acc++(g (2+(at'+k) % m)).drop 12).length=52*(k+1):=by simp[hg64,hl];omega
   obtain⟨h1,h2,h3⟩:=entP_inv hg64 j (k+1) _ (by omega) hl2 h
   have hm:52*k<=size:=by rcases sects_mul hk with h|h<;>omega
   refine⟨h1, ?_,λ i hi1 hi2=>?_⟩
   ·have:=congrArg (λ l:Bs=>l.take (52*k)) h2
    simp only[List.take_take] at this
    rw[Nat.min_eq_left hm,Nat.min_eq_left (by omega),List.take_append_of_le_length (by omega)] at this
    rw[<-this,aT (by omega),aT (by omega)]
   ·by_cases e:i=k
    ·subst e;rw[<-hp,part_fit h1 hl2 h2]
    ·exact h3 i (by omega) hi2
  ·cases h
def entP0 (g:Nat->Blk)(m T n at' left:Nat):Option Bs:=
 if left=0 then none
 else if YE (g (2+at' % m))<1\/T<YE (g (2+at' % m))\/8000<Zu (g (2+at' % m))\/left<Zs (Zu (g (2+at' % m))) then none
 else entP g m n at' (YE (g (2+at' % m))) (Zu (g (2+at' % m))) (Zs (Zu (g (2+at' % m)))) 0 []
theorem entP0_some {g:Nat->Blk}{m T n at' left t:Nat}{b:Bs}(ht:1<=t/\t<=T)(hT:T<4294967296)(hb:b.length<=8000)(hleft:Zs b.length<=left)(hg:∀k,k<Zs b.length->g (2+(at'+k) % m)=Yg t n b k) :
  entP0 g m T n at' left=some b:=by
 have hp:=WJ b.length
 have h0:=hg 0 (by omega)
 rw[Nat.add_zero] at h0
 unfold entP0
 rw[h0,partB_turn (by omega),partB_size (by omega),if_neg (by omega),if_neg (by omega)]
 exact entP_some rfl hg _ 0 [] (by omega) rfl (by simp)
theorem entP0_inv {g:Nat->Blk}{m T n at' left:Nat}{b:Bs}(hg64:∀q,(g (2+q % m)).length=64)(h:entP0 g m T n at' left=some b) :
  ∃t,1<=t/\t<=T/\b.length<=8000/\Zs b.length<=left/\∀k,k<Zs b.length->g (2+(at'+k) % m)=Yg t n b k:=by
 unfold entP0 at h
 split at h
 ·cases h
 ·split at h
  ·cases h
  ·rename_i h1 h2
   obtain⟨g1,g2,g3⟩:=entP_inv hg64 _ 0 [] (by omega) rfl h
   exact⟨_,by omega,by omega,by omega,by rw[g1];omega,λ k hk=>g3 k (by omega) (by rw[<-g1];exact hk)⟩
def NoAt (g:Nat->Blk)(m pos n:Nat):Prop:=∀t b,1<=t->t<=1073741824->b.length<=8000->Zs b.length<=m->∃k,k<Zs b.length/\g (2+(pos+k) % m)≠Yg t n b k
theorem NoAt.scan {g:Nat->Blk}{m T n pos left:Nat}(h:NoAt g m pos n)(hg64:∀q,(g (2+q % m)).length=64)(hl:left<=m)(hT:T<=1073741824):entP0 g m T n pos left=none:=by
 cases he:entP0 g m T n pos left with
 | none=>rfl
 | some b=>
  obtain⟨t,h1,h2,h3,h4,h5⟩:=entP0_inv hg64 he
  obtain⟨k,hk,hne⟩:=h t b h1 (by omega) h3 (by omega)
  exact absurd (h5 k hk) hne
def Has (g:Nat->Blk)(m T:Nat):Nat->Nat->List Bs->Prop
 | _,_,[]=>True
 | n,pos,b::r=>(∃t,1<=t/\t<=T/\∀k,k<Zs b.length->g (2+(pos+k) % m)=Yg t n b k)/\Has g m T (n+1) (pos+Zs b.length) r
theorem Has.frame {g g':Nat->Blk}{m T:Nat}:∀{l:List Bs} {n pos pos':Nat},Has g m T n pos l->pos % m=pos' % m->(∀j,j<XA l->g' (2+(pos+j) % m)=g (2+(pos+j) % m))->Has g' m T n pos' l
 | [],n,pos,pos',_,_,_=>trivial
 | b::r,n,pos,pos',⟨⟨t,h1,h2,h3⟩,h4⟩,hp,hg=>by
  rw[usedL_cons] at hg
  refine⟨⟨t,h1,h2,λ k hk=>?_⟩, ?_⟩
  ·have e:(pos'+k) % m=(pos+k) % m:=by rw[Nat.add_mod,<-hp,<-Nat.add_mod]
   rw[e,hg k (by omega),h3 k hk]
  ·refine h4.frame (by rw[Nat.add_mod,hp,<-Nat.add_mod]) (λ j hj=>?_)
   have:=hg (Zs b.length+j) (by omega)
   rw[<-Nat.add_assoc] at this;exact this
theorem Has.le {g:Nat->Blk}{m T T':Nat}(hT:T<=T'):∀{l:List Bs} {n pos:Nat},Has g m T n pos l->Has g m T' n pos l
 | [],_,_,_=>trivial
 | b::r,n,pos,⟨⟨t,h1,h2,h3⟩,h4⟩=>⟨⟨t,h1,by omega,h3⟩,h4.le hT⟩
theorem Has.append {g:Nat->Blk}{m T:Nat}:∀{l l':List Bs} {n pos:Nat},Has g m T n pos l->Has g m T (n+l.length) (pos+XA l) l'->Has g m T n pos (l++l')
 | [],l',n,pos,_,h=>by simpa [XA] using h
 | b::r,l',n,pos,⟨h1,h2⟩,h=>by
  refine⟨h1,h2.append ?_⟩
  rw[usedL_cons] at h
  rw[show n+1+r.length=n+(b::r).length by simp;omega,Nat.add_assoc];exact h
theorem Has.drop {g:Nat->Blk}{m T:Nat}:∀{l:List Bs} {n pos:Nat} (i:Nat),Has g m T n pos l->i<=l.length->Has g m T (n+i) (pos+XA (l.take i)) (l.drop i)
 | l,n,pos,0,h,_=>by simpa [XA] using h
 | [],n,pos,i+1,h,hi=>by simp at hi
 | b::r,n,pos,i+1,⟨h1,h2⟩,hi=>by
  have:=h2.drop i (by simpa using hi)
  simp only[List.take_succ_cons,List.drop_succ_cons,usedL_cons]
  rw[show n+(i+1)=n+1+i by omega,<-Nat.add_assoc];exact this
def img (D:DS)(i:Nat):Blk:=(D.secs[i]?.map (·.1)).getD (z8 64)
theorem img_at {D:DS}{i:Nat}(hi:i<D.secs.length):img D i=D.secs[i].1:=by simp[img,hi]
theorem img_len {D:DS}(h:D.Ok)(i:Nat):(img D i).length=64:=by
 unfold img
 cases hs:D.secs[i]? with
 | none=>simp[z8]
 | some p=>simpa using h.secs.held p (List.mem_of_getElem? hs)
theorem Xf {D D':DS}(h:D'.secs=D.secs):img D'=img D:=by funext i;simp[img,h]
structure DS.Clean (D:DS):Prop where
 ok:D.Ok
 calm:D.Calm
 empty:YC D.secs
theorem DS.Clean.read {D:DS}(h:D.Clean){i:Nat}(hi:i<D.secs.length):∃D',D.read (i:Int)=(D',img D i,0)/\D'.Clean/\D'.secs=D.secs:=by
 refine⟨⟨D.secs,IntKind.i64.wrap (D.ops+1),-1,-1,false⟩, ?_,⟨DS.Ok.mk' h.ok.secs,DS.Calm.mk',h.empty⟩,rfl⟩
 ·rw[h.calm.read_eq hi,img_at hi]
  simp[says1,h.empty _ (aM hi)]
theorem entGo_clean {h:Hd}{n at' t size:Nat}(hm:0<h.size):∀(j k:Nat) (acc:Bs) (D:DS),D.Clean->h.size+2<=D.secs.length ->
  ∃D',entGo h n at' t size j k acc D=(entP (img D) h.size n at' t size j k acc,D',0)/\D'.Clean/\D'.secs=D.secs
 | 0,k,acc,D,hD,hl=>⟨D,rfl,hD,rfl⟩
 | j+1,k,acc,D,hD,hl=>by
  have hlt:2+(at'+k) % h.size<D.secs.length:=by have:=Nat.mod_lt (at'+k) hm;omega
  obtain⟨D1,e1,h1,h2⟩:=hD.read hlt
  unfold entGo entP
  rw[e1]
  rw[if_neg (by simp)]
  by_cases hp:Yg t n (Xp size (acc++(img D (2+(at'+k) % h.size)).drop 12)) k=img D (2+(at'+k) % h.size)
  ·rw[if_pos hp,if_pos hp]
   obtain⟨D2,e2,h3,h4⟩:=entGo_clean hm j (k+1) (acc++(img D (2+(at'+k) % h.size)).drop 12) D1 h1 (by rw[h2];exact hl)
   rw[Xf h2] at e2
   exact⟨D2,e2,h3,h4.trans h2⟩
  ·rw[if_neg hp,if_neg hp]
   exact⟨D1,rfl,h1,h2⟩
theorem entryR_clean {h:Hd}{n at' left:Nat}(hm:0<h.size){D:DS}(hD:D.Clean)(hl:h.size+2<=D.secs.length) :
  ∃D',entryR h n at' left D=(entP0 (img D) h.size h.turn n at' left,D',0)/\D'.Clean/\D'.secs=D.secs:=by
 unfold entryR entP0
 split
 ·exact⟨D,rfl,hD,rfl⟩
 ·have hlt:2+at' % h.size<D.secs.length:=by have:=Nat.mod_lt at' hm;omega
  obtain⟨D1,e1,h1,h2⟩:=hD.read hlt
  rw[e1,if_neg (by simp)]
  unfold entGo0
  split
  ·exact⟨D1,rfl,h1,h2⟩
  ·have hs:=WJ (Zu (img D (2+at' % h.size)))
   have e:Zs (Zu (img D (2+at' % h.size)))=(Zs (Zu (img D (2+at' % h.size)))-1)+1:=by omega
   rw[e,entP]
   simp only[Nat.add_zero,List.nil_append,Nat.zero_add,Nat.add_sub_cancel]
   split
   ·obtain⟨D2,e2,h3,h4⟩:=entGo_clean (n:=n) (at':=at') (t:=YE (img D (2+at' % h.size))) (size:=Zu (img D (2+at' % h.size))) hm (Zs (Zu (img D (2+at' % h.size)))-1) 1 ((img D (2+at' % h.size)).drop 12) D1 h1 (by rw[h2];exact hl)
    rw[Xf h2] at e2
    exact⟨D2,e2,h3,h4.trans h2⟩
   ·exact⟨D1,rfl,h1,h2⟩
theorem found_clean:∀(l:List Bs) (f:Nat) (R:RgS) (D:DS),D.Clean->0<R.h.size->R.h.size+2<=D.secs.length->R.h.turn<=1073741824->Has (img D) R.h.size R.h.turn R.next (R.h.place+R.used) l->(∀b∈l,b.length<=8000) ->
  R.used+XA l<=R.h.size->(R.next+l.length<1099511627776->NoAt (img D) R.h.size (R.h.place+R.used+XA l) (R.next+l.length))->R.next+l.length<=1099511627776->l.length<f ->
  ∃D',Xa f R D=({ R with ents:=R.ents++l,used:=R.used+XA l },D',0)/\D'.Clean/\D'.secs=D.secs
 | _,0,_,_,_,_,_,_,_,_,_,_,_,h=>by omega
 | [],f+1,R,D,hD,hm,hl,hT,_,_,hfit,hno,hn,hf=>by
  unfold Xa
  have hR:({ R with ents:=R.ents++[],used:=R.used+XA [] }:RgS)=R:=by simp[XA]
  rw[hR]
  by_cases hlt:R.next<1099511627776
  ·rw[if_pos hlt]
   obtain⟨D',e1,h1,h2⟩:=entryR_clean (h:=R.h) (n:=R.next) (at':=R.h.place+R.used) (left:=R.h.size-R.used) hm hD hl
   have:=(hno (by simpa using hlt)).scan (T:=R.h.turn) (left:=R.h.size-R.used) (λ q=>img_len hD.ok _) (by omega) hT
   simp only[XA,List.map_nil,List.sum_nil,Nat.add_zero,List.length_nil] at this
   rw[e1,this]
   exact⟨D',rfl,h1,h2⟩
  ·rw[if_neg hlt]
   exact⟨D,rfl,hD,rfl⟩
 | b::r,f+1,R,D,hD,hm,hl,hT,hhas,hlong,hfit,hno,hn,hf=>by
  obtain⟨⟨t,h1,h2,h3⟩,h4⟩:=hhas
  simp only[usedL_cons] at hfit hno
  simp only[aC] at hn hno hf
  unfold Xa
  rw[if_pos (by omega)]
  obtain⟨D1,e1,g1,g2⟩:=entryR_clean (h:=R.h) (n:=R.next) (at':=R.h.place+R.used) (left:=R.h.size-R.used) hm hD hl
  rw[entP0_some ⟨h1,h2⟩ (by omega) (hlong b (by simp)) (by omega) h3] at e1
  rw[e1]
  simp only[if_true]
  have hnx:(R.adds b).next=R.next+1:=by simp[RgS.adds,RgS.next];omega
  obtain⟨D2,e2,g3,g4⟩:=found_clean r f (R.adds b) D1 g1 hm (by rw[g2];exact hl) hT (by
   rw[hnx,Xf g2]
   have:(R.adds b).h.place+(R.adds b).used=R.h.place+R.used+Zs b.length:=by simp[RgS.adds];omega
   rw[this];exact h4) (λ c hc=>hlong c (by simp[hc])) (by simp only[RgS.adds];omega) (λ hlt=>by
   rw[hnx,Xf g2] at *
   have e:(R.adds b).h.place+(R.adds b).used+XA r=R.h.place+R.used+(Zs b.length+XA r):=by simp[RgS.adds];omega
   rw[e,show R.next+1+r.length=R.next+(r.length+1) by omega]
   exact hno (by omega)) (by rw[hnx];omega) (by omega)
  refine⟨D2, ?_,g3,g4.trans g2⟩
  rw[e2]
  simp[RgS.adds,usedL_cons,Nat.add_assoc]
theorem headB_eq {h:Hd}(hn:h.note.length<=32):XC h=letB++(be 4 h.turn++(be 2 h.size++(be 5 h.first++(be 2 h.place++([UInt8.ofNat h.note.length]++(h.note++z8 (42-h.note.length))))))):=by
 unfold XC
 rw[pad_of (by simp[Zh,letB];omega)]
 simp only[aA,kA]
 have e:64-(letB++(be 4 h.turn++(be 2 h.size++(be 5 h.first++(be 2 h.place++(UInt8.ofNat h.note.length::h.note)))))).length=42-h.note.length:=by simp[Zh,letB];omega
 rw[e]
theorem headOf_headB {h:Hd}(hr:h.Right h.note.length)(hf:h.first<1099511627776):headOf (XC h)=h/\((XC h).getD 21 0).toNat=h.note.length:=by
 obtain⟨h1,h2,h3,h4,h5,h6,h7,h8⟩:=hr
 have e:=headB_eq h8
 have hl:letB.length=8:=rfl
 have hb4:=Zh 4 h.turn
 have hb2:=Zh 2 h.size
 have hb5:=Zh 5 h.first
 have hbp:=Zh 2 h.place
 have hn8:h.note.length<256:=by omega
 have e21:(XC h).getD 21 0=UInt8.ofNat h.note.length:=by
  rw[e,<-aA,<-aA,<-aA,<-aA]
  rw[List.getD_eq_getElem?_getD,List.getElem?_append_right (by simp[hl,hb4,hb2,hb5,hbp])]
  simp[hl,hb4,hb2,hb5,hbp]
 have en:(UInt8.ofNat h.note.length).toNat=h.note.length:=by simp;omega
 refine⟨?_,by rw[e21,en]⟩
 unfold headOf
 have f1:((XC h).drop 8).take 4=be 4 h.turn:=by rw[e];exact mid hl hb4
 have f2:((XC h).drop 12).take 2=be 2 h.size:=by
  rw[e,<-aA];exact mid (by simp[hl,hb4]) hb2
 have f3:((XC h).drop 14).take 5=be 5 h.first:=by
  rw[e,<-aA,<-aA];exact mid (by simp[hl,hb4,hb2]) hb5
 have f4:((XC h).drop 19).take 2=be 2 h.place:=by
  rw[e,<-aA,<-aA,<-aA];exact mid (by simp[hl,hb4,hb2,hb5]) hbp
 have f5:((XC h).drop 22).take h.note.length=h.note:=by
  rw[e,<-aA,<-aA,<-aA,<-aA,<-aA];exact mid (by simp[hl,hb4,hb2,hb5,hbp]) rfl
 have g1:h.turn % 256 ^ 4=h.turn:=Nat.mod_eq_of_lt (by simp;omega)
 have g2:h.size % 256 ^ 2=h.size:=Nat.mod_eq_of_lt (by simp;omega)
 have g3:h.first % 256 ^ 5=h.first:=Nat.mod_eq_of_lt (by simp;omega)
 have g4:h.place % 256 ^ 2=h.place:=Nat.mod_eq_of_lt (by simp;omega)
 rw[e21,en,f1,f2,f3,f4,f5,Wy,Wy,Wy,Wy,g1,g2,g3,g4]
theorem readB_headB {h:Hd}(hr:h.Right h.note.length)(hf:h.first<1099511627776):XL (XC h)=(h,true):=by
 obtain⟨h1,h2⟩:=headOf_headB hr hf
 unfold XL
 rw[h1,h2,if_pos hr];simp
theorem RgS.Ok.right {R:RgS}(h:R.Ok):R.h.Right R.h.note.length:=⟨h.turn.1,h.turn.2,h.size.1,h.size.2,h.first,by have:=h.next;unfold RgS.next at this;omega,h.place,h.note⟩
structure RO (R:RgS)(D:DS):Prop where
 ok:R.Ok
 live:R.broken=false
 num:R.h.first<1099511627776
 dok:D.Ok
 alive:D.dead=false
 empty:YC D.secs
 len:R.h.size+2<=D.secs.length
 head:img D (R.h.turn % 2)=XC R.h
 other:(XL (img D ((R.h.turn+1) % 2))).2=true->(XL (img D ((R.h.turn+1) % 2))).1.turn<R.h.turn
 has:Has (img D) R.h.size R.h.turn R.h.first R.h.place R.ents
 none:R.next<1099511627776->NoAt (img D) R.h.size (R.h.place+R.used) R.next
 bound:∀q,q<R.h.size->YE (img D (2+q))<=R.h.turn/\numOf (img D (2+q))<=R.next
def Frs (R:RgS)(D:DS):Prop:=∀q,q<R.h.size->¬(YE (img D (2+q))=R.h.turn/\numOf (img D (2+q))=R.next)
theorem mod2 (t:Nat):t % 2=0/\(t+1) % 2=1\/t % 2=1/\(t+1) % 2=0:=by omega
theorem RO.counts {R:RgS}{D:DS}(h:RO R D):Wa (img D 0) (img D 1)=(R.h,true):=by
 have hr:=readB_headB h.ok.right h.num
 have ho:=h.other
 have hh:=h.head
 rcases mod2 R.h.turn with⟨e1,e2⟩|⟨e1,e2⟩
 ·rw[e1] at hh;rw[e2] at ho
  unfold Wa
  rw[hh,hr]
  cases hy:(XL (img D 1)).2 with
  | false=>simp
  | true=>have:=ho hy;simp;omega
 ·rw[e1] at hh;rw[e2] at ho
  unfold Wa
  rw[hh,hr]
  cases hy:(XL (img D 0)).2 with
  | false=>simp
  | true=>have:=ho hy;simp;omega
theorem YJ {s:Xo}{keep:Nat->Bool}{D:DS}{l:List (Nat×Blk)}(he:YC s)(hs:D.secs=settled keep (YD s l))(D0:DS)(h0:D0.secs=s)(i:Nat):img D i=img D0 i\/∃p∈l,p.1=i/\img D i=p.2:=by
 by_cases hi:i<s.length
 ·have hl:i<D.secs.length:=by rw[hs,ZL,Yn];exact hi
  have h':i<(settled keep (YD s l)).length:=by rw[ZL,Yn];exact hi
  have e1:img D i=(settled keep (YD s l))[i].1:=by rw[img_at hl];congr 1;simp[hs]
  have e2:img D0 i=s[i].1:=by rw[img_at (by rw[h0];exact hi)];simp[h0]
  rcases settled_one (keep:=keep) he l hi h' with h|⟨p,hp,h1,h2⟩
  ·left;rw[e1,e2,h]
  ·right;exact⟨p,hp,h1,by rw[e1,h2]⟩
 ·left
  have a:D.secs[i]?=none:=List.getElem?_eq_none (by rw[hs,ZL,Yn];omega)
  have b:D0.secs[i]?=none:=List.getElem?_eq_none (by rw[h0];omega)
  unfold img;rw[a,b]
theorem img_all {s:Xo}{D:DS}{l:List (Nat×Blk)}(he:YC s)(hs:D.secs=settled (λ _=>true) (YD s l))(D0:DS)(h0:D0.secs=s){i:Nat}(hi:i<s.length):(img D i=img D0 i/\∀p∈l,p.1≠i)\/∃p∈l,p.1=i/\img D i=p.2:=by
 have hl:i<D.secs.length:=by rw[hs,ZL,Yn];exact hi
 have h':i<(settled (λ _=>true) (YD s l)).length:=by rw[ZL,Yn];exact hi
 have e1:img D i=(settled (λ _=>true) (YD s l))[i].1:=by rw[img_at hl];congr 1;simp[hs]
 have e2:img D0 i=s[i].1:=by rw[img_at (by rw[h0];exact hi)];simp[h0]
 rcases settled_all he l hi h' with⟨h,h2⟩|⟨p,hp,h1,h2⟩
 ·left;exact⟨by rw[e1,e2,h],h2⟩
 ·right;exact⟨p,hp,h1,by rw[e1,h2]⟩
theorem RO.newHead {R:RgS}{D D':DS}{h':Hd}{l:List Bs}{u:Nat}(h:RO R D)(hok:D'.Ok)(hal:D'.dead=false)(hem:YC D'.secs)(hlen:D'.secs.length=D.secs.length)
  (hi:img D' ((R.h.turn+1) % 2)=XC h') (hs:∀i,i≠(R.h.turn+1) % 2->img D' i=img D i) (ht:h'.turn=R.h.turn+1) (hz:h'.size=R.h.size)
  (hR:RgS.Ok ⟨h',l,u,false⟩) (hnum:h'.first<1099511627776) (hhas:Has (img D) h'.size h'.turn h'.first h'.place l) (hpl:(h'.place+u) % h'.size=(R.h.place+R.used) % h'.size) (hn:h'.first+l.length=R.next) :
  RO ⟨h',l,u,false⟩ D'/\Frs ⟨h',l,u,false⟩ D':=by
 have hsec:∀q,img D' (2+q)=img D (2+q):=λ q=>hs (2+q) (by omega)
 have hold:img D' (R.h.turn % 2)=XC R.h:=by rw[hs _ (by omega)];exact h.head
 have hrd:=readB_headB h.ok.right h.num
 refine⟨⟨hR,rfl,hnum,hok,hal,hem,by dsimp only;rw[hlen,hz];exact h.len,by dsimp only;rw[ht];exact hi, ?_, ?_, ?_, ?_⟩, ?_⟩
 ·dsimp only
  rw[ht,show (R.h.turn+1+1) % 2=R.h.turn % 2 by omega,hold,hrd]
  intro _;dsimp only;omega
 ·exact hhas.frame rfl (λ j _=>hsec _)
 ·intro hlt t b h1 h1' h2 h3
  dsimp only[RgS.next] at hlt ⊢
  rw[hn] at hlt ⊢
  dsimp only at h3
  rw[hz] at h3 hpl ⊢
  obtain⟨k,hk,hne⟩:=h.none hlt t b h1 h1' h2 h3
  refine⟨k,hk, ?_⟩
  have e:(h'.place+u+k) % R.h.size=(R.h.place+R.used+k) % R.h.size:=by rw[Nat.add_mod,hpl,<-Nat.add_mod]
  rw[e,hsec];exact hne
 ·intro q hq
  dsimp only[RgS.next] at hq ⊢
  rw[hz] at hq
  have:=h.bound q hq
  rw[hsec,hn,ht];omega
 ·intro q hq hc
  dsimp only[RgS.next] at hq hc
  rw[hz] at hq
  have:=h.bound q hq
  rw[hsec,ht] at hc;omega
theorem Xe {h:Hd}{p:Nat×Blk}(hp:p∈Yp h):p.1=h.turn % 2/\p.2=XC h:=by
 simp only[Yp,List.mem_singleton] at hp;subst hp;exact⟨rfl,rfl⟩
def RgS.again (R:RgS):RgS:={ R with h:={ R.h with turn:=R.h.turn+1 } }
theorem RO.open {R:RgS}{D:DS}(h:RO R D)(hc:D.Calm)(ht:R.h.turn<1073741824):∃D',openR D=(some R.again,D',0)/\RO R.again D'/\Frs R.again D'/\D'.Calm/\D'.secs.length=D.secs.length/\∀i,2<=i->img D' i=img D i:=by
 have hcl:D.Clean:=⟨h.dok,hc,h.empty⟩
 have hsz:=h.ok.size
 have hlen:=h.len
 have hus:=h.ok.used
 have hnx:=h.ok.next
 obtain⟨D1,e1,c1,s1⟩:=hcl.read (i:=0) (by omega)
 obtain⟨D2,e2,c2,s2⟩:=c1.read (i:=1) (by rw[s1];omega)
 rw[Xf s1] at e2
 have hcnt:=h.counts
 have hs2:D2.secs=D.secs:=s2.trans s1
 obtain⟨D3,e3,c3,s3⟩:=found_clean R.ents (R.h.size+1) ⟨R.h,[],0,false⟩ D2 c2 (by dsimp only;omega) (by rw[hs2];exact hlen) (by dsimp only;omega) (by
   rw[Xf hs2];simpa [RgS.next] using h.has) h.ok.long (by dsimp only;have:=h.ok.fit;omega) (λ hlt=>by
   rw[Xf hs2]
   have:=h.none (by unfold RgS.next;simpa [RgS.next] using hlt)
   rw[hus] at this
   simpa [RgS.next] using this) (by unfold RgS.next at hnx;simpa [RgS.next] using hnx) (by have:=usedL_len R.ents;have:=h.ok.fit;omega)
 have hs3:D3.secs=D.secs:=s3.trans hs2
 have hidx:∀p∈Yp { R.h with turn:=R.h.turn+1 },p.1<D3.secs.length:=λ p hp=>by
  rw[(Xe hp).1,hs3];omega
 obtain⟨l0,l1,l2⟩:=XN (Yp { R.h with turn:=R.h.turn+1 }) D3 c3.calm hidx
 have hD4ok:(DS.lays (Yp { R.h with turn:=R.h.turn+1 }) D3).1.Ok:=c3.ok.lays (λ p hp=>by rw[(Xe hp).2];exact headB_len _)
 have hall:=λ {i:Nat} (hi:i<D3.secs.length)=>img_all (D:=(DS.lays (Yp { R.h with turn:=R.h.turn+1 }) D3).1) c3.empty l2 D3 rfl hi
 have hR:({ R with h:={ R.h with turn:=R.h.turn+1 } }:RgS)=⟨{ R.h with turn:=R.h.turn+1 },R.ents,R.used,false⟩:=by rw[<-h.live]
 have hok':RgS.Ok ⟨{ R.h with turn:=R.h.turn+1 },R.ents,R.used,false⟩:=⟨⟨by dsimp only;omega,by dsimp only;omega⟩,h.ok.size,h.ok.first,h.ok.next,h.ok.place,h.ok.note,h.ok.used,h.ok.fit,h.ok.long⟩
 have hnew:=h.newHead (D':=(DS.lays (Yp { R.h with turn:=R.h.turn+1 }) D3).1) (h':={ R.h with turn:=R.h.turn+1 }) (l:=R.ents) (u:=R.used) hD4ok l1.dead (by rw[l2];exact ZK)
  (by rw[YX,hs3]) (by
   rcases hall (i:=(R.h.turn+1) % 2) (by rw[hs3];omega) with⟨_,hno⟩|⟨p,hp,_,hq⟩
   ·exact absurd rfl (hno _ (List.mem_singleton.2 rfl))
   ·rw[hq,(Xe hp).2]) (λ i hi=>by
   rw[<-Xf hs3]
   rcases YJ c3.empty l2 D3 rfl i with he|⟨p,hp,h1,_⟩
   ·exact he
   ·exact absurd (by rw[<-h1,(Xe hp).1]) hi) rfl rfl hok' h.num (h.has.le (by dsimp only;omega)) rfl rfl
 refine⟨(DS.lays (Yp { R.h with turn:=R.h.turn+1 }) D3).1, ?_,by unfold RgS.again;rw[hR];exact hnew.1,by unfold RgS.again;rw[hR];exact hnew.2,l1,by rw[YX,hs3],λ i hi=>by
  rcases YJ c3.empty l2 D3 rfl i with he|⟨p,hp,h1,_⟩
  ·rw[he,Xf hs3]
  ·rw[(Xe hp).1] at h1;omega⟩
 have e1':D.read 0=(D1,img D 0,0):=e1
 have e2':D1.read 1=(D2,img D 1,0):=e2
 have hul:XA R.ents=R.used:=hus.symm
 have hfin:openH R.h D2=(some ⟨{ R.h with turn:=R.h.turn+1 },R.ents,R.used,false⟩,(DS.lays (Yp { R.h with turn:=R.h.turn+1 }) D3).1,0):=by
  unfold openH
  rw[if_neg (by rw[hs2];omega),e3,if_neg (by simp),if_neg (by omega),if_pos l0]
  simp only[List.nil_append,Nat.zero_add,hul]
  refine Prod.ext rfl (Prod.ext rfl l0)
 unfold openR
 rw[e1',if_neg (by simp),e2',if_neg (by simp),hcnt,if_neg (by simp),hfin]
 unfold RgS.again
 rw[hR]
theorem shr_byteR (V m:Nat):Value.int .u8 (IntKind.u8.wrap ((V:Int) / 2 ^ (8*m)))=Zk (UInt8.ofNat (V / 256 ^ m)):=by
 have h2:(2 ^ (8*m):Nat)=256 ^ m:=by rw[Nat.pow_mul]
 have h3:((2:Int) ^ (8*m))=((2 ^ (8*m):Nat):Int):=by rw[Int.natCast_pow];rfl
 rw[h3,h2,<-Int.natCast_ediv,u8_wrap]
theorem be_take_succ:∀(n V j:Nat),j<n->(be n V).take (j+1)=(be n V).take j++[UInt8.ofNat (V / 256 ^ (n-1-j))]
 | 0,V,j,h=>by omega
 | n+1,V,0,h=>by simp[be]
 | n+1,V,j+1,h=>by
  have ih:=be_take_succ n V j (by omega)
  rw[be,List.take_succ_cons,List.take_succ_cons,ih]
  simp only[List.cons_append,List.cons.injEq,true_and]
  rw[show n+1-1-(j+1)=n-1-j by omega]
theorem put_spec (ρ:Hp)(v:Value)(c:List (Nat×Obj))(l:Bs)(h:AppB v c 5 l)(x m:Nat)(hx:x<18446744073709551616)(hm:m<=8)(hm0:0<m)(hl:l.length<=1000000) :
  Spec prog 158 [v,.int .u64 x,.int .i64 m] ρ [c] (λ v' ρ' L'=>ρ'=ρ/\∃sp,OwnS v' (l.length+m) ((l++be m x).map Zk) sp 1/\L'=[ZG v' ((l++be m x).map Zk) sp 5]):=by
 refine Za func158 rfl rfl rfl λ u R=>?_
 simp only[Zc,kA]
 repeat' (first|refine zW ?_|intro _)
 refine lpG (Nat×Int×Value×(List (Nat×Obj))) [1,6] (λ z=>[(7,.int .i64 z.2.1),(0,z.2.2.1)]) (λ z=>ρ) (λ z=>[z.2.2.2]) (λ z=>z.1<=m/\z.2.1=(m:Int)-1-(z.1:Int)/\AppB z.2.2.1 z.2.2.2 5 (l++(be m x).take z.1)/\(z.1=0\/∃sp,OwnS z.2.2.1 (l.length+z.1) ((l++(be m x).take z.1).map Zk) sp 1/\z.2.2.2=ZG z.2.2.1 ((l++(be m x).take z.1).map Zk) sp 5)) (λ z=>m-z.1) ((0,(m:Int)-1,v,c)) ⟨aZ _,by simp,by simpa using h,.inl rfl⟩ ?_
 rintro⟨j,i,v1,c1⟩ hI
 try simp only[kB] at hI ⊢
 try dsimp only at hI ⊢
 obtain⟨hj,hi,ha,hor⟩:=hI
 by_cases hlt:j<m
 ·have hsh:=shr_byteR x (m-1-j)
  have hts:=be_take_succ m x j hlt
  have hlen:((be m x).take j).length=j:=by simp[Zh];omega
  subst hi
  have hmin:min (8*((m:Int)-1-(j:Int))).toNat 64=8*(m-1-j):=by omega
  have hmm:l++(be m x).take j++[UInt8.ofNat (x / 256 ^ (m-1-j))]=l++(be m x).take (j+1):=by rw[hts];simp
  have hll:(l++(be m x).take (j+1)).length=l.length+(j+1):=by simp[Zh];omega
  repeat' (first|(refine Zl rfl rfl rfl rfl (by simp) rfl rfl (λ _=>?_);simp only[hmin,hsh])|(refine tl_appB (ys:=[UInt8.ofNat (x / 256 ^ (m-1-j))]) (m:=1) rfl rfl ha (hR:=by infer_instance) SrcV.lit rfl (by simp) (by simp[Zh];omega) rfl (λ v2 sp2 hown2=>?_);rw[hmm] at hown2 ⊢)|refine zW ?_|intro _)
  have ha2:=hown2.appB (T:=5) rfl
  rw[hll] at hown2
  refine rnG (j+1,(m:Int)-1-(j:Int)-1,v2,_) (⟨hlt,by dsimp only;omega,ha2,.inr ⟨sp2,hown2,rfl⟩⟩)
 ·have hk2:j=m:=by omega
  subst hk2
  obtain⟨sp,hown,rfl⟩:=hor.resolve_left (by omega)
  rw[aT (by rw[Zh];exact aR _)] at *
  repeat' (first|refine zW ?_|intro _)
  exact qE ⟨rfl,sp,hown,rfl⟩
theorem numb_spec (ρ:Hp)(a:Option Addr)(n c:Nat)(l:Bs)(h:SIn ρ Zk a n l)(hn:n<=8) :
  Spec prog 237 [.slice a n c] ρ [] (λ v ρ' L'=>v=.int .u64 (ZM l:Nat)/\ρ'=ρ/\L'=[]):=by
 have hl:=h.len
 refine Za func237 rfl rfl rfl λ u R=>?_
 simp only[Zc,kA]
 repeat' (first|refine zW ?_|intro _)
 refine lpG (Nat×Nat) [5,6] (λ y=>[(7,.int .i64 y.1),(2,.int .u64 (y.2:Nat))]) (λ y=>ρ) (λ y=>[]) (λ y=>y.1<=n/\y.2=ZM (l.take y.1)) (λ y=>n-y.1) (0,0) ⟨aZ _,rfl⟩ ?_
 rintro⟨k,z⟩ hI
 try simp only[kB] at hI ⊢
 try dsimp only at hI ⊢
 obtain⟨hk,hz⟩:=hI
 by_cases hlt:k<n
 ·obtain⟨b,off,C,T,fr,rfl,hb,hc⟩:=h.get (show k<l.length by omega)
  have hzl:=unbe_take_lt l k (by omega) (by omega)
  rw[<-hz] at hzl
  have hs:=take_succ_unbe l k (by omega)
  have hbt:l[k].toNat<256:=l[k].toNat_lt
  generalize l[k]=b8 at *
  simp only[Zk] at hc
  repeat' (first|refine zW ?_|intro _)
  have e:(z:Int)*256+(b8.toNat:Int)=((z*256+b8.toNat:Nat):Int):=by omega
  rw[e]
  refine rnG (k+1,z*256+b8.toNat) (⟨hlt,by dsimp only;rw[hs,hz]⟩)
 ·have hk2:k=n:=by omega
  subst hk2
  rw[aT (by omega)] at hz
  subst hz
  repeat' (first|refine zW ?_|intro _)
  exact qE ⟨rfl,rfl,rfl⟩
theorem sects_spec (ρ:Hp)(n:Nat)(hn:n<=4611686018427387904):Spec prog 101 [.int .i64 n] ρ [] (λ v ρ' L'=>v=.int .i64 (Zs n:Nat)/\ρ'=ρ/\L'=[]):=by
 refine Za func101 rfl rfl rfl λ u R=>?_
 simp only[Zc,kA]
 have e:max 1 (IntKind.i64.wrap (((n:Int)+52-1).tdiv 52))=((Zs n:Nat):Int):=by
  rw[Int.tdiv_eq_ediv_of_nonneg (by omega),WL (by simp only[lo,hi];omega)]
  unfold Zs;omega
 repeat' (first|refine zW ?_|intro _)
 rw[e]
 exact qE ⟨rfl,rfl,rfl⟩
theorem block_spec (ρ:Hp)(v:Value)(n:Nat)(l:Bs)(sp:List Value)(h:OwnS v n (l.map Zk) sp 1) :
  Spec prog 159 [v] ρ [ZG v (l.map Zk) sp 5] (λ v ρ' L'=>v=bv (pad l)/\ρ'=ρ/\L'=[]):=by
 obtain⟨a,cap,rfl,hl⟩:=h.len
 have hl':l.length=n:=by simpa using hl
 refine Za func159 rfl rfl rfl λ u R=>?_
 simp only[Zc,kA]
 have hz:(List.replicate 64 (Value.int .u8 0)).length=64:=by simp
 have hst:stc (List.replicate 64 (Value.int .u8 0)) 0 ((l.map Zk).take 64)=(pad l).map Zk:=by
  unfold stc
  rw[<-pad_take]
  have hl64:(l.take 64).length<=64:=by simp;omega
  rw[pad_of hl64]
  simp only[List.take_zero,List.nil_append,List.map_append,List.map_take,Nat.zero_add]
  congr 1
  rw[List.drop_replicate]
  simp only[z8,List.map_replicate,List.length_take,List.length_map]
  rfl
 have hpl:((pad l).map Zk).length=64:=by simp[pad_len]
 have h1:=ZH (pad l)
 repeat' (first|refine zW ?_|intro _)
 refine tl_copy (ys:=l.map Zk) rfl rfl (SrcV.own (v:=.nilIface) h (T:=5) (hR:=by infer_instance)) (by simpa using hl) (ZH l) (by rw[hz];omega) rfl ?_
 simp only[hst]
 repeat' (first|refine zW ?_|intro _)
 exact qE ⟨rfl,rfl,rfl⟩
theorem put_own (ρ:Hp){v:Value}{l:Bs}{sp:List Value}(h:OwnS v l.length (l.map Zk) sp 1)(x m:Nat)(hx:x<18446744073709551616)(hm:m<=8)(hm0:0<m)(hl:l.length<=1000000) :
  Spec prog 158 [v,.int .u64 x,.int .i64 m] ρ [ZG v (l.map Zk) sp 5] (λ v' ρ' L'=>ρ'=ρ/\∃sp,OwnS v' (l++be m x).length ((l++be m x).map Zk) sp 1/\L'=[ZG v' ((l++be m x).map Zk) sp 5]):=by
 have:=put_spec ρ v _ l (h.appB rfl) x m hx hm hm0 hl
 rwa [show l.length+m=(l++be m x).length by simp[Zh]] at this
theorem put_nil (ρ:Hp)(x m:Nat)(hx:x<18446744073709551616)(hm:m<=8)(hm0:0<m) :
  Spec prog 158 [.slice none 0 0,.int .u64 x,.int .i64 m] ρ [[]] (λ v' ρ' L'=>ρ'=ρ/\∃sp,OwnS v' (be m x).length ((be m x).map Zk) sp 1/\L'=[ZG v' ((be m x).map Zk) sp 5]):=
 put_own ρ (l:=[]) (sp:=[]) (OwnS.nil 1) x m hx hm hm0 (by simp)
theorem tl_app_own {x:Cx}{Q:Exit->Act->World->Prop}{E:Env}{ρ:Hp}{L L1:SH}{ops:Array Oper}{rest:List Oper}{ty:TypeId}{pos:String}{af:Array Edge}{d t e m cx:Nat}{s y:Operand}{v:Value}{sp:List Value}{l ys:List UInt8}{a:Option Addr}[hS:ZE x.P t e][hZ:Zm x.P e 1][hB:Zd x.P e 1][hz:Zf x.P e (.int .u8 0)]
  (hs:ev E s=some v) (hy:ev E y=some (.slice a m cx)) (h:OwnS v l.length (l.map Zk) sp 1) [hR:Rem (ZG v (l.map Zk) sp e) L L1] (hsrc:SrcV x ρ L1 a (ys.map Zk)) (hlen:ys.length=m)
  (hb:l.length+m<=140737488355328) (hd:Nat.blt d x.N=true)
  (k:∀v' sp',OwnS v' (l++ys).length ((l++ys).map Zk) sp' 1->TL x ops rest Q ((d,v')::E) ρ (ZG v' ((l++ys).map Zk) sp' e::L1)) :
  TL x ops (⟨some d,.call { callee:=.builtin .append,args:=#[s,y],argTypes:=#[t,t] },ty,pos,af,none⟩::rest) Q E ρ L:=
 YA hs hy h hsrc (by simpa using hlen) (ZH ys) (by decide) rfl (by omega) (by omega) hd (λ v' sp' ho=>by
  rw[<-List.map_append] at ho ⊢
  exact k v' sp' (by rw[aL,hlen];exact ho))
theorem part_spec (ρ:Hp)(X:SH)(turn n:Nat)(a:Option Addr)(bn c:Nat)(b:Bs)(hb:Rd ρ X a bn b)(hc:bn<=c)(k:Nat)(ht:turn<4294967296)(hn:n<=1099511627776)(hbl:bn<=8000)(hk:k<Zs bn) :
  Spec prog 178 [.int .u64 turn,.int .u64 n,.slice a bn c,.int .i64 k] ρ X (λ v ρ' L'=>v=bv (Yg turn n b k)/\ρ'=ρ/\L'=X):=by
 have hl:=hb.len
 have hkm:52*k<=bn:=by unfold Zs at hk;omega
 have hk2:k<256:=by unfold Zs at hk;omega
 have hkb:Value.int .u8 (IntKind.u8.wrap (k:Int))=Zk (UInt8.ofNat k):=u8_wrap k
 have hkb':Value.int .u8 (k:Int)=Zk (UInt8.ofNat k):=by rw[<-hkb,WL (by simp only[lo,hi];omega)]
 have hlo:(52*(k:Int)).toNat=52*k:=by omega
 have hhi:(min (52*(k:Int)+52) (bn:Int)).toNat-52*k=min 52 (bn-52*k):=by omega
 have htk:(b.drop (52*k)).take (min 52 (bn-52*k))=(b.drop (52*k)).take 52:=by
  by_cases h:52<=bn-52*k
  ·rw[Nat.min_eq_left h]
  ·rw[Nat.min_eq_right (by omega),aT (by simp;omega),aT (by simp;omega)]
 have hfin:∀n2,pad (be 4 turn++be 5 n++be 2 n2++[UInt8.ofNat k]++(b.drop (52*k)).take (min 52 (bn-52*k)))=pad (be 4 turn++(be 5 n++(be 2 n2++(UInt8.ofNat k::(b.drop (52*k)).take 52)))):=λ n2=>by rw[htk];simp
 have hfin2:pad (be 4 turn++be 5 n++be 2 bn++[UInt8.ofNat k]++(b.drop (52*k)).take (min 52 (bn-52*k)))=Yg turn n b k:=by rw[hfin,<-hl];rfl
 have hpl:((Yg turn n b k).map Zk).length=64:=by simp[partB_len]
 have hp1:=ZH (Yg turn n b k)
 refine Za func178 rfl rfl rfl λ u R=>?_
 simp only[Zc,kA]
 repeat' (first|(refine Zb (.func 158) ?_;refine qC rfl rfl (put_nil _ turn 4 (by omega) (by omega) (by omega)) ?_;rintro v1 ρ' L' hle ⟨rfl,sp1,hown1,rfl⟩;simp only[kA])|refine zW ?_|intro _)
 repeat' (first|(refine Zb (.func 158) ?_;refine qC rfl rfl (put_own _ hown1 n 5 (by omega) (by omega) (by omega) (by simp[Zh])) ?_;rintro v2 ρ2 L2 hle2 ⟨rfl,sp2,hown2,rfl⟩;simp only[kA])|refine zW ?_|intro _)
 repeat' (first|(refine Zb (.func 158) ?_;refine qC rfl rfl (put_own _ hown2 bn 2 (by omega) (by omega) (by omega) (by simp[Zh])) ?_;rintro v3 ρ3 L3 hle3 ⟨rfl,sp3,hown3,rfl⟩;simp only[kA])|refine zW ?_|intro _)
 refine Yt [0,1,2,5,6,7,8,9,10,11,12] (.e 3 [] (.e 4 [] (.e 13 [] (.e 14 [] (.e 15 [] .o))))) ([]) ?_
 repeat' (refine iT ?_;first|refine rA ?_|(refine rE ?_<;>((first|(refine Zl rfl rfl rfl rfl (by simp) rfl rfl (λ _=>?_);simp only[hkb'])|(refine tl_app_own (ys:=[UInt8.ofNat k]) (m:=1) rfl rfl hown3 (hR:=by infer_instance) SrcV.lit rfl (by simp[Zh]) rfl (λ v4 sp4 hown4=>?_))|(simp only[hlo,hhi];refine tl_app_own (ys:=(b.drop (52*k)).take (min 52 (bn-52*k))) rfl rfl hown4 (hR:=by infer_instance) (by rw[List.map_take,List.map_drop];exact SrcV.sub (hb.src _ _ _ _ (Hp.le_refl _) tk) (by simp;omega) (by simpa [hl] using hc)) (by simp;omega) (by simp[Zh];omega) rfl (λ v5 sp5 hown5=>?_))|(refine Zb (.func 159) ?_;refine qC rfl rfl (block_spec _ _ _ _ _ hown5) ?_;rintro v6 ρ6 L6 hle6 ⟨rfl,rfl,rfl⟩;simp only[kA,hfin2])|(refine qEf ?_;try intro _))<;>(try simp only[kA])<;>refine zN ?_)))
 all_goals (repeat' (first|refine zW ?_|intro _))
 all_goals exact qE ⟨rfl,rfl,rfl⟩
abbrev hdV (h:Hd)(na:Option Addr)(nn nc:Nat):List Value:=[.int .u64 h.turn,.int .u64 h.first,.int .i64 h.size,.int .i64 h.place,.slice na nn nc]
theorem hblock_spec (ρ:Hp)(h:Hd)(na:Option Addr)(nn nc:Nat)(hn:SIn ρ Zk na nn h.note)(ht:h.turn<4294967296)(hf:h.first<=1099511627776)(hs:h.size<65536)(hp:h.place<65536)(hnl:nn<=32) :
  Spec prog 98 [.agg ⟨hdV h na nn nc⟩] ρ [] (λ v ρ' L'=>v=bv (XC h)/\ρ'=ρ/\L'=[]):=by
 have hl:=hn.len
 have hkb:Value.int .u8 (nn:Int)=Zk (UInt8.ofNat nn):=by rw[<-u8_wrap nn,WL (by simp only[lo,hi];omega)]
 have hpl:((XC h).map Zk).length=64:=by simp[headB_len]
 have hp1:=ZH (XC h)
 have hfin:pad (letB++be 4 h.turn++be 2 h.size++be 5 h.first++be 2 h.place++[UInt8.ofNat nn]++h.note)=XC h:=by unfold XC;rw[hl];simp
 refine Za func98 rfl rfl rfl λ u R=>?_
 simp only[Zc,kA]
 repeat' (first|(refine Zl rfl rfl rfl rfl (by simp) rfl rfl (λ _=>?_))|refine zW ?_|intro _)
 rename_i b1 b2 b3
 repeat' (first|(refine Zb (.func 158) ?_;refine qC (Lf:=[[(b3,.cells ⟨letB.map Zk⟩ 5 (8,9))]]) rfl rfl (put_spec _ _ _ letB (.inr ⟨b3,(8,9),rfl,by simp[letB],rfl⟩) h.turn 4 (by omega) (by omega) (by omega) (by simp[letB])) ?_;rintro v1 ρ' L' hle ⟨rfl,sp1,hown1,rfl⟩;simp only[kA])|refine zW ?_|intro _)
 replace hown1:OwnS v1 (letB++be 4 h.turn).length ((letB++be 4 h.turn).map Zk) sp1 1:=by rw[aL,Zh];exact hown1
 refine Yt [0,1,2,3,5,6,8,9,10] (.e 4 [] (.e 7 [] (.e 11 [] (.f [12] .o)))) ([[(b1,.cells ⟨hdV h na nn nc⟩ 109 (0,0))]]) ?_
 repeat' (refine iT ?_;first|refine rA ?_|(refine rE ?_<;>((first|(refine Zb (.func 158) ?_;refine qC rfl rfl (put_own _ hown1 h.size 2 (by omega) (by omega) (by omega) (by simp[Zh,letB])) ?_;rintro v2 ρ2 L2 hle2 ⟨rfl,sp2,hown2,rfl⟩;simp only[kA])|(refine Zb (.func 158) ?_;refine qC rfl rfl (put_own _ hown2 h.first 5 (by omega) (by omega) (by omega) (by simp[Zh,letB])) ?_;rintro v3 ρ3 L3 hle3 ⟨rfl,sp3,hown3,rfl⟩;simp only[kA])|(refine Zb (.func 158) ?_;refine qC rfl rfl (put_own _ hown3 h.place 2 (by omega) (by omega) (by omega) (by simp[Zh,letB])) ?_;rintro v4 ρ4 L4 hle4 ⟨rfl,sp4,hown4,rfl⟩;simp only[kA]))<;>(try simp only[kA])<;>refine zN ?_)))
 all_goals (repeat' (first|refine zW ?_|intro _))
 refine Yt [0,1,2,3,4,7,8] (.e 5 [] (.e 6 [] (.e 9 [] (.e 10 [] (.e 11 [] .o))))) ([[(b1,.cells ⟨hdV h na nn nc⟩ 109 (0,0))]]) ?_
 repeat' (refine iT ?_;first|refine rA ?_|(refine rE ?_<;>((first|(refine Zl rfl rfl rfl rfl (by simp) rfl rfl (λ _=>?_);simp only[hkb])|(refine tl_app_own (ys:=[UInt8.ofNat nn]) (m:=1) rfl rfl hown4 (hR:=by infer_instance) SrcV.lit rfl (by simp[Zh,letB]) rfl (λ v5 sp5 hown5=>?_))|(refine tl_app_own (ys:=h.note) rfl rfl hown5 (hR:=by infer_instance) (SIn.srcV (by assumption)) hl (by simp[Zh,letB];omega) rfl (λ v6 sp6 hown6=>?_))|(refine Zb (.func 159) ?_;refine qC rfl rfl (block_spec _ _ _ _ _ hown6) ?_;rintro v7 ρ7 L7 hle7 ⟨rfl,rfl,rfl⟩;simp only[kA,hfin])|(refine qEf ?_;try intro _))<;>(try simp only[kA])<;>refine zN ?_)))
 all_goals (repeat' (first|refine zW ?_|intro _))
 all_goals exact qE ⟨rfl,rfl,rfl⟩
end Go.Proofs.E
