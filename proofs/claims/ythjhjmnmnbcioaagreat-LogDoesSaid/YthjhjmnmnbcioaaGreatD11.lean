/- Laws of LogDoes. Part 11 of 30. -/
import Derived.Test.YthjhjmnmnbcioaaGreatD10
set_option linter.unusedVariables false
set_option linter.unusedSimpArgs false
set_option linter.unusedSectionVars false
namespace Go.Proofs.E
open Go Tryz
set_option maxRecDepth 4000
set_option maxHeartbeats 1000000
attribute [local irreducible] Yl TL TC TE Spec YL R1 Hp.le EnvLe TS TR YS Zt TP QP
def YV (to:Nat):List RR->RgS->DS->Nat->RgS×DS×Nat×Int
 | [],R,D,f=>(R,D,f,0)
 | x::l,R,D,f=>if to<x.2.lsn then (R,D,f,0)
  else if (R.append (Yv x.2) D).2.2=0 then YV to l (R.append (Yv x.2) D).1 (R.append (Yv x.2) D).2.1 x.2.lsn
  else ((R.append (Yv x.2) D).1,(R.append (Yv x.2) D).2.1,f,(R.append (Yv x.2) D).2.2)
def LgS.at (S:LgS)(R:RgS)(f:Nat):LgS:={ S with R:=R,fl:=f }
def LgS.flush (S:LgS)(to:Nat)(D:DS):LgS×DS×Int:=
 if S.next<=to then (S,D,2) else
 (S.at (YV to (ZS S (S.fl+1)) S.R D S.fl).1 (YV to (ZS S (S.fl+1)) S.R D S.fl).2.2.1,(YV to (ZS S (S.fl+1)) S.R D S.fl).2.1,(YV to (ZS S (S.fl+1)) S.R D S.fl).2.2.2)
theorem fromL_mem {S:LgS}{lsn:Nat}{x:RR}(h:x∈ZS S lsn):x∈S.recs:=(List.mem_filter.1 h).1
abbrev b2C (b lb:Nat):List (Nat×Obj):=[(b,.cells ⟨[.pointer (some ⟨lb,0,none⟩)]⟩ 28 (0,0))]
abbrev b3C (b to:Nat):List (Nat×Obj):=[(b,.cells ⟨[.int .u64 (to:Nat)]⟩ 35 (0,0))]
abbrev b4C (b:Nat)(e:Int):List (Nat×Obj):=[(b,.cells ⟨[.int .i64 e]⟩ 25 (0,0))]
theorem flush16_spec (ρ:Hp)(lb rb db:Nat)(S:LgS)(v:Value)(sp:List Value)(h:LgIn ρ S v sp)(w:RW)(hR:RIn ρ S.R w)(k:DK)(D:DS)(hD:DOk k D)(to:Nat)(hf:S.fl<1000000000000000) :
  Spec prog 15 [.pointer (some ⟨lb,0,none⟩),.int .u64 (to:Nat)] ρ (ZU lb rb S v::Xl S v sp::(ZF rb db S.R w++Zj db k D))
   (λ z ρ' L'=>z=.int .i64 (S.flush to D).2.2/\ρ.le ρ'/\∃w' k',RIn ρ' (S.flush to D).1.R w'/\DOk k' (S.flush to D).2.1/\L'=ZU lb rb (S.flush to D).1 v::Xl S v sp::(ZF rb db (S.flush to D).1.R w'++Zj db k' (S.flush to D).2.1)):=by
 have hn:=λ ρ=>We ρ lb rb S v sp
 by_cases hto:S.next<=to
 ·have e:S.flush to D=(S,D,2):=by unfold LgS.flush;rw[if_pos hto]
  rw[e]
  refine Zb func15 rfl rfl rfl λ u R=>?_
  simp only[Zc,kA]
  repeat' (first|refine zW ?_|intro _)
  rename_i c2 c3 c4
  refine tpA [0,1] (.e 2 [] (.f [3] .o)) ([b2C c2 lb,b3C c3 to]) ?_
  repeat' (refine iT ?_;first|refine rA ?_|(refine rE ?_<;>(refine Za (.func 36) ?_;refine qR rfl rfl (hn _ h) ?_;try simp only[kA])<;>(try simp only[kA])<;>refine zN ?_))
  all_goals (repeat' (first|refine zW ?_|intro _))
  all_goals exact qE (L':=ZU lb rb S v::Xl S v sp::(ZF rb db S.R w++Zj db k D)) ⟨rfl,Hp.le_refl _,w,k,hR,hD,rfl⟩
 ·generalize hq:YV to (ZS S (S.fl+1)) S.R D S.fl=q
  have e:S.flush to D=(S.at q.1 q.2.2.1,q.2.1,q.2.2.2):=by unfold LgS.flush;rw[if_neg hto,hq]
  rw[e]
  dsimp only
  obtain⟨Rq,Dq,fq,eq⟩:=q
  refine Zb func15 rfl rfl rfl λ u R=>?_
  simp only[Zc,kA]
  have e1:((S.fl:Nat):Int)+1=((S.fl+1:Nat):Int):=by omega
  repeat' (first|refine zW ?_|intro _)
  rename_i c2 c3 c4
  refine tpA [0,1] (.e 2 [] (.f [3] .o)) ([b2C c2 lb,b3C c3 to]) ?_
  repeat' (refine iT ?_;first|refine rA ?_|(refine rE ?_<;>(refine Za (.func 36) ?_;refine qR rfl rfl (hn _ h) ?_;try simp only[kA])<;>(try simp only[kA])<;>refine zN ?_))
  all_goals (repeat' (first|refine zW ?_|intro _))
  all_goals
   refine tpZ [0,1,2,3,4,5] (.e 6 [] .o) ?_
   repeat' (refine iT ?_;first|refine rA ?_|(refine rE ?_<;>(simp only[e1];refine Za (.func 49) ?_;refine qC rfl rfl (from16_spec _ lb (S.fl+1)) ?_;rintro v1 ρ1 L1 hle1 ⟨d1,d2,rfl,rfl,rfl⟩;simp only[kA])<;>(try simp only[kA])<;>refine zN ?_))
  all_goals (repeat' (first|refine zW ?_|intro _))
  refine tc_rangeFuncP (S:=[fb1 d1 lb,fb2 d2 (S.fl+1),Xl S v sp]) (L0:=[b2C c2 lb,b3C c3 to,b4C c4 0,ZU lb rb S v]++(ZF rb db S.R w++Zj db k D)) (R:=R) (R0:=?r0) rfl rfl (from16_iter ρ1 lb rb d1 d2 (S.fl+1) S v sp h) (Hp.le_refl _) (λ _=>rfl) rfl
   (λ pre ρ2 Lu=>∃R1 D1 f1 w1 k1,(∀rest,YV to (pre++rest) S.R D S.fl=YV to rest R1 D1 f1)/\ρ1.le ρ2/\RIn ρ2 R1 w1/\DOk k1 D1/\Lu=[b2C c2 lb,b3C c3 to,b4C c4 0,ZU lb rb (S.at R1 f1) v]++(ZF rb db R1 w1++Zj db k1 D1))
   (λ c ρ2 Lu=>((c=.exit 0/\eq=0)\/(c=.ret/\eq≠0))/\∃w1 k1,ρ1.le ρ2/\RIn ρ2 Rq w1/\DOk k1 Dq/\Lu=[b2C c2 lb,b3C c3 to,b4C c4 eq,ZU lb rb (S.at Rq fq) v]++(ZF rb db Rq w1++Zj db k1 Dq)) ?k1 ?k2 ⟨S.R,D,S.fl,w,k,λ _=>rfl,Hp.le_refl _,hR,hD,rfl⟩ ?hC ?round ?done ?stop
  case k1=>exact tk
  case k2=>exact tk
  case hC=>
   rintro ρ2 Lu ⟨R1,D1,f1,w1,k1,h1,_,_,_,rfl⟩
   have:=h1 []
   simp only[aN,YV,Prod.mk.injEq] at this
   obtain⟨rfl,rfl,rfl,_⟩:=this
   exact⟨[b2C c2 lb,b3C c3 to,b4C c4 0],ZF rb db S.R w1++Zj db k1 D,rfl⟩
  case round=>
   rintro l tm r pre y ρ2 Lu u R' hpre hl1 ⟨R1,D1,f1,w1,k1,hgo,hl2,hR1,hD1,rfl⟩ hr hrec
   simp only[envP,kA]
   obtain⟨t,ht⟩:=hpre
   have hmem:y∈S.recs:=fromL_mem (lsn:=S.fl+1) (by rw[<-ht];simp)
   have hin:=(h.rin y hmem).mono hl2
   have hok:=h.ok y hmem
   have hgo1:=hgo (y::t)
   have ht':pre++y::t=ZS S (S.fl+1):=by rw[<-ht];simp
   have hgo2:=λ rest=>hgo (y::rest)
   rw[ht',hq] at hgo1
   obtain⟨yv,yr⟩:=y
   dsimp only at hin hok hgo1 hgo2
   rw[YV] at hgo1
   simp only[YV] at hgo2
   repeat' (first|refine zW ?_|intro _)
   refine Yy [(l,.loop r)] ?_
   refine te_begin rfl hr (λ r' hbz hrec'=>?_)
   by_cases hgt:to<yr.lsn
   ·rw[if_pos hgt] at hgo1
    simp only[Prod.mk.injEq] at hgo1
    obtain⟨rfl,rfl,rfl,rfl⟩:=hgo1
    repeat' (first|refine zW ?_|intro _)
    refine Yy [(l,.loop r')] ?_
    refine te_leave (Lu:=[b2C c2 lb,b3C c3 to,b4C c4 0,ZU lb rb (S.at Rq fq) v]++(ZF rb db Rq w1++Zj db k1 Dq)) rfl rfl (Hp.le_refl _) ⟨hrec'.tmps.trans hrec.tmps,hrec'.params.trans hrec.params,hrec'.assign.trans hrec.assign,hrec'.body.trans hrec.body⟩ tk tk inferInstance ?_
    exact⟨.inl ⟨rfl,rfl⟩,w1,k1,hl2,hR1,hD1,rfl⟩
   ·rw[if_neg hgt] at hgo1
    simp only[if_neg hgt] at hgo2
    have henc:=rencode_spec ρ2 yv yr hin
    rw[hok] at henc
    simp only[if_true] at henc
    have hlen:=recB_le (XZ hok)
    have happ:=λ {ρ3:Hp} {a:Option Addr} {n c:Nat} (hl:ρ2.le ρ3) (hs:SIn ρ3 Zk a n (Yv yr)) (hc:n<=c)=>append_spec ρ3 rb db R1 w1 (hR1.mono hl) k1 D1 hD1 [] a n c (Yv yr) hs.rd hc (by have:=hs.len;omega)
    repeat' (first|(refine Za (.func 50) ?_;refine qC rfl rfl (henc) ?_;rintro v ρ' L' hle ⟨hl3,ea,en,ec,rfl,hec,hes,rfl⟩<;>(try simp only[kA]))|(refine Za (.func 51) ?_;refine qC rfl rfl (happ (by assumption) hes hec) ?_;rintro v4 ρ4 L4 hle4 ⟨rfl,hl4,k4,w4,hD4,hR4,rfl⟩;try simp only[kA,aN,aA])|refine zW ?_|intro _)
    generalize R1.append (Yv yr) D1=ap at *
    obtain⟨Ra,Da,ea⟩:=ap
    dsimp only at *
    by_cases hz:ea=0
    ·subst hz
     rw[if_pos rfl] at hgo1
     simp only[if_true] at hgo2
     rw[show ((0:Int) != 0)=false from rfl]
     repeat' (first|refine zW ?_|intro _)
     refine Yy [(l,.loop r')] ?_
     refine te_next (Lu:=[b2C c2 lb,b3C c3 to,b4C c4 0,ZU lb rb (S.at Ra yr.lsn) v]++(ZF rb db Ra w4++Zj db k4 Da)) rfl (Hp.le_trans hl3 hl4) ⟨hrec'.tmps.trans hrec.tmps,hrec'.params.trans hrec.params,hrec'.assign.trans hrec.assign,hrec'.body.trans hrec.body⟩ tk tk inferInstance ?_
     exact⟨Ra,Da,yr.lsn,w4,k4,hgo2,Hp.le_trans hl2 (Hp.le_trans hl3 hl4),hR4,hD4,rfl⟩
    ·rw[if_neg hz] at hgo1
     simp only[Prod.mk.injEq] at hgo1
     obtain⟨rfl,rfl,rfl,rfl⟩:=hgo1
     have hcb:(eq != 0)=true:=by simpa using hz
     rw[hcb]
     repeat' (first|refine zW ?_|intro _)
     refine Yy [(l,.loop r')] ?_
     refine te_leave (Lu:=[b2C c2 lb,b3C c3 to,b4C c4 eq,ZU lb rb (S.at Rq fq) v]++(ZF rb db Rq w4++Zj db k4 Dq)) rfl rfl (Hp.le_trans hl3 hl4) ⟨hrec'.tmps.trans hrec.tmps,hrec'.params.trans hrec.params,hrec'.assign.trans hrec.assign,hrec'.body.trans hrec.body⟩ tk tk inferInstance ?_
     exact⟨.inr ⟨rfl,hz⟩,w4,k4,Hp.le_trans hl2 (Hp.le_trans hl3 hl4),hR4,hD4,rfl⟩
  case done=>
   rintro D0 ρ2 Lu hl1 ⟨R1,D1,f1,w1,k1,hgo,hl2,hR1,hD1,rfl⟩
   have:=hgo []
   rw[aN,hq] at this
   simp only[YV,Prod.mk.injEq] at this
   obtain⟨rfl,rfl,rfl,rfl⟩:=this
   simp only[kA]
   repeat' (first|refine zW ?_|intro _)
   refine Yy [(D0,.deferred (some []))] ?_
   exact WR rfl rfl rfl inferInstance (res1 rfl (Zx rfl rfl)) hl2 tk (by infer_instance) (L':=ZU lb rb (S.at Rq fq) v::Xl S v sp::(ZF rb db Rq w1++Zj db k1 Dq)) ⟨rfl,hl2,w1,k1,hR1,hD1,rfl⟩
  case stop=>
   rintro D0 c ρ2 Lu hl1 ⟨hc,w1,k1,hl2,hR1,hD1,rfl⟩
   simp only[kA]
   rcases hc with⟨rfl,rfl⟩|⟨rfl,hne⟩
   ·repeat' (first|refine zW ?_|intro _)
    refine Yy [(D0,.deferred (some []))] ?_
    exact WR rfl rfl rfl inferInstance (res1 rfl (Zx rfl rfl)) hl2 tk (by infer_instance) (L':=ZU lb rb (S.at Rq fq) v::Xl S v sp::(ZF rb db Rq w1++Zj db k1 Dq)) ⟨rfl,hl2,w1,k1,hR1,hD1,rfl⟩
   ·repeat' (first|refine zW ?_|intro _)
    refine Yy [(D0,.deferred (some []))] ?_
    exact WR rfl rfl rfl inferInstance (res1 rfl (Zx rfl rfl)) hl2 tk (by infer_instance) (L':=ZU lb rb (S.at Rq fq) v::Xl S v sp::(ZF rb db Rq w1++Zj db k1 Dq)) ⟨rfl,hl2,w1,k1,hR1,hD1,rfl⟩
def zRR:RR:=(⟨⟨none,0,0⟩,⟨none,0,0⟩,⟨none,0,0⟩,⟨none,0,0⟩⟩,⟨0,0,0,0,0,[],[],0,[],[]⟩)
def firstIs (lsn:Nat):List RR->Option RR
 | []=>none
 | x::_=>if x.2.lsn=lsn then some x else none
def recF (S:LgS)(lsn:Nat):Option RR:=firstIs lsn (ZS S lsn)
abbrev recAns (o:Option RR):Value:=.tuple ⟨[.agg ⟨rrV (o.getD zRR)⟩,.int .i64 (if o.isSome then 0 else 4)]⟩
abbrev rc4 (b:Nat)(x:RR):List (Nat×Obj):=[(b,.cells ⟨rrV x⟩ 47 (0,0))]
theorem rec16_spec (ρ:Hp)(lb rb:Nat)(S:LgS)(v:Value)(sp:List Value)(h:LgIn ρ S v sp)(lsn:Nat) :
  Spec prog 73 [.pointer (some ⟨lb,0,none⟩),.int .u64 (lsn:Nat)] ρ [ZU lb rb S v,Xl S v sp] (λ z ρ' L'=>z=recAns (recF S lsn)/\ρ.le ρ'/\L'=[ZU lb rb S v,Xl S v sp]):=by
 generalize ho:recF S lsn=o
 refine Zb func73 rfl rfl rfl λ u R=>?_
 simp only[Zc,kA]
 repeat' (first|(refine Za (.func 49) ?_;refine qC rfl rfl (from16_spec _ lb lsn) ?_;rintro v1 ρ1 L1 hle1 ⟨d1,d2,rfl,rfl,rfl⟩;simp only[kA])|refine zW ?_|intro _)
 rename_i c3 c4 c5
 refine tc_rangeFuncP (S:=[fb1 d1 lb,fb2 d2 lsn,Xl S v sp]) (L0:=[b3C c3 lsn,rc4 c4 zRR,b4C c5 0,ZU lb rb S v]) (R:=R) (R0:=?r0) rfl rfl (from16_iter ρ1 lb rb d1 d2 lsn S v sp h) (Hp.le_refl _) (λ _=>rfl) rfl
   (λ pre ρ2 Lu=>pre=[]/\ρ1.le ρ2/\Lu=[b3C c3 lsn,rc4 c4 zRR,b4C c5 0,ZU lb rb S v])
   (λ c ρ2 Lu=>ρ1.le ρ2/\((c=.exit 0/\o=none/\Lu=[b3C c3 lsn,rc4 c4 zRR,b4C c5 0,ZU lb rb S v])\/∃x,c=.ret/\o=some x/\Lu=[b3C c3 lsn,rc4 c4 x,b4C c5 0,ZU lb rb S v])) ?k1 ?k2 ⟨rfl,Hp.le_refl _,rfl⟩ ?hC ?round ?done ?stop
 case k1=>exact tk
 case k2=>exact tk
 case hC=>
  rintro ρ2 Lu ⟨_,_,rfl⟩
  exact⟨[b3C c3 lsn,rc4 c4 zRR,b4C c5 0],[],rfl⟩
 case round=>
  rintro l tm r pre y ρ2 Lu u R' hpre hl1 ⟨rfl,hl2,rfl⟩ hr hrec
  simp only[envP,kA]
  obtain⟨t,ht⟩:=hpre
  have ho1:o=if y.2.lsn=lsn then some y else none:=by
   rw[<-ho];unfold recF;rw[<-ht];rfl
  obtain⟨yv,yr⟩:=y
  dsimp only at ho1
  repeat' (first|refine zW ?_|intro _)
  refine Yy [(l,.loop r)] ?_
  refine te_begin rfl hr (λ r' hbz hrec'=>?_)
  by_cases he:yr.lsn=lsn
  ·rw[if_pos he] at ho1
   subst he
   repeat' (first|refine zW ?_|intro _)
   refine Yy [(l,.loop r')] ?_
   refine te_leave (Lu:=[b3C c3 yr.lsn,rc4 c4 (yv,yr),b4C c5 0,ZU lb rb S v]) rfl rfl (Hp.le_refl _) ⟨hrec'.tmps.trans hrec.tmps,hrec'.params.trans hrec.params,hrec'.assign.trans hrec.assign,hrec'.body.trans hrec.body⟩ tk tk inferInstance ?_
   exact⟨hl2,.inr ⟨_,rfl,ho1,rfl⟩⟩
  ·rw[if_neg he] at ho1
   have he2:¬((yr.lsn:Nat):Int)=((lsn:Nat):Int):=by omega
   repeat' (first|refine zW ?_|intro _)
   refine Yy [(l,.loop r')] ?_
   refine te_leave (Lu:=[b3C c3 lsn,rc4 c4 zRR,b4C c5 0,ZU lb rb S v]) rfl rfl (Hp.le_refl _) ⟨hrec'.tmps.trans hrec.tmps,hrec'.params.trans hrec.params,hrec'.assign.trans hrec.assign,hrec'.body.trans hrec.body⟩ tk tk inferInstance ?_
   exact⟨hl2,.inl ⟨rfl,ho1,rfl⟩⟩
 case done=>
  rintro D0 ρ2 Lu hl1 ⟨he,hl2,rfl⟩
  have ho1:o=none:=by rw[<-ho];unfold recF;rw[he];rfl
  subst ho1
  simp only[kA]
  repeat' (first|refine zW ?_|intro _)
  refine Yy [(D0,.deferred (some []))] ?_
  exact WR rfl rfl rfl inferInstance (res2 rfl (ZT rfl rfl) (Zx rfl rfl)) hl2 tk (by infer_instance) (L':=[ZU lb rb S v,Xl S v sp]) ⟨rfl,hl2,rfl⟩
 case stop=>
  rintro D0 c ρ2 Lu hl1 ⟨hl2,⟨rfl,rfl,rfl⟩|⟨x,rfl,rfl,rfl⟩⟩
  ·simp only[kA]
   repeat' (first|refine zW ?_|intro _)
   refine Yy [(D0,.deferred (some []))] ?_
   exact WR rfl rfl rfl inferInstance (res2 rfl (ZT rfl rfl) (Zx rfl rfl)) hl2 tk (by infer_instance) (L':=[ZU lb rb S v,Xl S v sp]) ⟨rfl,hl2,rfl⟩
  ·simp only[kA]
   repeat' (first|refine zW ?_|intro _)
   refine Yy [(D0,.deferred (some []))] ?_
   exact WR rfl rfl rfl inferInstance (res2 rfl (ZT rfl rfl) (Zx rfl rfl)) hl2 tk (by infer_instance) (L':=[ZU lb rb S v,Xl S v sp]) ⟨rfl,hl2,rfl⟩
theorem fromL_len (S:LgS)(lsn:Nat):(ZS S lsn).length<=S.recs.length:=List.length_filter_le _ _
theorem recs16_spec (ρ:Hp)(lb rb:Nat)(S:LgS)(v:Value)(sp:List Value)(h:LgIn ρ S v sp)(lsn:Nat) :
  Spec prog 38 [.pointer (some ⟨lb,0,none⟩),.int .u64 (lsn:Nat)] ρ [ZU lb rb S v,Xl S v sp] (λ z ρ' L'=>ρ.le ρ'/\∃sp',OwnS z (ZS S lsn).length (YD (ZS S lsn)) sp' 10/\L'=[ZU lb rb S v,Xl S v sp,Zq z (YD (ZS S lsn)) sp' 47]):=by
 have h1:=h.len
 have h2:=fromL_len S lsn
 refine Zb func38 rfl rfl rfl λ u R=>?_
 simp only[Zc,kA]
 repeat' (first|(refine Za (.func 49) ?_;refine qC rfl rfl (from16_spec _ lb lsn) ?_;rintro v1 ρ1 L1 hle1 ⟨d1,d2,rfl,rfl,rfl⟩;simp only[kA])|refine zW ?_|intro _)
 rename_i c5
 refine tc_rangeFuncP (S:=[fb1 d1 lb,fb2 d2 lsn,Xl S v sp]) (L0:=[[(c5,.cells ⟨[.slice none 0 0]⟩ 36 (0,0))],ZU lb rb S v,Zq (.slice none 0 0) (YD []) [] 47]) (R:=R) (R0:=[(c5,.cells ⟨[.slice none 0 0]⟩ 36 (0,0))]::ZU lb rb S v::R) rfl rfl (from16_iter ρ1 lb rb d1 d2 lsn S v sp h) (Hp.le_refl _) (λ _=>rfl) rfl
   (λ pre ρ2 Lu=>ρ1.le ρ2/\∃z sp',OwnS z pre.length (YD pre) sp' 10/\Lu=[[(c5,.cells ⟨[z]⟩ 36 (0,0))],ZU lb rb S v,Zq z (YD pre) sp' 47])
   (λ c ρ2 Lu=>False) ?k1 ?k2 ⟨Hp.le_refl _,_,[],OwnS.nil 10,rfl⟩ ?hC ?round ?done ?stop
 case k1=>exact tk
 case k2=>exact WG Zl (WG Zl (WG rem_nil' take_nil'))
 case stop=>rintro D0 c ρ2 Lu _ hf;exact hf.elim
 case hC=>
  rintro ρ2 Lu ⟨_,z,sp',_,rfl⟩
  exact⟨[[(c5,.cells ⟨[z]⟩ 36 (0,0))]],_,rfl⟩
 case round=>
  rintro l tm r pre y ρ2 Lu u R' hpre hl1 ⟨hl2,z,sp1,hown,rfl⟩ hr hrec
  simp only[envP,kA]
  have hlen:=hpre.length_le
  simp only[aL,List.length_singleton] at hlen
  obtain⟨za,zc,rfl,_⟩:=hown.slice
  repeat' (first|refine zW ?_|intro _)
  refine Yy [(l,.loop r)] ?_
  refine te_begin rfl hr (λ r' hbz hrec'=>?_)
  repeat' (first|(refine Zp (css:=[rrV y]) (sz:=10) rfl rfl rfl rfl (by simp) (by simp) rfl (λ bs=>?_);simp only[aF,List.flatten_nil,aN])|(refine ZH (ys:=rrV y) (m:=1) (sz:=10) rfl rfl hown (hR:=by repeat (first|exact Zl|apply Zn)) SrcV.lit rfl rfl (by decide) rfl (by omega) (by omega) rfl (λ v' sp' hown'=>?_);obtain⟨a',cap',rfl,hvl⟩:=hown'.slice)|refine zW ?_|intro _)
  rw[show YD pre++rrV y=YD (pre++[y]) by rw[flatL_add];simp[YD]] at hown' ⊢
  refine Yy [(l,.loop r')] ?_
  refine te_next (Lu:=[[(c5,.cells ⟨[.slice a' (pre.length+1) cap']⟩ 36 (0,0))],ZU lb rb S v,Zq (.slice a' (pre.length+1) cap') (YD (pre++[y])) sp' 47]) rfl (Hp.le_refl _) ⟨hrec'.tmps.trans hrec.tmps,hrec'.params.trans hrec.params,hrec'.assign.trans hrec.assign,hrec'.body.trans hrec.body⟩ tk tk inferInstance ?_
  exact⟨hl2,_,sp',by simpa using hown',rfl⟩
 case done=>
  rintro D0 ρ2 Lu hl1 ⟨hl2,z,sp1,hown,rfl⟩
  simp only[kA]
  obtain⟨za,zc,rfl,_⟩:=hown.slice
  repeat' (first|refine zW ?_|intro _)
  refine Yy [(D0,.deferred (some []))] ?_
  exact WR rfl rfl rfl inferInstance (res1 rfl (Ye rfl)) hl2 tk (by infer_instance) (L':=[ZU lb rb S v,Xl S v sp,Zq (.slice za (ZS S lsn).length zc) (YD (ZS S lsn)) sp1 47]) ⟨hl2,sp1,hown,rfl⟩
structure EvV where
 kind:Int
 n:Int
 b:BSl
 note:BSl
 ka:Option Addr
 kn:Nat
 kp:Nat
 ks:List Bool
structure EvIn (ρ:Hp)(e:EvV):Prop where
 n:-9223372036854775808<=e.n/\e.n<=9223372036854775807
 kind:-9223372036854775808<=e.kind/\e.kind<=9223372036854775807
 b:BIn ρ e.b
 bbg:e.b.n<=9223372036854775807
 note:BIn ρ e.note
 nb:e.note.n<=9223372036854775807
 ks:SIn ρ bb e.ka e.kn e.ks
 kc:e.kn<=e.kp
 kb:e.kn<=9223372036854775807
theorem EvIn.mono {ρ ρ':Hp}{e:EvV}(h:EvIn ρ e)(hle:ρ.le ρ'):EvIn ρ' e:=⟨h.n,h.kind,h.b.mono hle,h.bbg,h.note.mono hle,h.nb,h.ks.mono hle,h.kc,h.kb⟩
theorem Good.append2 {R:RgS}{D:DS}{b:Bs}(h:Good R D)(hb:b.length<=8000)(hn:R.next<1099511627776)(hfit:ZA b.length<=R.h.size-R.used) :
  ∃D',R.append b D=(R.plus b,D',0)/\Good (R.plus b) D'/\D'.secs.length=D.secs.length/\∀i,R.h.size+2<=i->img D' i=img D i:=by
 have hsz:=h.ro.ok.size
 have hlen:=h.ro.len
 have hidx:∀p∈Yo R.h R.next b (R.h.place+R.used),p.1<R.h.size+2:=λ p hp=>by
  obtain⟨k,hk,rfl⟩:=partsL_mem.1 hp
  have:=Nat.mod_lt (R.h.place+R.used+k) (show 0<R.h.size by omega)
  dsimp only;omega
 obtain⟨l0,l1,l2⟩:=Calm_lays (Yo R.h R.next b (R.h.place+R.used)) D h.calm (λ p hp=>by have:=hidx p hp;omega)
 have ha:=(h.ro.append h.frs hb hfit hn).1 l0
 refine⟨(DS.lays (Yo R.h R.next b (R.h.place+R.used)) D).1, ?_,⟨ha.1,ha.2,l1⟩,Wd _ _,λ i hi=>?_⟩
 ·unfold RgS.append
  rw[h.ro.live,if_neg (by simp),if_neg (by omega),if_neg (by omega),if_pos l0,calm_pair l0]
  rfl
 ·rcases WA h.ro.empty l2 D rfl i with e|⟨p,hp,h1,_⟩
  ·exact e
  ·have:=hidx p hp;omega
def lastF (f:Nat):List RR->Nat
 | []=>f
 | x::l=>lastF x.2.lsn l
abbrev upTo (to:Nat)(l:List RR):List RR:=l.takeWhile (λ x=>decide (x.2.lsn<=to))
theorem costN_ok {r:Rc}(h:Yk r=true):Xh r=ZA (Yv r).length:=by unfold Xh;rw[if_pos h];rfl
theorem flushL_good (to:Nat):∀(l:List RR) (R:RgS) (D:DS) (f:Nat),Good R D->(∀x∈l,Yk x.2=true)->ZI l<=R.h.size-R.used->R.next+l.length<=1099511627776 ->
  ∃R' D',YV to l R D f=(R',D',lastF f (upTo to l),0)/\Good R' D'/\R'.h=R.h/\R'.ents=R.ents++(upTo to l).map (λ x=>Yv x.2)/\R'.used=R.used+ZI (upTo to l)/\D'.secs.length=D.secs.length/\∀i,R.h.size+2<=i->img D' i=img D i
 | [],R,D,f,g,_,_,_=>⟨R,D,rfl,g,rfl,by simp,by simp[ZI],rfl,λ _ _=>rfl⟩
 | x::l,R,D,f,g,hok,hu,hn=>by
  have hx:=hok x (by simp)
  have hc:=costN_ok hx
  have hlen:=recB_le (XZ hx)
  simp only[ZI,List.map_cons,List.sum_cons] at hu
  simp only[aC] at hn
  unfold upTo
  rw[YV,List.takeWhile_cons]
  by_cases hto:to<x.2.lsn
  ·rw[if_pos hto,decide_eq_false (by omega)]
   exact⟨R,D,rfl,g,rfl,by simp,by simp[ZI],rfl,λ _ _=>rfl⟩
  ·rw[if_neg hto,decide_eq_true (by omega)]
   obtain⟨D',e,g',hl',hi'⟩:=g.append2 (b:=Yv x.2) (by omega) (by omega) (by omega)
   have hnx:(R.plus (Yv x.2)).next=R.next+1:=by simp[RgS.plus,RgS.next];omega
   have hus:(R.plus (Yv x.2)).used=R.used+ZA (Yv x.2).length:=rfl
   obtain⟨R2,D2,e2,g2,h2,he2,hu2,hl2,hi2⟩:=flushL_good to l (R.plus (Yv x.2)) D' x.2.lsn g' (λ y hy=>hok y (by simp[hy])) (by rw[hus];show _<=R.h.size-_;unfold ZI;omega) (by rw[hnx];omega)
   rw[e]
   dsimp only
   rw[if_pos rfl,e2]
   refine⟨R2,D2,rfl,g2,h2, ?_, ?_,hl2.trans hl',λ i hi=>(hi2 i hi).trans (hi' i hi)⟩
   ·rw[he2];simp[RgS.plus,upTo]
   ·rw[hu2,hus,<-hc];simp[ZI,upTo];omega
def newLg (R:RgS):LgS:=⟨R,1,0,0,1,[]⟩
theorem newLg_in {ρ:Hp}{R:RgS}:LgIn ρ (newLg R) (.slice none 0 0) []:=⟨OwnS.nil 10,by simp[newLg],by simp[newLg],by simp[newLg,ZI],by simp[newLg]⟩
theorem kformat16 (ρ:Hp)(n m:Nat)(hn0:4<=n)(hn1:n<=1000)(hm:n+2<=m)(hm1:m<=2048)(db:Nat)(k:DK)(hk:DOk k (DS.new m)) :
  Spec prog 7 [.pointer (some ⟨db,0,none⟩),.int .i64 n] ρ (Zj db k (DS.new m)) (λ v ρ' L'=>ρ.le ρ'/\∃lb rb w k' D',v=.tuple ⟨[.pointer (some ⟨lb,0,none⟩),.int .i64 0]⟩/\DOk k' D'/\RIn ρ' ⟨Zz n,[],0,false⟩ w/\Good ⟨Zz n,[],0,false⟩ D'/\D'.secs.length=m/\L'=ZU lb rb (newLg ⟨Zz n,[],0,false⟩) (.slice none 0 0)::(ZF rb db ⟨Zz n,[],0,false⟩ w++Zj db k' D')):=by
 obtain⟨D',e,g⟩:=Good.format (D:=DS.new m) (n:=n) (new_okD (by omega) hm1) new_calm hn0 hn1 (by simp[DS.new,fresh];omega) fresh_empty
 have hlen:D'.secs.length=m:=by
  unfold XU at e
  split at e
  ·simp at e
  ·split at e
   ·split at e
    ·have:=congrArg (λ x=>x.2.1.secs.length) e
     dsimp only at this
     rw[<-this,Wd,Wd];simp[DS.new,fresh]
    ·simp at e
   ·simp at e
 have hf:=format_spec ρ db k (DS.new m) hk n (by omega)
 rw[e] at hf
 refine Zb func7 rfl rfl rfl λ u R=>?_
 simp only[Zc,kA]
 repeat' (first|(refine Za (.func 8) ?_;refine qC rfl rfl hf ?_;rintro v1 ρ1 L1 hle1 ⟨hl1,k1,hk1,rb,w,rfl,hr,rfl⟩;try simp only[kB])|refine zW ?_|intro _)
 rename_i lb
 exact qE (L':=ZU lb rb (newLg ⟨Zz n,[],0,false⟩) (.slice none 0 0)::(ZF rb db ⟨Zz n,[],0,false⟩ w++Zj db k1 D')) ⟨hl1,lb,rb,w,k1,D',rfl,hk1,hr,g,hlen,rfl⟩
def begR (lsn:Nat)(txn:Nat):Rc:=⟨1,lsn,txn,0,0,[],[],0,[],[]⟩
abbrev begX (lsn txn:Nat):RR:=(zRR.1,begR lsn txn)
theorem begR_in {ρ:Hp}(lsn txn:Nat):RcIn ρ zRR.1 (begR lsn txn):=⟨AS.nil,by simp[begR],AS.nil,AS.nil,AS.nil,by simp[begR]⟩
theorem begR_ok {lsn txn:Nat}(h1:1<=lsn)(h2:lsn<=1099511627776)(h3:1<=txn)(h4:txn<=1073741824):Yk (begR lsn txn)=true:=by
 unfold Yk begR headOk askOk bareOk
 simp only[aE,decide_eq_true_eq]
 refine⟨by omega,⟨by omega,by omega,by omega,by omega,by omega,by simp;omega,by simp⟩,by simp,by simp⟩
theorem begR_len (lsn txn:Nat):(Yv (begR lsn txn)).length=21:=by simp[Yv,recHB,recTB,begR,Zd]
theorem begR_cost {lsn txn:Nat}(h:Yk (begR lsn txn)=true):Xh (begR lsn txn)=1:=by
 rw[costN_ok h,begR_len];rfl
abbrev wS0:LgS:=newLg ⟨Zz 450,[],0,false⟩
abbrev wS1:LgS:=wS0.more (begX 1 7)
theorem wk_b:Yk (begR 1 7)=true:=begR_ok (by omega) (by omega) (by omega) (by omega)
theorem wk_a:appE wS0 (begR 1 7) 2=0:=by
 unfold appE
 rw[wk_b,begR_cost wk_b];rfl
theorem wk_c:appE wS1 (begR 1 7) 2=2:=by
 unfold appE
 rw[wk_b];rfl
theorem wk_u:ZI wS1.recs=1:=by
 show ZI [begX 1 7]=1
 simp[ZI,begR_cost wk_b]
theorem wk_f {D:DS}(g:Good ⟨Zz 450,[],0,false⟩ D):∃R' D',wS1.flush 1 D=(wS1.at R' 1,D',0):=by
 obtain⟨R',D',e,_⟩:=flushL_good 1 [begX 1 7] ⟨Zz 450,[],0,false⟩ D 0 g (λ x hx=>by rw[List.mem_singleton.1 hx];exact wk_b) (by simp[ZI,begR_cost wk_b,Zz]) (by simp[RgS.next,Zz])
 refine⟨R',D', ?_⟩
 unfold LgS.flush
 rw[if_neg (by decide)]
 rw[show ZS wS1 (wS1.fl+1)=[begX 1 7] from rfl,show wS1.R=⟨Zz 450,[],0,false⟩ from rfl,show wS1.fl=0 from rfl,e]
 rfl
theorem LgIn.at {ρ S v sp}(h:LgIn ρ S v sp)(R:RgS)(f:Nat):LgIn ρ (S.at R f) v sp:=⟨h.own,h.rin,h.ok,h.used,h.base⟩
theorem wakes16_spec (ρ:Hp):Spec prog 5 [] ρ [] (λ v ρ' L'=>v=.bool true/\ρ.le ρ'/\L'=[]):=by
 refine Zb func5 rfl rfl rfl λ u R=>?_
 simp only[Zc,kA]
 repeat' (first|(refine Za (.func 6) ?_;refine qC rfl rfl (knew _ 452 (by omega) (by omega)) ?_;rintro v ρ' L' hle ⟨rfl,db,k0,rfl,hk0,rfl⟩<;>(try simp only[kA]))|(refine Za (.func 7) ?_;refine qC rfl rfl (kformat16 _ 450 452 (by omega) (by omega) (by omega) (by omega) db k0 hk0) ?_;rintro v1 ρ1 L1 hle1 ⟨hl1,lb,rb,w1,k1,D1,rfl,hk1,hr1,g1,_,rfl⟩;try simp only[kB])|refine zW ?_|intro _)
 rename_i xb
 have hA:=append16_yes ρ1 lb rb wS0 (.slice none 0 0) [] newLg_in (begX 1 7) (begR_in _ _) 2 wk_a
 obtain⟨R',D',hfl⟩:=wk_f g1
 refine tpA [0,1,3,4,6] (.e 2 [] (.e 5 [] (.e 7 [] (.f [8,9,10] .o)))) ([[(xb,.cells ⟨rrV (begX 1 7)⟩ 47 (0,0))]]) ?_
 repeat' (refine iT ?_;first|refine rA ?_|(refine rE ?_<;>((first|(refine Za (.func 13) ?_;refine qC rfl rfl hA ?_;rintro v2 ρ2 L2 hle2 ⟨rfl,hl2,va2,sp2,hin2,rfl⟩;have hB:=append16_no ρ2 lb rb wS1 va2 sp2 hin2 (begX 1 7) (begR_in _ _) 2 (by rw[wk_c];omega);try simp only[kB])|(refine Za (.func 13) ?_;refine qC rfl rfl hB ?_;rintro v3 ρ3 L3 hle3 ⟨rfl,hl3,rfl⟩;have hC:=flush16_spec ρ3 lb rb db wS1 va2 sp2 (hin2.mono hl3) w1 ((hr1.mono hl2).mono hl3) k1 D1 hk1 1 (by decide);rw[hfl] at hC;try simp only[kB])|(refine Za (.func 15) ?_;refine qC rfl rfl hC ?_;rintro v4 ρ4 L4 hle4 ⟨rfl,hl4,w4,k4,hr4,hk4,rfl⟩;have hin4:=(hin2.mono hl3).mono hl4;try simp only[kB]))<;>(try simp only[kA])<;>refine zN ?_)))
 all_goals
  have hat:=hin4.at R' 1
  have hN:=We ρ4 lb rb (wS1.at R' 1) va2 sp2 hat
  have hF:=flushed16_spec ρ4 lb rb (wS1.at R' 1) va2
  have hU:=used16_spec ρ4 lb rb (wS1.at R' 1) va2
  have hQ:=recs16_spec ρ4 lb rb (wS1.at R' 1) va2 sp2 hat 1
  rw[show ZI (wS1.at R' 1).recs=1 from wk_u] at hU
  rw[show (wS1.at R' 1).next=2 from rfl] at hN
  rw[show (wS1.at R' 1).fl=1 from rfl] at hF
  rw[show ZS (wS1.at R' 1) 1=[begX 1 7] from rfl] at hQ
  simp only[show (appE wS1 (begR 1 7) 2)=2 from wk_c]
  repeat' (first|(refine Za (.func 34) ?_;refine qR rfl rfl (hF) ?_;try simp only[kA])|(refine Za (.func 36) ?_;refine qR rfl rfl (hN) ?_;try simp only[kA])|(refine Za (.func 37) ?_;refine qR rfl rfl (hU) ?_;try simp only[kA])|(refine Za (.func 38) ?_;refine qC rfl rfl hQ ?_;rintro v5 ρ5 L5 hle5 ⟨hl5,sp5,ho5,rfl⟩;obtain⟨va5,vc5,rfl,_⟩:=ho5.slice;try simp only[kB])|refine zW ?_|intro _)
  have hfin:=Hp.le_trans hl1 (Hp.le_trans hl2 (Hp.le_trans hl3 (Hp.le_trans hl4 hl5)))
  exact qE (L':=[]) ⟨rfl,hfin,rfl⟩
def Xc (l:List Nat):Nat->Bs
 | 0=>[]
 | i+1=>Xc l i++be (8-4*i) (l.getD i 0)
theorem lnumber_spec (ρ:Hp)(a:Option Addr)(n c:Nat)(l:Bs)(h:SIn ρ Zk a n l)(hn:n<=8) :
  Spec prog 122 [.slice a n c] ρ [] (λ v ρ' L'=>v=.int .u64 (ZV l:Nat)/\ρ'=ρ/\L'=[]):=by
 have hl:=h.len
 refine Zb func122 rfl rfl rfl λ u R=>?_
 simp only[Zc,kA]
 repeat' (first|refine zW ?_|intro _)
 refine lpG (Nat×Nat) [5,6] (λ y=>[(7,.int .i64 y.1),(2,.int .u64 (y.2:Nat))]) (λ y=>ρ) (λ y=>[]) (λ y=>y.1<=n/\y.2=ZV (l.take y.1)) (λ y=>n-y.1) (0,0) ⟨aZ _,rfl⟩ ?_
 rintro⟨k,z⟩ hI
 try simp only[kB] at hI ⊢
 try dsimp only at hI ⊢
 obtain⟨hk,hz⟩:=hI
 by_cases hlt:k<n
 ·obtain⟨b,off,C,T,fr,rfl,hb,hc⟩:=h.get (show k<l.length by omega)
  have hzl:=unbe_take_lt l k (by omega) (by omega)
  rw[<-hz] at hzl
  have hs:=Vx l k (by omega)
  have hbt:l[k].toNat<256:=l[k].toNat_lt
  generalize l[k]=b8 at *
  simp only[Zk] at hc
  repeat' (first|refine zW ?_|intro _)
  have e:(z:Int)*256+(b8.toNat:Int)=((z*256+b8.toNat:Nat):Int):=by omega
  rw[e]
  refine rnG (k+1,z*256+b8.toNat) (⟨hlt,by dsimp only;rw[hs,hz]⟩)
 ·have hk2:k=n:=by omega
  subst hk2
  rw[aT (by omega)] at hz
  subst hz
  repeat' (first|refine zW ?_|intro _)
  exact qE ⟨rfl,rfl,rfl⟩
theorem lnote_spec (ρ:Hp)(a:Option Addr)(c:Nat)(l:List Nat)(hl2:l.length=2)(h:SIn ρ (λ z:Nat=>Value.int .u64 (z:Int)) a 2 l)(hx:∀z∈l,z<18446744073709551616) :
  Spec prog 54 [.slice a 2 c] ρ [] (λ v ρ' L'=>ρ'=ρ/\∃sp,OwnS v 12 ((Xc l 2).map Zk) sp 1/\L'=[Zq v ((Xc l 2).map Zk) sp 5]):=by
 have hlen:∀i,i<=2->(Xc l i).length=8*i-4*(i / 2):=by
  intro i hi
  rcases (by omega:i=0\/i=1\/i=2) with rfl|rfl|rfl<;>simp[Xc,Zd]
 refine Zb func54 rfl rfl rfl λ u R=>?_
 simp only[Zc,kA]
 repeat' (first|refine zW ?_|intro _)
 refine lpG (Nat×Value×(List Value)) [2,7,8] (λ z=>[(9,.int .i64 z.1),(3,z.2.1)]) (λ z=>ρ) (λ z=>[Zq z.2.1 ((Xc l z.1).map Zk) z.2.2 5]) (λ z=>z.1<=2/\OwnS z.2.1 (Xc l z.1).length ((Xc l z.1).map Zk) z.2.2 1) (λ z=>2-z.1) (0,.slice none 0 0,[]) ⟨by decide,OwnS.nil 1⟩ ?_
 rintro⟨i,v,sp⟩ hI
 try simp only[kB] at hI ⊢
 try dsimp only at hI ⊢
 obtain⟨hi,hown⟩:=hI
 by_cases hlt:i<2
 ·obtain⟨b,off,C,T,fr,rfl,hb,hc⟩:=h.get (show i<l.length by omega)
  have hxl:=hx _ (aM (show i<l.length by omega))
  have hns:Xc l (i+1)=Xc l i++be (8-4*i) (l[i]'(by omega)):=by
   show Xc l i++be (8-4*i) (l.getD i 0)=_
   rw[show l.getD i 0=l[i]'(by omega) from by simp[List.getD,List.getElem?_eq_getElem (show i<l.length by omega)]]
  have hli:=hlen i hi
  generalize l[i]'(by omega)=xi at *
  generalize hW:8-4*i=W at *
  have hWi:(8-4*(i:Int)-1)=(W:Int)-1:=by omega
  repeat' (first|refine zW ?_|intro _)
  rw[hWi,show (Xc l i).map Zk=(Xc l i++(be W xi).take 0).map Zk from by simp]
  refine lpG (Nat×Int×Value×(List Value)) [2,4,5,7,8,9,10,11,12,13,14,15,16,17] (λ z=>[(6,.int .i64 z.2.1),(3,z.2.2.1)]) (λ z=>ρ) (λ z=>[Zq z.2.2.1 ((Xc l i++(be W xi).take z.1).map Zk) z.2.2.2 5]) (λ z=>z.1<=W/\z.2.1=(W:Int)-1-(z.1:Int)/\OwnS z.2.2.1 (Xc l i++(be W xi).take z.1).length ((Xc l i++(be W xi).take z.1).map Zk) z.2.2.2 1) (λ z=>W-z.1) ((0,(W:Int)-1,_,_)) ⟨aZ _,by dsimp only;omega,by simpa using hown⟩ ?_
  rintro⟨j,kx,v2,sp2⟩ hI
  try simp only[kB] at hI ⊢
  try dsimp only at hI ⊢
  obtain⟨hj,hkx,ho⟩:=hI
  subst hkx
  by_cases hlj:j<W
  ·have hsh:=shr_byteR xi (W-1-j)
   have hts:=Vn W xi j hlj
   have hmin:min (8*((W:Int)-1-(j:Int))).toNat 64=8*(W-1-j):=by omega
   have hlj2:((be W xi).take j).length=j:=by simp[Zd];omega
   repeat' (first|(refine Zg rfl rfl rfl rfl (by simp) rfl rfl (λ _=>?_);simp only[hmin,hsh])|(refine Vd (ys:=[UInt8.ofNat (xi / 256 ^ (W-1-j))]) (m:=1) rfl rfl ho (hR:=by infer_instance) SrcV.lit rfl (by simp[Zd];omega) rfl (λ v3 sp3 ho3=>?_))|refine zW ?_|intro _)
   have hmm:Xc l i++(be W xi).take j++[UInt8.ofNat (xi / 256 ^ (W-1-j))]=Xc l i++(be W xi).take (j+1):=by rw[hts,aA]
   rw[hmm] at ho3 ⊢
   refine rnG (j+1,(W:Int)-1-(j:Int)-1,v3,sp3) (⟨hlj,by dsimp only;omega,ho3⟩)
  ·have hjW:j=W:=by omega
   have hte:Xc l i++(be W xi).take j=Xc l (i+1):=by rw[hns,aT (by simp[Zd];omega)]
   rw[hte] at ho ⊢
   repeat' (first|refine zW ?_|intro _)
   refine rnG (i+1,v2,sp2) (⟨hlt,ho⟩)
 ·have hi2:i=2:=by omega
  subst hi2
  repeat' (first|refine zW ?_|intro _)
  exact qE ⟨rfl,sp,by simpa [hlen 2 (aR _)] using hown,rfl⟩
def notedS (S:LgS)(b:Bs):LgS×Bool:=
 if b.length=0 then (S,true) else if b.length=12 then ({ S with ma:=ZV (b.take 8),nx:=(ZV (b.drop 8):Nat) },decide (1<=ZV (b.drop 8)/\ZV (b.drop 8)<=1073741824)) else (S,false)
theorem noted_spec (ρ:Hp)(lb rb:Nat)(S:LgS)(v:Value)(a:Option Addr)(n c:Nat)(b:Bs)(h:SIn ρ Zk a n b)(hc:n<=c) :
  Spec prog 62 [.pointer (some ⟨lb,0,none⟩),.slice a n c] ρ [ZU lb rb S v] (λ z ρ' L'=>z=.bool (notedS S b).2/\ρ'=ρ/\L'=[ZU lb rb (notedS S b).1 v]):=by
 have hl:=h.len
 refine Zb func62 rfl rfl rfl λ u R=>?_
 simp only[Zc,kA,ZU]
 by_cases h0:n=0
 ·have e:notedS S b=(S,true):=if_pos (by omega)
  rw[e]
  have hd:((n:Int) == 0)=true:=by rw[h0];rfl
  repeat' (first|refine zW ?_|intro _)
  exact qE ⟨rfl,rfl,rfl⟩
 have hd:((n:Int) == 0)=false:=by simp;omega
 by_cases h12:n=12
 ·have hd2:((n:Int) == 12)=true:=by rw[h12];rfl
  have e:notedS S b=({ S with ma:=ZV (b.take 8),nx:=(ZV (b.drop 8):Nat) },decide (1<=ZV (b.drop 8)/\ZV (b.drop 8)<=1073741824)):=by
   unfold notedS;rw[if_neg (by omega),if_pos (by omega)]
  rw[e]
  have h8:=h.take (show 8<=n by omega)
  have h4:=h.sub (show 8<=n by omega) (aR n) hc
  rw[aT (by simp;omega)] at h4
  have hub:ZV (b.drop 8)<4294967296:=by
   have:=Xy (b.drop 8);simpa [show b.length=12 by omega] using this
  subst h12
  repeat' (first|(refine Za (.func 122) ?_;refine qR rfl rfl (lnumber_spec _ _ _ _ _ h8 (by decide)) ?_;try simp only[kA])|(refine Za (.func 122) ?_;refine qR rfl rfl (lnumber_spec _ _ _ _ _ h4 (by decide)) ?_;try simp only[kA])|refine zW ?_|(refine zG (λ hb=>?_) (λ hb=>?_)<;>(try simp only[kH] at hb))|intro _)
  all_goals (refine qF (L':=[ZU lb rb { S with ma:=ZV (b.take 8),nx:=(ZV (b.drop 8):Nat) } v]) ?_;exact⟨YK (by (try simp[*]);first|done|omega|(intros;omega)|(constructor<;>intros<;>(try simp_all)<;>omega)),rfl,rfl⟩)
 ·have hd2:((n:Int) == 12)=false:=by simp;omega
  have e:notedS S b=(S,false):=by unfold notedS;rw[if_neg (by omega),if_neg (by omega)]
  rw[e]
  repeat' (first|refine zW ?_|intro _)
  exact qE ⟨rfl,rfl,rfl⟩
theorem usedR_filter (p:RR->Bool)(l:List RR):ZI (l.filter p)<=ZI l:=by
 induction l with
 | nil=>exact aR _
 | cons x r ih=>
  rw[List.filter_cons]
  split
  ·simp only[ZI,List.map_cons,List.sum_cons] at ih ⊢;omega
  ·simp only[ZI,List.map_cons,List.sum_cons] at ih ⊢;omega
theorem usedR_take_succ (l:List RR)(i:Nat)(h:i<l.length):ZI (l.take i)+Xh (l[i]).2=ZI (l.take (i+1)):=by
 rw[aG h,usedR_add];simp[ZI]
theorem usedR_take_le (l:List RR)(i:Nat):ZI (l.take i)<=ZI l:=by
 have:=usedR_add (l.take i) (l.drop i)
 rw[List.take_append_drop] at this;omega
def LgS.cutTo (S:LgS)(R:RgS)(fr ma nx:Nat)(l:List RR):LgS:=⟨R,fr,S.fl,ma,(nx:Int),l⟩
def LgS.trunc (S:LgS)(fr ma nx:Nat)(D:DS):LgS×DS×Int:=
 let c:=S.R.cut ((fr-S.base:Nat):Int) (Xc [ma,nx] 2) D
 if c.2.2=0 then (S.cutTo c.1 fr ma nx (ZS S fr),c.2.1,0) else ({ S with R:=c.1 },c.2.1,c.2.2)
theorem u32_spec (ρ:Hp)(br:Nat)(a:Option Addr)(n c:Nat)(l:List UInt8)(h:SIn ρ Zk a n l)(hc:n<=c)(st:Int) :
  Spec prog 126 [.pointer (some ⟨br,0,none⟩)] ρ [rdC br a n c st]
   (λ v ρ' L'=>v=.int .u32 ((Yd 4 l st).1:Nat)/\ρ'=ρ/\∃a' n' c',SIn ρ Zk a' n' (Yd 4 l st).2.1/\n'<=c'/\L'=[rdC br a' n' c' (Yd 4 l st).2.2]):=by
 have hb:=Wi 4 l st
 have hn:=number_spec ρ br a n c l h hc st 4 (by omega)
 generalize Yd 4 l st=r at *
 refine Zb func126 rfl rfl rfl λ u R=>?_
 simp only[Zc,kA]
 repeat' (first|(refine Za (.func 187) ?_;refine qC rfl rfl (hn) ?_;rintro v ρ' L' hle ⟨rfl,rfl,a',n',c',hs',hc',rfl⟩<;>(try simp only[kA]))|refine zV ?_|intro _)
 exact qE ⟨rfl,rfl,a',n',c',hs',hc',rfl⟩
abbrev reC (tb br:Nat)(ra:Option Addr)(rn rc:Nat)(v:RV)(r:Rc)(bad:Bool):List (Nat×Obj):=[(tb,.cells ⟨[.pointer (some ⟨br,0,none⟩),.slice ra rn rc,.int .i64 r.kind,.int .u64 r.lsn,.int .i64 r.txn,.int .u64 r.prev,.int .u64 r.next,.slice v.i.a v.i.n v.i.c,.slice v.s.a v.s.n v.s.c,.int .i64 r.nextTxn,.slice v.t.a v.t.n v.t.c,.slice v.d.a v.d.n v.d.c,.bool bad]⟩ 209 (0,0))]
structure RdAt (ρ:Hp)(a:Option Addr)(n c:Nat)(ra:Option Addr)(rn rc:Nat)(R:List UInt8)(s:Yg):Prop where
 at':SIn ρ Zk a n s.1
 cap:n<=c
 rest:SIn ρ Zk ra rn R
 rcap:rn<=rc
 big:rn<=1000000
 suf:∃X,R=X++s.1
theorem RdAt.mono {ρ ρ' a n c ra rn rc R s}(h:RdAt ρ a n c ra rn rc R s)(hle:ρ.le ρ'):RdAt ρ' a n c ra rn rc R s:=⟨h.at'.mono hle,h.cap,h.rest.mono hle,h.rcap,h.big,h.suf⟩
theorem numR_suf (k:Nat)(l:List UInt8)(st:Int):∃X,l=X++(Yd k l st).2.1:=by
 unfold Yd
 split
 ·exact⟨[],rfl⟩
 ·split
  ·exact⟨[],rfl⟩
  ·exact⟨l.take k,(List.take_append_drop k l).symm⟩
theorem rawR_suf (k:Nat)(l:List UInt8)(st:Int):∃X,l=X++(Va k l st).2.1:=by
 unfold Va
 split
 ·exact⟨[],rfl⟩
 ·split
  ·exact⟨[],rfl⟩
  ·exact⟨l.take k,(List.take_append_drop k l).symm⟩
theorem RdAt.num {ρ a n c ra rn rc R s}(h:RdAt ρ a n c ra rn rc R s)(k:Nat){a' n' c'}(h1:SIn ρ Zk a' n' (Yd k s.1 s.2.1).2.1)(h2:n'<=c'):RdAt ρ a' n' c' ra rn rc R (Zy k s).2:=by
 obtain⟨X,hX⟩:=h.suf
 obtain⟨Y,hY⟩:=numR_suf k s.1 s.2.1
 exact⟨h1,h2,h.rest,h.rcap,h.big,X++Y,by rw[aA,hX];exact congrArg (X++·) hY⟩
theorem RdAt.skip {ρ a n c ra rn rc R s}(h:RdAt ρ a n c ra rn rc R s)(k:Int){a' n' c'}(h1:SIn ρ Zk a' n' (Va k.toNat s.1 s.2.1).2.1)(h2:n'<=c'):RdAt ρ a' n' c' ra rn rc R (skipS k s):=by
 obtain⟨X,hX⟩:=h.suf
 obtain⟨Y,hY⟩:=rawR_suf k.toNat s.1 s.2.1
 exact⟨h1,h2,h.rest,h.rcap,h.big,X++Y,by rw[aA,hX];exact congrArg (X++·) hY⟩
abbrev rdL (tb br:Nat)(a:Option Addr)(n c:Nat)(ra:Option Addr)(rn rc:Nat)(v:RV)(r:Rc)(s:Yg):SH:=[reC tb br ra rn rc v r s.2.2,rdC br a n c s.2.1]
theorem n8_spec (ρ:Hp)(br:Nat){a n c ra rn rc R}{s:Yg}(h:RdAt ρ a n c ra rn rc R s):Spec prog 124 [.pointer (some ⟨br,0,none⟩)] ρ [rdC br a n c s.2.1]
  (λ v ρ' L'=>v=.int .u8 ((Zy 1 s).1:Nat)/\ρ'=ρ/\∃a' n' c',RdAt ρ a' n' c' ra rn rc R (Zy 1 s).2/\L'=[rdC br a' n' c' (Zy 1 s).2.2.1]):=by
 refine (u8_spec ρ br a n c s.1 h.at' h.cap s.2.1).mono ?_
 rintro v ρ' L' _ ⟨h1,h2,a',n',c',h3,h4,h5⟩
 exact⟨h1,h2,a',n',c',h.num 1 h3 h4,h5⟩
theorem n16_spec (ρ:Hp)(br:Nat){a n c ra rn rc R}{s:Yg}(h:RdAt ρ a n c ra rn rc R s):Spec prog 196 [.pointer (some ⟨br,0,none⟩)] ρ [rdC br a n c s.2.1]
  (λ v ρ' L'=>v=.int .u16 ((Zy 2 s).1:Nat)/\ρ'=ρ/\∃a' n' c',RdAt ρ a' n' c' ra rn rc R (Zy 2 s).2/\L'=[rdC br a' n' c' (Zy 2 s).2.2.1]):=by
 refine (u16_spec ρ br a n c s.1 h.at' h.cap s.2.1).mono ?_
 rintro v ρ' L' _ ⟨h1,h2,a',n',c',h3,h4,h5⟩
 exact⟨h1,h2,a',n',c',h.num 2 h3 h4,h5⟩
theorem n32_spec (ρ:Hp)(br:Nat){a n c ra rn rc R}{s:Yg}(h:RdAt ρ a n c ra rn rc R s):Spec prog 126 [.pointer (some ⟨br,0,none⟩)] ρ [rdC br a n c s.2.1]
  (λ v ρ' L'=>v=.int .u32 ((Zy 4 s).1:Nat)/\ρ'=ρ/\∃a' n' c',RdAt ρ a' n' c' ra rn rc R (Zy 4 s).2/\L'=[rdC br a' n' c' (Zy 4 s).2.2.1]):=by
 refine (u32_spec ρ br a n c s.1 h.at' h.cap s.2.1).mono ?_
 rintro v ρ' L' _ ⟨h1,h2,a',n',c',h3,h4,h5⟩
 exact⟨h1,h2,a',n',c',h.num 4 h3 h4,h5⟩
theorem n64_spec (ρ:Hp)(br:Nat){a n c ra rn rc R}{s:Yg}(h:RdAt ρ a n c ra rn rc R s):Spec prog 125 [.pointer (some ⟨br,0,none⟩)] ρ [rdC br a n c s.2.1]
  (λ v ρ' L'=>v=.int .u64 ((Zy 8 s).1:Nat)/\ρ'=ρ/\∃a' n' c',RdAt ρ a' n' c' ra rn rc R (Zy 8 s).2/\L'=[rdC br a' n' c' (Zy 8 s).2.2.1]):=by
 refine (u64_spec ρ br a n c s.1 h.at' h.cap s.2.1).mono ?_
 rintro v ρ' L' _ ⟨h1,h2,a',n',c',h3,h4,h5⟩
 exact⟨h1,h2,a',n',c',h.num 8 h3 h4,h5⟩
theorem Wj (k:Nat)(s:Yg):(Zy k s).1<256 ^ k:=Wi k s.1 s.2.1
theorem rdN_bad (k:Nat)(s:Yg):(Zy k s).2.2.2=s.2.2:=rfl
theorem rok_spec (ρ:Hp)(tb br:Nat)(a:Option Addr)(n c:Nat)(ra:Option Addr)(rn rc:Nat)(v:RV)(r:Rc)(s:Yg):Spec prog 132 [.pointer (some ⟨tb,0,none⟩)] ρ (rdL tb br a n c ra rn rc v r s)
  (λ z ρ' L'=>z=.bool (okS s)/\ρ'=ρ/\L'=rdL tb br a n c ra rn rc v r s):=by
 obtain⟨l,st,bad⟩:=s
 unfold okS rdL
 refine Zb func132 rfl rfl rfl λ u R=>?_
 simp only[Zc,kA]
 cases bad
 ·repeat' (first|(refine Za (.func 201) ?_;refine qR rfl rfl (XF _ br a n c st) ?_;try simp only[kA])|refine zV ?_|intro _)
  refine qF (L':=[reC tb br ra rn rc v r false,rdC br a n c st]) ?_
  exact⟨YK (by (try simp[*]);first|done|omega|(intros;omega)|(constructor<;>intros<;>(try simp_all)<;>omega)),rfl,rfl⟩
 ·repeat' (first|refine zV ?_|intro _)
  exact qE ⟨rfl,rfl,rfl⟩
theorem tkT_fst_bad {α:Type}{t:List UInt8->α×Int×Int}{z:α}{s:Yg}(h:okS s=false):tkT t z s=(z,s):=by unfold tkT;rw[h];rfl
theorem tkT_err {α:Type}{t:List UInt8->α×Int×Int}{z:α}{s:Yg}(h:okS s=true)(he:(t s.1).2.2≠0):tkT t z s=(z,s.1,s.2.1,true):=by unfold tkT;rw[h,if_pos rfl,if_neg he]
theorem tkT_ok {α:Type}{t:List UInt8->α×Int×Int}{z:α}{s:Yg}(h:okS s=true)(he:(t s.1).2.2=0):tkT t z s=((t s.1).1,skipS (t s.1).2.1 s):=by unfold tkT;rw[h,if_pos rfl,if_pos he]
theorem RdAt.flag {ρ a n c ra rn rc R l st b}(h:RdAt ρ a n c ra rn rc R (l,st,b))(b':Bool):RdAt ρ a n c ra rn rc R (l,st,b'):=⟨h.at',h.cap,h.rest,h.rcap,h.big,h.suf⟩
theorem rtakenC_spec (ρ:Hp)(tb br:Nat)(v:RV)(r:Rc)(s:Yg){a n c ra rn rc Rs}(h:RdAt ρ a n c ra rn rc Rs s) :
  Spec prog 190 [.pointer (some ⟨tb,0,none⟩),.func (.func 191) ⟨[]⟩ ⟨[]⟩] ρ (rdL tb br a n c ra rn rc v r s)
   (λ z ρ' L'=>ρ.le ρ'/\∃cv a' n' c',z=.agg ⟨XI (tkT Zm ztC s).1.kind cv⟩/\CI ρ' cv (tkT Zm ztC s).1/\RdAt ρ' a' n' c' ra rn rc Rs (tkT Zm ztC s).2/\L'=rdL tb br a' n' c' ra rn rc v r (tkT Zm ztC s).2):=by
 have hok:=rok_spec ρ tb br a n c ra rn rc v r s
 have hsl:=h.at'.len
 have hrl:=h.rest.len
 have hrb:=h.big
 have hrc:=h.rcap
 have hcap:=h.cap
 obtain⟨X,hX⟩:=h.suf
 have hXl:=congrArg List.length hX
 rw[aL] at hXl
 refine Zb func190 rfl rfl rfl λ u R=>?_
 simp only[Zc,kA]
 cases ho:okS s
 ·rw[ho] at hok
  rw[tkT_fst_bad ho]
  repeat' (first|(refine Za (.func 132) ?_;refine qR rfl rfl (hok) ?_;try simp only[kA])|refine zV ?_|intro _)
  exact qE ⟨Hp.le_refl _,Xo,a,n,c,rfl,CI.nil,h,rfl⟩
 ·rw[ho] at hok
  obtain⟨l,st,bad⟩:=s
  have h2:=okS_iff ho
  simp only[Prod.mk.injEq] at h2
  obtain⟨rfl,rfl⟩:=h2
  dsimp only at hsl hX hXl
  have hlo:((rn:Int)-(n:Int)).toNat=rn-n:=by omega
  have hsub:=h.rest.sub (lo':=((rn:Int)-(n:Int)).toNat) (hi':=rn) (by omega) (aR _) (cap:=rc) hrc
  have hdl:(List.drop ((rn:Int)-(n:Int)).toNat Rs).take (rn-((rn:Int)-(n:Int)).toNat)=l:=by
   rw[hlo,hX,show rn-n=X.length by omega,List.drop_left' rfl,aT (by omega)]
  rw[hdl] at hsub
  have htc:=takeCont_spec ρ _ _ (rc-((rn:Int)-(n:Int)).toNat) l hsub (by omega)
  by_cases he:(Zm l).2.2=0
  ·obtain⟨m,e1,hm,g1,g2,g3⟩:=Vk he
   have hraw:=λ ρ (h:SIn ρ Zk a n l)=>raw_spec ρ br a n c l h hcap 0 m (by omega)
   have hskip:=λ {ρ a' n' c'} (h:RdAt ρ a n c ra rn rc Rs (l,0,false)) (h1:SIn ρ Zk a' n' (Va m l 0).2.1) (h2:n'<=c')=>h.skip (m:Int) (by simpa using h1) h2
   rw[tkT_ok ho he]
   dsimp only
   rw[e1] at htc ⊢
   rw[he] at htc
   unfold skipS at hskip ⊢
   simp only[Int.toNat_natCast] at hskip ⊢
   generalize (Zm l).1=x at *
   generalize Va m l 0=q at *
   repeat' (first|(refine Za (.func 132) ?_;refine qR rfl rfl (hok) ?_;try simp only[kA])|refine zV ?_|intro _)
   refine tpZ [0,1,2,3,4,5,6,7,8,9,10,11,12,13] (.b 14 22 [15,16] [] (.b 17 22 [18,19,20,21] [] (.e 22 [] (.e 23 [] (.f [24,25] .o))) (.e 17 [18,19,20,21] (.e 23 [] (.f [24,25] .o)))) (.e 14 [15,16] (.e 17 [18,19,20,21] (.e 23 [] (.f [24,25] .o))))) ?_
   repeat' (refine iT ?_;first|refine rA ?_|((first|(refine iE ?_;refine rE ?_)|(refine iB ?_;refine rB ?_ ?_))<;>((first|(refine Za (.func 133) ?_;refine qR rfl rfl (Vg _ br a n c 0) ?_;try simp only[kA])|(refine Za (.tmp 14) ?_;refine qC rfl rfl (htc) ?_;rintro v ρ' L' hle ⟨hle1,w,rfl,hC,rfl⟩<;>(try simp only[kA]))|(refine qEf ?_;try intro _))<;>(try simp only[kA])<;>refine zN ?_)))
   all_goals (repeat' (first|(refine Za (.func 240) ?_;refine qC rfl rfl (hraw _ (h.at'.mono (by assumption))) ?_;rintro v ρ' L' hle ⟨hle2,va,vn,vc,a',n',c',rfl,hvc,hs1,hs2,hc',rfl⟩<;>(try simp only[kA]))|refine zV ?_|intro _))
   all_goals exact qE ⟨Hp.le_trans hle1 hle2,w,a',n',c',rfl,⟨hC.mono hle2,g3.row,λ k hk=>(g3.kid k hk).id⟩,hskip (h.mono (Hp.le_trans hle1 hle2)) hs2 hc',rfl⟩
  ·rw[tkT_err ho he]
   obtain⟨f1,f2⟩:=takeCont_bad he
   rw[f1,f2] at htc
   dsimp only
   generalize (Zm l).2.2=e at *
   repeat' (first|(refine Za (.func 132) ?_;refine qR rfl rfl (hok) ?_;try simp only[kA])|refine zV ?_|intro _)
   refine tpZ [0,1,2,3,4,5,6,7,8,9,10,11,12,13] (.b 14 22 [15,16] [] (.b 17 22 [18,19,20,21] [] (.e 22 [] (.e 23 [] (.f [24,25] .o))) (.e 17 [18,19,20,21] (.e 23 [] (.f [24,25] .o)))) (.e 14 [15,16] (.e 17 [18,19,20,21] (.e 23 [] (.f [24,25] .o))))) ?_
   repeat' (refine iT ?_;first|refine rA ?_|((first|(refine iE ?_;refine rE ?_)|(refine iB ?_;refine rB ?_ ?_))<;>((first|(refine Za (.func 133) ?_;refine qR rfl rfl (Vg _ br a n c 0) ?_;try simp only[kA])|(refine Za (.tmp 14) ?_;refine qC rfl rfl (htc) ?_;rintro v ρ' L' hle ⟨hle1,w,rfl,hC,rfl⟩<;>(try simp only[kA]))|(refine qEf ?_;try intro _))<;>(try simp only[kA])<;>refine zN ?_)))
   all_goals (repeat' (first|refine zV ?_|intro _))
   all_goals exact qE ⟨hle1,Xo,a,n,c,rfl,CI.nil,(h.mono hle1).flag true,rfl⟩
theorem rowFit_z:Ys ztR:=⟨by decide,by decide⟩
theorem takeRow_bad {l:List UInt8}(h:(ZY l).2.2≠0):(ZY l).1=ztR/\(ZY l).2.1=0:=by
 unfold ZY at h ⊢
 dsimp only at h ⊢
 generalize Wt l 0 false=r at *
 obtain⟨x,l2,st2,b2⟩:=r
 dsimp only at h ⊢
 unfold Wl at h
 unfold Vy
 cases b2
 ·simp only[aB,if_false] at h ⊢
  simp[h]
 ·simp
theorem rtakenR_spec (ρ:Hp)(tb br:Nat)(v:RV)(r:Rc)(s:Yg){a n c ra rn rc Rs}(h:RdAt ρ a n c ra rn rc Rs s) :
  Spec prog 194 [.pointer (some ⟨tb,0,none⟩),.func (.func 195) ⟨[]⟩ ⟨[]⟩] ρ (rdL tb br a n c ra rn rc v r s)
   (λ z ρ' L'=>ρ.le ρ'/\Ys (tkT ZY ztR s).1/\∃a' n' c',z=.agg ⟨Ym (tkT ZY ztR s).1⟩/\RdAt ρ' a' n' c' ra rn rc Rs (tkT ZY ztR s).2/\L'=rdL tb br a' n' c' ra rn rc v r (tkT ZY ztR s).2):=by
 have hok:=rok_spec ρ tb br a n c ra rn rc v r s
 have hsl:=h.at'.len
 have hrl:=h.rest.len
 have hrb:=h.big
 have hrc:=h.rcap
 have hcap:=h.cap
 obtain⟨X,hX⟩:=h.suf
 have hXl:=congrArg List.length hX
 rw[aL] at hXl
 refine Zb func194 rfl rfl rfl λ u R=>?_
 simp only[Zc,kA]
 cases ho:okS s
 ·rw[ho] at hok
  rw[tkT_fst_bad ho]
  repeat' (first|(refine Za (.func 132) ?_;refine qR rfl rfl (hok) ?_;try simp only[kA])|refine zV ?_|intro _)
  exact qE ⟨Hp.le_refl _,rowFit_z,a,n,c,rfl,h,rfl⟩
 ·rw[ho] at hok
  obtain⟨l,st,bad⟩:=s
  have h2:=okS_iff ho
  simp only[Prod.mk.injEq] at h2
  obtain⟨rfl,rfl⟩:=h2
  dsimp only at hsl hX hXl
  have hlo:((rn:Int)-(n:Int)).toNat=rn-n:=by omega
  have hsub:=h.rest.sub (lo':=((rn:Int)-(n:Int)).toNat) (hi':=rn) (by omega) (aR _) (cap:=rc) hrc
  have hdl:(List.drop ((rn:Int)-(n:Int)).toNat Rs).take (rn-((rn:Int)-(n:Int)).toNat)=l:=by
   rw[hlo,hX,show rn-n=X.length by omega,List.drop_left' rfl,aT (by omega)]
  rw[hdl] at hsub
  have htc:=takeRow_spec ρ _ _ (rc-((rn:Int)-(n:Int)).toNat) l hsub (by omega)
  by_cases he:(ZY l).2.2=0
  ·obtain⟨m,e1,hm,g1,g2,g3⟩:=takeRow_ok he
   have hraw:=λ ρ (h:SIn ρ Zk a n l)=>raw_spec ρ br a n c l h hcap 0 m (by omega)
   have hskip:=λ {ρ a' n' c'} (h:RdAt ρ a n c ra rn rc Rs (l,0,false)) (h1:SIn ρ Zk a' n' (Va m l 0).2.1) (h2:n'<=c')=>h.skip (m:Int) (by simpa using h1) h2
   rw[tkT_ok ho he]
   dsimp only
   rw[e1] at htc ⊢
   rw[he] at htc
   unfold skipS at hskip ⊢
   simp only[Int.toNat_natCast] at hskip ⊢
   generalize (ZY l).1=x at *
   generalize Va m l 0=q at *
   repeat' (first|(refine Za (.func 132) ?_;refine qR rfl rfl (hok) ?_;try simp only[kA])|refine zV ?_|intro _)
   refine tpZ [0,1,2,3,4,5,6,7,8,9,10,11,12,13] (.b 14 22 [15,16] [] (.b 17 22 [18,19,20,21] [] (.e 22 [] (.e 23 [] (.f [24,25] .o))) (.e 17 [18,19,20,21] (.e 23 [] (.f [24,25] .o)))) (.e 14 [15,16] (.e 17 [18,19,20,21] (.e 23 [] (.f [24,25] .o))))) ?_
   repeat' (refine iT ?_;first|refine rA ?_|((first|(refine iE ?_;refine rE ?_)|(refine iB ?_;refine rB ?_ ?_))<;>((first|(refine Za (.func 133) ?_;refine qR rfl rfl (Vg _ br a n c 0) ?_;try simp only[kA])|(refine Za (.tmp 14) ?_;refine qC rfl rfl (htc) ?_;rintro v ρ' L' hle ⟨rfl,hle1,rfl⟩<;>(try simp only[kA]))|(refine qEf ?_;try intro _))<;>(try simp only[kA])<;>refine zN ?_)))
   all_goals (repeat' (first|(refine Za (.func 240) ?_;refine qC rfl rfl (hraw _ (h.at'.mono (by assumption))) ?_;rintro v ρ' L' hle ⟨hle2,va,vn,vc,a',n',c',rfl,hvc,hs1,hs2,hc',rfl⟩<;>(try simp only[kA]))|refine zV ?_|intro _))
   all_goals exact qE ⟨Hp.le_trans hle1 hle2,g3,a',n',c',rfl,hskip (h.mono (Hp.le_trans hle1 hle2)) hs2 hc',rfl⟩
  ·rw[tkT_err ho he]
   obtain⟨f1,f2⟩:=takeRow_bad he
   rw[f1,f2] at htc
   dsimp only
   generalize (ZY l).2.2=e at *
   repeat' (first|(refine Za (.func 132) ?_;refine qR rfl rfl (hok) ?_;try simp only[kA])|refine zV ?_|intro _)
   refine tpZ [0,1,2,3,4,5,6,7,8,9,10,11,12,13] (.b 14 22 [15,16] [] (.b 17 22 [18,19,20,21] [] (.e 22 [] (.e 23 [] (.f [24,25] .o))) (.e 17 [18,19,20,21] (.e 23 [] (.f [24,25] .o)))) (.e 14 [15,16] (.e 17 [18,19,20,21] (.e 23 [] (.f [24,25] .o))))) ?_
   repeat' (refine iT ?_;first|refine rA ?_|((first|(refine iE ?_;refine rE ?_)|(refine iB ?_;refine rB ?_ ?_))<;>((first|(refine Za (.func 133) ?_;refine qR rfl rfl (Vg _ br a n c 0) ?_;try simp only[kA])|(refine Za (.tmp 14) ?_;refine qC rfl rfl (htc) ?_;rintro v ρ' L' hle ⟨rfl,hle1,rfl⟩<;>(try simp only[kA]))|(refine qEf ?_;try intro _))<;>(try simp only[kA])<;>refine zN ?_)))
   all_goals (repeat' (first|refine zV ?_|intro _))
   all_goals exact qE ⟨hle1,rowFit_z,a,n,c,rfl,(h.mono hle1).flag true,rfl⟩
abbrev cbC (cb tb:Nat):List (Nat×Obj):=[(cb,.cells ⟨[.pointer (some ⟨tb,0,none⟩)]⟩ 205 (0,0))]
theorem rchange1_spec (ρ:Hp)(tb br cb:Nat)(v:RV)(r:Rc)(s:Yg){a n c ra rn rc Rs}(h:RdAt ρ a n c ra rn rc Rs s) :
  Spec prog 189 [.pointer (some ⟨cb,0,none⟩)] ρ (cbC cb tb::rdL tb br a n c ra rn rc v r s)
   (λ z ρ' L'=>ρ.le ρ'/\∃x a' n' c',z=.agg ⟨imV x⟩/\Im.In ρ' x/\x.plain=(imD (decide (r.kind=2)) s).1/\RdAt ρ' a' n' c' ra rn rc Rs (imD (decide (r.kind=2)) s).2/\L'=cbC cb tb::rdL tb br a' n' c' ra rn rc v r (imD (decide (r.kind=2)) s).2):=by
 have h8:=n8_spec ρ br h
 have hlt:=Wj 1 s
 unfold imD
 rw[show rdL tb br a n c ra rn rc v r s=[reC tb br ra rn rc v r (Zy 1 s).2.2.2,rdC br a n c s.2.1] from rfl]
 generalize Zy 1 s=p at *
 obtain⟨x1,s1⟩:=p
 dsimp only at h8 hlt ⊢
 unfold imDa imDb
 have hC:=λ ρ a n c (h:RdAt ρ a n c ra rn rc Rs s1)=>rtakenC_spec ρ tb br v r s1 h
 refine Zb func189 rfl rfl rfl λ u R=>?_
 simp only[Zc,kA]
 by_cases h2:r.kind=2
 ·simp only[decide_eq_true h2,if_true]
  generalize tkT Zm ztC s1=q1 at *
  obtain⟨b,s2⟩:=q1
  dsimp only at hC ⊢
  have hC2:=λ ρ a n c (h:RdAt ρ a n c ra rn rc Rs s2)=>rtakenC_spec ρ tb br v r s2 h
  generalize tkT Zm ztC s2=q2 at *
  obtain⟨ca,s3⟩:=q2
  dsimp only at hC2 ⊢
  repeat' (first|(refine Za (.func 124) ?_;refine qC rfl rfl (h8) ?_;rintro v ρ' L' hle ⟨rfl,rfl,a1,n1,c1,h1,rfl⟩<;>(try simp only[kA]))|(refine Za (.func 190) ?_;refine qC rfl rfl (hC _ _ _ _ h1) ?_;rintro v ρ' L' hle ⟨hl2,w2,a2,n2,c2,rfl,hw2,g2,rfl⟩<;>(try simp only[kA]))|(refine Za (.func 190) ?_;refine qC rfl rfl (hC2 _ _ _ _ g2) ?_;rintro v ρ' L' hle ⟨hl3,w3,a3,n3,c3,rfl,hw3,g3,rfl⟩<;>(try simp only[kA]))|refine zV ?_|intro _)
  exact qE ⟨Hp.le_trans hl2 hl3,⟨x1,w2,b,w3,ca⟩,a3,n3,c3,rfl,⟨hw2.mono hl3,hw3⟩,rfl,g3,rfl⟩
 ·simp only[decide_eq_false h2,aB,if_false]
  generalize tkT Zm ztC s1=q1 at *
  obtain⟨ca,s2⟩:=q1
  dsimp only at hC ⊢
  repeat' (first|(refine Za (.func 124) ?_;refine qC rfl rfl (h8) ?_;rintro v ρ' L' hle ⟨rfl,rfl,a1,n1,c1,h1,rfl⟩<;>(try simp only[kA]))|(refine Za (.func 190) ?_;refine qC rfl rfl (hC _ _ _ _ h1) ?_;rintro v ρ' L' hle ⟨hl2,w2,a2,n2,c2,rfl,hw2,g2,rfl⟩<;>(try simp only[kA]))|refine zV ?_|intro _)
  exact qE ⟨hl2,⟨x1,Xo,ztC,w2,ca⟩,a2,n2,c2,rfl,⟨CI.nil,hw2⟩,rfl,g2,rfl⟩
theorem rdone1_spec (ρ:Hp)(tb br cb:Nat)(v:RV)(r:Rc)(s:Yg){a n c ra rn rc Rs}(h:RdAt ρ a n c ra rn rc Rs s) :
  Spec prog 193 [.pointer (some ⟨cb,0,none⟩)] ρ (cbC cb tb::rdL tb br a n c ra rn rc v r s)
   (λ z ρ' L'=>ρ.le ρ'/\z=.agg ⟨YJ (Wx s).1⟩/\Ys (Wx s).1.row/\∃a' n' c',RdAt ρ' a' n' c' ra rn rc Rs (Wx s).2/\L'=cbC cb tb::rdL tb br a' n' c' ra rn rc v r (Wx s).2):=by
 have h8:=n8_spec ρ br h
 have hlt:=Wj 1 s
 unfold Wx
 rw[show rdL tb br a n c ra rn rc v r s=[reC tb br ra rn rc v r (Zy 1 s).2.2.2,rdC br a n c s.2.1] from rfl]
 generalize Zy 1 s=p at *
 obtain⟨x1,s1⟩:=p
 dsimp only at h8 hlt ⊢
 refine Zb func193 rfl rfl rfl λ u R=>?_
 simp only[Zc,kA]
 by_cases h23:x1=2\/x1=3
 ·unfold stpDt stpDr
  rw[if_pos h23]
  have hC:=λ ρ a n c (h:RdAt ρ a n c ra rn rc Rs s1)=>rtakenR_spec ρ tb br v r s1 h
  generalize tkT ZY ztR s1=q1 at *
  obtain⟨b,s2⟩:=q1
  dsimp only at hC ⊢
  rcases h23 with e|e
  all_goals (repeat' (first|(refine Za (.func 124) ?_;refine qC rfl rfl (h8) ?_;rintro v ρ' L' hle ⟨rfl,rfl,a1,n1,c1,h1,rfl⟩<;>(try simp only[kA]))|(refine Za (.func 194) ?_;refine qC rfl rfl (hC _ _ _ _ h1) ?_;rintro v ρ' L' hle ⟨hl2,hf,a2,n2,c2,rfl,g2,rfl⟩<;>(try simp only[kA]))|refine zV ?_|intro _))
  all_goals exact qE ⟨hl2,rfl,hf,a2,n2,c2,g2,rfl⟩
 ·unfold stpDt stpDi
  rw[if_neg h23]
  have k8:=λ ρ a n c (h:RdAt ρ a n c ra rn rc Rs s1)=>n8_spec ρ br h
  have hlt1:=Wj 1 s1
  rw[show s1.2.2=(Zy 1 s1).2.2.2 from rfl]
  generalize Zy 1 s1=p1 at *
  obtain⟨x2,s2⟩:=p1
  dsimp only at k8 hlt1 ⊢
  have k16:=λ ρ a n c (h:RdAt ρ a n c ra rn rc Rs s2)=>n16_spec ρ br h
  have hlt2:=Wj 2 s2
  rw[show s2.2.2=(Zy 2 s2).2.2.2 from rfl]
  generalize Zy 2 s2=p2 at *
  obtain⟨x3,s3⟩:=p2
  dsimp only at k16 hlt2 ⊢
  unfold stpDb
  by_cases hx1:x1=1
  ·rw[if_pos hx1]
   have k64:=λ ρ a n c (h:RdAt ρ a n c ra rn rc Rs s3)=>n64_spec ρ br h
   have hlt3:=Wj 8 s3
   rw[show s3.2.2=(Zy 8 s3).2.2.2 from rfl]
   generalize Zy 8 s3=p3 at *
   obtain⟨x4,s4⟩:=p3
   dsimp only at k64 hlt3 ⊢
   repeat' (first|(refine Za (.func 124) ?_;refine qC rfl rfl (h8) ?_;rintro v ρ' L' hle ⟨rfl,rfl,a1,n1,c1,h1,rfl⟩<;>(try simp only[kA]))|(refine Za (.func 124) ?_;refine qC rfl rfl (k8 _ _ _ _ h1) ?_;rintro v ρ' L' hle ⟨rfl,rfl,a2,n2,c2,h2,rfl⟩<;>(try simp only[kA]))|(refine Za (.func 196) ?_;refine qC rfl rfl (k16 _ _ _ _ h2) ?_;rintro v ρ' L' hle ⟨rfl,rfl,a3,n3,c3,h3,rfl⟩<;>(try simp only[kA]))|(refine Za (.func 125) ?_;refine qC rfl rfl (k64 _ _ _ _ h3) ?_;rintro v ρ' L' hle ⟨rfl,rfl,a4,n4,c4,h4,rfl⟩<;>(try simp only[kA]))|refine zV ?_|intro _)
   exact qE ⟨Hp.le_refl _,rfl,⟨by dsimp only;omega,by dsimp only;decide⟩,a4,n4,c4,h4,rfl⟩
  ·rw[if_neg hx1]
   repeat' (first|(refine Za (.func 124) ?_;refine qC rfl rfl (h8) ?_;rintro v ρ' L' hle ⟨rfl,rfl,a1,n1,c1,h1,rfl⟩<;>(try simp only[kA]))|(refine Za (.func 124) ?_;refine qC rfl rfl (k8 _ _ _ _ h1) ?_;rintro v ρ' L' hle ⟨rfl,rfl,a2,n2,c2,h2,rfl⟩<;>(try simp only[kA]))|(refine Za (.func 196) ?_;refine qC rfl rfl (k16 _ _ _ _ h2) ?_;rintro v ρ' L' hle ⟨rfl,rfl,a3,n3,c3,h3,rfl⟩<;>(try simp only[kA]))|refine zV ?_|intro _)
   exact qE ⟨Hp.le_refl _,rfl,⟨by dsimp only;omega,by dsimp only;decide⟩,a3,n3,c3,h3,rfl⟩
theorem rckpt2_spec (ρ:Hp)(tb br cb:Nat)(v:RV)(r:Rc)(s:Yg){a n c ra rn rc Rs}(h:RdAt ρ a n c ra rn rc Rs s) :
  Spec prog 200 [.pointer (some ⟨cb,0,none⟩)] ρ (cbC cb tb::rdL tb br a n c ra rn rc v r s)
   (λ z ρ' L'=>ρ.le ρ'/\z=.agg ⟨YB (ckPD s).1⟩/\True/\∃a' n' c',RdAt ρ' a' n' c' ra rn rc Rs (ckPD s).2/\L'=cbC cb tb::rdL tb br a' n' c' ra rn rc v r (ckPD s).2):=by
 have h8:=n8_spec ρ br h
 have hlt:=Wj 1 s
 unfold ckPD
 rw[show rdL tb br a n c ra rn rc v r s=[reC tb br ra rn rc v r (Zy 1 s).2.2.2,rdC br a n c s.2.1] from rfl]
 generalize Zy 1 s=p at *
 obtain⟨x1,s1⟩:=p
 dsimp only at h8 hlt ⊢
 unfold ckPr
 have k64:=λ ρ a n c (h:RdAt ρ a n c ra rn rc Rs s1)=>n64_spec ρ br h
 have hlt3:=Wj 8 s1
 rw[show s1.2.2=(Zy 8 s1).2.2.2 from rfl]
 generalize Zy 8 s1=p3 at *
 obtain⟨x4,s4⟩:=p3
 dsimp only at k64 hlt3 ⊢
 refine Zb func200 rfl rfl rfl λ u R=>?_
 simp only[Zc,kA]
 repeat' (first|(refine Za (.func 124) ?_;refine qC rfl rfl (h8) ?_;rintro v ρ' L' hle ⟨rfl,rfl,a1,n1,c1,h1,rfl⟩<;>(try simp only[kA]))|(refine Za (.func 125) ?_;refine qC rfl rfl (k64 _ _ _ _ h1) ?_;rintro v ρ' L' hle ⟨rfl,rfl,a4,n4,c4,h4,rfl⟩<;>(try simp only[kA]))|refine zV ?_|intro _)
 exact qE ⟨Hp.le_refl _,rfl,trivial,a4,n4,c4,h4,rfl⟩
theorem rckpt1_spec (ρ:Hp)(tb br cb:Nat)(v:RV)(r:Rc)(s:Yg){a n c ra rn rc Rs}(h:RdAt ρ a n c ra rn rc Rs s) :
  Spec prog 198 [.pointer (some ⟨cb,0,none⟩)] ρ (cbC cb tb::rdL tb br a n c ra rn rc v r s)
   (λ z ρ' L'=>ρ.le ρ'/\z=.agg ⟨Yh (ckTD s).1⟩/\True/\∃a' n' c',RdAt ρ' a' n' c' ra rn rc Rs (ckTD s).2/\L'=cbC cb tb::rdL tb br a' n' c' ra rn rc v r (ckTD s).2):=by
 have h8:=n32_spec ρ br h
 have hlt:=Wj 4 s
 unfold ckTD
 rw[show rdL tb br a n c ra rn rc v r s=[reC tb br ra rn rc v r (Zy 4 s).2.2.2,rdC br a n c s.2.1] from rfl]
 generalize Zy 4 s=p at *
 obtain⟨x1,s1⟩:=p
 dsimp only at h8 hlt ⊢
 unfold ckTf
 have k1:=λ ρ a n c (h:RdAt ρ a n c ra rn rc Rs s1)=>n64_spec ρ br h
 have hlt1:=Wj 8 s1
 rw[show s1.2.2=(Zy 8 s1).2.2.2 from rfl]
 generalize Zy 8 s1=p1 at *
 obtain⟨x2,s2⟩:=p1
 dsimp only at k1 hlt1 ⊢
 unfold ckTl
 have k2:=λ ρ a n c (h:RdAt ρ a n c ra rn rc Rs s2)=>n64_spec ρ br h
 have hlt2:=Wj 8 s2
 rw[show s2.2.2=(Zy 8 s2).2.2.2 from rfl]
 generalize Zy 8 s2=p2 at *
 obtain⟨x3,s3⟩:=p2
 dsimp only at k2 hlt2 ⊢
 unfold ckTu
 have k3:=λ ρ a n c (h:RdAt ρ a n c ra rn rc Rs s3)=>n64_spec ρ br h
 have hlt3:=Wj 8 s3
 rw[show s3.2.2=(Zy 8 s3).2.2.2 from rfl]
 generalize Zy 8 s3=p3 at *
 obtain⟨x4,s4⟩:=p3
 dsimp only at k3 hlt3 ⊢
 unfold ckTe
 have k4:=λ ρ a n c (h:RdAt ρ a n c ra rn rc Rs s4)=>n8_spec ρ br h
 have hlt4:=Wj 1 s4
 rw[show s4.2.2=(Zy 1 s4).2.2.2 from rfl]
 generalize Zy 1 s4=p4 at *
 obtain⟨x5,s5⟩:=p4
 dsimp only at k4 hlt4 ⊢
 refine Zb func198 rfl rfl rfl λ u R=>?_
 simp only[Zc,kA]
 repeat' (first|(refine Za (.func 126) ?_;refine qC rfl rfl (h8) ?_;rintro v ρ' L' hle ⟨rfl,rfl,a1,n1,c1,h1,rfl⟩<;>(try simp only[kA]))|refine zV ?_|intro _)
 refine tpA [0,1,2,3,5,6,7,8,10,11,12,13] (.e 4 [15] (.e 9 [] (.e 14 [] (.e 16 [17] (.e 18 [19] (.e 20 [] .o)))))) ([[(_,.cells ⟨[.pointer (some ⟨tb,0,none⟩)]⟩ 205 (0,0))],[(tb,_)]]) ?_
 repeat' (refine iT ?_;first|refine rA ?_|(refine rE ?_<;>((first|(refine Za (.func 125) ?_;refine qC rfl rfl (k1 _ _ _ _ h1) ?_;rintro v ρ' L' hle ⟨rfl,rfl,a2,n2,c2,g2,rfl⟩<;>(try simp only[kA]))|(refine Za (.func 125) ?_;refine qC rfl rfl (k2 _ _ _ _ g2) ?_;rintro v ρ' L' hle ⟨rfl,rfl,a3,n3,c3,g3,rfl⟩<;>(try simp only[kA]))|(refine Za (.func 125) ?_;refine qC rfl rfl (k3 _ _ _ _ g3) ?_;rintro v ρ' L' hle ⟨rfl,rfl,a4,n4,c4,g4,rfl⟩<;>(try simp only[kA]))|refine qEf ?_)<;>(try simp only[kA])<;>refine zN ?_)))
 all_goals (repeat' (first|(refine Za (.func 124) ?_;refine qC rfl rfl (k4 _ _ _ _ g4) ?_;rintro v ρ' L' hle ⟨rfl,rfl,a5,n5,c5,g5,rfl⟩<;>(try simp only[kA]))|refine zV ?_|intro _))
 all_goals exact qE ⟨Hp.le_refl _,rfl,trivial,a5,n5,c5,g5,rfl⟩
end Go.Proofs.E
