/- Laws of LogDoes. Part 28 of 30. -/
import Derived.Test.YthjhjmnmnbcioaaGreatD27
set_option linter.unusedVariables false
set_option linter.unusedSimpArgs false
set_option linter.unusedSectionVars false
namespace Go.Proofs.E
open Go Tryz
set_option maxRecDepth 4000
set_option maxHeartbeats 1000000
attribute [local irreducible] Yl TL TC TE Spec YL R1 Hp.le EnvLe TS TR YS Zt TP QP
theorem appE_val (S:LgS)(r:Rc)(res:Int):appE S r res=0\/appE S r res=2\/appE S r res=220\/appE S r res=261:=by unfold appE;split<;>(try split)<;>(try split)<;>simp
theorem LgIn.flush {ρ:Hp}{S:LgS}{v:Value}{sp:List Value}(h:LgIn ρ S v sp)(to:Nat)(D:DS):LgIn ρ (S.flush to D).1 v sp:=by
 unfold LgS.flush
 split
 ·exact h
 ·exact h.at _ _
theorem flush_recs (S:LgS)(to:Nat)(D:DS):(S.flush to D).1.recs=S.recs:=by
 unfold LgS.flush
 split<;>rfl
theorem MI.flush {ρ:Hp}{M:LgS}{a:Option Addr}{c nx:Nat}(h:MI ρ M a c nx)(to:Nat)(D:DS)(hf:(M.flush to D).1.fl<18446744073709551616):MI ρ (M.flush to D).1 a c nx:=by
 revert hf
 unfold LgS.flush
 split
 ·intro hf;exact h
 ·intro hf;exact⟨h.ml,h.nxe,h.nb,h.base,h.ma,hf⟩
theorem lopen_absurd (ρ:Hp)(db:Nat)(k:DK)(D D':DS)(R:RgS)(hop:Spec prog 60 [.pointer (some ⟨db,0,none⟩)] ρ (Zj db k D) (λ v ρ' L'=>ρ.le ρ'/\∃rb w k',v=.tuple ⟨[.pointer (some ⟨rb,0,none⟩),.int .i64 0]⟩/\DOk k' D'/\RIn ρ' R w/\L'=ZF rb db R w++Zj db k' D'))(hno:¬R.Ok) :
  Spec prog 24 [.pointer (some ⟨db,0,none⟩)] ρ (Zj db k D) (λ v ρ' L'=>False):=by
 refine Zb func24 rfl rfl rfl λ u R'=>?_
 simp only[Zc,kA]
 repeat' (first|refine zV ?_|intro _)
 refine Za (.func 60) ?_
 refine qC rfl rfl hop ?_
 rintro v1 ρ1 L1 hle1 ⟨hl1,rb,w,k1,rfl,hD1,hR1,rfl⟩
 exact absurd hR1.ok hno
structure OpW (ρ:Hp)(o:Op16):Prop where
 b:OpB o
 rc:RcW ρ o.rv o.rc
 st:∀s∈o.rc.steps,StpF s
 keep:∃ks,SIn ρ bb o.kv.a o.kv.n ks
 kc:o.kv.n<=o.kv.c
theorem OpW.mono {ρ ρ' o}(h:OpW ρ o)(hl:ρ.le ρ'):OpW ρ' o:=⟨h.b,h.rc.mono hl,h.st,by obtain⟨ks,hk⟩:=h.keep;exact⟨ks,hk.mono hl⟩,h.kc⟩
set_option maxHeartbeats 4000000 in
theorem does16Law_spec (ρ:Hp)(a0:Option Addr)(n0 c0:Nat)(os:List Op16)(h0:AIn ρ 18 WD a0 n0 os)(hw0:∀o∈os,OpW ρ o)(hn0:n0<=9223372036854775807) :
  Spec prog 3 [.slice a0 n0 c0] ρ [] (λ z ρ' L'=>z=.bool true/\ρ.le ρ'/\L'=[]):=by
 have hl0:=h0.len
 obtain⟨DF,eF,gF⟩:=new_good (n:=60) (by omega) (by omega)
 have eF:XU 60 (DS.new 62)=(some ⟨Zz 60,[],0,false⟩,DF,0):=eF
 refine Zb func3 rfl rfl rfl λ u R=>?_
 simp only[Zc,kA]
 repeat' (first|(refine Za (.func 5) ?_;refine qC rfl rfl (wakes16_spec _) ?_;rintro v ρ' L' hle ⟨rfl,hz1,rfl⟩<;>(try simp only[kA]))|refine zV ?_|intro _)
 refine Za (.func 6) ?_
 refine qC rfl rfl (knew _ 62 (by omega) (by omega)) ?_
 rintro v1 ρ1 L1 hle1 ⟨rfl,db,k1,rfl,hk1,rfl⟩
 try simp only[kA]
 repeat' (first|refine zV ?_|intro _)
 refine Za (.func 6) ?_
 refine qC rfl rfl (knew _ 62 (by omega) (by omega)) ?_
 rintro v2 ρ2 L2 hle2 ⟨rfl,ob,k2,rfl,hk2,rfl⟩
 try simp only[kB]
 repeat' (first|(refine Za (.func 7) ?_;refine qC rfl rfl (lformatE _ db k1 hk1 eF) ?_;rintro v3 ρ3 L3 hle3 ⟨hl3,lb,rb,w3,k3,rfl,hk3,hr3,rfl⟩;try simp only[kB])|(refine Za (.func 8) ?_;refine qC rfl rfl (kformatE _ ob k2 hk2 eF) ?_;rintro v4 ρ4 L4 hle4 ⟨hl4,rb2,w4,k4,rfl,hk4,hr4,rfl⟩;try simp only[kB])|(refine Za (.func 9) ?_;refine qR rfl rfl (refnew16_spec _) ?_;try simp only[kA])|refine zV ?_|intro _)
 rename_i mb
 have hS0:newLg ⟨Zz 60,[],0,false⟩=(⟨⟨Zz 60,[],0,false⟩,1,0,0,1,[]⟩:LgS):=rfl
 rw[hS0]
 have hl04:=Hp.le_trans hz1 (Hp.le_trans hl3 hl4)
 have hI0:DoI ρ4 ⟨⟨⟨Zz 60,[],0,false⟩,1,0,0,1,[]⟩,.slice none 0 0,[],w3,k3,DF,⟨⟨Zz 60,[],0,false⟩,1,0,0,1,[]⟩,none,0,1,w4,k4⟩:=
  ⟨⟨OwnS.nil 10,λ _ hx=>by simp at hx,λ _ hx=>by simp at hx,by simp[ZI],by dsimp only;omega⟩,hr3.mono hl4,hk3,⟨⟨AIn.nil,aR _,aZ _,λ _ hx=>by simp at hx,λ _ hx=>by simp at hx⟩,rfl,by dsimp only;omega,by dsimp only;omega,by dsimp only;omega,by dsimp only;omega⟩,hr4,hk4,⟨rfl,rfl,rfl,rfl,rfl,rfl⟩,⟨λ i h=>by simp at h,aR _,aR _,show 0<1+0 by omega,show 1+0<=1099511627776 by omega,aZ _,aR _⟩⟩
 refine lpG (Nat×Hp×Nat×Nat×Nat×LgS×Value×(List Value)×RW×DK×DS×LgS×(Option Addr)×Nat×Nat×RW×DK) [3,5,11,60,61] (λ z=>[(62,.int .i64 z.1),(7,.pointer (some ⟨z.2.2.1,0,none⟩)),(2,.bool false)]) (λ z=>z.2.1) (λ z=>ZU z.2.2.1 z.2.2.2.1 z.2.2.2.2.2.1 z.2.2.2.2.2.2.1::Xl z.2.2.2.2.2.1 z.2.2.2.2.2.2.1 z.2.2.2.2.2.2.2.1::(ZF z.2.2.2.1 db z.2.2.2.2.2.1.R z.2.2.2.2.2.2.2.2.1++(Zj db z.2.2.2.2.2.2.2.2.2.1 z.2.2.2.2.2.2.2.2.2.2.1++(mC mb ob z.2.2.2.2.1 z.2.2.2.2.2.2.2.2.2.2.2.1 z.2.2.2.2.2.2.2.2.2.2.2.2.2.2.1 z.2.2.2.2.2.2.2.2.2.2.2.2.1 z.2.2.2.2.2.2.2.2.2.2.2.2.2.1::(ZF z.2.2.2.2.1 ob z.2.2.2.2.2.2.2.2.2.2.2.1.R z.2.2.2.2.2.2.2.2.2.2.2.2.2.2.2.1++Zj ob z.2.2.2.2.2.2.2.2.2.2.2.2.2.2.2.2 z.2.2.2.2.2.2.2.2.2.2.1))))) (λ z=>z.1<=n0/\ρ4.le z.2.1/\DoI z.2.1 ⟨z.2.2.2.2.2.1,z.2.2.2.2.2.2.1,z.2.2.2.2.2.2.2.1,z.2.2.2.2.2.2.2.2.1,z.2.2.2.2.2.2.2.2.2.1,z.2.2.2.2.2.2.2.2.2.2.1,z.2.2.2.2.2.2.2.2.2.2.2.1,z.2.2.2.2.2.2.2.2.2.2.2.2.1,z.2.2.2.2.2.2.2.2.2.2.2.2.2.1,z.2.2.2.2.2.2.2.2.2.2.2.2.2.2.1,z.2.2.2.2.2.2.2.2.2.2.2.2.2.2.2.1,z.2.2.2.2.2.2.2.2.2.2.2.2.2.2.2.2⟩) (λ z=>n0-z.1) (0,ρ4,lb,rb,rb2,⟨⟨Zz 60,[],0,false⟩,1,0,0,1,[]⟩,.slice none 0 0,[],w3,k3,DF,⟨⟨Zz 60,[],0,false⟩,1,0,0,1,[]⟩,none,0,1,w4,k4) ⟨aZ _,Hp.le_refl _,hI0⟩ ?_
 rintro⟨i,ρ5,lb5,rb5,rm5,S,v,sp,w,k,D,M,a,c,nx,w2,kb⟩ hI
 try simp only[kB] at hI ⊢
 try dsimp only at hI ⊢
 obtain⟨hi,hl5,hI⟩:=hI
 have hl05:=Hp.le_trans hl04 hl5
 by_cases hlt:i<n0
 ·have hil:i<os.length:=by omega
  obtain⟨b,off,C,T,fr,e1,hb,hfit,hc⟩:=(h0.mono hl05).get hil
  have ho:=(hw0 _ (aM hil)).mono hl05
  rw[e1]
  generalize os[i]=o at *
  by_cases h40:i=40
  ·have h40':((i:Nat):Int)=40:=by omega
   repeat' (first|refine zV ?_|intro _)
   exact qE (L':=[]) ⟨rfl,hl05,rfl⟩
  obtain⟨hLg,hRg,hDk,hMi,hRg2,hDk2,hEq,hLw⟩:=hI
  dsimp only at hLg hRg hDk hMi hRg2 hDk2 hEq hLw
  have hob:=ho.b
  have hnxt:=hLw.nxt
  have hbf:=hLw.bf
  have hfn:=hLw.fn
  have hb1:=hLw.b1
  have hmn:=hEq.next
  have hmnx:M.next=M.base+M.recs.length:=rfl
  have hNr:=λ ρq=>next_ref16 ρq M.base M.ma M.fl nx a M.recs.length c (by omega)
  repeat' (first|refine zV ?_|intro _)
  rename_i b13
  refine Za (.func 10) ?_
  refine qC rfl rfl (kind16_spec ρ5 o hob) ?_
  rintro v6 ρ6 L6 hle6 ⟨⟨kn,hkn,rfl⟩,rfl,rfl⟩
  try simp only[kB]
  rcases (show kn<4\/(4<=kn/\kn<6)\/kn=6\/kn=7\/kn=8\/kn=9 by omega) with h4|h6|h6|h7|h8|h9
  ·have hrc:=op16_rec ρ6 o (M.base+M.recs.length) (by omega) ho.rc ho.st
   rcases (show kn=0\/kn=1\/kn=2\/kn=3 by omega) with rfl|rfl|rfl|rfl
   all_goals
    repeat' (first|refine zV ?_|intro _)
    refine ctG (Hp×Nat×RV×Rc) R [2,3,5,7,11,13,60,61,62] (λ z=>[(16,.pointer (some ⟨z.2.1,0,none⟩))]) (λ z=>z.1) (λ z=>[[(z.2.1,.cells ⟨Yu z.2.2.1 z.2.2.2⟩ 47 (0,0))],[(b13,.cells ⟨WD o⟩ 50 (0,0))]]++(ZU lb5 rb5 S v::Xl S v sp::(ZF rb5 db S.R w++(Zj db k D++(mC mb ob rm5 M nx a c::(ZF rm5 ob M.R w2++Zj ob kb D)))))) (λ z=>ρ6.le z.1/\RcIn z.1 z.2.2.1 z.2.2.2) ?_ ?_
    ·refine tpA [0,1,2,3,4] (.b 5 7 [] [] (.b 6 7 [] [] (.e 7 [] (.e 8 [] .o)) (.e 6 [] (.e 8 [] .o))) (.e 5 [] (.e 6 [] (.e 8 [] .o)))) ([[(b13,.cells ⟨WD o⟩ 50 (0,0))],mC mb ob rm5 M nx a c]) ?_
     repeat' (refine iT ?_;first|refine rA ?_|((first|(refine iE ?_;refine rE ?_)|(refine iB ?_;refine rB ?_ ?_))<;>((first|(refine Za (.func 12) ?_;refine qR rfl rfl (hNr _) ?_;try simp only[kA])|(refine Za (.func 11) ?_;refine qC rfl rfl hrc ?_;rintro v7 ρ7 L7 hle7 ⟨⟨hl7,xv,xr,rfl,hxr,-⟩,rfl⟩;try simp only[kA])|(refine qEf ?_;try intro _))<;>(try simp only[kA])<;>refine zN ?_)))
     all_goals (repeat' (first|refine zV ?_|intro _))
     all_goals refine jnG ((_,_,xv,xr)) (⟨hl7,hxr⟩)
    rintro⟨ρ7,b16,xv,xr⟩ ⟨hl7,hxr⟩
    try simp only[kB] at hl7 hxr ⊢
    try dsimp only at hl7 hxr ⊢
    have hap:appE M xr o.res=appE S xr o.res:=(hEq.appE xr o.res).symm
    have hma:=λ ρq (hl:ρ7.le ρq)=>mappend_spec ρq mb ob rm5 M a c nx ((hMi.mono hl7).mono hl) (by have:=hLw.len;have:=hEq.len;omega) xv xr (hxr.mono hl) o.res
    have hval:=appE_val S xr o.res
    simp only[hap] at hma
    by_cases ha:appE S xr o.res=0
    ·have hA1:=append16_yes ρ7 lb5 rb5 S v sp (hLg.mono hl7) (xv,xr) hxr o.res ha
     simp only[ha,if_true] at hma
     refine tpA [0,1,2,3,5,6,7,8] (.e 4 [] (.e 9 [] (.f [10,11] .o))) ([[(b13,.cells ⟨WD o⟩ 50 (0,0))],[(b16,.cells ⟨Yu xv xr⟩ 47 (0,0))]]) ?_
     repeat' (refine iT ?_;first|refine rA ?_|(refine rE ?_<;>((first|(refine Za (.func 13) ?_;refine qC rfl rfl hA1 ?_;rintro v8 ρ8 L8 hle8 ⟨rfl,hl8,v9,sp9,hlg9,rfl⟩;try simp only[kA])|(refine Za (.func 14) ?_;refine qC rfl rfl (hma _ hl8) ?_;rintro va ρa La hlea ⟨rfl,hla,Ma,aa,ca,rfl,hmia,rfl⟩;try simp only[kA]))<;>(try simp only[kA])<;>refine zN ?_)))
     have hl5a:=Hp.le_trans hl7 (Hp.le_trans hl8 hla)
     have hJ:DoI ρa ⟨S.more (xv,xr),v9,sp9,w,k,D,M.more (xv,xr),aa,ca,nx,w2,kb⟩:=⟨hlg9.mono hla,hRg.mono hl5a,hDk,hmia,hRg2.mono hl5a,hDk2,hEq.more _,hLw.more hLg.ok ha⟩
     have hsy:=says_do ρa lb5 rb5 db mb ob rm5 _ hJ
     dsimp only at hsy
     repeat' (first|(refine Za (.func 26) ?_;refine qC rfl rfl hsy ?_;rintro vz ρz Lz hlez ⟨rfl,hlz,rfl⟩;try simp only[kB])|refine zV ?_|intro _)
     rw[<-e1]
     refine rnG (i+1,ρz,lb5,rb5,rm5,S.more (xv,xr),v9,sp9,w,k,D,M.more (xv,xr),aa,ca,nx,w2,kb) (⟨hlt,Hp.le_trans hl5 (Hp.le_trans hl5a hlz),hJ.mono hlz⟩)
    ·have hA1:=append16_no ρ7 lb5 rb5 S v sp (hLg.mono hl7) (xv,xr) hxr o.res ha
     dsimp only at hA1
     simp only[ha,if_false] at hma
     have hee:(appE S xr o.res != appE S xr o.res)=false:=by simp
     generalize appE S xr o.res=e0 at *
     refine tpA [0,1,2,3,5,6,7,8] (.e 4 [] (.e 9 [] (.f [10,11] .o))) ([[(b13,.cells ⟨WD o⟩ 50 (0,0))],[(b16,.cells ⟨Yu xv xr⟩ 47 (0,0))]]) ?_
     repeat' (refine iT ?_;first|refine rA ?_|(refine rE ?_<;>((first|(refine Za (.func 13) ?_;refine qC rfl rfl hA1 ?_;rintro v8 ρ8 L8 hle8 ⟨rfl,hl8,rfl⟩;try simp only[kA])|(refine Za (.func 14) ?_;refine qC rfl rfl (hma _ hl8) ?_;rintro va ρa La hlea ⟨rfl,hla,Ma,aa,ca,hMe,hmia,rfl⟩;rw[hMe] at hmia ⊢;try simp only[kA]))<;>(try simp only[kA])<;>refine zN ?_)))
     have hl5a:=Hp.le_trans hl7 (Hp.le_trans hl8 hla)
     have hJ:DoI ρa ⟨S,v,sp,w,k,D,M,aa,ca,nx,w2,kb⟩:=⟨hLg.mono hl5a,hRg.mono hl5a,hDk,hmia,hRg2.mono hl5a,hDk2,hEq,hLw⟩
     have hsy:=says_do ρa lb5 rb5 db mb ob rm5 _ hJ
     dsimp only at hsy
     repeat' (first|(refine Za (.func 26) ?_;refine qC rfl rfl hsy ?_;rintro vz ρz Lz hlez ⟨rfl,hlz,rfl⟩;try simp only[kB])|refine zV ?_|intro _)
     rw[<-e1]
     refine rnG (i+1,ρz,lb5,rb5,rm5,S,v,sp,w,k,D,M,aa,ca,nx,w2,kb) (⟨hlt,Hp.le_trans hl5 (Hp.le_trans hl5a hlz),hJ.mono hlz⟩)
  ·have htl:=toN_lt hob (next:=M.base+M.recs.length) (by omega)
   have hTo:=λ ρq=>to16_spec ρq o hob (M.base+M.recs.length) (by omega)
   generalize toN o (M.base+M.recs.length)=to at *
   obtain⟨hq1,hq2,hq3⟩:=hEq.flush hLw to D
   have hFl:=flush16_spec ρ6 lb5 rb5 db S v sp hLg w hRg k D hDk to (by omega)
   have hMf:=λ ρq (hl:ρ6.le ρq)=>mflush_spec ρq mb ob rm5 M a c nx (hMi.mono hl) (hEq.nb hLw) (by rw[hEq.base,hEq.fl];exact hbf) (by rw[hEq.fl,hmn];exact hfn) w2 (hRg2.mono hl) kb D hDk2 to htl
   have hlg9:=hLg.flush to D
   have hrc9:=flush_recs S to D
   have hmi9:=λ ρq (hl:ρ6.le ρq)=>(hMi.mono hl).flush to D (by rw[hq1.fl];have:=hq3.fn;have:=hq3.nxt;omega)
   rcases hs9:S.flush to D with⟨S9,D9,e9⟩
   rcases hm9:M.flush to D with⟨M9,Dm,em⟩
   rw[hs9] at hFl hq1 hq2 hq3 hlg9 hrc9
   rw[hm9] at hMf hq1 hq2 hmi9
   dsimp only at hFl hq1 hq2 hq3 hlg9 hrc9 hMf hmi9
   cases hq2
   have how:Xl S v sp=Xl S9 v sp:=by unfold Xl;rw[hrc9]
   have hee:(e9 != e9)=false:=by simp
   rcases (show kn=4\/kn=5 by omega) with rfl|rfl
   all_goals
    repeat' (first|refine zV ?_|intro _)
    refine tpA [0,1,2,3,4,9,10,11,12,13] (.b 5 14 [] [] (.b 6 14 [] [] (.b 7 14 [] [] (.b 8 14 [] [] (.e 14 [] (.e 15 [] (.e 16 [] (.e 17 [] (.f [18,19] .o))))) (.e 8 [] (.e 15 [] (.e 16 [] (.e 17 [] (.f [18,19] .o)))))) (.e 7 [] (.e 8 [] (.e 15 [] (.e 16 [] (.e 17 [] (.f [18,19] .o))))))) (.e 6 [] (.e 7 [] (.e 8 [] (.e 15 [] (.e 16 [] (.e 17 [] (.f [18,19] .o)))))))) (.e 5 [] (.e 6 [] (.e 7 [] (.e 8 [] (.e 15 [] (.e 16 [] (.e 17 [] (.f [18,19] .o))))))))) ([[(b13,.cells ⟨WD o⟩ 50 (0,0))]]) ?_
    repeat' (refine iT ?_;first|refine rA ?_|((first|(refine iE ?_;refine rE ?_)|(refine iB ?_;refine rB ?_ ?_))<;>((first|(refine Za (.func 12) ?_;refine qR rfl rfl (hNr _) ?_;try simp only[kA])|(refine Za (.func 16) ?_;refine qR rfl rfl (hTo _) ?_;try simp only[kA])|(refine Za (.func 15) ?_;refine qC rfl rfl hFl ?_;rintro v7 ρ7 L7 hle7 ⟨rfl,hl7,w7,k7,hR7,hk7,rfl⟩;try simp only[kB])|(refine Za (.func 17) ?_;refine qC rfl rfl (hMf _ hl7) ?_;rintro v8 ρ8 L8 hle8 ⟨rfl,hl8,k8,w8,hk8,hR8,rfl⟩;try simp only[kB])|(refine i_qq ?_;refine qQ ?_))<;>(try simp only[kA])<;>refine zN ?_)))
    all_goals
     rw[how]
     have hl58:=Hp.le_trans hl7 hl8
     have hJ:DoI ρ8 ⟨S9,v,sp,w7,k7,D9,M9,a,c,nx,w8,k8⟩:=⟨hlg9.mono hl58,hR7.mono hl8,hk7,hmi9 _ hl58,hR8,hk8,hq1,hq3⟩
     have hsy:=says_do ρ8 lb5 rb5 db mb ob rm5 _ hJ
     dsimp only at hsy
     have hfin:=λ {ρq} (h:ρ8.le ρq)=>Hp.le_trans hl05 (Hp.le_trans hl58 h)
     by_cases hbk:e9=260\/e9=140
     ·rcases hbk with rfl|rfl
      all_goals
       repeat' (first|(refine Za (.func 26) ?_;refine qC rfl rfl hsy ?_;rintro vz ρz Lz hlez ⟨rfl,hlz,rfl⟩;try simp only[kB])|refine zV ?_|intro _)
       exact qE (L':=[]) ⟨rfl,hfin hlz,rfl⟩
     ·have hb1:¬e9=260:=λ h=>hbk (.inl h)
      have hb2:¬e9=140:=λ h=>hbk (.inr h)
      repeat' (first|(refine Za (.func 26) ?_;refine qC rfl rfl hsy ?_;rintro vz ρz Lz hlez ⟨rfl,hlz,rfl⟩;try simp only[kB])|refine zV ?_|intro _)
      rw[<-e1]
      refine rnG (i+1,ρz,lb5,rb5,rm5,S9,v,sp,w7,k7,D9,M9,a,c,nx,w8,k8) (⟨hlt,Hp.le_trans hl5 (Hp.le_trans hl58 hlz),hJ.mono hlz⟩)
  ·subst h6
   obtain⟨fr,hfr⟩:∃fr,fr=fromN o M.base:=⟨_,rfl⟩
   have hfrl:fr<18446744073709551616:=by rw[hfr];exact fromN_lt hob (by have:=hEq.base;omega)
   have hFr:=λ ρq=>from16x_spec ρq o hob M.base (by have:=hEq.base;omega)
   simp only[<-hfr] at hFr
   have hmal:=hob.ma
   have hEb:=hEq.base
   have hEf:=hEq.fl
   by_cases hg:(S.base<=fr/\fr<=S.fl+1/\o.ma<=S.fl)/\1<=o.txn/\o.txn<=1073741824
   ·obtain⟨⟨g1,g2,g3⟩,g4,g5⟩:=hg
    obtain⟨tx,htx⟩:∃tx:Nat,o.txn=(tx:Int):=⟨o.txn.toNat,by omega⟩
    have hT1:=trunc16_any ρ6 lb5 rb5 db S v sp hLg w hRg k D hDk fr o.ma tx g1 g2 g3 (by omega) (by omega) (by omega) (by omega)
    have hT2:=λ ρq (hl:ρ6.le ρq)=>mtrunc_spec ρq mb ob rm5 M a c nx (hMi.mono hl) w2 (hRg2.mono hl) kb D hDk2 fr o.ma tx (by omega) (by omega) (by omega) (by omega) (by omega) (by omega) (by omega)
    rw[<-htx] at hT1
    simp only[<-htx] at hT2
    obtain⟨hq1,hq2,hq3⟩:=hEq.trunc hLw (nx:=tx) D g1 g2 g3
    rcases hs9:S.trunc fr o.ma tx D with⟨S9,D9,e9⟩
    rcases hm9:M.trunc fr o.ma tx D with⟨M9,Dm,em⟩
    rw[hs9] at hT1 hq1 hq2 hq3
    simp only[hm9] at hT2
    rw[hm9] at hq1 hq2
    dsimp only at hT1 hq1 hq2 hq3 hT2
    cases hq2
    have hee:(e9 != e9)=false:=by simp
    repeat' (first|refine zV ?_|intro _)
    refine tpA [0,1,2,3,4,5] (.e 6 [] (.f [7] .o)) ([[(b13,.cells ⟨WD o⟩ 50 (0,0))],mC mb ob rm5 M nx a c]) ?_
    repeat' (refine iT ?_;first|refine rA ?_|(refine rE ?_<;>(refine Za (.func 18) ?_;refine qR rfl rfl (hFr _) ?_;try simp only[kA])<;>(try simp only[kA])<;>refine zN ?_))
    repeat' (first|refine zV ?_|intro _)
    refine tpA [0,1,2,3,4,5,7,8,9,10,11,12] (.e 6 [] (.e 13 [] (.f [14,15] .o))) ([[(b13,.cells ⟨WD o⟩ 50 (0,0))]]) ?_
    repeat' (refine iT ?_;first|refine rA ?_|(refine rE ?_<;>((first|(refine Za (.func 19) ?_;refine qC rfl rfl hT1 ?_;rintro v7 ρ7 L7 hle7 ⟨rfl,hl7,k7,w7,v9,sp9,hk7,hR7,hlg9,rfl⟩;try simp only[kB])|(refine Za (.func 20) ?_;refine qC rfl rfl (hT2 _ hl7) ?_;rintro v8 ρ8 L8 hle8 ⟨rfl,hl8,k8,w8,a9,c9,nx9,hk8,hR8,hmi9,rfl⟩;try simp only[kB]))<;>(try simp only[kA])<;>refine zN ?_)))
    all_goals
     have hl58:=Hp.le_trans hl7 hl8
     have hJ:DoI ρ8 ⟨S9,v9,sp9,w7,k7,D9,M9,a9,c9,nx9,w8,k8⟩:=⟨hlg9.mono hl8,hR7.mono hl8,hk7,hmi9,hR8,hk8,hq1,hq3⟩
     have hsy:=says_do ρ8 lb5 rb5 db mb ob rm5 _ hJ
     dsimp only at hsy
     have hfin:=λ {ρq} (h:ρ8.le ρq)=>Hp.le_trans hl05 (Hp.le_trans hl58 h)
     by_cases hbk:e9=260\/e9=140
     ·rcases hbk with rfl|rfl
      all_goals
       repeat' (first|(refine Za (.func 26) ?_;refine qC rfl rfl hsy ?_;rintro vz ρz Lz hlez ⟨rfl,hlz,rfl⟩;try simp only[kB])|refine zV ?_|intro _)
       exact qE (L':=[]) ⟨rfl,hfin hlz,rfl⟩
     ·have hb1:¬e9=260:=λ h=>hbk (.inl h)
      have hb2:¬e9=140:=λ h=>hbk (.inr h)
      repeat' (first|(refine Za (.func 26) ?_;refine qC rfl rfl hsy ?_;rintro vz ρz Lz hlez ⟨rfl,hlz,rfl⟩;try simp only[kB])|refine zV ?_|intro _)
      rw[<-e1]
      refine rnG (i+1,ρz,lb5,rb5,rm5,S9,v9,sp9,w7,k7,D9,M9,a9,c9,nx9,w8,k8) (⟨hlt,Hp.le_trans hl5 (Hp.le_trans hl58 hlz),hJ.mono hlz⟩)
   ·have hT1:=trunc16_no ρ6 lb5 rb5 S v fr o.ma o.txn hfrl hmal (by omega) (by omega) (by omega)
    have hT2:=λ ρq (h:MI ρq M a c nx)=>mtrunc_no ρq mb ob rm5 M a c nx h fr o.ma o.txn hfrl hmal (by omega) (by omega)
    repeat' (first|refine zV ?_|intro _)
    refine tpA [0,1,2,3,4,5] (.e 6 [] (.f [7] .o)) ([[(b13,.cells ⟨WD o⟩ 50 (0,0))],mC mb ob rm5 M nx a c]) ?_
    repeat' (refine iT ?_;first|refine rA ?_|(refine rE ?_<;>(refine Za (.func 18) ?_;refine qR rfl rfl (hFr _) ?_;try simp only[kA])<;>(try simp only[kA])<;>refine zN ?_))
    repeat' (first|refine zV ?_|intro _)
    refine tpA [0,1,2,3,4,5,7,8,9,10,11,12] (.e 6 [] (.e 13 [] (.f [14,15] .o))) ([[(b13,.cells ⟨WD o⟩ 50 (0,0))]]) ?_
    repeat' (refine iT ?_;first|refine rA ?_|(refine rE ?_<;>((first|(refine Za (.func 19) ?_;refine qR rfl rfl (hT1) ?_;try simp only[kA])|(refine Za (.func 20) ?_;refine qR rfl rfl (hT2 _ hMi) ?_;try simp only[kA]))<;>(try simp only[kA])<;>refine zN ?_)))
    all_goals
     have hJ:DoI ρ6 ⟨S,v,sp,w,k,D,M,a,c,nx,w2,kb⟩:=⟨hLg,hRg,hDk,hMi,hRg2,hDk2,hEq,hLw⟩
     have hsy:=says_do ρ6 lb5 rb5 db mb ob rm5 _ hJ
     dsimp only at hsy
     repeat' (first|(refine Za (.func 26) ?_;refine qC rfl rfl hsy ?_;rintro vz ρz Lz hlez ⟨rfl,hlz,rfl⟩;try simp only[kB])|refine zV ?_|intro _)
     rw[<-e1]
     refine rnG (i+1,ρz,lb5,rb5,rm5,S,v,sp,w,k,D,M,a,c,nx,w2,kb) (⟨hlt,Hp.le_trans hl5 hlz,hJ.mono hlz⟩)
  ·subst h7
   have hA1:=karmW ρ6 db k D hDk o.n hob.n.2
   have hA2:=λ ρq=>karmW ρq ob kb D hDk2 o.n hob.n.2
   rcases hs9:DS.arm D o.n with⟨D9,e9⟩
   rw[hs9] at hA1
   simp only[hs9] at hA2
   have hee:(e9 != e9)=false:=by simp
   repeat' (first|refine zV ?_|intro _)
   refine tpA [0,1,2,4,5,6] (.e 3 [] (.e 7 [] (.f [8,9] .o))) ([[(b13,.cells ⟨WD o⟩ 50 (0,0))]]) ?_
   repeat' (refine iT ?_;first|refine rA ?_|(refine rE ?_<;>((first|(refine Za (.func 21) ?_;refine qC rfl rfl hA1 ?_;rintro v7 ρ7 L7 hle7 ⟨rfl,rfl,hk7,rfl⟩;try simp only[kB])|(refine Za (.func 21) ?_;refine qC rfl rfl (hA2 _) ?_;rintro v8 ρ8 L8 hle8 ⟨rfl,rfl,hk8,rfl⟩;try simp only[kB]))<;>(try simp only[kA])<;>refine zN ?_)))
   all_goals
    have hJ:DoI ρ8 ⟨S,v,sp,w,k,D9,M,a,c,nx,w2,kb⟩:=⟨hLg,hRg,hk7,hMi,hRg2,hk8,hEq,hLw⟩
    have hsy:=says_do ρ8 lb5 rb5 db mb ob rm5 _ hJ
    dsimp only at hsy
    by_cases hbk:e9=260\/e9=140
    ·rcases hbk with rfl|rfl
     all_goals
      repeat' (first|(refine Za (.func 26) ?_;refine qC rfl rfl hsy ?_;rintro vz ρz Lz hlez ⟨rfl,hlz,rfl⟩;try simp only[kB])|refine zV ?_|intro _)
      exact qE (L':=[]) ⟨rfl,Hp.le_trans hl05 hlz,rfl⟩
    ·have hb1:¬e9=260:=λ h=>hbk (.inl h)
     have hb2:¬e9=140:=λ h=>hbk (.inr h)
     repeat' (first|(refine Za (.func 26) ?_;refine qC rfl rfl hsy ?_;rintro vz ρz Lz hlez ⟨rfl,hlz,rfl⟩;try simp only[kB])|refine zV ?_|intro _)
     rw[<-e1]
     refine rnG (i+1,ρz,lb5,rb5,rm5,S,v,sp,w,k,D9,M,a,c,nx,w2,kb) (⟨hlt,Hp.le_trans hl5 hlz,hJ.mono hlz⟩)
  ·subst h8
   have hA1:=kfailW ρ6 db k D hDk o.n hob.n.2
   have hA2:=λ ρq=>kfailW ρq ob kb D hDk2 o.n hob.n.2
   rcases hs9:DS.fail D o.n with⟨D9,e9⟩
   rw[hs9] at hA1
   simp only[hs9] at hA2
   have hee:(e9 != e9)=false:=by simp
   repeat' (first|refine zV ?_|intro _)
   refine tpA [0,1,2,4,5,6] (.e 3 [] (.e 7 [] (.f [8,9] .o))) ([[(b13,.cells ⟨WD o⟩ 50 (0,0))]]) ?_
   repeat' (refine iT ?_;first|refine rA ?_|(refine rE ?_<;>((first|(refine Za (.func 22) ?_;refine qC rfl rfl hA1 ?_;rintro v7 ρ7 L7 hle7 ⟨rfl,rfl,hk7,rfl⟩;try simp only[kB])|(refine Za (.func 22) ?_;refine qC rfl rfl (hA2 _) ?_;rintro v8 ρ8 L8 hle8 ⟨rfl,rfl,hk8,rfl⟩;try simp only[kB]))<;>(try simp only[kA])<;>refine zN ?_)))
   all_goals
    have hJ:DoI ρ8 ⟨S,v,sp,w,k,D9,M,a,c,nx,w2,kb⟩:=⟨hLg,hRg,hk7,hMi,hRg2,hk8,hEq,hLw⟩
    have hsy:=says_do ρ8 lb5 rb5 db mb ob rm5 _ hJ
    dsimp only at hsy
    by_cases hbk:e9=260\/e9=140
    ·rcases hbk with rfl|rfl
     all_goals
      repeat' (first|(refine Za (.func 26) ?_;refine qC rfl rfl hsy ?_;rintro vz ρz Lz hlez ⟨rfl,hlz,rfl⟩;try simp only[kB])|refine zV ?_|intro _)
      exact qE (L':=[]) ⟨rfl,Hp.le_trans hl05 hlz,rfl⟩
    ·have hb1:¬e9=260:=λ h=>hbk (.inl h)
     have hb2:¬e9=140:=λ h=>hbk (.inr h)
     repeat' (first|(refine Za (.func 26) ?_;refine qC rfl rfl hsy ?_;rintro vz ρz Lz hlez ⟨rfl,hlz,rfl⟩;try simp only[kB])|refine zV ?_|intro _)
     rw[<-e1]
     refine rnG (i+1,ρz,lb5,rb5,rm5,S,v,sp,w,k,D9,M,a,c,nx,w2,kb) (⟨hlt,Hp.le_trans hl5 hlz,hJ.mono hlz⟩)
  ·subst h9
   obtain⟨ks,hks⟩:=ho.keep
   have hkc:=ho.kc
   obtain⟨m,hm⟩:∃m,m=min o.kv.n 20:=⟨_,rfl⟩
   have hmm:(min (o.kv.n:Int) 20).toNat=m:=by omega
   have hkt:=hks.take (hi':=m) (by omega)
   have hC1:=kcrashW ρ6 db k D hDk o.kv.a m o.kv.c (ks.take m) hkt (by omega) (by omega)
   have hC2:=λ ρq (hl:ρ6.le ρq)=>kcrashW ρq ob kb D hDk2 o.kv.a m o.kv.c (ks.take m) (hkt.mono hl) (by omega) (by omega)
   generalize D.crash (keepB ((ks.take m).take 60))=Dc at *
   repeat' (first|refine zV ?_|intro _)
   simp only[hmm]
   refine Za (.func 23) ?_
   refine qC rfl rfl hC1 ?_
   rintro v7 ρ7 L7 hle7 ⟨rfl,hl7,k7,hk7,rfl⟩
   try simp only[kB]
   repeat' (first|refine zV ?_|intro _)
   refine Za (.func 23) ?_
   refine qC rfl rfl (hC2 _ hl7) ?_
   rintro v8 ρ8 L8 hle8 ⟨rfl,hl8,k8,hk8,rfl⟩
   try simp only[kB]
   have hl58:=Hp.le_trans hl7 hl8
   repeat' (first|refine zV ?_|intro _)
   rcases hop:openR Dc with⟨oR,D9,e9⟩
   cases oR with
   | none=>
    have he9:=openR_none hop
    have hee:(e9 != e9)=false:=by simp
    refine Za (.func 24) ?_
    refine qC rfl rfl (lopen_err ρ8 db k7 Dc hk7 hop) ?_
    rintro va ρa La hlea ⟨hla,ka,rfl,hka,rfl⟩
    try simp only[kB]
    repeat' (first|refine zV ?_|intro _)
    refine Za (.func 25) ?_
    refine qC rfl rfl (mopen_err ρa mb ob (.pointer (some ⟨rm5,0,none⟩)) (.int .u64 M.base) (.int .u64 M.ma) (.int .u64 M.fl) (.int .i64 nx) (.slice a M.recs.length c) k8 Dc hk8 hop) ?_
    rintro vb ρb Lb hleb ⟨rfl,hlb,kc,hkc2,rfl⟩
    try simp only[kB]
    have hl5b:=Hp.le_trans hl58 (Hp.le_trans hla hlb)
    have hJ:DoI ρb ⟨S,v,sp,w,ka,D9,M,a,c,nx,w2,kc⟩:=⟨hLg.mono hl5b,hRg.mono hl5b,hka,hMi.mono hl5b,hRg2.mono hl5b,hkc2,hEq,hLw⟩
    have hsy:=says_do ρb lb5 rb5 db mb ob rm5 _ hJ
    dsimp only at hsy
    have hfin:=λ {ρq} (h:ρb.le ρq)=>Hp.le_trans hl05 (Hp.le_trans hl5b h)
    by_cases hbk:e9=260\/e9=140
    ·rcases hbk with rfl|rfl
     all_goals
      repeat' (first|(refine Za (.func 26) ?_;refine qC rfl rfl hsy ?_;rintro vz ρz Lz hlez ⟨rfl,hlz,rfl⟩;try simp only[kB])|refine zV ?_|intro _)
      exact qE (L':=[]) ⟨rfl,hfin hlz,rfl⟩
    ·have hb1:¬e9=260:=λ h=>hbk (.inl h)
     have hb2:¬e9=140:=λ h=>hbk (.inr h)
     repeat' (first|(refine Za (.func 26) ?_;refine qC rfl rfl hsy ?_;rintro vz ρz Lz hlez ⟨rfl,hlz,rfl⟩;try simp only[kB])|refine zV ?_|intro _)
     rw[<-e1]
     refine rnG (i+1,ρz,lb5,rb5,rm5,S,v,sp,w,ka,D9,M,a,c,nx,w2,kc) (⟨hlt,Hp.le_trans hl5 (Hp.le_trans hl5b hlz),hJ.mono hlz⟩)
   | some Rn=>
    have hopa:=hop_of ρ8 db k7 Dc hk7 hop
    have hopb:=λ ρq=>hop_of ρq ob k8 Dc hk8 hop
    by_cases hRok:Rn.Ok
    case' neg=>
     refine Za (.func 24) ?_
     refine qC rfl rfl (lopen_absurd ρ8 db k7 Dc D9 Rn hopa hRok) ?_
     rintro va ρa La hlea hF
     exact hF.elim
    have hful:=usedL_len Rn.ents
    have hfit7:=hRok.fit
    have hsz7:=hRok.size
    have hus7:=hRok.used
    have hnx8:Rn.h.first+Rn.ents.length<=1099511627776:=hRok.next
    have hfr7:=hRok.first
    have hnt7:=hRok.note
    by_cases hg:∃ma nx,LgOk Rn.h.first Rn.h.note Rn.ents ma nx
    ·obtain⟨ma,nx9,hgn,hge,hgm⟩:=hg
     have hnl:=noteR_len hgn
     refine Za (.func 24) ?_
     refine qC rfl rfl (lopen_spec ρ8 db k7 Dc D9 Rn hopa ma nx9 (λ S' _ q1 q2=>noteR_some hgn S' q1 q2) (by omega) hgm hge (by omega)) ?_
     rintro va ρa La hlea ⟨hla,lb9,rb9,w9,k9,l9,v9,sp9,rfl,hk9,hr9,hlg9,hlp9,rfl⟩
     try simp only[kB]
     repeat' (first|refine zV ?_|intro _)
     refine Za (.func 25) ?_
     refine qC rfl rfl (mopen_good ρa mb ob (.pointer (some ⟨rm5,0,none⟩)) (.int .u64 M.base) (.int .u64 M.ma) (.int .u64 M.fl) (.int .i64 nx) (.slice a M.recs.length c) k8 Dc D9 Rn (hopb ρa) ma nx9 hgn hge hgm) ?_
     rintro vb ρb Lb hleb ⟨rfl,hlb,rm9,wb,kc,ra,rc,mr,hkc2,hrb,hml,hmp,rfl⟩
     try simp only[kB]
     have hml9:mr.length=Rn.ents.length:=by have:=congrArg List.length hmp;rw[plL,List.length_map,List.length_map] at this;exact this
     have hLw9:=Lgw.open (ma:=ma) (nx:=nx9) hRok hlp9 hge hgm (by omega)
     obtain⟨n9,hn9⟩:∃n,n=Rn.ents.length:=⟨_,rfl⟩
     rw[<-hn9] at hml9 hml hlg9 hLw9 ⊢
     subst hml9
     have hl5b:=Hp.le_trans hl58 (Hp.le_trans hla hlb)
     have hJ:DoI ρb ⟨⟨Rn,Rn.h.first,Rn.h.first+mr.length-1,ma,nx9,l9⟩,v9,sp9,w9,k9,D9,⟨Rn,Rn.h.first,Rn.h.first+mr.length-1,ma,nx9,mr⟩,ra,rc,nx9,wb,kc⟩:=⟨hlg9.mono hlb,hr9.mono hlb,hk9,⟨hml,rfl,show nx9<=1073741824 by omega,⟨hfr7,by dsimp only;omega⟩,by dsimp only;omega,by dsimp only;omega⟩,hrb,hkc2,⟨rfl,rfl,rfl,rfl,rfl,hlp9.trans hmp.symm⟩,hLw9⟩
     have hsy:=says_do ρb lb9 rb9 db mb ob rm9 _ hJ
     dsimp only at hsy
     repeat' (first|(refine Za (.func 26) ?_;refine qC rfl rfl hsy ?_;rintro vz ρz Lz hlez ⟨rfl,hlz,rfl⟩;try simp only[kB])|refine zV ?_|intro _)
     rw[<-e1]
     refine rnG (i+1,ρz,lb9,rb9,rm9,⟨Rn,Rn.h.first,Rn.h.first+mr.length-1,ma,nx9,l9⟩,v9,sp9,w9,k9,D9,⟨Rn,Rn.h.first,Rn.h.first+mr.length-1,ma,nx9,mr⟩,ra,rc,nx9,wb,kc) (⟨hlt,Hp.le_trans hl5 (Hp.le_trans hl5b hlz),hJ.mono hlz⟩)
    ·have hbad:∀ma nx,¬LgOk Rn.h.first Rn.h.note Rn.ents ma nx:=λ ma nx h=>hg ⟨ma,nx,h⟩
     refine Za (.func 24) ?_
     refine qC rfl rfl (lopen_bad ρ8 db k7 Dc D9 Rn hopa hbad (by omega)) ?_
     rintro va ρa La hlea ⟨hla,ka,rfl,hka,rfl⟩
     try simp only[kB]
     repeat' (first|refine zV ?_|intro _)
     refine Za (.func 25) ?_
     refine qC rfl rfl (mopen_bad ρa mb ob (.pointer (some ⟨rm5,0,none⟩)) (.int .u64 M.base) (.int .u64 M.ma) (.int .u64 M.fl) (.int .i64 nx) (.slice a M.recs.length c) k8 Dc D9 Rn (hopb ρa) hbad) ?_
     rintro vb ρb Lb hleb ⟨rfl,hlb,kc,hkc2,rfl⟩
     try simp only[kB]
     have hl5b:=Hp.le_trans hl58 (Hp.le_trans hla hlb)
     have hJ:DoI ρb ⟨S,v,sp,w,ka,D9,M,a,c,nx,w2,kc⟩:=⟨hLg.mono hl5b,hRg.mono hl5b,hka,hMi.mono hl5b,hRg2.mono hl5b,hkc2,hEq,hLw⟩
     have hsy:=says_do ρb lb5 rb5 db mb ob rm5 _ hJ
     dsimp only at hsy
     repeat' (first|(refine Za (.func 26) ?_;refine qC rfl rfl hsy ?_;rintro vz ρz Lz hlez ⟨rfl,hlz,rfl⟩;try simp only[kB])|refine zV ?_|intro _)
     exact qE (L':=[]) ⟨rfl,Hp.le_trans hl05 (Hp.le_trans hl5b hlz),rfl⟩
 ·repeat' (first|refine zV ?_|intro _)
  exact qE (L':=[]) ⟨rfl,hl05,rfl⟩
end Go.Proofs.E
