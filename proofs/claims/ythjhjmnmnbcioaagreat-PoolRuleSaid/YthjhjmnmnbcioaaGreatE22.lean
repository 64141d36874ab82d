/- Laws of PoolRule. Part 22 of 26. -/
import Derived.Test.YthjhjmnmnbcioaaGreatE21
set_option linter.unusedVariables false
set_option linter.unusedSimpArgs false
set_option linter.unusedSectionVars false
namespace Go.Proofs.E
open Go Tryz
set_option maxRecDepth 4000
set_option maxHeartbeats 1000000
attribute [local irreducible] Yl TL TC TE Spec YW R1 Hp.le EnvLe TS TR YS Zv TP QP
theorem hread_spec (ρ:Hp)(s:Blk)(h64:s.length=64) :
  Spec prog 183 [bv s] ρ [] (λ v ρ' L'=>ρ.le ρ'/\(∃na nn nc,v=.tuple ⟨[.agg ⟨hdV (XL s).1 na nn nc⟩,.bool (XL s).2]⟩/\SIn ρ' Zk na nn (XL s).1.note/\nn<=nc/\nn<=32)/\L'=[]):=by
 have hpl:(s.map Zk).length=64:=by simpa using h64
 have hp1:=ZH s
 refine Za func183 rfl rfl rfl λ u RR=>?_
 simp only[Zc,kA]
 repeat' (first|refine zW ?_|intro _)
 rename_i b1 b2
 simp only[Int.reduceToNat,Nat.reduceMul,Nat.reduceSub,Nat.zero_add]
 refine Vn [(b1,.cells ⟨s.map Zk⟩ 105 (0,0))] (λ ρ3 hle3 hfz=>?_)
 have hbs:=hfz _ (List.mem_singleton.2 rfl)
 dsimp only at hbs
 have hld:List.take 64 (List.drop 0 (s.map Zk))=s.map Zk:=by rw[List.drop_zero,aT (by omega)]
 have hx21:(s.map Zk)[21]?=some (Zk (s.getD 21 0)):=by
  rw[List.getElem?_map,List.getD_eq_getElem?_getD,List.getElem?_eq_getElem (by omega)];rfl
 have hn1:=numb_spec ρ3 (some ⟨b1,8,none⟩) 4 56 _ (XR hbs 8 4 (by omega)) (by omega)
 have hn2:=numb_spec ρ3 (some ⟨b1,12,none⟩) 2 52 _ (XR hbs 12 2 (by omega)) (by omega)
 have hn3:=numb_spec ρ3 (some ⟨b1,14,none⟩) 5 50 _ (XR hbs 14 5 (by omega)) (by omega)
 have hn4:=numb_spec ρ3 (some ⟨b1,19,none⟩) 2 45 _ (XR hbs 19 2 (by omega)) (by omega)
 have hl1:=XT ((s.drop 8).take 4)
 have hl2:=XT ((s.drop 12).take 2)
 have hl3:=XT ((s.drop 14).take 5)
 have hl4:=XT ((s.drop 19).take 2)
 rw[show ((s.drop 8).take 4).length=4 by simp;omega] at hl1
 rw[show ((s.drop 12).take 2).length=2 by simp;omega] at hl2
 rw[show ((s.drop 14).take 5).length=5 by simp;omega] at hl3
 rw[show ((s.drop 19).take 2).length=2 by simp;omega] at hl4
 have hh:headOf s=⟨ZM ((s.drop 8).take 4),ZM ((s.drop 14).take 5),ZM ((s.drop 12).take 2),ZM ((s.drop 19).take 2),(s.drop 22).take (s.getD 21 0).toNat⟩:=rfl
 have hnb:(s.getD 21 0).toNat<256:=(s.getD 21 0).toNat_lt
 have hrd:XL s=if (headOf s).Right (s.getD 21 0).toNat then (headOf s,decide (XC (headOf s)=s)) else (zHd,false):=rfl
 generalize XL s=RB at *
 simp only[Zk] at hx21
 generalize s.getD 21 0=nb8 at *
 rw[hh] at hrd
 generalize hT:ZM ((s.drop 8).take 4)=T at *
 generalize hS:ZM ((s.drop 12).take 2)=S at *
 generalize hF:ZM ((s.drop 14).take 5)=F at *
 generalize hP:ZM ((s.drop 19).take 2)=P at *
 generalize hN:nb8.toNat=N at *
 have hrd1:(1<=T/\T<=1073741824/\4<=S/\S<=1000/\1<=F/\F<=1099511627776/\P<S/\N<=32)->RB=(⟨T,F,S,P,(s.drop 22).take N⟩,decide (XC ⟨T,F,S,P,(s.drop 22).take N⟩=s)):=λ h=>by rw[hrd];exact if_pos h
 have hrd2:¬(1<=T/\T<=1073741824/\4<=S/\S<=1000/\1<=F/\F<=1099511627776/\P<S/\N<=32)->RB=(zHd,false):=λ h=>by rw[hrd];exact if_neg h
 clear hrd hh
 have Tz:∃z:Int,z=T:=⟨_,rfl⟩
 obtain⟨Ti,hTi⟩:=Tz
 obtain⟨Fi,hFi⟩:∃z:Int,z=F:=⟨_,rfl⟩
 rw[<-hTi] at hn1
 rw[<-hFi] at hn3
 repeat' (first|refine zW ?_|intro _)
 refine Yt [0,1,3,4,7,8,10,11] (.b 2 15 [] [] (.b 5 15 [6] [] (.b 9 15 [] [] (.b 12 15 [13,14] [] (.e 15 [] (.e 16 [] .o)) (.e 12 [13,14] (.e 16 [] .o))) (.e 9 [] (.e 12 [13,14] (.e 16 [] .o)))) (.e 5 [6] (.e 9 [] (.e 12 [13,14] (.e 16 [] .o))))) (.e 2 [] (.e 5 [6] (.e 9 [] (.e 12 [13,14] (.e 16 [] .o)))))) ([]) ?_
 repeat' (refine iT ?_;first|refine rA ?_|((first|(refine iE ?_;refine rE ?_)|(refine iB ?_;refine rB ?_ ?_))<;>((first|(refine Zb (.func 237) ?_;refine qC rfl rfl (hn1) ?_;rintro v ρ' L' hle ⟨rfl,rfl,rfl⟩<;>(try simp only[kA]))|(refine Zb (.func 237) ?_;refine qC rfl rfl (hn2) ?_;rintro v ρ' L' hle ⟨rfl,rfl,rfl⟩<;>(try simp only[kA]))|(refine Zb (.func 237) ?_;refine qC rfl rfl (hn3) ?_;rintro v ρ' L' hle ⟨rfl,rfl,rfl⟩<;>(try simp only[kA]))|(refine Zb (.func 237) ?_;refine qC rfl rfl (hn4) ?_;rintro v ρ' L' hle ⟨rfl,rfl,rfl⟩<;>(try simp only[kA]))|(refine qEf ?_;try intro _))<;>(try simp only[kA])<;>refine zN ?_)))
 all_goals
  by_cases hr:1<=T/\T<=1073741824/\4<=S/\S<=1000/\1<=F/\F<=1099511627776/\P<S/\N<=32
  ·replace hrd1:=hrd1 hr
   obtain⟨r1,r2,r3,r4,r5,r6,r7,r8⟩:=hr
   have q1:(1:Int)<=Ti:=by omega
   have q2:Ti<=1073741824:=by omega
   have q5:(1:Int)<=Fi:=by omega
   have q6:Fi<=1099511627776:=by omega
   rename Nat=>b5
   have hnn:((14:Int)+(N:Int)).toNat-(14:Int).toNat=N:=by omega
   have hcl:=cloneR_spec ρ' [] (some ⟨b1,22,none⟩) N 42 _ (XR hbs 22 N (by omega)).rd (by omega)
   repeat' (first|(simp only[hnn];refine Zb (.func 113) ?_;refine qC rfl rfl hcl ?_;rintro v5 ρ5 L5 hle5 ⟨hl5,e5,rfl,hb5,he5,hn5,rfl⟩;try simp only[kA])|refine zW ?_|intro _)
   have hfin:=Hp.le_trans hle3 hl5
   have hs5:=hb5.s
   rw[he5] at hs5
   have hbs5:=hp_get hl5 hbs
   subst hTi
   subst hFi
   have hbk:=hblock_spec ρ5 ⟨T,F,S,P,(s.drop 22).take N⟩ e5.a e5.n e5.c hs5 (by dsimp only;omega) r6 (by dsimp only;omega) (by dsimp only;omega) (by omega)
   have hlh:(XC ⟨T,F,S,P,(s.drop 22).take N⟩).length=64:=headB_len _
   have hplh:((XC ⟨T,F,S,P,(s.drop 22).take N⟩).map Zk).length=64:=by simpa using hlh
   by_cases hbe:XC ⟨T,F,S,P,(s.drop 22).take N⟩=s
   ·rw[hbe] at hbk
    rw[decide_eq_true hbe] at hrd1
    subst hrd1
    refine Yt [0,1,3] (.e 2 [4] (.e 5 [] (.f [6] .o))) ([[(b5,.cells ⟨[.int .u64 (T:Int),.int .u64 (F:Int),.int .i64 (S:Int),.int .i64 (P:Int),slv e5]⟩ 109 (0,0))]]) ?_
    repeat' (refine iT ?_;first|refine rA ?_|(refine rE ?_<;>((first|(refine Zb (.func 98) ?_;refine qC rfl rfl (hbk) ?_;rintro v ρ' L' hle ⟨rfl,rfl,rfl⟩<;>(try simp only[kA]))|refine qEf ?_)<;>(try simp only[kA])<;>refine zN ?_)))
    all_goals (repeat' (first|refine zW ?_|intro _))
    all_goals exact qE (L':=[]) (v:=.tuple ⟨[.agg ⟨hdV ⟨T,F,S,P,(s.drop 22).take N⟩ e5.a e5.n e5.c⟩,.bool true]⟩) ⟨hfin,⟨e5.a,e5.n,e5.c,rfl,hs5,hb5.le,by omega⟩,rfl⟩
   ·rw[decide_eq_false hbe] at hrd1
    subst hrd1
    refine Yt [0,1,3] (.e 2 [4] (.e 5 [] (.f [6] .o))) ([[(b5,.cells ⟨[.int .u64 (T:Int),.int .u64 (F:Int),.int .i64 (S:Int),.int .i64 (P:Int),slv e5]⟩ 109 (0,0))]]) ?_
    repeat' (refine iT ?_;first|refine rA ?_|(refine rE ?_<;>((first|(refine Zb (.func 98) ?_;refine qC rfl rfl (hbk) ?_;rintro v ρ' L' hle ⟨rfl,rfl,rfl⟩<;>(try simp only[kA]))|refine qEf ?_)<;>(try simp only[kA])<;>refine zN ?_)))
    all_goals (repeat' (first|refine zW ?_|intro _))
    all_goals exact qE (L':=[]) (v:=.tuple ⟨[.agg ⟨hdV ⟨T,F,S,P,(s.drop 22).take N⟩ e5.a e5.n e5.c⟩,.bool false]⟩) ⟨hfin,⟨e5.a,e5.n,e5.c,rfl,hs5,hb5.le,by omega⟩,rfl⟩
  ·replace hrd2:=hrd2 hr
   subst hrd2
   by_cases q1:(1:Int)<=Ti
   ·skip
    by_cases q2:Ti<=1073741824
    ·skip
     by_cases q3:4<=S
     ·skip
      by_cases q4:S<=1000
      ·skip
       by_cases q5:(1:Int)<=Fi
       ·skip
        by_cases q6:Fi<=1099511627776
        ·skip
         by_cases q7:P<S
         ·skip
          by_cases q8:N<=32
          ·skip
           exact absurd ⟨by omega,by omega,by omega,by omega,by omega,by omega,by omega,by omega⟩ hr
          ·repeat' (first|refine zW ?_|intro _)
           exact qE (L':=[]) (v:=.tuple ⟨[.agg ⟨hdV zHd none 0 0⟩,.bool false]⟩) ⟨hle3,⟨none,0,0,rfl,SIn.nil,aR _,aZ _⟩,rfl⟩
         ·repeat' (first|refine zW ?_|intro _)
          exact qE (L':=[]) (v:=.tuple ⟨[.agg ⟨hdV zHd none 0 0⟩,.bool false]⟩) ⟨hle3,⟨none,0,0,rfl,SIn.nil,aR _,aZ _⟩,rfl⟩
        ·exact absurd (show Fi<=1099511627776 by omega) q6
       ·repeat' (first|refine zW ?_|intro _)
        exact qE (L':=[]) (v:=.tuple ⟨[.agg ⟨hdV zHd none 0 0⟩,.bool false]⟩) ⟨hle3,⟨none,0,0,rfl,SIn.nil,aR _,aZ _⟩,rfl⟩
      ·repeat' (first|refine zW ?_|intro _)
       exact qE (L':=[]) (v:=.tuple ⟨[.agg ⟨hdV zHd none 0 0⟩,.bool false]⟩) ⟨hle3,⟨none,0,0,rfl,SIn.nil,aR _,aZ _⟩,rfl⟩
     ·repeat' (first|refine zW ?_|intro _)
      exact qE (L':=[]) (v:=.tuple ⟨[.agg ⟨hdV zHd none 0 0⟩,.bool false]⟩) ⟨hle3,⟨none,0,0,rfl,SIn.nil,aR _,aZ _⟩,rfl⟩
    ·repeat' (first|refine zW ?_|intro _)
     exact qE (L':=[]) (v:=.tuple ⟨[.agg ⟨hdV zHd none 0 0⟩,.bool false]⟩) ⟨hle3,⟨none,0,0,rfl,SIn.nil,aR _,aZ _⟩,rfl⟩
   ·repeat' (first|refine zW ?_|intro _)
    exact qE (L':=[]) (v:=.tuple ⟨[.agg ⟨hdV zHd none 0 0⟩,.bool false]⟩) ⟨hle3,⟨none,0,0,rfl,SIn.nil,aR _,aZ _⟩,rfl⟩
end Go.Proofs.E
