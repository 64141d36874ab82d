/- Laws of PoolRule. Part 23 of 26. -/
import Derived.Test.YthjhjmnmnbcioaaGreatE22
set_option linter.unusedVariables false
set_option linter.unusedSimpArgs false
set_option linter.unusedSectionVars false
namespace Go.Proofs.E
open Go Tryz
set_option maxRecDepth 4000
set_option maxHeartbeats 1000000
attribute [local irreducible] Yl TL TC TE Spec YW R1 Hp.le EnvLe TS TR YS Zv TP QP
theorem counts_spec (ρ:Hp)(s t:Blk)(hs:s.length=64)(ht:t.length=64) :
  Spec prog 120 [bv s,bv t] ρ [] (λ v ρ' L'=>ρ.le ρ'/\(∃na nn nc,v=.tuple ⟨[.agg ⟨hdV (Wa s t).1 na nn nc⟩,.bool (Wa s t).2]⟩/\SIn ρ' Zk na nn (Wa s t).1.note/\nn<=nc/\nn<=32)/\L'=[]):=by
 have hpl:(s.map Zk).length=64:=by simpa using hs
 have hp1:=ZH s
 have hpl2:(t.map Zk).length=64:=by simpa using ht
 have hp2:=ZH t
 have hla:List.take 64 (List.drop 0 (s.map Zk))=s.map Zk:=by rw[List.drop_zero,aT (by omega)]
 have hlb:List.take 64 (List.drop 0 (t.map Zk))=t.map Zk:=by rw[List.drop_zero,aT (by omega)]
 have hr1:=hread_spec ρ s hs
 have hct:Wa s t=if (XL s).2 && (!(XL t).2 || decide ((XL t).1.turn<=(XL s).1.turn)) then ((XL s).1,true) else XL t:=rfl
 have hr2:∀ρ1,Spec prog 183 [bv t] ρ1 [] _:=λ ρ1=>hread_spec ρ1 t ht
 generalize XL s=A at *
 generalize XL t=B at *
 generalize Wa s t=C at *
 obtain⟨a,ab⟩:=A
 obtain⟨b,bb⟩:=B
 dsimp only at hct hr1 hr2
 cases ab
 ·cases bb
  ·have hC:C=(b,false):=by simpa using hct
   clear hct
   subst hC
   refine Za func120 rfl rfl rfl λ u RR=>?_
   simp only[Zc,kA]
   repeat' (first|(refine Zb (.func 183) ?_;refine qC rfl rfl hr1 ?_;rintro v1 ρ1 L1 hle1 ⟨hl1,⟨na1,nn1,nc1,rfl,hs1,hc1,hm1⟩,rfl⟩;try simp only[kA])|(refine Zb (.func 183) ?_;refine qC rfl rfl (hr2 _) ?_;rintro v2 ρ2 L2 hle2 ⟨hl2,⟨na2,nn2,nc2,rfl,hs2,hc2,hm2⟩,rfl⟩;try simp only[kA])|refine zW ?_|intro _)
   have hfin:=Hp.le_trans hl1 hl2
   exact qE (L':=[]) (v:=.tuple ⟨[.agg ⟨hdV b na2 nn2 nc2⟩,.bool false]⟩) ⟨hfin,⟨na2,nn2,nc2,rfl,hs2,hc2,hm2⟩,rfl⟩
  ·have hC:C=(b,true):=by simpa using hct
   clear hct
   subst hC
   refine Za func120 rfl rfl rfl λ u RR=>?_
   simp only[Zc,kA]
   repeat' (first|(refine Zb (.func 183) ?_;refine qC rfl rfl hr1 ?_;rintro v1 ρ1 L1 hle1 ⟨hl1,⟨na1,nn1,nc1,rfl,hs1,hc1,hm1⟩,rfl⟩;try simp only[kA])|(refine Zb (.func 183) ?_;refine qC rfl rfl (hr2 _) ?_;rintro v2 ρ2 L2 hle2 ⟨hl2,⟨na2,nn2,nc2,rfl,hs2,hc2,hm2⟩,rfl⟩;try simp only[kA])|refine zW ?_|intro _)
   have hfin:=Hp.le_trans hl1 hl2
   exact qE (L':=[]) (v:=.tuple ⟨[.agg ⟨hdV b na2 nn2 nc2⟩,.bool true]⟩) ⟨hfin,⟨na2,nn2,nc2,rfl,hs2,hc2,hm2⟩,rfl⟩
 ·cases bb
  ·have hC:C=(a,true):=by simpa using hct
   clear hct
   subst hC
   refine Za func120 rfl rfl rfl λ u RR=>?_
   simp only[Zc,kA]
   repeat' (first|(refine Zb (.func 183) ?_;refine qC rfl rfl hr1 ?_;rintro v1 ρ1 L1 hle1 ⟨hl1,⟨na1,nn1,nc1,rfl,hs1,hc1,hm1⟩,rfl⟩;try simp only[kA])|(refine Zb (.func 183) ?_;refine qC rfl rfl (hr2 _) ?_;rintro v2 ρ2 L2 hle2 ⟨hl2,⟨na2,nn2,nc2,rfl,hs2,hc2,hm2⟩,rfl⟩;try simp only[kA])|refine zW ?_|intro _)
   have hfin:=Hp.le_trans hl1 hl2
   exact qE (L':=[]) (v:=.tuple ⟨[.agg ⟨hdV a na1 nn1 nc1⟩,.bool true]⟩) ⟨hfin,⟨na1,nn1,nc1,rfl,hs1.mono hl2,hc1,hm1⟩,rfl⟩
  ·by_cases hg:b.turn<=a.turn
   ·have hC:C=(a,true):=by simpa [hg] using hct
    clear hct
    subst hC
    refine Za func120 rfl rfl rfl λ u RR=>?_
    simp only[Zc,kA]
    repeat' (first|(refine Zb (.func 183) ?_;refine qC rfl rfl hr1 ?_;rintro v1 ρ1 L1 hle1 ⟨hl1,⟨na1,nn1,nc1,rfl,hs1,hc1,hm1⟩,rfl⟩;try simp only[kA])|(refine Zb (.func 183) ?_;refine qC rfl rfl (hr2 _) ?_;rintro v2 ρ2 L2 hle2 ⟨hl2,⟨na2,nn2,nc2,rfl,hs2,hc2,hm2⟩,rfl⟩;try simp only[kA])|refine zW ?_|intro _)
    have hfin:=Hp.le_trans hl1 hl2
    exact qE (L':=[]) (v:=.tuple ⟨[.agg ⟨hdV a na1 nn1 nc1⟩,.bool true]⟩) ⟨hfin,⟨na1,nn1,nc1,rfl,hs1.mono hl2,hc1,hm1⟩,rfl⟩
   ·have hC:C=(b,true):=by simpa [hg] using hct
    clear hct
    subst hC
    refine Za func120 rfl rfl rfl λ u RR=>?_
    simp only[Zc,kA]
    repeat' (first|(refine Zb (.func 183) ?_;refine qC rfl rfl hr1 ?_;rintro v1 ρ1 L1 hle1 ⟨hl1,⟨na1,nn1,nc1,rfl,hs1,hc1,hm1⟩,rfl⟩;try simp only[kA])|(refine Zb (.func 183) ?_;refine qC rfl rfl (hr2 _) ?_;rintro v2 ρ2 L2 hle2 ⟨hl2,⟨na2,nn2,nc2,rfl,hs2,hc2,hm2⟩,rfl⟩;try simp only[kA])|refine zW ?_|intro _)
    have hfin:=Hp.le_trans hl1 hl2
    exact qE (L':=[]) (v:=.tuple ⟨[.agg ⟨hdV b na2 nn2 nc2⟩,.bool true]⟩) ⟨hfin,⟨na2,nn2,nc2,rfl,hs2,hc2,hm2⟩,rfl⟩
def openAns (ρ':Hp)(db:Nat)(k:DK)(r:Option RgS×DS×Int)(v:Value)(L':SH):Prop:=match r.1 with
 | none=>v=.tuple ⟨[.pointer none,.int .i64 r.2.2]⟩/\L'=Zg db k r.2.1
 | some R=>∃rb w,v=.tuple ⟨[.pointer (some ⟨rb,0,none⟩),.int .i64 0]⟩/\RIn ρ' R w/\L'=Yb rb db R w++Zg db k r.2.1
theorem readB_right {s:Blk}(h:(XL s).2=true):∃n,(XL s).1.Right n:=by
 unfold XL at h ⊢
 split at h
 ·rename_i hr;rw[if_pos hr];exact⟨_,hr⟩
 ·cases h
theorem countsB_right {a b:Blk}(h:(Wa a b).2=true):∃n,(Wa a b).1.Right n:=by
 unfold Wa at h ⊢
 split
 ·rename_i hc;simp only[aE] at hc;exact readB_right hc.1
 ·rename_i hc;rw[if_neg hc] at h;exact readB_right h
theorem foundGo_h:∀(f:Nat) (R:RgS) (D:DS),(Xa f R D).1.h=R.h
 | 0,R,D=>rfl
 | f+1,R,D=>by
  unfold Xa
  split
  ·split
   ·split
    ·rw[foundGo_h];rfl
    ·rfl
   ·rfl
  ·rfl
theorem open_spec (ρ:Hp)(db:Nat)(k:DK)(D:DS)(hD:DOk k D) :
  Spec prog 60 [.pointer (some ⟨db,0,none⟩)] ρ (Zg db k D) (λ v ρ' L'=>ρ.le ρ'/\∃k',DOk k' (openR D).2.1/\openAns ρ' db k' (openR D) v L'):=by
 have hOR:openR D=if (D.read 0).2.2≠0 then (none,(D.read 0).1,(D.read 0).2.2)
  else if ((D.read 0).1.read 1).2.2≠0 then (none,((D.read 0).1.read 1).1,((D.read 0).1.read 1).2.2)
  else if (Wa (D.read 0).2.1 ((D.read 0).1.read 1).2.1).2=false then (none,((D.read 0).1.read 1).1,140)
  else openH (Wa (D.read 0).2.1 ((D.read 0).1.read 1).2.1).1 ((D.read 0).1.read 1).1:=rfl
 have hk0:∀ρ,Spec prog _ _ ρ _ _:=λ ρ=>kread ρ db k D 0 hD
 have hDa:DOk k (D.read 0).1:=⟨hD.ok.read,hD.map.read⟩
 have hs0:=read_len hD.ok 0
 generalize openR D=RES at *
 generalize D.read 0=r0 at *
 obtain⟨Da,s0,e0⟩:=r0
 dsimp only at hOR hk0 hDa hs0
 have hk1:∀ρ,Spec prog _ _ ρ _ _:=λ ρ=>kread ρ db k Da 1 hDa
 have hDb:DOk k (Da.read 1).1:=⟨hDa.ok.read,hDa.map.read⟩
 have hs1:=read_len hDa.ok 1
 generalize Da.read 1=r1 at *
 obtain⟨Db,s1,e1⟩:=r1
 dsimp only at hOR hk1 hDb hs1
 have hpl0:(s0.map Zk).length=64:=by simpa using hs0
 have hpo0:=ZH s0
 have hpl1:(s1.map Zk).length=64:=by simpa using hs1
 have hpo1:=ZH s1
 have hst0:stc ((z8 128).map Zk) (0+Int.toNat 0*64) (s0.map Zk)=(s0++z8 64).map Zk:=by
  simp[stc,z8,hs0]
 have hst1:stc ((s0++z8 64).map Zk) (0+Int.toNat 1*64) (s1.map Zk)=(s0++s1).map Zk:=by
  simp[stc,z8,hs0,hs1]
 have hl128:((s0++z8 64).map Zk).length=128:=by simp[z8,hs0]
 refine Za func60 rfl rfl rfl λ u RR=>?_
 simp only[Zc,kA]
 repeat' (first|refine zW ?_|intro _)
 rename_i hb
 refine lpG (Int×(List Value)×DS) [0,4] (λ z=>[(13,.int .i64 z.1),(2,.pointer none),(3,.int .i64 0)]) (λ z=>ρ) (λ z=>[[(hb,.cells ⟨z.2.1⟩ 199 (0,0))]]++Zg db k z.2.2) (λ z=>DOk k z.2.2/\((z.1=0/\z.2.2=D/\z.2.1=(z8 128).map Zk)\/(z.1=1/\z.2.2=Da/\e0=0/\z.2.1=(s0++z8 64).map Zk)\/(z.1=2/\z.2.2=Db/\e0=0/\e1=0/\z.2.1=(s0++s1).map Zk))) (λ z=>(2-z.1).toNat) ((0,(z8 128).map Zk,D)) (⟨hD,.inl ⟨rfl,rfl,rfl⟩⟩) ?_
 rintro⟨i,cs,D1⟩ hI
 try simp only[kB] at hI ⊢
 try dsimp only at hI ⊢
 obtain⟨hD1,hor⟩:=hI
 rcases hor with⟨rfl,rfl,rfl⟩|⟨rfl,rfl,rfl,rfl⟩|⟨rfl,rfl,rfl,rfl,rfl⟩
 ·by_cases he:e0=0
  ·subst he
   repeat' (first|(refine Zb (.func 119) ?_;refine qC rfl rfl (hk0 _) ?_;rintro v ρ' L' hle ⟨rfl,rfl,hD2,rfl⟩<;>(try simp only[kA]))|refine zW ?_|intro _)
   rw[hst0]
   refine rnG (1,(s0++z8 64).map Zk,Da) (⟨hD2,.inr (.inl (by simp))⟩)
  ·rw[if_pos he] at hOR
   have hcb:(e0 != 0)=true:=by simpa using he
   repeat' (first|(refine Zb (.func 119) ?_;refine qC rfl rfl (hk0 _) ?_;rintro v ρ' L' hle ⟨rfl,rfl,hD2,rfl⟩<;>(try simp only[kA]))|refine zW ?_|intro _)
   subst hOR
   exact qE (L':=Zg db k Da) ⟨Hp.le_refl _,k,hDa,rfl,rfl⟩
 ·rw[if_neg (by simp)] at hOR
  by_cases he:e1=0
  ·subst he
   repeat' (first|(refine Zb (.func 119) ?_;refine qC rfl rfl (hk1 _) ?_;rintro v ρ' L' hle ⟨rfl,rfl,hD2,rfl⟩<;>(try simp only[kA]))|refine zW ?_|intro _)
   rw[hst1]
   refine rnG (2,(s0++s1).map Zk,Db) (⟨hD2,.inr (.inr (by simp))⟩)
  ·rw[if_pos he] at hOR
   have hcb:(e1 != 0)=true:=by simpa using he
   repeat' (first|(refine Zb (.func 119) ?_;refine qC rfl rfl (hk1 _) ?_;rintro v ρ' L' hle ⟨rfl,rfl,hD2,rfl⟩<;>(try simp only[kA]))|refine zW ?_|intro _)
   subst hOR
   exact qE (L':=Zg db k Db) ⟨Hp.le_refl _,k,hDb,rfl,rfl⟩
 ·rw[if_neg (by simp),if_neg (by simp)] at hOR
  have hct:=λ ρ=>counts_spec ρ s0 s1 hs0 hs1
  have hrt:=@countsB_right s0 s1
  generalize Wa s0 s1=c at *
  obtain⟨h,ok⟩:=c
  dsimp only at hOR hct hrt
  have hlc:((s0++s1).map Zk).length=128:=by simp[hs0,hs1]
  have hla:List.take 64 (List.drop (0+Int.toNat 0*64) ((s0++s1).map Zk))=s0.map Zk:=by simp[hs0]
  have hlb:List.take 64 (List.drop (0+Int.toNat 1*64) ((s0++s1).map Zk))=s1.map Zk:=by
   simp[hs0]
   exact aT (by simp[hs1])
  cases ok with
  | false=>
   rw[if_pos rfl] at hOR
   repeat' (first|(refine Zb (.func 120) ?_;refine qC rfl rfl (hct _) ?_;rintro v2 ρ2 L2 hle2 ⟨hl2,⟨na2,nn2,nc2,rfl,hs2,hc2,hm2⟩,rfl⟩;try simp only[kA])|refine zW ?_|intro _)
   rename_i b8
   refine Yt [0,1,2,3,5,6,7] (.e 4 [] (.f [8,9] .o)) ([[(b8,.cells ⟨hdV h na2 nn2 nc2⟩ 109 (0,0))]]) ?_
   repeat' (refine iT ?_;first|refine rA ?_|(refine rE ?_<;>((try refine ZX ?_);(first|(refine Zb (.func 39) ?_;refine qR rfl rfl (klen _ db k _) ?_;try simp only[kA]))<;>(try simp only[kA])<;>refine zN ?_)))
   all_goals (repeat' (first|refine zW ?_|intro _))
   all_goals subst hOR
   all_goals exact qE (L':=Zg db k _) ⟨hl2,k,hDb,rfl,rfl⟩
  | true=>
   obtain⟨nh,hr⟩:=hrt rfl
   unfold Hd.Right at hr
   rw[if_neg (by simp)] at hOR
   repeat' (first|(refine Zb (.func 120) ?_;refine qC rfl rfl (hct _) ?_;rintro v2 ρ2 L2 hle2 ⟨hl2,⟨na2,nn2,nc2,rfl,hs2,hc2,hm2⟩,rfl⟩;try simp only[kA])|refine zW ?_|intro _)
   rename_i b8
   unfold openH at hOR
   by_cases hln:D1.secs.length<h.size+2
   ·rw[if_pos hln] at hOR
    refine Yt [0,1,2,3,5,6,7] (.e 4 [] (.f [8,9] .o)) ([[(b8,.cells ⟨hdV h na2 nn2 nc2⟩ 109 (0,0))]]) ?_
    repeat' (refine iT ?_;first|refine rA ?_|(refine rE ?_<;>((try refine ZX ?_);(first|(refine Zb (.func 39) ?_;refine qR rfl rfl (klen _ db k _) ?_;try simp only[kA]))<;>(try simp only[kA])<;>refine zN ?_)))
    all_goals (repeat' (first|refine zW ?_|intro _))
    all_goals subst hOR
    all_goals exact qE (L':=Zg db k _) ⟨hl2,k,hDb,rfl,rfl⟩
   ·rw[if_neg hln] at hOR
    refine Yt [0,1,2,3,5,6,7] (.e 4 [] (.f [8,9] .o)) ([[(b8,.cells ⟨hdV h na2 nn2 nc2⟩ 109 (0,0))]]) ?_
    repeat' (refine iT ?_;first|refine rA ?_|(refine rE ?_<;>((try refine ZX ?_);(first|(refine Zb (.func 39) ?_;refine qR rfl rfl (klen _ db k _) ?_;try simp only[kA]))<;>(try simp only[kA])<;>refine zN ?_)))
    all_goals (iterate 8 (first|(refine i_tc ?_;refine qTc ?_)|(refine i_te ?_;refine qTe ?_)|refine tl_nil ?_|(refine i_op ?_;refine i_qq ?_;refine qQ ?_)))
    all_goals (refine tl_y (y_build (vs:=[.agg ⟨hdV h na2 nn2 nc2⟩,.pointer (some ⟨db,0,none⟩)]) (cells:=⟨rgV ⟨h,[],0,false⟩ db ⟨na2,nn2,nc2,.slice none 0 0,[],[]⟩⟩) rfl rfl) rfl rfl ?_)
    all_goals have hR0:RIn _ ⟨h,[],0,false⟩ ⟨na2,nn2,nc2,.slice none 0 0,[],[]⟩:=⟨⟨⟨hr.1,hr.2.1⟩,⟨hr.2.2.1,hr.2.2.2.1⟩,hr.2.2.2.2.1,by unfold RgS.next;simp;exact hr.2.2.2.2.2.1,hr.2.2.2.2.2.2.1,by rw[hs2.len];exact hm2,rfl,aZ _,λ b hb=>by cases hb⟩,hs2,hc2,OwnS.nil 1,rfl,λ e he=>by cases he⟩
    all_goals have hfd:=λ rb=>found_spec _ rb db ⟨h,[],0,false⟩ ⟨na2,nn2,nc2,.slice none 0 0,[],[]⟩ hR0 k D1 hDb
    all_goals have hfh:=foundGo_h (h.size+1) ⟨h,[],0,false⟩ D1
    all_goals generalize Xa (h.size+1) ⟨h,[],0,false⟩ D1=r at *
    all_goals (repeat' (first|(refine Zb (.func 121) ?_;refine qC rfl rfl (hfd _) ?_;rintro v5 ρ5 L5 hle5 ⟨rfl,hl5,hD5,w5,hR5,rfl⟩;try simp only[kA])|refine zW ?_|intro _))
    all_goals obtain⟨R1,D5,e5⟩:=r
    all_goals dsimp only at *
    all_goals by_cases hz:e5=0
    ·subst hz
     rw[if_neg (by simp)] at hOR
     rw[show ((0:Int) != 0)=false from rfl]
     subst hfh
     obtain⟨hd,ents,used,broken⟩:=R1
     dsimp only at *
     have hfin:=Hp.le_trans hl2 hl5
     by_cases ht:hd.turn=1073741824
     ·rw[if_pos ht] at hOR
      have ht':((hd.turn:Nat):Int)=1073741824:=by omega
      repeat' (first|refine zW ?_|intro _)
      subst hOR
      exact qE (L':=Zg db k D5) (v:=.tuple ⟨[.pointer none,.int .i64 140]⟩) ⟨hfin,k,hD5,rfl,rfl⟩
     ·rw[if_neg ht] at hOR
      have ht':¬((hd.turn:Nat):Int)=1073741824:=by omega
      have hn5:SIn ρ5 Zk w5.na w5.nn hd.note:=hR5.note
      have hnl5:w5.nn<=32:=by have:=hR5.ok.note;have:=hn5.len;dsimp only at *;omega
      have hld:=laid_spec ρ5 { hd with turn:=hd.turn+1 } w5.na w5.nn w5.nc hn5 (by dsimp only;omega) (by dsimp only;omega) (by dsimp only;omega) (by dsimp only;omega) hnl5 db k D5 hD5
      have hev:((hd.turn:Nat):Int)+1=((hd.turn+1:Nat):Int):=by omega
      generalize hLD:DS.lays (Yp { hd with turn:=hd.turn+1 }) D5=r6 at *
      obtain⟨D6,e6⟩:=r6
      dsimp only at *
      repeat' (first|(refine Zb (.func 42) ?_;simp only[hev];refine qC rfl rfl hld ?_;rintro v6 ρ6 L6 hle6 ⟨rfl,hl6,k6,hD6,rfl⟩;try simp only[kA])|refine zW ?_|intro _)
      have hfin6:=Hp.le_trans hfin hl6
      have hok:=hR5.ok
      by_cases hz6:e6=0
      ·subst hz6
       rw[if_pos rfl] at hOR
       subst hOR
       rw[show ((0:Int) != 0)=false from rfl]
       repeat' (first|refine zW ?_|intro _)
       rename_i rb6
       have hR6:RIn ρ6 ⟨{ hd with turn:=hd.turn+1 },ents,used,broken⟩ w5:=(RIn.mono ⟨⟨⟨by dsimp only;omega,by dsimp only;omega⟩,hok.size,hok.first,hok.next,hok.place,hok.note,hok.used,hok.fit,hok.long⟩,hR5.note,hR5.nle,hR5.own,hR5.ents,hR5.els⟩ hl6)
       exact qE (L':=Yb _ db ⟨{ hd with turn:=hd.turn+1 },ents,used,broken⟩ w5++Zg db k6 D6) ⟨hfin6,k6,hD6,_,w5,rfl,hR6,rfl⟩
      ·have hcb:(e6 != 0)=true:=by simpa using hz6
       rw[if_neg hz6] at hOR
       rw[hcb]
       repeat' (first|refine zW ?_|intro _)
       subst hOR
       exact qE (L':=Zg db k6 D6) (v:=.tuple ⟨[.pointer none,.int .i64 e6]⟩) ⟨hfin6,k6,hD6,rfl,rfl⟩
    ·have hcb:(e5 != 0)=true:=by simpa using hz
     rw[if_pos hz] at hOR
     rw[hcb]
     repeat' (first|refine zW ?_|intro _)
     have hfin:=Hp.le_trans hl2 hl5
     subst hOR
     exact qE (L':=Zg db k D5) (v:=.tuple ⟨[.pointer none,.int .i64 e5]⟩) ⟨hfin,k,hD5,rfl,rfl⟩
theorem crash_inN (ρ:Hp)(b:Nat)(hb:HB)(mb:Nat)(es:List MapEntry)(ck:Nat)(D:DS)(hD:D.Ok)(hm:MapOk D.secs es)(ka:Option Addr)(kn kp:Nat)(ks:List Bool)(hk:SIn ρ bb ka kn ks)(hp:kn<=kp)(hbig:kn<=9223372036854775807) :
  Spec prog 23 [.pointer (some ⟨b,0,none⟩),.slice ka kn kp] ρ (Xx b hb mb es ck D)
   (λ v ρ' L'=>v=.int .i64 0/\ρ.le ρ'/\∃mb' ck',L'=Xx b hb mb' [] ck' (D.crash (keepB ks))):=by
 have hl:=hk.len
 have:=crash_spec ρ b hb mb es ck D hD hm ka kn kp [] (keepB ks) (λ bk nth _=>by
  by_cases hlt:nth<kn
  ·obtain⟨kb,off,C,T,fr,rfl,e2,e3⟩:=hk.get (show nth<ks.length by omega)
   have hkb:keepB ks nth=ks[nth]:=by
    unfold keepB
    rw[List.getElem?_eq_getElem (show nth<ks.length by omega),Option.getD_some]
   rw[hkb]
   exact crash1_imm ρ bk nth kb off kn kp C T fr _ hlt e3 e2
  ·have hkb:keepB ks nth=false:=by
    unfold keepB
    rw[List.getElem?_eq_none (by omega)];rfl
   rw[hkb]
   exact crash1_over ρ bk nth ka kn kp [] (by omega))
 simp only[aN] at this
 exact this
theorem kcrash17 (ρ:Hp)(db:Nat)(k:DK)(D:DS)(hD:DOk k D)(ka:Option Addr)(kn kp:Nat)(ks:List Bool)(hk:SIn ρ bb ka kn ks)(hp:kn<=kp)(hbig:kn<=9223372036854775807) :
  Spec prog 23 [.pointer (some ⟨db,0,none⟩),.slice ka kn kp] ρ (Zg db k D)
   (λ v ρ' L'=>v=.int .i64 0/\ρ.le ρ'/\∃k',DOk k' (D.crash (keepB ks))/\L'=Zg db k' (D.crash (keepB ks))):=
 (crash_inN ρ db k.hb k.mb k.es k.ck D hD.ok hD.map ka kn kp ks hk hp hbig).mono (λ v ρ' L' _ ⟨h1,h2,mb',ck',h3⟩=>⟨h1,h2,⟨k.hb,mb',[],ck'⟩,⟨hD.ok.crash,MapOk.empty ZK⟩,h3⟩)
theorem karm17 (ρ:Hp)(db:Nat)(k:DK)(D:DS)(hD:DOk k D)(hd:D.dead=false)(n:Int)(h0:0<=n)(hn:n<=9223372036854775807):Spec prog 21 [.pointer (some ⟨db,0,none⟩),.int .i64 n] ρ (Zg db k D) (λ v ρ' L'=>v=.int .i64 0/\ρ'=ρ/\DOk k { D with armed:=n }/\L'=Zg db k { D with armed:=n }):=by
 have e:D.arm n=({ D with armed:=n },0):=by unfold DS.arm;rw[if_neg (by simp[hd]),show max n (-1)=n by omega]
 refine (arm_disk ρ db k.hb k.mb k.es k.ck D n).mono ?_
 rintro v ρ' L' _ ⟨h1,h2,h3⟩
 rw[e] at h1 h3
 exact⟨h1,h2,⟨⟨hD.ok.secs,by dsimp only;omega,hn,hD.ok.f1,hD.ok.f2⟩,hD.map⟩,h3⟩
theorem gopenF (ρ:Hp)(db:Nat)(k:DK)(D:DS)(hD:DOk k D)(R:RgS)(h:RO R D)(hc:D.Calm)(ht:R.h.turn<1073741824) :
  ∃D',Good R.again D'/\D'.secs.length=D.secs.length/\(∀i,2<=i->img D' i=img D i)/\Spec prog 60 [.pointer (some ⟨db,0,none⟩)] ρ (Zg db k D) (λ v ρ' L'=>ρ.le ρ'/\∃rb w k',v=.tuple ⟨[.pointer (some ⟨rb,0,none⟩),.int .i64 0]⟩/\DOk k' D'/\RIn ρ' R.again w/\L'=Yb rb db R.again w++Zg db k' D'):=by
 obtain⟨D',e,h1,h2,h3,h4,h5⟩:=h.open hc ht
 refine⟨D',⟨h1,h2,h3⟩,h4,h5,(open_spec ρ db k D hD).mono ?_⟩
 rintro v ρ' L' _ ⟨hle,k',hk',ha⟩
 unfold openAns at ha
 rw[e] at ha hk'
 obtain⟨rb,w,hv,hin,hL⟩:=ha
 exact⟨hle,rb,w,k',hv,hk',hin,hL⟩
theorem kopen16 (ρ:Hp)(db:Nat)(k:DK)(D:DS)(hD:DOk k D)(hc:D.Calm)(R:RgS)(f t:Nat)(held:Nat->ZS)(h:RO R D)(hh:R.h=ZI 450)(he:R.ents=begE f)(hf:f<=300)(hfo:FO D 902 t held) :
  ∃D',D'.Calm/\FO D' 902 t held/\Spec prog 24 [.pointer (some ⟨db,0,none⟩)] ρ (Zg db k D) (λ v ρ' L'=>ρ.le ρ'/\∃lb rb w k' S v' sp',v=.tuple ⟨[.pointer (some ⟨lb,0,none⟩),.int .i64 0]⟩/\DOk k' D'/\S.fl=f/\L'=ZW lb rb S v'::YK S v' sp'::(Yb rb db R.again w++Zg db k' D')):=by
 have ht:R.h.turn<1073741824:=by rw[hh];decide
 obtain⟨D',g,hl,hi,hop⟩:=gopenF ρ db k D hD R h hc ht
 have hf1:R.again.h.first=1:=by show R.h.first=1;rw[hh];rfl
 have hnt:R.again.h.note=[]:=by show R.h.note=[];rw[hh];rfl
 have hel:R.again.ents.length=f:=by show R.ents.length=f;rw[he,List.length_map,begL_len]
 refine⟨D',g.calm,hfo.frame g.ro.dok g.ro.alive g.ro.empty hl (λ i h1 _=>hi i (by omega)),(lopen_spec ρ db k D D' R.again hop 0 1 (λ S _ h2 h3=>by
  rw[hnt]
  unfold notedS
  rw[if_pos (show ([]:Bs).length=0 from rfl),<-h2,<-h3]) (by omega) (by omega) (λ i hi=>?_) (by omega)).mono ?_⟩
 ·have hi2:i<f:=by omega
  have e1:R.again.ents[i]=YG (Vo (1+i) 1):=by
   have:R.again.ents=begE f:=he
   rw[List.getElem_of_eq this]
   simp[begE,Yq]
  have hok:=begR_ok (lsn:=1+i) (txn:=1) (by omega) (by omega) (by omega) (by omega)
  have hd:=dec_enc hok ⟨by simp[Vo],by simp[Vo]⟩
  rw[e1,hd.2,hf1]
  exact⟨hd.1,rfl⟩
 ·rintro v ρ' L' _ ⟨hle,lb,rb,w,k',l,v',sp',hv,hk',_,_,_,hL⟩
  exact⟨hle,lb,rb,w,k',_,v',sp',hv,hk',by dsimp only;omega,hL⟩
end Go.Proofs.E
