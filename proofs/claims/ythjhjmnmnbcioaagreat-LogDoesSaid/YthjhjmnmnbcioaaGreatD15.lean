/- Laws of LogDoes. Part 15 of 30. -/
import Derived.Test.YthjhjmnmnbcioaaGreatD14
set_option linter.unusedVariables false
set_option linter.unusedSimpArgs false
set_option linter.unusedSectionVars false
namespace Go.Proofs.E
open Go Tryz
set_option maxRecDepth 4000
set_option maxHeartbeats 1000000
attribute [local irreducible] Yl TL TC TE Spec YL R1 Hp.le EnvLe TS TR YS Zt TP QP
theorem counts_spec (ρ:Hp)(s t:Blk)(hs:s.length=64)(ht:t.length=64) :
  Spec prog 120 [bv s,bv t] ρ [] (λ v ρ' L'=>ρ.le ρ'/\(∃na nn nc,v=.tuple ⟨[.agg ⟨hdV (XT s t).1 na nn nc⟩,.bool (XT s t).2]⟩/\SIn ρ' Zk na nn (XT s t).1.note/\nn<=nc/\nn<=32)/\L'=[]):=by
 have hpl:(s.map Zk).length=64:=by simpa using hs
 have hp1:=Yr s
 have hpl2:(t.map Zk).length=64:=by simpa using ht
 have hp2:=Yr t
 have hla:List.take 64 (List.drop 0 (s.map Zk))=s.map Zk:=by rw[List.drop_zero,aT (by omega)]
 have hlb:List.take 64 (List.drop 0 (t.map Zk))=t.map Zk:=by rw[List.drop_zero,aT (by omega)]
 have hr1:=hread_spec ρ s hs
 have hct:XT s t=if (XJ s).2 && (!(XJ t).2 || decide ((XJ t).1.turn<=(XJ s).1.turn)) then ((XJ s).1,true) else XJ t:=rfl
 have hr2:∀ρ1,Spec prog 183 [bv t] ρ1 [] _:=λ ρ1=>hread_spec ρ1 t ht
 generalize XJ s=A at *
 generalize XJ t=B at *
 generalize XT s t=C at *
 obtain⟨a,ab⟩:=A
 obtain⟨b,bb⟩:=B
 dsimp only at hct hr1 hr2
 cases ab
 ·cases bb
  ·have hC:C=(b,false):=by simpa using hct
   clear hct
   subst hC
   refine Zb func120 rfl rfl rfl λ u RR=>?_
   simp only[Zc,kA]
   repeat' (first|(refine Za (.func 183) ?_;refine qC rfl rfl hr1 ?_;rintro v1 ρ1 L1 hle1 ⟨hl1,⟨na1,nn1,nc1,rfl,hs1,hc1,hm1⟩,rfl⟩;try simp only[kA])|(refine Za (.func 183) ?_;refine qC rfl rfl (hr2 _) ?_;rintro v2 ρ2 L2 hle2 ⟨hl2,⟨na2,nn2,nc2,rfl,hs2,hc2,hm2⟩,rfl⟩;try simp only[kA])|refine zW ?_|intro _)
   have hfin:=Hp.le_trans hl1 hl2
   exact qE (L':=[]) (v:=.tuple ⟨[.agg ⟨hdV b na2 nn2 nc2⟩,.bool false]⟩) ⟨hfin,⟨na2,nn2,nc2,rfl,hs2,hc2,hm2⟩,rfl⟩
  ·have hC:C=(b,true):=by simpa using hct
   clear hct
   subst hC
   refine Zb func120 rfl rfl rfl λ u RR=>?_
   simp only[Zc,kA]
   repeat' (first|(refine Za (.func 183) ?_;refine qC rfl rfl hr1 ?_;rintro v1 ρ1 L1 hle1 ⟨hl1,⟨na1,nn1,nc1,rfl,hs1,hc1,hm1⟩,rfl⟩;try simp only[kA])|(refine Za (.func 183) ?_;refine qC rfl rfl (hr2 _) ?_;rintro v2 ρ2 L2 hle2 ⟨hl2,⟨na2,nn2,nc2,rfl,hs2,hc2,hm2⟩,rfl⟩;try simp only[kA])|refine zW ?_|intro _)
   have hfin:=Hp.le_trans hl1 hl2
   exact qE (L':=[]) (v:=.tuple ⟨[.agg ⟨hdV b na2 nn2 nc2⟩,.bool true]⟩) ⟨hfin,⟨na2,nn2,nc2,rfl,hs2,hc2,hm2⟩,rfl⟩
 ·cases bb
  ·have hC:C=(a,true):=by simpa using hct
   clear hct
   subst hC
   refine Zb func120 rfl rfl rfl λ u RR=>?_
   simp only[Zc,kA]
   repeat' (first|(refine Za (.func 183) ?_;refine qC rfl rfl hr1 ?_;rintro v1 ρ1 L1 hle1 ⟨hl1,⟨na1,nn1,nc1,rfl,hs1,hc1,hm1⟩,rfl⟩;try simp only[kA])|(refine Za (.func 183) ?_;refine qC rfl rfl (hr2 _) ?_;rintro v2 ρ2 L2 hle2 ⟨hl2,⟨na2,nn2,nc2,rfl,hs2,hc2,hm2⟩,rfl⟩;try simp only[kA])|refine zW ?_|intro _)
   have hfin:=Hp.le_trans hl1 hl2
   exact qE (L':=[]) (v:=.tuple ⟨[.agg ⟨hdV a na1 nn1 nc1⟩,.bool true]⟩) ⟨hfin,⟨na1,nn1,nc1,rfl,hs1.mono hl2,hc1,hm1⟩,rfl⟩
  ·by_cases hg:b.turn<=a.turn
   ·have hC:C=(a,true):=by simpa [hg] using hct
    clear hct
    subst hC
    refine Zb func120 rfl rfl rfl λ u RR=>?_
    simp only[Zc,kA]
    repeat' (first|(refine Za (.func 183) ?_;refine qC rfl rfl hr1 ?_;rintro v1 ρ1 L1 hle1 ⟨hl1,⟨na1,nn1,nc1,rfl,hs1,hc1,hm1⟩,rfl⟩;try simp only[kA])|(refine Za (.func 183) ?_;refine qC rfl rfl (hr2 _) ?_;rintro v2 ρ2 L2 hle2 ⟨hl2,⟨na2,nn2,nc2,rfl,hs2,hc2,hm2⟩,rfl⟩;try simp only[kA])|refine zW ?_|intro _)
    have hfin:=Hp.le_trans hl1 hl2
    exact qE (L':=[]) (v:=.tuple ⟨[.agg ⟨hdV a na1 nn1 nc1⟩,.bool true]⟩) ⟨hfin,⟨na1,nn1,nc1,rfl,hs1.mono hl2,hc1,hm1⟩,rfl⟩
   ·have hC:C=(b,true):=by simpa [hg] using hct
    clear hct
    subst hC
    refine Zb func120 rfl rfl rfl λ u RR=>?_
    simp only[Zc,kA]
    repeat' (first|(refine Za (.func 183) ?_;refine qC rfl rfl hr1 ?_;rintro v1 ρ1 L1 hle1 ⟨hl1,⟨na1,nn1,nc1,rfl,hs1,hc1,hm1⟩,rfl⟩;try simp only[kA])|(refine Za (.func 183) ?_;refine qC rfl rfl (hr2 _) ?_;rintro v2 ρ2 L2 hle2 ⟨hl2,⟨na2,nn2,nc2,rfl,hs2,hc2,hm2⟩,rfl⟩;try simp only[kA])|refine zW ?_|intro _)
    have hfin:=Hp.le_trans hl1 hl2
    exact qE (L':=[]) (v:=.tuple ⟨[.agg ⟨hdV b na2 nn2 nc2⟩,.bool true]⟩) ⟨hfin,⟨na2,nn2,nc2,rfl,hs2,hc2,hm2⟩,rfl⟩
def openAns (ρ':Hp)(db:Nat)(k:DK)(r:Option RgS×DS×Int)(v:Value)(L':SH):Prop:=match r.1 with
 | none=>v=.tuple ⟨[.pointer none,.int .i64 r.2.2]⟩/\L'=Zj db k r.2.1
 | some R=>∃rb w,v=.tuple ⟨[.pointer (some ⟨rb,0,none⟩),.int .i64 0]⟩/\RIn ρ' R w/\L'=ZF rb db R w++Zj db k r.2.1
theorem readB_right {s:Blk}(h:(XJ s).2=true):∃n,(XJ s).1.Right n:=by
 unfold XJ at h ⊢
 split at h
 ·rename_i hr;rw[if_pos hr];exact⟨_,hr⟩
 ·cases h
theorem countsB_right {a b:Blk}(h:(XT a b).2=true):∃n,(XT a b).1.Right n:=by
 unfold XT at h ⊢
 split
 ·rename_i hc;simp only[aE] at hc;exact readB_right hc.1
 ·rename_i hc;rw[if_neg hc] at h;exact readB_right h
theorem foundGo_h:∀(f:Nat) (R:RgS) (D:DS),(YW f R D).1.h=R.h
 | 0,R,D=>rfl
 | f+1,R,D=>by
  unfold YW
  split
  ·split
   ·split
    ·rw[foundGo_h];rfl
    ·rfl
   ·rfl
  ·rfl
theorem open_spec (ρ:Hp)(db:Nat)(k:DK)(D:DS)(hD:DOk k D) :
  Spec prog 60 [.pointer (some ⟨db,0,none⟩)] ρ (Zj db k D) (λ v ρ' L'=>ρ.le ρ'/\∃k',DOk k' (openR D).2.1/\openAns ρ' db k' (openR D) v L'):=by
 have hOR:openR D=if (D.read 0).2.2≠0 then (none,(D.read 0).1,(D.read 0).2.2)
  else if ((D.read 0).1.read 1).2.2≠0 then (none,((D.read 0).1.read 1).1,((D.read 0).1.read 1).2.2)
  else if (XT (D.read 0).2.1 ((D.read 0).1.read 1).2.1).2=false then (none,((D.read 0).1.read 1).1,140)
  else openH (XT (D.read 0).2.1 ((D.read 0).1.read 1).2.1).1 ((D.read 0).1.read 1).1:=rfl
 have hk0:∀ρ,Spec prog _ _ ρ _ _:=λ ρ=>kread ρ db k D 0 hD
 have hDa:DOk k (D.read 0).1:=⟨hD.ok.read,hD.map.read⟩
 have hs0:=read_len hD.ok 0
 generalize openR D=RES at *
 generalize D.read 0=r0 at *
 obtain⟨Da,s0,e0⟩:=r0
 dsimp only at hOR hk0 hDa hs0
 have hk1:∀ρ,Spec prog _ _ ρ _ _:=λ ρ=>kread ρ db k Da 1 hDa
 have hDb:DOk k (Da.read 1).1:=⟨hDa.ok.read,hDa.map.read⟩
 have hs1:=read_len hDa.ok 1
 generalize Da.read 1=r1 at *
 obtain⟨Db,s1,e1⟩:=r1
 dsimp only at hOR hk1 hDb hs1
 have hpl0:(s0.map Zk).length=64:=by simpa using hs0
 have hpo0:=Yr s0
 have hpl1:(s1.map Zk).length=64:=by simpa using hs1
 have hpo1:=Yr s1
 have hst0:stc ((z8 128).map Zk) (0+Int.toNat 0*64) (s0.map Zk)=(s0++z8 64).map Zk:=by
  simp[stc,z8,hs0]
 have hst1:stc ((s0++z8 64).map Zk) (0+Int.toNat 1*64) (s1.map Zk)=(s0++s1).map Zk:=by
  simp[stc,z8,hs0,hs1]
 have hl128:((s0++z8 64).map Zk).length=128:=by simp[z8,hs0]
 refine Zb func60 rfl rfl rfl λ u RR=>?_
 simp only[Zc,kA]
 repeat' (first|refine zW ?_|intro _)
 rename_i hb
 refine lpG (Int×(List Value)×DS) [0,4] (λ z=>[(13,.int .i64 z.1),(2,.pointer none),(3,.int .i64 0)]) (λ z=>ρ) (λ z=>[[(hb,.cells ⟨z.2.1⟩ 199 (0,0))]]++Zj db k z.2.2) (λ z=>DOk k z.2.2/\((z.1=0/\z.2.2=D/\z.2.1=(z8 128).map Zk)\/(z.1=1/\z.2.2=Da/\e0=0/\z.2.1=(s0++z8 64).map Zk)\/(z.1=2/\z.2.2=Db/\e0=0/\e1=0/\z.2.1=(s0++s1).map Zk))) (λ z=>(2-z.1).toNat) ((0,(z8 128).map Zk,D)) (⟨hD,.inl ⟨rfl,rfl,rfl⟩⟩) ?_
 rintro⟨i,cs,D1⟩ hI
 try simp only[kB] at hI ⊢
 try dsimp only at hI ⊢
 obtain⟨hD1,hor⟩:=hI
 rcases hor with⟨rfl,rfl,rfl⟩|⟨rfl,rfl,rfl,rfl⟩|⟨rfl,rfl,rfl,rfl,rfl⟩
 ·by_cases he:e0=0
  ·subst he
   repeat' (first|(refine Za (.func 119) ?_;refine qC rfl rfl (hk0 _) ?_;rintro v ρ' L' hle ⟨rfl,rfl,hD2,rfl⟩<;>(try simp only[kA]))|refine zW ?_|intro _)
   rw[hst0]
   refine rnG (1,(s0++z8 64).map Zk,Da) (⟨hD2,.inr (.inl (by simp))⟩)
  ·rw[if_pos he] at hOR
   have hcb:(e0 != 0)=true:=by simpa using he
   repeat' (first|(refine Za (.func 119) ?_;refine qC rfl rfl (hk0 _) ?_;rintro v ρ' L' hle ⟨rfl,rfl,hD2,rfl⟩<;>(try simp only[kA]))|refine zW ?_|intro _)
   subst hOR
   exact qE (L':=Zj db k Da) ⟨Hp.le_refl _,k,hDa,rfl,rfl⟩
 ·rw[if_neg (by simp)] at hOR
  by_cases he:e1=0
  ·subst he
   repeat' (first|(refine Za (.func 119) ?_;refine qC rfl rfl (hk1 _) ?_;rintro v ρ' L' hle ⟨rfl,rfl,hD2,rfl⟩<;>(try simp only[kA]))|refine zW ?_|intro _)
   rw[hst1]
   refine rnG (2,(s0++s1).map Zk,Db) (⟨hD2,.inr (.inr (by simp))⟩)
  ·rw[if_pos he] at hOR
   have hcb:(e1 != 0)=true:=by simpa using he
   repeat' (first|(refine Za (.func 119) ?_;refine qC rfl rfl (hk1 _) ?_;rintro v ρ' L' hle ⟨rfl,rfl,hD2,rfl⟩<;>(try simp only[kA]))|refine zW ?_|intro _)
   subst hOR
   exact qE (L':=Zj db k Db) ⟨Hp.le_refl _,k,hDb,rfl,rfl⟩
 ·rw[if_neg (by simp),if_neg (by simp)] at hOR
  have hct:=λ ρ=>counts_spec ρ s0 s1 hs0 hs1
  have hrt:=@countsB_right s0 s1
  generalize XT s0 s1=c at *
  obtain⟨h,ok⟩:=c
  dsimp only at hOR hct hrt
  have hlc:((s0++s1).map Zk).length=128:=by simp[hs0,hs1]
  have hla:List.take 64 (List.drop (0+Int.toNat 0*64) ((s0++s1).map Zk))=s0.map Zk:=by simp[hs0]
  have hlb:List.take 64 (List.drop (0+Int.toNat 1*64) ((s0++s1).map Zk))=s1.map Zk:=by
   simp[hs0]
   exact aT (by simp[hs1])
  cases ok with
  | false=>
   rw[if_pos rfl] at hOR
   repeat' (first|(refine Za (.func 120) ?_;refine qC rfl rfl (hct _) ?_;rintro v2 ρ2 L2 hle2 ⟨hl2,⟨na2,nn2,nc2,rfl,hs2,hc2,hm2⟩,rfl⟩;try simp only[kA])|refine zW ?_|intro _)
   rename_i b8
   refine tpA [0,1,2,3,5,6,7] (.e 4 [] (.f [8,9] .o)) ([[(b8,.cells ⟨hdV h na2 nn2 nc2⟩ 109 (0,0))]]) ?_
   repeat' (refine iT ?_;first|refine rA ?_|(refine rE ?_<;>((try refine ZM ?_);(first|(refine Za (.func 39) ?_;refine qR rfl rfl (klen _ db k _) ?_;try simp only[kA]))<;>(try simp only[kA])<;>refine zN ?_)))
   all_goals (repeat' (first|refine zW ?_|intro _))
   all_goals subst hOR
   all_goals exact qE (L':=Zj db k _) ⟨hl2,k,hDb,rfl,rfl⟩
  | true=>
   obtain⟨nh,hr⟩:=hrt rfl
   unfold Hd.Right at hr
   rw[if_neg (by simp)] at hOR
   repeat' (first|(refine Za (.func 120) ?_;refine qC rfl rfl (hct _) ?_;rintro v2 ρ2 L2 hle2 ⟨hl2,⟨na2,nn2,nc2,rfl,hs2,hc2,hm2⟩,rfl⟩;try simp only[kA])|refine zW ?_|intro _)
   rename_i b8
   unfold openH at hOR
   by_cases hln:D1.secs.length<h.size+2
   ·rw[if_pos hln] at hOR
    refine tpA [0,1,2,3,5,6,7] (.e 4 [] (.f [8,9] .o)) ([[(b8,.cells ⟨hdV h na2 nn2 nc2⟩ 109 (0,0))]]) ?_
    repeat' (refine iT ?_;first|refine rA ?_|(refine rE ?_<;>((try refine ZM ?_);(first|(refine Za (.func 39) ?_;refine qR rfl rfl (klen _ db k _) ?_;try simp only[kA]))<;>(try simp only[kA])<;>refine zN ?_)))
    all_goals (repeat' (first|refine zW ?_|intro _))
    all_goals subst hOR
    all_goals exact qE (L':=Zj db k _) ⟨hl2,k,hDb,rfl,rfl⟩
   ·rw[if_neg hln] at hOR
    refine tpA [0,1,2,3,5,6,7] (.e 4 [] (.f [8,9] .o)) ([[(b8,.cells ⟨hdV h na2 nn2 nc2⟩ 109 (0,0))]]) ?_
    repeat' (refine iT ?_;first|refine rA ?_|(refine rE ?_<;>((try refine ZM ?_);(first|(refine Za (.func 39) ?_;refine qR rfl rfl (klen _ db k _) ?_;try simp only[kA]))<;>(try simp only[kA])<;>refine zN ?_)))
    all_goals (iterate 8 (first|(refine i_tc ?_;refine qTc ?_)|(refine i_te ?_;refine qTe ?_)|refine Yz ?_|(refine i_op ?_;refine i_qq ?_;refine qQ ?_)))
    all_goals (refine tl_y (VB (vs:=[.agg ⟨hdV h na2 nn2 nc2⟩,.pointer (some ⟨db,0,none⟩)]) (cells:=⟨rgV ⟨h,[],0,false⟩ db ⟨na2,nn2,nc2,.slice none 0 0,[],[]⟩⟩) rfl rfl) rfl rfl ?_)
    all_goals have hR0:RIn _ ⟨h,[],0,false⟩ ⟨na2,nn2,nc2,.slice none 0 0,[],[]⟩:=⟨⟨⟨hr.1,hr.2.1⟩,⟨hr.2.2.1,hr.2.2.2.1⟩,hr.2.2.2.2.1,by unfold RgS.next;simp;exact hr.2.2.2.2.2.1,hr.2.2.2.2.2.2.1,by rw[hs2.len];exact hm2,rfl,aZ _,λ b hb=>by cases hb⟩,hs2,hc2,OwnS.nil 1,rfl,λ e he=>by cases he⟩
    all_goals have hfd:=λ rb=>found_spec _ rb db ⟨h,[],0,false⟩ ⟨na2,nn2,nc2,.slice none 0 0,[],[]⟩ hR0 k D1 hDb
    all_goals have hfh:=foundGo_h (h.size+1) ⟨h,[],0,false⟩ D1
    all_goals generalize YW (h.size+1) ⟨h,[],0,false⟩ D1=r at *
    all_goals (repeat' (first|(refine Za (.func 121) ?_;refine qC rfl rfl (hfd _) ?_;rintro v5 ρ5 L5 hle5 ⟨rfl,hl5,hD5,w5,hR5,rfl⟩;try simp only[kA])|refine zW ?_|intro _))
    all_goals obtain⟨R1,D5,e5⟩:=r
    all_goals dsimp only at *
    all_goals by_cases hz:e5=0
    ·subst hz
     rw[if_neg (by simp)] at hOR
     rw[show ((0:Int) != 0)=false from rfl]
     subst hfh
     obtain⟨hd,ents,used,broken⟩:=R1
     dsimp only at *
     have hfin:=Hp.le_trans hl2 hl5
     by_cases ht:hd.turn=1073741824
     ·rw[if_pos ht] at hOR
      have ht':((hd.turn:Nat):Int)=1073741824:=by omega
      repeat' (first|refine zW ?_|intro _)
      subst hOR
      exact qE (L':=Zj db k D5) (v:=.tuple ⟨[.pointer none,.int .i64 140]⟩) ⟨hfin,k,hD5,rfl,rfl⟩
     ·rw[if_neg ht] at hOR
      have ht':¬((hd.turn:Nat):Int)=1073741824:=by omega
      have hn5:SIn ρ5 Zk w5.na w5.nn hd.note:=hR5.note
      have hnl5:w5.nn<=32:=by have:=hR5.ok.note;have:=hn5.len;dsimp only at *;omega
      have hld:=laid_spec ρ5 { hd with turn:=hd.turn+1 } w5.na w5.nn w5.nc hn5 (by dsimp only;omega) (by dsimp only;omega) (by dsimp only;omega) (by dsimp only;omega) hnl5 db k D5 hD5
      have hev:((hd.turn:Nat):Int)+1=((hd.turn+1:Nat):Int):=by omega
      generalize hLD:DS.lays (Yi { hd with turn:=hd.turn+1 }) D5=r6 at *
      obtain⟨D6,e6⟩:=r6
      dsimp only at *
      repeat' (first|(refine Za (.func 42) ?_;simp only[hev];refine qC rfl rfl hld ?_;rintro v6 ρ6 L6 hle6 ⟨rfl,hl6,k6,hD6,rfl⟩;try simp only[kA])|refine zW ?_|intro _)
      have hfin6:=Hp.le_trans hfin hl6
      have hok:=hR5.ok
      by_cases hz6:e6=0
      ·subst hz6
       rw[if_pos rfl] at hOR
       subst hOR
       rw[show ((0:Int) != 0)=false from rfl]
       repeat' (first|refine zW ?_|intro _)
       rename_i rb6
       have hR6:RIn ρ6 ⟨{ hd with turn:=hd.turn+1 },ents,used,broken⟩ w5:=(RIn.mono ⟨⟨⟨by dsimp only;omega,by dsimp only;omega⟩,hok.size,hok.first,hok.next,hok.place,hok.note,hok.used,hok.fit,hok.long⟩,hR5.note,hR5.nle,hR5.own,hR5.ents,hR5.els⟩ hl6)
       exact qE (L':=ZF _ db ⟨{ hd with turn:=hd.turn+1 },ents,used,broken⟩ w5++Zj db k6 D6) ⟨hfin6,k6,hD6,_,w5,rfl,hR6,rfl⟩
      ·have hcb:(e6 != 0)=true:=by simpa using hz6
       rw[if_neg hz6] at hOR
       rw[hcb]
       repeat' (first|refine zW ?_|intro _)
       subst hOR
       exact qE (L':=Zj db k6 D6) (v:=.tuple ⟨[.pointer none,.int .i64 e6]⟩) ⟨hfin6,k6,hD6,rfl,rfl⟩
    ·have hcb:(e5 != 0)=true:=by simpa using hz
     rw[if_pos hz] at hOR
     rw[hcb]
     repeat' (first|refine zW ?_|intro _)
     have hfin:=Hp.le_trans hl2 hl5
     subst hOR
     exact qE (L':=Zj db k D5) (v:=.tuple ⟨[.pointer none,.int .i64 e5]⟩) ⟨hfin,k,hD5,rfl,rfl⟩
def noteR (b:Bs):Option (Nat×Nat):=if b.length=0 then some (0,1) else if b.length=12 then (if 1<=ZV (b.drop 8)/\ZV (b.drop 8)<=1073741824 then some (ZV (b.take 8),ZV (b.drop 8)) else none) else none
theorem noteR_some {b:Bs}{ma nx:Nat}(h:noteR b=some (ma,nx))(S:LgS)(h1:S.ma=0)(h2:S.nx=1):notedS S b=({ S with ma:=ma,nx:=(nx:Int) },true):=by
 unfold noteR at h
 unfold notedS
 split at h
 ·rename_i e;rw[if_pos e];cases h;cases S;cases h1;cases h2;rfl
 ·rename_i e
  rw[if_neg e]
  split at h
  ·rename_i e2
   rw[if_pos e2]
   split at h
   ·rename_i e3;cases h;rw[decide_eq_true e3]
   ·cases h
  ·cases h
theorem noteR_none {b:Bs}(h:noteR b=none)(S:LgS):∃S',notedS S b=(S',false)/\S'.R=S.R/\S'.base=S.base/\S'.recs=S.recs:=by
 unfold noteR at h
 unfold notedS
 split at h
 ·cases h
 ·rename_i e
  rw[if_neg e]
  split at h
  ·rename_i e2
   rw[if_pos e2]
   split at h
   ·cases h
   ·rename_i e3;rw[decide_eq_false e3];exact⟨_,rfl,rfl,rfl,rfl⟩
  ·rename_i e2;rw[if_neg e2];exact⟨_,rfl,rfl,rfl,rfl⟩
def EntsOk (f:Nat)(ents:List Bs):Prop:=∀i (hi:i<ents.length),Yb (ents[i])=true/\(XD (ents[i])).lsn=f+i
theorem lopen_bad1 (ρ:Hp)(db:Nat)(k:DK)(D D':DS)(R:RgS)(hop:Spec prog 60 [.pointer (some ⟨db,0,none⟩)] ρ (Zj db k D) (λ v ρ' L'=>ρ.le ρ'/\∃rb w k',v=.tuple ⟨[.pointer (some ⟨rb,0,none⟩),.int .i64 0]⟩/\DOk k' D'/\RIn ρ' R w/\L'=ZF rb db R w++Zj db k' D'))
  (hno:noteR R.h.note=none) (hn:R.ents.length<=1000) :
  Spec prog 24 [.pointer (some ⟨db,0,none⟩)] ρ (Zj db k D) (λ v ρ' L'=>ρ.le ρ'/\∃k',v=.tuple ⟨[.pointer none,.int .i64 260]⟩/\DOk k' D'/\L'=Zj db k' D'):=by
 refine Zb func24 rfl rfl rfl λ u R'=>?_
 simp only[Zc,kA]
 repeat' (first|(refine Za (.func 60) ?_;refine qC rfl rfl hop ?_;rintro v1 ρ1 L1 hle1 ⟨hl1,rb,w,k1,rfl,hD1,hR1,rfl⟩;simp only[kB])|(refine Za (.func 61) ?_;refine qR rfl rfl (first_spec _ rb db R w) ?_;try simp only[kA])|refine zW ?_|intro _)
 rename_i lb pb
 rw[show [Value.pointer (some ⟨rb,0,none⟩),.int .u64 (R.h.first:Nat),.int .u64 0,.int .u64 0,.int .i64 1,.slice none 0 0,.int .i64 0]=lgV rb ⟨R,R.h.first,0,0,1,[]⟩ (.slice none 0 0) from rfl]
 obtain⟨S',hno0,_,_,_⟩:=noteR_none hno ⟨R,R.h.first,0,0,1,[]⟩
 refine tpA [0,1] (.e 2 [] (.e 3 [] (.f [4,5,6,7,8,9,10,11] .o))) ([b2C pb lb]) ?_
 repeat' (refine iT ?_;first|refine rA ?_|(refine rE ?_<;>((first|(refine Za (.func 63) ?_;refine qC rfl rfl (note_spec _ rb db R w (hR1.mono (by first|assumption|exact Hp.le_refl _))) ?_;rintro v2 ρ2 L2 hle2 ⟨hl2,e,rfl,hbe,hel,rfl⟩;simp only[kA])|(refine Za (.func 62) ?_;refine qC rfl rfl (noted_spec _ lb rb ⟨R,R.h.first,0,0,1,[]⟩ _ _ _ _ e.l hbe.s hbe.le) ?_;rw[hel,hno0];rintro v3 ρ3 L3 hle3 ⟨rfl,rfl,rfl⟩;simp only[kA]))<;>(try simp only[kA])<;>refine zN ?_)))
 repeat' (first|(refine Za (.func 66) ?_;refine qC rfl rfl (all_spec _ rb db R w (hR1.mono (by first|assumption|exact Hp.le_refl _))) ?_;rintro v4 ρ4 L4 hle4 ⟨hl4,els,sp4,hown4,hbi,hels,rfl⟩;simp only[kB];refine ZL (Zq v4 (els.map slv) sp4 107) (λ ρ5 hl5 hfz5=>?_);obtain⟨ea,ec,rfl,hec,hE⟩:=hown4.sIn hfz5)|refine zW ?_|intro _)
 have hen0:els.length=R.ents.length:=by rw[<-hels];simp
 have hla:=Hp.le_trans hl1 (Hp.le_trans hl2 (Hp.le_trans hl4 hl5))
 refine lpG Nat [2,3,6,8,37,38] (λ z=>[(39,.int .i64 z),(7,.bool false)]) (λ z=>ρ5) (λ z=>b2C pb lb::ZU lb rb S' (.slice none 0 0)::(ZF rb db R w++Zj db k1 D')) (λ z=>z=0) (λ z=>els.length-z) 0 rfl ?_
 rintro i hI
 try simp only[kB] at hI ⊢
 try dsimp only at hI ⊢
 subst hI
 have hend:True:=trivial
 by_cases hlt:0<els.length
 ·obtain⟨b,off,C,T,frr,rfl,hbx,hcx⟩:=hE.get hlt
  repeat' (first|refine zW ?_|intro _)
  refine tpA [0,1,2,3,4,5,6,7] (.e 8 [] (.f [9,10] .o)) ([b2C pb lb]) ?_
  repeat' (refine iT ?_;first|refine rA ?_|(refine rE ?_<;>((try refine ZM ?_);(first|refine qEf ?_)<;>(try simp only[kA])<;>refine zN ?_)))
  repeat' (first|refine zW ?_|intro _)
  exact qE (L':=Zj db k1 D') ⟨hla,k1,rfl,hD1,rfl⟩
 ·repeat' (first|refine zW ?_|intro _)
  refine tpA [0,1,2,3,4,5,6,7] (.e 8 [] (.f [9,10] .o)) ([b2C pb lb]) ?_
  repeat' (refine iT ?_;first|refine rA ?_|(refine rE ?_<;>((try refine ZM ?_);(first|refine qEf ?_)<;>(try simp only[kA])<;>refine zN ?_)))
  repeat' (first|refine zW ?_|intro _)
  exact qE (L':=Zj db k1 D') ⟨hla,k1,rfl,hD1,rfl⟩
theorem lopen_bad2 (ρ:Hp)(db:Nat)(k:DK)(D D':DS)(R:RgS)(hop:Spec prog 60 [.pointer (some ⟨db,0,none⟩)] ρ (Zj db k D) (λ v ρ' L'=>ρ.le ρ'/\∃rb w k',v=.tuple ⟨[.pointer (some ⟨rb,0,none⟩),.int .i64 0]⟩/\DOk k' D'/\RIn ρ' R w/\L'=ZF rb db R w++Zj db k' D'))
  (ma nx:Nat) (hno:noteR R.h.note=some (ma,nx)) (hbad:EntsOk R.h.first R.ents->R.h.first+R.ents.length<=ma) (hn:R.ents.length<=1000) :
  Spec prog 24 [.pointer (some ⟨db,0,none⟩)] ρ (Zj db k D) (λ v ρ' L'=>ρ.le ρ'/\∃k',v=.tuple ⟨[.pointer none,.int .i64 260]⟩/\DOk k' D'/\L'=Zj db k' D'):=by
 refine Zb func24 rfl rfl rfl λ u R'=>?_
 simp only[Zc,kA]
 repeat' (first|(refine Za (.func 60) ?_;refine qC rfl rfl hop ?_;rintro v1 ρ1 L1 hle1 ⟨hl1,rb,w,k1,rfl,hD1,hR1,rfl⟩;simp only[kB])|(refine Za (.func 61) ?_;refine qC rfl rfl (first_spec _ rb db R w) ?_;rintro v ρ' L' hle ⟨rfl,rfl,rfl⟩<;>(try simp only[kA]))|refine zW ?_|intro _)
 rename_i lb pb
 rw[show [Value.pointer (some ⟨rb,0,none⟩),.int .u64 (R.h.first:Nat),.int .u64 0,.int .u64 0,.int .i64 1,.slice none 0 0,.int .i64 0]=lgV rb ⟨R,R.h.first,0,0,1,[]⟩ (.slice none 0 0) from rfl]
 have hf:R.h.first<=1099511627776:=by have:=hR1.ok.next;have:R.next=R.h.first+R.ents.length:=rfl;omega
 have hno0:=noteR_some hno ⟨R,R.h.first,0,0,1,[]⟩ rfl rfl
 have hfd:decide (((R.h.first:Nat):Int)<=1099511627776)=true:=by simp;omega
 refine tpA [0,1] (.e 2 [] (.e 3 [] (.f [4,5,6,7,8,9,10,11] .o))) ([b2C pb lb]) ?_
 repeat' (refine iT ?_;first|refine rA ?_|(refine rE ?_<;>((first|(refine Za (.func 63) ?_;refine qC rfl rfl (note_spec _ rb db R w (hR1.mono (by first|assumption|exact Hp.le_refl _))) ?_;rintro v2 ρ2 L2 hle2 ⟨hl2,e,rfl,hbe,hel,rfl⟩;simp only[kA])|(refine Za (.func 62) ?_;refine qC rfl rfl (noted_spec _ lb rb ⟨R,R.h.first,0,0,1,[]⟩ _ _ _ _ e.l hbe.s hbe.le) ?_;rw[hel,hno0];rintro v3 ρ3 L3 hle3 ⟨rfl,rfl,rfl⟩;simp only[kA]))<;>(try simp only[kA])<;>refine zN ?_)))
 repeat' (first|(refine Za (.func 66) ?_;refine qC rfl rfl (all_spec _ rb db R w (hR1.mono (by first|assumption|exact Hp.le_refl _))) ?_;rintro v4 ρ4 L4 hle4 ⟨hl4,els,sp4,hown4,hbi,hels,rfl⟩;simp only[kB];refine ZL (Zq v4 (els.map slv) sp4 107) (λ ρ5 hl5 hfz5=>?_);obtain⟨ea,ec,rfl,hec,hE⟩:=hown4.sIn hfz5)|refine zW ?_|intro _)
 have hen0:els.length=R.ents.length:=by rw[<-hels];simp
 refine lpG (Nat×Hp×(List RR)×Value×(List Value)) [2,3,6,8,37,38] (λ z=>[(39,.int .i64 z.1),(7,.bool true)]) (λ z=>z.2.1) (λ z=>b2C pb lb::ZU lb rb ⟨R,R.h.first,0,ma,nx,z.2.2.1⟩ z.2.2.2.1::Xl ⟨R,R.h.first,0,ma,nx,z.2.2.1⟩ z.2.2.2.1 z.2.2.2.2::(ZF rb db R w++Zj db k1 D')) (λ z=>z.1<=els.length/\ρ5.le z.2.1/\LgIn z.2.1 ⟨R,R.h.first,0,ma,nx,z.2.2.1⟩ z.2.2.2.1 z.2.2.2.2/\z.2.2.1.map (λ x=>x.2.plain)=(R.ents.take z.1).map XD/\(∀q (hq:q<z.1) (h2:q<R.ents.length),Yb (R.ents[q])=true/\(XD (R.ents[q])).lsn=R.h.first+q)) (λ z=>els.length-z.1) (0,ρ5,[],.slice none 0 0,[]) (⟨aZ _,Hp.le_refl _,⟨OwnS.nil 10,λ _ hx=>by simp at hx,λ _ hx=>by simp at hx,by simp[ZI],by dsimp only;omega⟩,rfl,λ q hq=>absurd hq (Nat.not_lt_zero _)⟩) ?_
 rintro⟨i,ρ8,l8,v8,sp8⟩ hI
 try simp only[kB] at hI ⊢
 try dsimp only at hI ⊢
 obtain⟨hi,hl8,hL8,hmp,hgo⟩:=hI
 have hl8len:l8.length=i:=by have:=congrArg List.length hmp;simpa [Nat.min_eq_left (show i<=R.ents.length by omega)] using this
 by_cases hlt:i<els.length
 ·have hb8:=((hbi _ (aM hlt)).mono hl5).mono hl8
  have hEe:(els[i]).l=R.ents[i]'(by omega):=by
   have:=List.getElem_of_eq hels (i:=i) (by simp;omega)
   rw[<-this,List.getElem_map]
  have hts:(R.ents.take (i+1)).map XD=(R.ents.take i).map XD++[XD (R.ents[i]'(by omega))]:=by
   rw[aG (show i<R.ents.length by omega),List.map_append];rfl
  have hrl:=hR1.ok.long _ (aM (show i<R.ents.length by omega))
  have hgo':(∀q (hq:q<i+1) (h2:q<R.ents.length),Yb (R.ents[q])=true/\(XD (R.ents[q])).lsn=R.h.first+q)↔(Yb (R.ents[i]'(by omega))=true/\(XD (R.ents[i]'(by omega))).lsn=R.h.first+i):=by
   refine⟨λ h=>h i (by omega) (by omega),λ h q hq h2=>?_⟩
   by_cases e:q<i
   ·exact hgo q e h2
   ·obtain rfl:q=i:=by omega
    exact h
  obtain⟨b,off,C,T,frr,rfl,hbx,hcx⟩:=(hE.mono hl8).get hlt
  rw[<-hEe] at hts hrl hgo'
  have hu:=usedR_100 l8
  have hus:ZI (LgS.mk R R.h.first 0 ma nx l8).recs+100<=1000000:=by dsimp only;omega
  generalize els[i]=e8 at *
  have hbn:=hb8.s.len
  have hnx8:(LgS.mk R R.h.first 0 ma nx l8).next=R.h.first+i:=by simp[LgS.next,hl8len]
  cases htk:takeOk ⟨R,R.h.first,0,ma,nx,l8⟩ e8.l
  ·repeat' (first|(refine Za (.tmp 45) ?_;refine qC rfl rfl (take16_spec _ lb rb pb _ _ _ hL8 e8.a e8.n e8.c e8.l hb8.s hb8.le (by omega) hus) ?_;rintro v9 ρ9 L9 hle9 ⟨rfl,hl9,S9,v10,sp10,hL9,hcs,rfl⟩;rw[htk];simp only[kA])|refine zW ?_|intro _)
   refine tpA [0,1,2,3,4,5,6,7] (.e 8 [] (.f [9,10] .o)) ([b2C pb lb]) ?_
   repeat' (refine iT ?_;first|refine rA ?_|(refine rE ?_<;>((try refine ZM ?_);(first|refine qEf ?_)<;>(try simp only[kA])<;>refine zN ?_)))
   repeat' (first|refine zW ?_|intro _)
   have hla:=Hp.le_trans hl2 (Hp.le_trans hl4 (Hp.le_trans hl5 (Hp.le_trans hl8 hl9)))
   exact qE (L':=Zj db k1 D') ⟨Hp.le_trans hl1 hla,k1,rfl,hD1,rfl⟩
  ·have hd:Yb e8.l=true/\(XD e8.l).lsn=R.h.first+i:=by
    unfold takeOk at htk
    rw[aE,decide_eq_true_eq,hnx8] at htk
    exact htk
   have hgo2:=hgo'.2 hd
   repeat' (first|(refine Za (.tmp 45) ?_;refine qC rfl rfl (take16_spec _ lb rb pb _ _ _ hL8 e8.a e8.n e8.c e8.l hb8.s hb8.le (by omega) hus) ?_;rintro v9 ρ9 L9 hle9 ⟨rfl,hl9,S9,v10,sp10,hL9,hcs,rfl⟩;rw[if_pos htk] at hcs;obtain⟨x9,hx9,rfl⟩:=hcs;rw[htk];simp only[kA])|refine zW ?_|intro _)
   refine rnG (i+1,ρ9,l8++[x9],v10,sp10) (⟨hlt,Hp.le_trans hl8 hl9,hL9,by dsimp only;rw[hts,List.map_append,hmp,List.map_cons,hx9];rfl,hgo2⟩)
 ·have hie:i=R.ents.length:=by omega
  have hmb:=hbad (λ q hq=>hgo q (by omega) hq)
  rw[hie,aT (aR _)] at hmp
  have hnxt:(LgS.mk R R.h.first 0 ma nx l8).next=R.h.first+R.ents.length:=by simp[LgS.next,hl8len,hie]
  have hn1:=λ ρ'=>We ρ' lb rb ⟨R,R.h.first,0,ma,nx,l8⟩ v8 sp8
  simp only[hnxt] at hn1
  have hge:decide (((ma:Nat):Int)≥((R.h.first+R.ents.length:Nat):Int))=true:=by simp;omega
  repeat' (first|refine zW ?_|intro _)
  refine tpA [0,1,2,3,4,5,6,7] (.e 8 [] (.f [9,10] .o)) ([b2C pb lb,ZU lb rb ⟨R,R.h.first,0,ma,nx,l8⟩ v8]) ?_
  repeat' (refine iT ?_;first|refine rA ?_|(refine rE ?_<;>((try refine ZM ?_);(first|(refine Za (.func 36) ?_;refine qC rfl rfl (hn1 _ hL8) ?_;rintro v ρ' L' hle ⟨rfl,rfl,rfl⟩<;>(try simp only[kA])))<;>(try simp only[kA])<;>refine zN ?_)))
  repeat' (first|refine zW ?_|intro _)
  have hla:=Hp.le_trans hl2 (Hp.le_trans hl4 (Hp.le_trans hl5 hl8))
  exact qE (L':=Zj db k1 D') ⟨Hp.le_trans hl1 hla,k1,rfl,hD1,rfl⟩
theorem YN (ρ:Hp)(n:Int):Spec prog 253 [.int .i64 n] ρ [] (λ v ρ' L'=>v=.bool (decide (0<=n/\n<3))/\ρ'=ρ/\L'=[]):=by
 refine Zb func253 rfl rfl rfl λ u R=>?_
 simp only[Zc,kA]
 by_cases h0:0<=n
 ·by_cases h1:n<3
  ·rw[decide_eq_true ⟨h0,h1⟩]
   repeat' (first|refine zW ?_|intro _)
   exact qE ⟨rfl,rfl,rfl⟩
  ·rw[decide_eq_false (λ h=>h1 h.2)]
   repeat' (first|refine zW ?_|intro _)
   exact qE ⟨rfl,rfl,rfl⟩
 ·rw[decide_eq_false (λ h=>h0 h.1)]
  repeat' (first|refine zW ?_|intro _)
  exact qE ⟨rfl,rfl,rfl⟩
theorem WE (ρ:Hp)(t:Int)(id:Nat)(h0:0<=t)(h3:t<3)(hid:id<65536):Spec prog 252 [.agg ⟨keyV t id⟩] ρ [] (λ v ρ' L'=>v=.int .i64 (t*65536+id)/\ρ'=ρ/\L'=[]):=by
 refine Zb func252 rfl rfl rfl λ u R=>?_
 simp only[Zc,kA]
 repeat' (first|refine zW ?_|intro _)
 exact qE ⟨rfl,rfl,rfl⟩
theorem order_lt {t1 t2:Int}{i1 i2:Nat}(h1:i1<65536)(h2:i2<65536):cmpK t1 i1 t2 i2<0↔t1*65536+i1<t2*65536+i2:=by
 rw[cmpK_lt];omega
theorem WO (ρ:Hp)(r:Row):Spec prog 236 [.agg ⟨Ym r⟩] ρ [] (λ v ρ' L'=>v=.bool (Yx r)/\ρ'=ρ/\L'=[]):=by
 obtain⟨t,id,val,note⟩:=r
 refine Zb func236 rfl rfl rfl λ u R=>?_
 simp only[Zc,kA,Yx]
 by_cases h1:0<=t/\t<3
 ·have hd:decide (0<=t/\t<3)=true:=decide_eq_true h1
  by_cases h2:note.length<=8
  ·rw[decide_eq_true ⟨h1,h2⟩]
   repeat' (first|(refine Za (.func 253) ?_;refine qR rfl rfl (YN _ _) ?_;try simp only[kA,hd])|refine zW ?_|intro _)
   exact qE ⟨rfl,rfl,rfl⟩
  ·rw[decide_eq_false (λ h=>h2 h.2)]
   repeat' (first|(refine Za (.func 253) ?_;refine qR rfl rfl (YN _ _) ?_;try simp only[kA,hd])|refine zW ?_|intro _)
   exact qE ⟨rfl,rfl,rfl⟩
 ·have hd:decide (0<=t/\t<3)=false:=decide_eq_false h1
  rw[decide_eq_false (λ h=>h1 h.1)]
  repeat' (first|(refine Za (.func 253) ?_;refine qR rfl rfl (YN _ _) ?_;try simp only[kA,hd])|refine zW ?_|intro _)
  exact qE ⟨rfl,rfl,rfl⟩
theorem risesB_split {α:Type}{most:Nat}{right:Nat->α->Bool}{lt:α->α->Bool}{l:List α}:∀k,Zu most right lt l k=(decide (l.length<=most) && Zu l.length right lt l k)
 | 0=>by simp[Zu]
 | k+1=>by rw[Zu,risesB_split k,Zu,Bool.and_assoc]
theorem rowsR_spec (ρ:Hp)(a:Option Addr)(n c:Nat)(l:List Row)(h:AIn ρ 4 Ym a n l)(hn:n<=1000000)(hid:∀r∈l,r.id<65536) :
  Spec prog 211 [.slice a n c] ρ [] (λ v ρ' L'=>v=.bool (rowsOk l)/\ρ'=ρ/\L'=[]):=by
 have hl:=h.len
 unfold rowsOk
 rw[risesB_split,hl]
 refine Zb func211 rfl rfl rfl λ u R=>?_
 simp only[Zc,kA]
 generalize hrt:(λ (_:Nat) (r:Row)=>Yx r)=rt
 repeat' (first|refine zW ?_|intro _)
 refine lpG Nat [0,2,5,6] (λ z=>[(7,.int .i64 z)]) (λ z=>ρ) (λ z=>[]) (λ z=>z<=n/\Zu n rt ltR l z=true) (λ z=>n-z) 0 ⟨aZ _,by rw[Zu,hl];exact decide_eq_true (aR _)⟩ ?_
 rintro k hI
 try simp only[kB] at hI ⊢
 try dsimp only at hI ⊢
 obtain⟨hk,hok⟩:=hI
 by_cases hlt:k<n
 ·obtain⟨b,off,C,T,fr,rfl,hb,hfit,hc⟩:=h.get (show k<l.length by omega)
  have hs:=Xp (most:=n) (right:=rt) (lt:=ltR) (show k<l.length by omega)
  rw[hok,Bool.true_and] at hs
  have hrk:rt k (l[k]'(by omega))=Yx (l[k]'(by omega)):=by rw[<-hrt]
  rw[hrk] at hs
  have hfin:=λ (e:Zu n rt ltR l (k+1)=false)=>YT e (show k+1<=n by omega)
  have hmem:l[k]'(by omega)∈l:=aM _
  have hidk:=hid _ hmem
  cases hx:Yx (l[k]'(by omega))
  ·rw[hx,Bool.false_and] at hs
   rw[hfin hs,Bool.and_false]
   generalize l[k]'(by omega)=x at *
   repeat' (first|refine zW ?_|intro _)
   refine tpZ [0] (.e 1 [2,3,4,5,6,7,8,9,10,11,12,14,15] (.e 13 [] (.e 16 [] (.f [17,18,19] .o)))) ?_
   repeat' (refine iT ?_;first|refine rA ?_|(refine rE ?_<;>((try refine ZM ?_);(first|(refine Za (.func 236) ?_;refine qR rfl rfl (WO _ x) ?_;try simp only[kA,hx]))<;>(try simp only[kA])<;>refine zN ?_)))
   repeat' (first|refine zW ?_|intro _)
   exact qE ⟨rfl,rfl,rfl⟩
  ·rw[hx,Bool.true_and] at hs
   by_cases hk0:k=0
   ·have hs':Zu n rt ltR l (k+1)=true:=by rw[hs];simp[hk0]
    generalize l[k]'(by omega)=x at *
    repeat' (first|refine zW ?_|intro _)
    refine tpZ [0] (.e 1 [2,3,4,5,6,7,8,9,10,11,12,14,15] (.e 13 [] (.e 16 [] (.f [17,18,19] .o)))) ?_
    repeat' (refine iT ?_;first|refine rA ?_|(refine rE ?_<;>((try refine ZM ?_);(first|(refine Za (.func 236) ?_;refine qR rfl rfl (WO _ x) ?_;try simp only[kA,hx]))<;>(try simp only[kA])<;>refine zN ?_)))
    repeat' (first|refine zW ?_|intro _)
    refine rnG (k+1) (⟨hlt,hs'⟩)
   ·have hd:decide (k=0)=false:=decide_eq_false hk0
    rw[hd,Bool.false_or] at hs
    obtain⟨b2,off2,C2,T2,fr2,f1,hb2,hfit2,hc2⟩:=h.get (show k-1<l.length by omega)
    cases f1
    rw[hb] at hb2
    cases hb2
    have ek:((k:Int)-1).toNat=k-1:=by omega
    have hkey:List.take 2 (List.drop (off+((k:Int)-1).toNat*4) C)=keyV (l[k-1]'(by omega)).t (l[k-1]'(by omega)).id:=by
     rw[ek]
     have:=congrArg (List.take 2) hc2
     rw[List.take_take] at this
     exact this
    have hfit3:off+((k:Int)-1).toNat*4+2<=C.length:=by rw[ek];omega
    obtain⟨g1,g2⟩:=Vi hok (by omega)
    have hrp:=(g2 (k-1) (by omega) (by omega)).1
    have hrk1:rt (k-1) (l[k-1]'(by omega))=Yx (l[k-1]'(by omega)):=by rw[<-hrt]
    rw[hrk1] at hrp
    have hidp:=hid _ (aM (show k-1<l.length by omega))
    clear hc2 hfit2 hrk hrk1
    generalize l[k]'(by omega)=x at *
    generalize l[k-1]'(by omega)=y at *
    obtain⟨y0,y3,_⟩:=rowOk_iff hrp
    obtain⟨x0,x3,_⟩:=rowOk_iff hx
    have hor:=order_lt (t1:=y.t) (t2:=x.t) hidp hidk
    unfold ltR at hs
    by_cases hcm:cmpK y.t y.id x.t x.id<0
    ·rw[decide_eq_true hcm] at hs
     have hcm2:=hor.1 hcm
     repeat' (first|refine zW ?_|intro _)
     refine tpZ [0] (.e 1 [2,3,4,5,6,7,8,9,10,11,12,14,15] (.e 13 [] (.e 16 [] (.f [17,18,19] .o)))) ?_
     repeat' (refine iT ?_;first|refine rA ?_|(refine rE ?_<;>((try refine ZM ?_);(first|(refine Za (.func 236) ?_;refine qR rfl rfl (WO _ x) ?_;try simp only[kA,hx])|(refine Za (.func 252) ?_;refine qR rfl rfl (WE _ y.t y.id y0 y3 hidp) ?_;try simp only[kA])|(refine Za (.func 252) ?_;refine qR rfl rfl (WE _ x.t x.id x0 x3 hidk) ?_;try simp only[kA]))<;>(try simp only[kA])<;>refine zN ?_)))
     all_goals (repeat' (first|refine zW ?_|intro _))
     all_goals refine rnG (k+1) (⟨hlt,hs⟩)
    ·rw[decide_eq_false hcm] at hs
     rw[hfin hs,Bool.and_false]
     have hcm2:¬(y.t*65536+y.id<x.t*65536+x.id):=λ h=>hcm (hor.2 h)
     repeat' (first|refine zW ?_|intro _)
     refine tpZ [0] (.e 1 [2,3,4,5,6,7,8,9,10,11,12,14,15] (.e 13 [] (.e 16 [] (.f [17,18,19] .o)))) ?_
     repeat' (refine iT ?_;first|refine rA ?_|(refine rE ?_<;>((try refine ZM ?_);(first|(refine Za (.func 236) ?_;refine qR rfl rfl (WO _ x) ?_;try simp only[kA,hx])|(refine Za (.func 252) ?_;refine qR rfl rfl (WE _ y.t y.id y0 y3 hidp) ?_;try simp only[kA])|(refine Za (.func 252) ?_;refine qR rfl rfl (WE _ x.t x.id x0 x3 hidk) ?_;try simp only[kA]))<;>(try simp only[kA])<;>refine zN ?_)))
     all_goals (repeat' (first|refine zW ?_|intro _))
     all_goals exact qE ⟨rfl,rfl,rfl⟩
 ·have hk2:k=n:=by omega
  subst hk2
  rw[hok,Bool.and_true]
  by_cases h4:k<=4
  ·rw[decide_eq_true h4]
   repeat' (first|refine zW ?_|intro _)
   exact qE ⟨rfl,rfl,rfl⟩
  ·rw[decide_eq_false h4]
   repeat' (first|refine zW ?_|intro _)
   exact qE ⟨rfl,rfl,rfl⟩
theorem psTo_mem {l:List Kid}{k:Nat}{p:Int}:p∈psTo l k↔∃x∈l.take k,x.page=p:=by simp only[psTo,List.mem_reverse,List.mem_map]
theorem kidsR_spec (ρ:Hp)(a:Option Addr)(n c:Nat)(l:List Kid)(h:AIn ρ 3 Xj a n l)(hn:n<=1000000)(hnc:n<=c)(hid:∀r∈l,r.id<65536) :
  Spec prog 212 [.slice a n c] ρ [] (λ v ρ' L'=>v=.bool (decide (1<n) && kidsOk l)/\ρ'=ρ/\L'=[]):=by
 have hl:=h.len
 unfold kidsOk
 rw[risesB_split,hl]
 refine Zb func212 rfl rfl rfl λ u R=>?_
 simp only[Zc,kA]
 generalize hrt:(λ (i:Nat) (k:Kid)=>kidOk i (psTo l i) k)=rt
 repeat' (first|refine zW ?_|intro _)
 refine lpG Nat [0,2,7,8] (λ z=>[(9,.int .i64 z)]) (λ z=>ρ) (λ z=>[]) (λ z=>z<=n/\Zu n rt ltK l z=true) (λ z=>n-z) 0 ⟨aZ _,by rw[Zu,hl];exact decide_eq_true (aR _)⟩ ?_
 rintro k hI
 try simp only[kB] at hI ⊢
 try dsimp only at hI ⊢
 obtain⟨hk,hok⟩:=hI
 by_cases hlt:k<n
 ·have hsub:=h.take (hi':=k) (by omega)
  obtain⟨b,off,C,T,fr,rfl,hb,hfit,hc⟩:=h.get (show k<l.length by omega)
  have hs:=Xp (most:=n) (right:=rt) (lt:=ltK) (show k<l.length by omega)
  rw[hok,Bool.true_and] at hs
  have hrk:rt k (l[k]'(by omega))=kidOk k (psTo l k) (l[k]'(by omega)):=by rw[<-hrt]
  rw[hrk] at hs
  have hfin:=λ (e:Zu n rt ltK l (k+1)=false)=>YT e (show k+1<=n by omega)
  have hmem:l[k]'(by omega)∈l:=aM _
  have hidk:=hid _ hmem
  have hx:∀P:Prop,(kidOk k (psTo l k) (l[k]'(by omega))=true->P)->¬P->(decide (1<n) && (decide (n<=4) && Zu n rt ltK l n))=false:=λ P h1 h2=>by
   have:kidOk k (psTo l k) (l[k]'(by omega))=false:=by
    cases e:kidOk k (psTo l k) (l[k]'(by omega))
    ·rfl
    ·exact absurd (h1 e) h2
   rw[this,Bool.false_and] at hs
   rw[hfin hs];simp
  have hkx:kidOk k (psTo l k) (l[k]'(by omega))=true->(l[k]'(by omega)).page ∉ psTo l k/\0<(l[k]'(by omega)).page/\(l[k]'(by omega)).page<64/\(0<=(l[k]'(by omega)).t/\(l[k]'(by omega)).t<3)/\(0<k\/((l[k]'(by omega)).t=0/\(l[k]'(by omega)).id=0)):=λ e=>of_decide_eq_true e
  generalize hX:l[k]'(by omega)=x at *
  by_cases p0:0<x.page
  ·by_cases p6:x.page<64
   ·by_cases ht:0<=x.t/\x.t<3
    ·have hd:decide (0<=x.t/\x.t<3)=true:=decide_eq_true ht
     by_cases hk0:k=0
     ·by_cases hz:x.t=0/\x.id=0
      ·have hkk:((x.t == 0) && (((x.id:Int) == 0) && true))=true:=by simp[hz.1,hz.2]
       repeat' (first|refine zW ?_|intro _)
       rename_i b4
       refine tpZ [0,1,2,3,4,5,6,7,8,9,10,11] (.e 12 [13,14,15,16,17,18,19,20,21,22,23,24,25,26,27,28,29,30,31,32,33,34,36,37] (.e 35 [] (.e 38 [] (.f [39,40,41] .o)))) ?_
       repeat' (refine iT ?_;first|refine rA ?_|(refine rE ?_<;>((try refine ZM ?_);(first|(refine Za (.func 253) ?_;refine qC rfl rfl (YN _ _) ?_;rintro v ρ' L' hle ⟨rfl,rfl,rfl⟩<;>(try simp only[kA,hd])))<;>(try simp only[kA])<;>refine zN ?_)))
       repeat' (first|refine zW ?_|intro _)
       simp only[Int.toNat_natCast]
       refine lpG Nat [0,2,4,7,8,9,58,59] (λ z=>[(60,.int .i64 z)]) (λ z=>ρ') (λ z=>[[(b4,.cells ⟨Xj x⟩ 227 (0,0))]]) (λ z=>z<=k/\∀y∈l.take z,y.page≠x.page) (λ z=>k-z) 0 ⟨aZ _,by simp⟩ ?_
       rintro j hI
       try simp only[kB] at hI ⊢
       try dsimp only at hI ⊢
       obtain⟨hj,hjo⟩:=hI
       by_cases hjk:j<k
       ·exact absurd hjk (by omega)
       ·have hj2:j=k:=by omega
        subst hj2
        have hke:kidOk j (psTo l j) x=true:=decide_eq_true ⟨λ e=>by obtain⟨y,hy,he⟩:=psTo_mem.1 e;exact hjo y hy he,p0,p6,ht,.inr hz⟩
        rw[hke,Bool.true_and] at hs
        have hs':Zu n rt ltK l (j+1)=true:=by rw[hs];simp[hk0]
        repeat' (first|refine zW ?_|intro _)
        refine rnG (j+1) (⟨hlt,hs'⟩)
      ·have hkk:((x.t == 0) && (((x.id:Int) == 0) && true))=false:=by
        simp;intro h;exact λ h'=>hz ⟨h,by omega⟩
       rw[hx (0<k\/(x.t=0/\x.id=0)) (λ e=>(hkx e).2.2.2.2) (λ e=>e.elim (by omega) hz)]
       repeat' (first|refine zW ?_|intro _)
       refine tpZ [0,1,2,3,4,5,6,7,8,9,10,11] (.e 12 [13,14,15,16,17,18,19,20,21,22,23,24,25,26,27,28,29,30,31,32,33,34,36,37] (.e 35 [] (.e 38 [] (.f [39,40,41] .o)))) ?_
       repeat' (refine iT ?_;first|refine rA ?_|(refine rE ?_<;>((try refine ZM ?_);(first|(refine Za (.func 253) ?_;refine qC rfl rfl (YN _ _) ?_;rintro v ρ' L' hle ⟨rfl,rfl,rfl⟩<;>(try simp only[kA,hd])))<;>(try simp only[kA])<;>refine zN ?_)))
       repeat' (first|refine zW ?_|intro _)
       exact qE ⟨rfl,rfl,rfl⟩
     ·have hdk:decide (k=0)=false:=decide_eq_false hk0
      rw[hdk,Bool.false_or] at hs
      obtain⟨b2,off2,C2,T2,fr2,f1,hb2,hfit2,hc2⟩:=h.get (show k-1<l.length by omega)
      cases f1
      rw[hb] at hb2
      cases hb2
      have ek:((k:Int)-1).toNat=k-1:=by omega
      have hkey:List.take 2 (List.drop (off+((k:Int)-1).toNat*3) C)=keyV (l[k-1]'(by omega)).t (l[k-1]'(by omega)).id:=by
       rw[ek]
       have:=congrArg (List.take 2) hc2
       rw[List.take_take] at this
       exact this
      have hfit3:off+((k:Int)-1).toNat*3+2<=C.length:=by rw[ek];omega
      obtain⟨g1,g2⟩:=Vi hok (by omega)
      have hrp:=(g2 (k-1) (by omega) (by omega)).1
      have hrk1:rt (k-1) (l[k-1]'(by omega))=kidOk (k-1) (psTo l (k-1)) (l[k-1]'(by omega)):=by rw[<-hrt]
      rw[hrk1] at hrp
      have hrt2:=(of_decide_eq_true hrp).2.2.2.1
      have hidp:=hid _ (aM (show k-1<l.length by omega))
      clear hc2 hfit2 hrk hrk1 hrp
      generalize l[k-1]'(by omega)=y at *
      have hor:=order_lt (t1:=y.t) (t2:=x.t) hidp hidk
      unfold ltK at hs
      by_cases hcm:cmpK y.t y.id x.t x.id<0
      ·rw[decide_eq_true hcm] at hs
       have hcm2:=hor.1 hcm
       repeat' (first|refine zW ?_|intro _)
       rename_i b4
       refine tpZ [0,1,2,3,4,5,6,7,8,9,10,11] (.e 12 [13,14,15,16,17,18,19,20,21,22,23,24,25,26,27,28,29,30,31,32,33,34,36,37] (.e 35 [] (.e 38 [] (.f [39,40,41] .o)))) ?_
       repeat' (refine iT ?_;first|refine rA ?_|(refine rE ?_<;>((try refine ZM ?_);(first|(refine Za (.func 253) ?_;refine qC rfl rfl (YN _ _) ?_;rintro v ρ' L' hle ⟨rfl,rfl,rfl⟩<;>(try simp only[kA,hd]))|(refine Za (.func 252) ?_;refine qC rfl rfl (WE _ y.t y.id hrt2.1 hrt2.2 hidp) ?_;rintro v ρ' L' hle ⟨rfl,rfl,rfl⟩<;>(try simp only[kA]))|(refine Za (.func 252) ?_;refine qC rfl rfl (WE _ x.t x.id ht.1 ht.2 hidk) ?_;rintro v ρ' L' hle ⟨rfl,rfl,rfl⟩<;>(try simp only[kA])))<;>(try simp only[kA])<;>refine zN ?_)))
       repeat' (first|refine zW ?_|intro _)
       simp only[Int.toNat_natCast]
       refine lpG Nat [0,2,4,7,8,9,58,59] (λ z=>[(60,.int .i64 z)]) (λ z=>ρ') (λ z=>[[(b4,.cells ⟨Xj x⟩ 227 (0,0))]]) (λ z=>z<=k/\∀y∈l.take z,y.page≠x.page) (λ z=>k-z) 0 ⟨aZ _,by simp⟩ ?_
       rintro j hI
       try simp only[kB] at hI ⊢
       try dsimp only at hI ⊢
       obtain⟨hj,hjo⟩:=hI
       by_cases hjk:j<k
       ·obtain⟨b3,off3,C3,T3,fr3,f3,hb3,hfit3,hc3⟩:=h.get (show j<l.length by omega)
        cases f3
        rw[hb] at hb3
        cases hb3
        have htj:=aG (show j<l.length by omega)
        have hjm:l[j]'(by omega)∈l.take k:=by
         rw[List.mem_take_iff_getElem]
         exact⟨j,by omega,rfl⟩
        generalize hZ:l[j]'(by omega)=z at *
        by_cases hp:z.page=x.page
        ·rw[hx (x.page ∉ psTo l k) (λ e=>(hkx e).1) (λ e=>e (psTo_mem.2 ⟨z,hjm,hp⟩))]
         repeat' (first|refine zW ?_|intro _)
         exact qE ⟨rfl,rfl,rfl⟩
        ·have hjn:∀y∈l.take (j+1),y.page≠x.page:=by
           intro y hy
           rw[htj] at hy
           rcases List.mem_append.1 hy with hy|hy
           ·exact hjo y hy
           ·rw[List.mem_singleton.1 hy];exact hp
         repeat' (first|refine zW ?_|intro _)
         refine rnG (j+1) (⟨hjk,hjn⟩)
       ·have hj2:j=k:=by omega
        subst hj2
        have hke:kidOk j (psTo l j) x=true:=decide_eq_true ⟨λ e=>by obtain⟨y,hy,he⟩:=psTo_mem.1 e;exact hjo y hy he,p0,p6,ht,.inl (by omega)⟩
        rw[hke,Bool.true_and] at hs
        have hs':Zu n rt ltK l (j+1)=true:=hs
        repeat' (first|refine zW ?_|intro _)
        refine rnG (j+1) (⟨hlt,hs'⟩)
      ·rw[decide_eq_false hcm,Bool.and_false] at hs
       have hcm2:¬(y.t*65536+y.id<x.t*65536+x.id):=λ h=>hcm (hor.2 h)
       rw[hfin hs]
       simp only[Bool.and_false]
       repeat' (first|refine zW ?_|intro _)
       refine tpZ [0,1,2,3,4,5,6,7,8,9,10,11] (.e 12 [13,14,15,16,17,18,19,20,21,22,23,24,25,26,27,28,29,30,31,32,33,34,36,37] (.e 35 [] (.e 38 [] (.f [39,40,41] .o)))) ?_
       repeat' (refine iT ?_;first|refine rA ?_|(refine rE ?_<;>((try refine ZM ?_);(first|(refine Za (.func 253) ?_;refine qC rfl rfl (YN _ _) ?_;rintro v ρ' L' hle ⟨rfl,rfl,rfl⟩<;>(try simp only[kA,hd]))|(refine Za (.func 252) ?_;refine qC rfl rfl (WE _ y.t y.id hrt2.1 hrt2.2 hidp) ?_;rintro v ρ' L' hle ⟨rfl,rfl,rfl⟩<;>(try simp only[kA]))|(refine Za (.func 252) ?_;refine qC rfl rfl (WE _ x.t x.id ht.1 ht.2 hidk) ?_;rintro v ρ' L' hle ⟨rfl,rfl,rfl⟩<;>(try simp only[kA])))<;>(try simp only[kA])<;>refine zN ?_)))
       repeat' (first|refine zW ?_|intro _)
       exact qE ⟨rfl,rfl,rfl⟩
    ·have hd:decide (0<=x.t/\x.t<3)=false:=decide_eq_false ht
     rw[hx (0<=x.t/\x.t<3) (λ e=>(hkx e).2.2.2.1) ht]
     repeat' (first|refine zW ?_|intro _)
     refine tpZ [0,1,2,3,4,5,6,7,8,9,10,11] (.e 12 [13,14,15,16,17,18,19,20,21,22,23,24,25,26,27,28,29,30,31,32,33,34,36,37] (.e 35 [] (.e 38 [] (.f [39,40,41] .o)))) ?_
     repeat' (refine iT ?_;first|refine rA ?_|(refine rE ?_<;>((try refine ZM ?_);(first|(refine Za (.func 253) ?_;refine qC rfl rfl (YN _ _) ?_;rintro v ρ' L' hle ⟨rfl,rfl,rfl⟩<;>(try simp only[kA,hd])))<;>(try simp only[kA])<;>refine zN ?_)))
     repeat' (first|refine zW ?_|intro _)
     exact qE ⟨rfl,rfl,rfl⟩
   ·rw[hx (x.page<64) (λ e=>(hkx e).2.2.1) p6]
    repeat' (first|refine zW ?_|intro _)
    refine tpZ [0,1,2,3,4,5,6,7,8,9,10,11] (.e 12 [13,14,15,16,17,18,19,20,21,22,23,24,25,26,27,28,29,30,31,32,33,34,36,37] (.e 35 [] (.e 38 [] (.f [39,40,41] .o)))) ?_
    repeat' (refine iT ?_;first|refine rA ?_|(refine rE ?_<;>((try refine ZM ?_);(first|refine qEf ?_)<;>(try simp only[kA])<;>refine zN ?_)))
    repeat' (first|refine zW ?_|intro _)
    exact qE ⟨rfl,rfl,rfl⟩
  ·rw[hx (0<x.page) (λ e=>(hkx e).2.1) p0]
   repeat' (first|refine zW ?_|intro _)
   refine tpZ [0,1,2,3,4,5,6,7,8,9,10,11] (.e 12 [13,14,15,16,17,18,19,20,21,22,23,24,25,26,27,28,29,30,31,32,33,34,36,37] (.e 35 [] (.e 38 [] (.f [39,40,41] .o)))) ?_
   repeat' (refine iT ?_;first|refine rA ?_|(refine rE ?_<;>((try refine ZM ?_);(first|refine qEf ?_)<;>(try simp only[kA])<;>refine zN ?_)))
   repeat' (first|refine zW ?_|intro _)
   exact qE ⟨rfl,rfl,rfl⟩
 ·have hk2:k=n:=by omega
  subst hk2
  rw[hok,Bool.and_true]
  by_cases h2:1<k
  ·by_cases h4:k<=4
   ·rw[decide_eq_true h4,decide_eq_true h2]
    repeat' (first|refine zW ?_|intro _)
    exact qE ⟨rfl,rfl,rfl⟩
   ·rw[decide_eq_false h4,Bool.and_false]
    repeat' (first|refine zW ?_|intro _)
    exact qE ⟨rfl,rfl,rfl⟩
  ·rw[decide_eq_false h2,Bool.false_and]
   repeat' (first|refine zW ?_|intro _)
   exact qE ⟨rfl,rfl,rfl⟩
theorem Vb (ρ:Hp)(v:CV)(c:Wm)(h:CIn ρ v c.rows c.kids)(hir:∀r∈c.rows,r.id<65536)(hik:∀k∈c.kids,k.id<65536):Spec prog 147 [.agg ⟨XI c.kind v⟩] ρ [] (λ r ρ' L'=>r=.bool (ZG c)/\ρ'=ρ/\L'=[]):=by
 obtain⟨kind,rows,kids⟩:=c
 obtain⟨ra,rn,rc,ka,kn,kc⟩:=v
 obtain⟨hr,hk,hrb,hkb,hrc,hkc⟩:=h
 dsimp only at hr hk hrb hkb hrc hkc hir hik
 have hrl:=hr.len
 have hkl:=hk.len
 have hrs:=rowsR_spec ρ ra rn rc rows hr hrb hir
 have hks:=kidsR_spec ρ ka kn kc kids hk hkb hkc hik
 generalize hq:ZG ⟨kind,rows,kids⟩=q
 unfold ZG at hq
 simp only[hrl,hkl] at hq
 refine Zb func147 rfl rfl rfl λ u R=>?_
 simp only[Zc,kA]
 by_cases k0:kind=0
 ·rw[if_pos k0] at hq
  by_cases hz:rn=0
  ·by_cases hz2:kn=0
   ·rw[decide_eq_true (show rn+kn=0 by omega)] at hq
    subst hq
    repeat' (first|refine zW ?_|intro _)
    exact qE ⟨rfl,rfl,rfl⟩
   ·rw[decide_eq_false (show ¬rn+kn=0 by omega)] at hq
    subst hq
    repeat' (first|refine zW ?_|intro _)
    exact qE ⟨rfl,rfl,rfl⟩
  ·rw[decide_eq_false (show ¬rn+kn=0 by omega)] at hq
   subst hq
   repeat' (first|refine zW ?_|intro _)
   exact qE ⟨rfl,rfl,rfl⟩
 ·rw[if_neg k0] at hq
  by_cases k1:kind=1
  ·rw[if_pos k1] at hq
   by_cases hz:kn=0
   ·rw[decide_eq_true hz,Bool.true_and] at hq
    rw[hq] at hrs
    repeat' (first|(refine Za (.func 211) ?_;refine qR rfl rfl (hrs) ?_;try simp only[kA])|refine zW ?_|intro _)
    exact qE ⟨rfl,rfl,rfl⟩
   ·rw[decide_eq_false hz,Bool.false_and] at hq
    subst hq
    repeat' (first|refine zW ?_|intro _)
    exact qE ⟨rfl,rfl,rfl⟩
  ·rw[if_neg k1] at hq
   by_cases k2:kind=2
   ·rw[if_pos k2] at hq
    by_cases hz:rn=0
    ·rw[decide_eq_true hz,Bool.true_and] at hq
     rw[hq] at hks
     repeat' (first|(refine Za (.func 212) ?_;refine qR rfl rfl (hks) ?_;try simp only[kA])|refine zW ?_|intro _)
     exact qE ⟨rfl,rfl,rfl⟩
    ·rw[decide_eq_false hz,Bool.false_and] at hq
     subst hq
     repeat' (first|refine zW ?_|intro _)
     exact qE ⟨rfl,rfl,rfl⟩
   ·rw[if_neg k2] at hq
    subst hq
    repeat' (first|refine zW ?_|intro _)
    exact qE ⟨rfl,rfl,rfl⟩
theorem keyR_spec (ρ:Hp)(t:Int)(id:Nat)(h0:0<=t)(h3:t<256)(hid:id<65536) :
  Spec prog 180 [.agg ⟨keyV t id⟩] ρ [] (λ r ρ' L'=>ρ'=ρ/\∃b,r=.slice (some ⟨b,0,none⟩) 3 3/\L'=[[(b,.cells ⟨(XQ t id).map Zk⟩ 5 (0,0))]]):=by
 refine Zb func180 rfl rfl rfl λ u R=>?_
 simp only[Zc,kA]
 repeat' (first|(refine Zg rfl rfl rfl rfl (by simp) rfl rfl (λ _=>?_);simp only[tB_eq h0 h3,u8_wrap])|refine zW ?_|intro _)
 have e:[Zk (tB t),Value.int .u8 ((id:Int) / 2 ^ 8),Zk (UInt8.ofNat id)]=(XQ t id).map Zk:=by
  have e1:(id:Int) / 2 ^ 8=((id / 256:Nat):Int):=by omega
  have e2:Value.int .u8 ((id / 256:Nat):Int)=Zk (UInt8.ofNat (id / 256)):=by
   have:=u8_wrap (id / 256)
   rwa [Ww (by simp only[lo,hi];omega)] at this
  rw[e1,e2]
  simp[XQ,be]
 rw[e]
 exact qE ⟨rfl,_,rfl,rfl⟩
theorem shr_byte (V m:Nat):Value.int .u8 (IntKind.u8.wrap ((V:Int) / 2 ^ (8*m)))=Zk (UInt8.ofNat (V / 256 ^ m)):=by
 have h2:(2 ^ (8*m):Nat)=256 ^ m:=by rw[Nat.pow_mul]
 have h3:((2:Int) ^ (8*m))=((2 ^ (8*m):Nat):Int):=by rw[Int.natCast_pow];rfl
 rw[h3,h2,<-Int.natCast_ediv,u8_wrap]
theorem be8_take_succ (V j:Nat)(hj:j<8):(be 8 V).take (j+1)=(be 8 V).take j++[UInt8.ofNat (V / 256 ^ (7-j))]:=by
 rw[aG (by rw[Zd];exact hj)]
 congr 2
 rcases (show j=0\/j=1\/j=2\/j=3\/j=4\/j=5\/j=6\/j=7 by omega) with rfl|rfl|rfl|rfl|rfl|rfl|rfl|rfl<;>rfl
theorem rowR6_spec (ρ:Hp)(r:Row)(hr:Yx r=true)(hid:r.id<65536) :
  Spec prog 179 [.agg ⟨Ym r⟩] ρ [] (λ v ρ' L'=>ρ.le ρ'/\∃sp,OwnS v (ZE r).length ((ZE r).map Zk) sp 1/\L'=[Zq v ((ZE r).map Zk) sp 5]):=by
 obtain⟨h0,h3,h8⟩:=rowOk_iff hr
 have hlb:=lenB (n:=r.note.length) (by omega)
 have hkl:(XQ r.t r.id).length=3:=by simp[XQ,Zd]
 refine Zb func179 rfl rfl rfl λ u R=>?_
 simp only[Zc,kA]
 repeat' (first|(refine Za (.func 180) ?_;refine qC rfl rfl (keyR_spec _ r.t r.id h0 (by omega) hid) ?_;rintro v ρ' L' hle ⟨rfl,bk,rfl,rfl⟩<;>(try simp only[kA]))|refine zW ?_|intro _)
 rename_i b1
 rw[show (XQ r.t r.id).map Zk=(XQ r.t r.id++(be 8 (vN r.val)).take 0).map Zk by simp,own_chunk bk 3 3]
 have hown0:OwnS (.slice (some ⟨bk,0,none⟩) 3 3) (3+0) ((XQ r.t r.id++(be 8 (vN r.val)).take 0).map Zk) [] 1:=⟨.inr ⟨bk,3,rfl,by simp[hkl],by simp[hkl],aR _⟩⟩
 generalize Value.slice (some ⟨bk,0,none⟩) 3 3=v0 at *
 refine lpG (Nat×Value×(List Value)) [1,2] (λ z=>[(4,.int .i64 (7-(z.1:Int))),(3,z.2.1)]) (λ z=>ρ') (λ z=>[Zq z.2.1 ((XQ r.t r.id++(be 8 (vN r.val)).take z.1).map Zk) z.2.2 5]) (λ z=>z.1<=8/\OwnS z.2.1 (3+z.1) ((XQ r.t r.id++(be 8 (vN r.val)).take z.1).map Zk) z.2.2 1) (λ z=>8-z.1) (0,v0,[]) ⟨aZ _,hown0⟩ ?_
 rintro⟨j,v,sp⟩ hI
 try simp only[kB] at hI ⊢
 try dsimp only at hI ⊢
 obtain⟨hj,hown⟩:=hI
 by_cases hj8:j<8
 ·have hsh:=shr_byte (vN r.val) (7-j)
  have hts:=be8_take_succ (vN r.val) j hj8
  have hxx:(XQ r.t r.id++(be 8 (vN r.val)).take j).map Zk++[Zk (UInt8.ofNat (vN r.val / 256 ^ (7-j)))]=(XQ r.t r.id++(be 8 (vN r.val)).take (j+1)).map Zk:=by rw[hts];simp
  repeat' (first|(refine iCv ?_;refine tl_y (y_conv (k:=.u64) rfl) rfl rfl ?_;simp only[vN_eq])|(refine iSr ?_;refine tl_y (y_shr (c:=8*(7-j)) rfl rfl (by omega) (by simp only[IntKind.bits];omega)) rfl rfl ?_)|(refine iCv ?_;refine tl_y (y_conv (k:=.u8) rfl) rfl rfl ?_;rw[hsh])|(refine Zg rfl rfl rfl rfl (by simp) rfl rfl (λ _=>?_))|refine zW ?_|intro _)
  refine ZH (ys:=[Zk (UInt8.ofNat (vN r.val / 256 ^ (7-j)))]) (m:=1) rfl rfl hown (hR:=by infer_instance) SrcV.lit rfl rfl (by decide) rfl (by omega) (by omega) rfl (λ v2 sp2 hown2=>?_)
  rw[hxx] at hown2 ⊢
  repeat' (first|refine zW ?_|intro _)
  have e7:(7-(j:Int)-1)=7-((j+1:Nat):Int):=by omega
  rw[e7]
  refine rnG (j+1,v2,sp2) (⟨hj8,hown2⟩)
 ·obtain rfl:j=8:=by omega
  have e8:(be 8 (vN r.val)).take 8=be 8 (vN r.val):=aT (by rw[Zd];exact aR _)
  rw[e8] at hown ⊢
  repeat' (first|refine zW ?_|intro _)
  refine tpA [0,1,2,3,4,7,8] (.e 5 [] (.e 6 [] (.e 9 [] (.f [10] .o)))) ([[(b1,.cells ⟨Ym r⟩ 171 (0,0))]]) ?_
  repeat' (refine iT ?_;first|refine rA ?_|(refine rE ?_<;>((first|(refine Zg rfl rfl rfl rfl (by simp) rfl rfl (λ _=>?_);simp only[hlb])|(refine ZH (ys:=[Zk (UInt8.ofNat r.note.length)]) (m:=1) rfl rfl hown (hR:=by infer_instance) SrcV.lit rfl rfl (by decide) rfl (by omega) (by omega) rfl (λ v4 sp4 hown4=>?_))|(refine tl_app_str (l:=r.note) rfl rfl hown4 (hR:=by infer_instance) (by omega) rfl (λ v5 sp5 hown5=>?_))|(refine qEf ?_;try intro _))<;>(try simp only[kA])<;>refine zN ?_)))
  have e:(XQ r.t r.id++be 8 (vN r.val)).map Zk++[Zk (UInt8.ofNat r.note.length)]++r.note.map Zk=(ZE r).map Zk:=by simp[ZE]
  have e2:3+8+1+r.note.length=(ZE r).length:=by simp[ZE,hkl,Zd];omega
  rw[e] at hown5 ⊢
  repeat' (first|refine zW ?_|intro _)
  rw[e2] at hown5
  exact qE ⟨Hp.le_refl _,sp5,hown5,rfl⟩
end Go.Proofs.E
