/- Laws of LogDoes. Part 27 of 30. -/
import Derived.Test.YthjhjmnmnbcioaaGreatD26
set_option linter.unusedVariables false
set_option linter.unusedSimpArgs false
set_option linter.unusedSectionVars false
namespace Go.Proofs.E
open Go Tryz
set_option maxRecDepth 4000
set_option maxHeartbeats 1000000
attribute [local irreducible] Yl TL TC TE Spec YL R1 Hp.le EnvLe TS TR YS Zt TP QP
structure MI (ρ:Hp)(M:LgS)(a:Option Addr)(c nx:Nat):Prop where
 ml:MlI ρ a M.recs.length c M.recs
 nxe:M.nx=(nx:Int)
 nb:nx<=1073741824
 base:1<=M.base/\M.base<=1099511627777
 ma:M.ma<18446744073709551616
 fl:M.fl<18446744073709551616
theorem MI.mono {ρ ρ' M a c nx}(h:MI ρ M a c nx)(hl:ρ.le ρ'):MI ρ' M a c nx:=⟨h.ml.mono hl,h.nxe,h.nb,h.base,h.ma,h.fl⟩
abbrev mC (mb ob rb:Nat)(M:LgS)(nx:Nat)(a:Option Addr)(c:Nat):List (Nat×Obj):=mdC mb ob rb M.base M.ma M.fl nx (.slice a M.recs.length c)
theorem mappend_spec (ρ:Hp)(mb ob rb:Nat)(M:LgS)(a:Option Addr)(c nx:Nat)(h:MI ρ M a c nx)(hfew:M.recs.length<=1000)(xv:RV)(xr:Rc)(hx:RcIn ρ xv xr)(res:Int) :
  Spec prog 14 [.pointer (some ⟨mb,0,none⟩),.agg ⟨Yu xv xr⟩,.int .i64 res] ρ [mC mb ob rb M nx a c]
   (λ z ρ' L'=>z=.int .i64 (appE M xr res)/\ρ.le ρ'/\∃M' a' c',M'=(if appE M xr res=0 then M.more (xv,xr) else M)/\MI ρ' M' a' c' nx/\L'=[mC mb ob rb M' nx a' c']):=by
 have hri:=Wk ρ xv xr hx
 have hln:=h.ml.at'.len
 obtain⟨hb1,hb2⟩:=h.base
 have hnx:M.next=M.base+M.recs.length:=rfl
 have hNr:=λ ρ'=>next_ref16 ρ' M.base M.ma M.fl nx a M.recs.length c (by omega)
 have hUr:=λ ρ' (h:MlI ρ' a M.recs.length c M.recs)=>used_ref16 ρ' M.base M.ma M.fl nx a M.recs.length c M.recs h
 have hcl:=costN_le xr
 have hul:=usedR_100 M.recs
 have hul2:=usedR_len h.ml.ok
 refine Zb func14 rfl rfl rfl λ u R=>?_
 simp only[Zc,kA]
 cases hok:Yk xr
 ·have hE:appE M xr res=220:=by unfold appE;rw[hok];rfl
  rw[hok] at hri
  rw[hE,if_neg (by omega)]
  repeat' (first|(refine Za (.func 46) ?_;refine qC rfl rfl (hri) ?_;rintro v ρ' L' hle ⟨rfl,rfl,rfl⟩<;>(try simp only[kA]))|refine zV ?_|intro _)
  exact qE (L':=[mC mb ob rb M nx a c]) ⟨rfl,Hp.le_refl _,M,a,c,rfl,h,rfl⟩
 rw[hok] at hri
 have hco:=λ ρ' (h:RcIn ρ' xv xr)=>cost12_spec ρ' xv xr h (XZ hok)
 rw[show sectsB (Yv xr).length=Xh xr by rw[costN_ok hok];rfl] at hco
 repeat' (first|(refine Za (.func 46) ?_;refine qC rfl rfl (hri) ?_;rintro v ρ' L' hle ⟨rfl,rfl,rfl⟩<;>(try simp only[kA]))|refine zV ?_|intro _)
 rename_i b4
 by_cases h2:xr.lsn≠M.next\/res<0\/400<res
 ·have hE:appE M xr res=2:=by unfold appE;rw[hok,if_neg (by simp),if_pos h2]
  rw[hE,if_neg (by omega)]
  have hcs:xr.lsn≠M.next\/(xr.lsn=M.next/\res<0)\/(xr.lsn=M.next/\0<=res/\400<res):=by omega
  rcases hcs with a1|⟨a1,a2⟩|⟨a1,a2,a3⟩
  all_goals
   refine tpA [0,1,2,3,4,5] (.e 6 [] (.f [7,8,9,10,11,12,13,14,15,16] .o)) ([[(b4,.cells ⟨Yu xv xr⟩ 47 (0,0))],mC mb ob rb M nx a c]) ?_
   repeat' (refine iT ?_;first|refine rA ?_|(refine rE ?_<;>(refine Za (.func 12) ?_;refine qC rfl rfl (hNr _) ?_;rintro v ρ' L' hle ⟨rfl,rfl,rfl⟩<;>(try simp only[kA]))<;>(try simp only[kA])<;>refine zN ?_))
   repeat' (first|refine zV ?_|intro _)
   exact qE (L':=[mC mb ob rb M nx a c]) ⟨rfl,Hp.le_refl _,M,a,c,rfl,h,rfl⟩
 have g1:xr.lsn=M.next:=by omega
 have g2:0<=res:=by omega
 have g3:¬400<res:=by omega
 refine tpA [0,1,2,3,4,5] (.e 6 [] (.f [7,8,9,10,11,12,13,14,15,16] .o)) ([[(b4,.cells ⟨Yu xv xr⟩ 47 (0,0))],mC mb ob rb M nx a c]) ?_
 repeat' (refine iT ?_;first|refine rA ?_|(refine rE ?_<;>(refine Za (.func 12) ?_;refine qC rfl rfl (hNr _) ?_;rintro v ρ' L' hle ⟨rfl,rfl,rfl⟩<;>(try simp only[kA]))<;>(try simp only[kA])<;>refine zN ?_))
 repeat' (first|refine zV ?_|intro _)
 by_cases h3:400<(ZI M.recs:Int)+(Xh xr:Int)+res\/M.next=1099511627776
 ·have hE:appE M xr res=261:=by unfold appE;rw[hok,if_neg (by simp),if_neg h2,if_pos h3]
  rw[hE,if_neg (by omega)]
  have hcs:400<(ZI M.recs:Int)+(Xh xr:Int)+res\/(¬400<(ZI M.recs:Int)+(Xh xr:Int)+res/\M.next=1099511627776):=by omega
  generalize Xh xr=cn at *
  generalize ZI M.recs=us at *
  rcases hcs with a1|⟨a1,a2⟩
  all_goals
   refine tpA [0,1,2,3,5,8] (.e 4 [] (.e 6 [7,9,10,11,12,13,14,15] (.e 16 [] (.f [17,18,19] .o)))) ([[(b4,.cells ⟨Yu xv xr⟩ 47 (0,0))],mC mb ob rb M nx a c]) ?_
   repeat' (refine iT ?_;first|refine rA ?_|(refine rE ?_<;>((try refine ZM ?_);(first|(refine Za (.func 47) ?_;refine qC rfl rfl (hUr _ h.ml) ?_;rintro v1 ρ1 L1 hle1 ⟨rfl,hl1,rfl⟩;try simp only[kA])|(refine Za (.func 48) ?_;refine qC rfl rfl (hco _ (hx.mono hl1)) ?_;rintro v2 ρ2 L2 hle2 ⟨hl2,rfl,rfl⟩;try simp only[kA])|(refine Za (.func 12) ?_;refine qC rfl rfl (hNr _) ?_;rintro v ρ' L' hle ⟨rfl,rfl,rfl⟩<;>(try simp only[kA])))<;>(try simp only[kA])<;>refine zN ?_)))
   repeat' (first|refine zV ?_|intro _)
   have hl12:=Hp.le_trans hl1 hl2
   exact qE (L':=[mC mb ob rb M nx a c]) ⟨rfl,hl12,M,a,c,rfl,h.mono hl12,rfl⟩
 ·have hE:appE M xr res=0:=by unfold appE;rw[hok,if_neg (by simp),if_neg h2,if_neg h3]
  rw[hE,if_pos rfl]
  have hcs:¬400<(ZI M.recs:Int)+(Xh xr:Int)+res/\¬M.next=1099511627776:=by omega
  have huc:ZI (M.more (xv,xr)).recs=ZI M.recs+Xh xr:=by show ZI (M.recs++[(xv,xr)])=_;rw[usedR_add];simp[ZI]
  generalize Xh xr=cn at *
  generalize ZI M.recs=us at *
  obtain⟨a1,a2⟩:=hcs
  refine tpA [0,1,2,3,5,8] (.e 4 [] (.e 6 [7,9,10,11,12,13,14,15] (.e 16 [] (.f [17,18,19] .o)))) ([[(b4,.cells ⟨Yu xv xr⟩ 47 (0,0))],mC mb ob rb M nx a c]) ?_
  repeat' (refine iT ?_;first|refine rA ?_|(refine rE ?_<;>((try refine ZM ?_);(first|(refine Za (.func 47) ?_;refine qC rfl rfl (hUr _ h.ml) ?_;rintro v1 ρ1 L1 hle1 ⟨rfl,hl1,rfl⟩;try simp only[kA])|(refine Za (.func 48) ?_;refine qC rfl rfl (hco _ (hx.mono hl1)) ?_;rintro v2 ρ2 L2 hle2 ⟨hl2,rfl,rfl⟩;try simp only[kA])|(refine Za (.func 12) ?_;refine qC rfl rfl (hNr _) ?_;rintro v ρ' L' hle ⟨rfl,rfl,rfl⟩<;>(try simp only[kA])))<;>(try simp only[kA])<;>refine zN ?_)))
  repeat' (first|refine zV ?_|intro _)
  have hl12:=Hp.le_trans hl1 hl2
  have hcap:=h.ml.cap
  have h9:=h.mono hl12
  have hx9:=hx.mono hl12
  refine tc_phase 22 (Zt _ _ ([[(b4,.cells ⟨Yu xv xr⟩ 47 (0,0))],mC mb ob rb M nx a c])) (by decide +kernel) (Xq (hT:=tk) (Hp.le_refl _)) ?_
  simp only[List.take_succ_cons,List.take_zero]
  all_goals (refine rMv 0 ?_;refine rMv 1 ?_;refine rNc 2 ?_;refine rFa 3 ?_;refine rFa 4 ?_;refine rLd 5 ?_;refine rMv 6 ?_;refine rNc 7 ?_;refine rFa 8 ?_;refine rFa 9 ?_;refine rLd 10 ?_;refine rBi 11 ?_;refine rMv 12 ?_;refine rNc 13 ?_;refine rFa 14 ?_;refine rFa 15 ?_;refine rLd 16 ?_;refine rBi 17 ?_;refine rSl 18 ?_;refine rLd 19 ?_)
  all_goals (refine WL (i:=20) ?_;((try refine ZM ?_);(first|(refine Zp (css:=[Yu xv xr]) (sz:=10) rfl rfl rfl rfl (by simp) (by simp) rfl (λ bs=>?_);simp only[aF,List.flatten_nil,aN])|(refine qEf ?_;try intro _))<;>((try simp only[kA]);refine Yz ?_;refine Wn ?_)))
  all_goals (refine WL (i:=21) ?_;((try refine ZM ?_);(first|(refine Zp (css:=[Yu xv xr]) (sz:=10) rfl rfl rfl rfl (by simp) (by simp) rfl (λ bs=>?_);simp only[aF,List.flatten_nil,aN])|(simp only[Int.toNat_natCast];refine tl_app_fr (xs:=YD M.recs) (ys:=Yu xv xr) (m:=1) (sz:=10) rfl rfl (AIn.srcV h9.ml.at') (by rw[flatL_len]) SrcV.lit rfl (by simp) (by decide) rfl (by omega) (by omega) rfl (λ v5 sp5 hown5=>?_);obtain⟨va5,vc5,rfl,hvc5⟩:=hown5.slice)|(refine qEf ?_;try intro _))<;>((try simp only[kA]);refine Yz ?_;refine Wn ?_)))
  all_goals refine rDone ?_
  all_goals refine te_phase (fuel:=4) (m:=[true,true,true,true,true,true,true,true,true,true,true,true,true,true,true,true,true,true,true,true,true,true,false,false,false,false]) (Zt _ _ ([])) rfl rfl (Xq (hT:=tk) (Hp.le_refl _)) ?_
  all_goals (refine rNc 22 ?_;refine rFa 23 ?_;refine rFa 24 ?_)
  all_goals (refine WL (i:=25) ?_;((try refine ZM ?_);(first|(refine qEf ?_;try intro _))<;>((try simp only[kA]);refine Yz ?_;refine Wn ?_)))
  all_goals refine rDone ?_
  repeat' (first|refine zV ?_|intro _)
  rw[show YD M.recs++Yu xv xr=YD (M.recs++[(xv,xr)]) by rw[flatL_add];simp[YD]] at hown5 ⊢
  refine ZB (Zq (.slice va5 (M.recs.length+1) vc5) (YD (M.recs++[(xv,xr)])) sp5 47) (λ ρ7 hl7 hz7=>?_)
  obtain⟨ra,rc,e7,hrc,hRA⟩:=hown5.aIn (g:=rrV) (l:=M.recs++[(xv,xr)]) (by simp) (λ _ _=>rfl) hz7
  cases e7
  have hlen:(M.more (xv,xr)).recs.length=M.recs.length+1:=by show (M.recs++[(xv,xr)]).length=_;simp
  have h17:=h9.mono hl7
  rw[<-hlen]
  refine qE (L':=[mC mb ob rb (M.more (xv,xr)) nx va5 vc5]) ⟨rfl,Hp.le_trans hl12 hl7,M.more (xv,xr),va5,vc5,rfl,⟨⟨?_, ?_, ?_,λ x hx'=>?_,λ x hx'=>?_⟩,h17.nxe,h17.nb,h17.base,h17.ma,h17.fl⟩,rfl⟩
  ·rw[hlen];exact hRA
  ·rw[hlen];exact hrc
  ·rw[hlen];omega
  ·rcases List.mem_append.1 hx' with hx'|hx'
   ·exact h17.ml.rin x hx'
   ·rw[List.mem_singleton.1 hx'];exact hx9.mono hl7
  ·rcases List.mem_append.1 hx' with hx'|hx'
   ·exact h17.ml.ok x hx'
   ·rw[List.mem_singleton.1 hx'];exact hok
theorem cut_any6 (ρ:Hp)(rb db:Nat)(R:RgS)(w:RW)(h:RIn ρ R w)(k:DK)(D:DS)(hD:DOk k D)(X:SH)(a:Option Addr)(nn c:Nat)(note:Bs)(hb:Rd ρ X a nn note)(n:Int)(hn:-9223372036854775808<=n/\n<=9223372036854775807) :
  Spec prog 53 [.pointer (some ⟨rb,0,none⟩),.int .i64 n,.slice a nn c] ρ (ZF rb db R w++(Zj db k D++X))
   (λ v ρ' L'=>v=.int .i64 (R.cut n note D).2.2/\ρ.le ρ'/\∃k' w',DOk k' (R.cut n note D).2.1/\RIn ρ' (R.cut n note D).1 w'/\L'=ZF rb db (R.cut n note D).1 w'++(Zj db k' (R.cut n note D).2.1++X)):=by
 by_cases hbad:R.broken=true\/(n<0\/(R.ents.length:Int)<n\/R.h.turn=1073741824)\/32<note.length
 ·refine (cut_spec_early ρ rb db R w h k D hD X a nn c note hb n hn hbad).mono (λ v ρ' L' _ ⟨h1,h2,h3,h4,h5⟩=>?_)
  subst h2
  rw[h3,h4]
  exact⟨h1,Hp.le_refl _,k,w,hD,h,h5⟩
 ·have hbr:R.broken=false:=by
   cases h:R.broken
   ·rfl
   ·exact absurd (.inl h) hbad
  have htu:=h.ok.turn
  obtain⟨m,rfl⟩:∃m:Nat,n=m:=⟨n.toNat,by omega⟩
  exact cut_spec_main ρ rb db R w h k D hD X a nn c note hb m hbr (by omega) (by omega) (by omega)
theorem trunc16_any (ρ:Hp)(lb rb db:Nat)(S:LgS)(v:Value)(sp:List Value)(h:LgIn ρ S v sp)(w:RW)(hR:RIn ρ S.R w)(k:DK)(D:DS)(hD:DOk k D)(fr ma nx:Nat)(h1:S.base<=fr)(h2:fr<=S.fl+1)(h3:ma<=S.fl)(h4:1<=nx)(h5:nx<=1073741824)(hfl:S.fl<1099511627777)(hfr:fr<=1099511627777) :
  Spec prog 19 [.pointer (some ⟨lb,0,none⟩),.int .u64 (fr:Nat),.int .u64 (ma:Nat),.int .i64 (nx:Nat)] ρ (ZU lb rb S v::Xl S v sp::(ZF rb db S.R w++Zj db k D))
   (λ z ρ' L'=>z=.int .i64 (S.trunc fr ma nx D).2.2/\ρ.le ρ'/\∃k' w' v' sp',DOk k' (S.trunc fr ma nx D).2.1/\RIn ρ' (S.trunc fr ma nx D).1.R w'/\LgIn ρ' (S.trunc fr ma nx D).1 v' sp' /\
    L'=ZU lb rb (S.trunc fr ma nx D).1 v'::Xl (S.trunc fr ma nx D).1 v' sp'::(ZF rb db (S.trunc fr ma nx D).1.R w'++Zj db k' (S.trunc fr ma nx D).2.1)):=by
 have hb:=h.base
 have hsub:((fr:Nat):Int)-(S.base:Nat)=((fr-S.base:Nat):Int):=by omega
 have hxs:∀z∈[ma,nx],z<18446744073709551616:=by
  intro z hz;simp only[List.mem_cons,List.not_mem_nil,or_false] at hz;omega
 have hnl:(Xc [ma,nx] 2).length<=32:=by simp[Xc,Zd]
 have g1:decide (((fr:Nat):Int)<(S.base:Nat))=false:=by simp;omega
 have g2:decide (((fr:Nat):Int) > ((S.fl:Nat):Int)+1)=false:=by simp;omega
 have g3:decide (((ma:Nat):Int) > (S.fl:Nat))=false:=by simp;omega
 have g4:decide (((nx:Nat):Int)<1)=false:=by simp;omega
 have g5:decide (((nx:Nat):Int) > 1073741824)=false:=by simp;omega
 generalize hc:S.R.cut ((fr-S.base:Nat):Int) (Xc [ma,nx] 2) D=c
 refine Zb func19 rfl rfl rfl λ u R=>?_
 simp only[Zc,kA]
 repeat' (first|(refine Za (.func 38) ?_;refine qC rfl rfl (recs16_spec _ lb rb S v sp h fr) ?_;rintro z ρ1 L1 hle1 ⟨hl1,sp1,hown1,rfl⟩;simp only[kA];refine ZL (Zq z (YD (ZS S fr)) sp1 47) (λ ρ2 hl2 hfz2=>?_);obtain⟨ka,kc,rfl,hkc,hA⟩:=hown1.aIn (g:=rrV) (l:=ZS S fr) rfl (λ _ _=>rfl) hfz2)|refine zV ?_|intro _)
 have h02:=Hp.le_trans hl1 hl2
 have hρ:=Hp.le_refl ρ2
 refine tpA [0,1,2,3,4,5,6,7,8,9,10,11,12,13] (.e 14 [] (.e 15 [] (.e 16 [] (.f [17] .o)))) ([ZU lb rb S v]) ?_
 repeat' (refine iT ?_;first|refine rA ?_|(refine rE ?_<;>((first|(refine Zg rfl rfl rfl rfl (by simp) rfl rfl (λ bs=>?_);refine ZL _ (h:=Rem.here) (λ ρz hlz hfz=>?_);have hbs:=hfz _ (List.mem_singleton.2 rfl);clear hfz;have hρ:=Hp.le_trans hρ hlz;clear hlz;(try simp only[List.nil_append]))|(refine Za (.func 54) ?_;refine qC rfl rfl (lnote_spec _ _ _ [ma,nx] rfl ⟨rfl,.inr ⟨_,_,_,_,_,rfl,hbs,rfl⟩⟩ hxs) ?_;rintro v5 ρ5 L5 hle5 ⟨rfl,sp5,hown5,rfl⟩;simp only[kA];refine ZL _ (h:=Rem.here) (λ ρ6 hl6 hfz6=>?_);have hρ:=Hp.le_trans hρ hl6;obtain⟨a6,c6,rfl,hc6,hs6⟩:=hown5.sIn hfz6)|(refine Za (.func 53) ?_;simp only[hsub];refine qC rfl rfl (cut_any6 _ rb db S.R w (hR.mono (Hp.le_trans h02 hρ)) k D hD [] a6 12 c6 _ hs6.rd ((fr-S.base:Nat):Int) (by omega)) ?_;rintro v7 ρ7 L7 hle7 ⟨rfl,hl7,k7,w7,hD7,hR7,rfl⟩;have hρ7:=Hp.le_trans hρ hl7;simp only[kA,aN])|(refine qEf ?_;try intro _))<;>(try simp only[kA])<;>refine zN ?_)))
 rw[hc] at hD7 hR7 ⊢
 by_cases he:c.2.2=0
 ·have e:S.trunc fr ma nx D=(S.cutTo c.1 fr ma nx (ZS S fr),c.2.1,0):=by unfold LgS.trunc;rw[hc];exact if_pos he
  rw[e,he]
  dsimp only
  have hun:=h.used
  have hfl1:=fromL_len S fr
  have hfl2:=h.len
  have huf:=usedR_filter (λ x=>decide (fr<=x.2.lsn)) S.recs
  repeat' (first|refine zV ?_|intro _)
  refine lpG (Nat×Hp×Value×(List Value)) [0,8,87,88] (λ z=>[(89,.int .i64 z.1)]) (λ z=>z.2.1) (λ z=>ZU lb rb (S.cutTo c.1 fr ma nx ((ZS S fr).take z.1)) z.2.2.1::Xl (S.cutTo c.1 fr ma nx ((ZS S fr).take z.1)) z.2.2.1 z.2.2.2::(ZF rb db c.1 w7++Zj db k7 c.2.1)) (λ z=>z.1<=(ZS S fr).length/\ρ7.le z.2.1/\LgIn z.2.1 (S.cutTo c.1 fr ma nx ((ZS S fr).take z.1)) z.2.2.1 z.2.2.2) (λ z=>(ZS S fr).length-z.1) (0,ρ7,.slice none 0 0,[]) (⟨aZ _,Hp.le_refl _,⟨OwnS.nil 10,λ _ hx=>by simp[LgS.cutTo] at hx,λ _ hx=>by simp[LgS.cutTo] at hx,by simp[LgS.cutTo,ZI],hfr⟩⟩) ?_
  rintro⟨i,ρ8,v8,sp8⟩ hI
  try simp only[kB] at hI ⊢
  try dsimp only at hI ⊢
  obtain⟨hi,hl8,hL8⟩:=hI
  by_cases hlt:i<(ZS S fr).length
  ·obtain⟨b,off,C,T,frr,rfl,hb8,hfit,hcl⟩:=(hA.mono (Hp.le_trans hρ7 hl8)).get hlt
   have hmem:(ZS S fr)[i]∈S.recs:=fromL_mem (aM hlt)
   have hx:=(h.rin _ hmem).mono (Hp.le_trans h02 (Hp.le_trans hρ7 hl8))
   have hok:=h.ok _ hmem
   have hts:=aG hlt
   have hu1:=usedR_take_succ _ _ hlt
   have hu2:=usedR_take_le (ZS S fr) (i+1)
   generalize (ZS S fr)[i]=x at *
   have hmo:(S.cutTo c.1 fr ma nx ((ZS S fr).take i)).more x=S.cutTo c.1 fr ma nx ((ZS S fr).take (i+1)):=by rw[hts];rfl
   have hu3:ZI (S.cutTo c.1 fr ma nx ((ZS S fr).take i)).recs+Xh x.2<=1000000:=by
    show ZI ((ZS S fr).take i)+_<=_
    have:ZI (ZS S fr)<=ZI S.recs:=huf
    omega
   repeat' (first|(refine Za (.func 45) ?_;refine qC rfl rfl (takes_spec16 _ lb rb _ _ _ hL8 x hx hok hu3) ?_;rintro v9 ρ9 L9 hle9 ⟨rfl,hl9,v10,sp10,hL9,rfl⟩;rw[hmo] at hL9 ⊢;simp only[kA])|refine zV ?_|intro _)
   refine rnG (i+1,ρ9,v10,sp10) (⟨hlt,Hp.le_trans hl8 hl9,hL9⟩)
  ·rw[aT (by omega)] at *
   repeat' (first|refine zV ?_|intro _)
   exact qE ⟨rfl,Hp.le_trans (Hp.le_trans h02 hρ7) hl8,k7,w7,v8,sp8,hD7,hR7.mono hl8,hL8,rfl⟩
 ·have e:S.trunc fr ma nx D=({ S with R:=c.1 },c.2.1,c.2.2):=by unfold LgS.trunc;rw[hc];exact if_neg he
  rw[e]
  dsimp only
  have hef:(c.2.2 == 0)=false:=by simpa using he
  repeat' (first|refine zV ?_|intro _)
  exact qE ⟨rfl,Hp.le_trans h02 hρ7,k7,w7,v,sp,hD7,hR7,⟨h.own,λ x hx=>(h.rin x hx).mono (Hp.le_trans h02 hρ7),h.ok,h.used,h.base⟩,rfl⟩
theorem trunc16_no (ρ:Hp)(lb rb:Nat)(S:LgS)(v:Value)(fr ma:Nat)(nx:Int)(hfr:fr<18446744073709551616)(hma:ma<18446744073709551616)(hfl:S.fl<1099511627777)(hb:S.base<=1099511627777)
  (hbad:fr<S.base\/S.fl+1<fr\/S.fl<ma\/nx<1\/1073741824<nx) :
  Spec prog 19 [.pointer (some ⟨lb,0,none⟩),.int .u64 (fr:Nat),.int .u64 (ma:Nat),.int .i64 nx] ρ [ZU lb rb S v] (λ z ρ' L'=>z=.int .i64 2/\ρ'=ρ/\L'=[ZU lb rb S v]):=by
 refine Zb func19 rfl rfl rfl λ u R=>?_
 simp only[Zc,kA]
 have hcs:fr<S.base\/(S.base<=fr/\S.fl+1<fr)\/(S.base<=fr/\fr<=S.fl+1/\S.fl<ma)\/(S.base<=fr/\fr<=S.fl+1/\ma<=S.fl/\nx<1)\/(S.base<=fr/\fr<=S.fl+1/\ma<=S.fl/\1<=nx/\1073741824<nx):=by omega
 rcases hcs with a1|⟨a1,a2⟩|⟨a1,a2,a3⟩|⟨a1,a2,a3,a4⟩|⟨a1,a2,a3,a4,a5⟩
 all_goals
  repeat' (first|refine zV ?_|intro _)
  exact qE (L':=[ZU lb rb S v]) ⟨rfl,rfl,rfl⟩
theorem refnote16_spec (ρ:Hp)(ma nx:Nat)(hma:ma<18446744073709551616)(hnx:nx<=1073741824) :
  Spec prog 55 [.int .u64 ma,.int .i64 nx] ρ [] (λ v ρ' L'=>ρ'=ρ/\∃sp,OwnS v 12 ((Xc [ma,nx] 2).map Zk) sp 1/\L'=[Zq v ((Xc [ma,nx] 2).map Zk) sp 5]):=by
 refine Zb func55 rfl rfl rfl λ u R=>?_
 simp only[Zc,kA]
 repeat' (first|refine zV ?_|intro _)
 refine lpG (Nat×Int×Value×(List Value)) [0,1,4] (λ z=>[(6,.int .i64 z.2.1),(5,z.2.2.1)]) (λ z=>ρ) (λ z=>[Zq z.2.2.1 (((be 8 ma).take z.1).map Zk) z.2.2.2 5]) (λ z=>z.1<=8/\z.2.1=7-(z.1:Int)/\OwnS z.2.2.1 ((be 8 ma).take z.1).length (((be 8 ma).take z.1).map Zk) z.2.2.2 1) (λ z=>8-z.1) (0,7,.slice none 0 0,[]) ⟨aZ _,rfl,OwnS.nil 1⟩ ?_
 rintro⟨j,kx,v2,sp2⟩ hI
 try simp only[kB] at hI ⊢
 try dsimp only at hI ⊢
 obtain⟨hj,hkx,ho⟩:=hI
 subst hkx
 by_cases hlj:j<8
 ·have hsh:=shr_byteR ma (8-1-j)
  have hts:=Vn 8 ma j hlj
  have hmin:min (8*((7:Int)-(j:Int))).toNat 64=8*(8-1-j):=by omega
  have hlj2:((be 8 ma).take j).length=j:=by simp[Zd];omega
  repeat' (first|(refine Zg rfl rfl rfl rfl (by simp) rfl rfl (λ _=>?_);simp only[hmin,hsh])|(refine Vd (ys:=[UInt8.ofNat (ma / 256 ^ (8-1-j))]) (m:=1) rfl rfl ho (hR:=by infer_instance) SrcV.lit rfl (by simp[Zd];omega) rfl (λ v3 sp3 ho3=>?_))|refine zV ?_|intro _)
  rw[<-hts] at ho3 ⊢
  refine rnG (j+1,7-(j:Int)-1,v3,sp3) (⟨hlj,by dsimp only;omega,ho3⟩)
 have hb8:(be 8 ma).take j=be 8 ma:=aT (by simp[Zd];omega)
 rw[hb8] at ho ⊢
 repeat' (first|refine zV ?_|intro _)
 rw[show be 8 ma=be 8 ma++(be 4 nx).take 0 by simp] at ho ⊢
 refine lpG (Nat×Int×Value×(List Value)) [1,4] (λ z=>[(7,.int .i64 z.2.1),(5,z.2.2.1)]) (λ z=>ρ) (λ z=>[Zq z.2.2.1 ((be 8 ma++(be 4 nx).take z.1).map Zk) z.2.2.2 5]) (λ z=>z.1<=4/\z.2.1=3-(z.1:Int)/\OwnS z.2.2.1 (be 8 ma++(be 4 nx).take z.1).length ((be 8 ma++(be 4 nx).take z.1).map Zk) z.2.2.2 1) (λ z=>4-z.1) (0,3,v2,sp2) ⟨aZ _,rfl,ho⟩ ?_
 rintro⟨i,kx,v4,sp4⟩ hI
 try simp only[kB] at hI ⊢
 try dsimp only at hI ⊢
 obtain⟨hi,hkx,ho4⟩:=hI
 subst hkx
 by_cases hli:i<4
 ·have hsh:=shr_byteR nx (4-1-i)
  have hts:=Vn 4 nx i hli
  have hmin:min (8*((3:Int)-(i:Int))).toNat 64=8*(4-1-i):=by omega
  have hlj2:((be 4 nx).take i).length=i:=by simp[Zd];omega
  repeat' (first|(refine Zg rfl rfl rfl rfl (by simp) rfl rfl (λ _=>?_);simp only[hmin,hsh])|(refine Vd (ys:=[UInt8.ofNat (nx / 256 ^ (4-1-i))]) (m:=1) rfl rfl ho4 (hR:=by infer_instance) SrcV.lit rfl (by simp[Zd];omega) rfl (λ v5 sp5 ho5=>?_))|refine zV ?_|intro _)
  have hmm:be 8 ma++(be 4 nx).take i++[UInt8.ofNat (nx / 256 ^ (4-1-i))]=be 8 ma++(be 4 nx).take (i+1):=by rw[hts,aA]
  rw[hmm] at ho5 ⊢
  refine rnG (i+1,3-(i:Int)-1,v5,sp5) (⟨hli,by dsimp only;omega,ho5⟩)
 have hn4:be 8 ma++(be 4 nx).take i=Xc [ma,nx] 2:=by rw[aT (by simp[Zd];omega)];simp[Xc]
 have hn12:(Xc [ma,nx] 2).length=12:=by simp[Xc,Zd]
 rw[hn4] at ho4 ⊢
 rw[hn12] at ho4
 repeat' (first|refine zV ?_|intro _)
 exact qE ⟨rfl,sp4,ho4,rfl⟩
theorem refcut16_spec (ρ:Hp)(M:LgS)(a:Option Addr)(c nx:Nat)(h:MI ρ M a c nx)(fr ma nx2:Nat) :
  Spec prog 56 [.agg ⟨mlV M.base M.ma M.fl nx (.slice a M.recs.length c)⟩,.int .u64 fr,.int .u64 ma,.int .i64 nx2] ρ []
   (λ z ρ' L'=>ρ.le ρ'/\∃a' c',z=.agg ⟨mlV fr ma M.fl nx2 (.slice a' (ZS M fr).length c')⟩/\MlI ρ' a' (ZS M fr).length c' (ZS M fr)/\L'=[]):=by
 have hfw:=h.ml.few
 have hFl:=fromL_len M fr
 have hMm:∀x∈ZS M fr,x∈M.recs:=λ x hx=>fromL_mem hx
 have hmr:=h.ml.rin
 have hmo:=h.ml.ok
 have hmA:=h.ml.at'
 unfold ZS at hFl hMm ⊢
 generalize M.recs=m at *
 have hln:=hmA.len
 refine Zb func56 rfl rfl rfl λ u R=>?_
 simp only[Zc,kA]
 repeat' (first|refine zV ?_|intro _)
 rename_i b8 b9
 rw[show [Value.int .u64 fr,.int .u64 ma,.int .u64 M.fl,.int .i64 nx2,.slice none 0 0]=mlV fr ma M.fl nx2 (.slice none 0 0) from rfl]
 refine lpG (Nat×(List RR)×Value×(List Value)) [1,8,9,19,20] (λ z=>[(21,.int .i64 z.1)]) (λ z=>ρ) (λ z=>[(b9,.cells ⟨mlV fr ma M.fl nx2 z.2.2.1⟩ 38 (0,0))]::Zq z.2.2.1 (YD z.2.1) z.2.2.2 47::[[(b8,.cells ⟨[.int .u64 0,.int .u64 0,.int .u64 0,.int .i64 0,.slice none 0 0]⟩ 38 (0,0))]]) (λ z=>z.1<=m.length/\OwnS z.2.2.1 z.2.1.length (YD z.2.1) z.2.2.2 10/\z.2.1=(m.take z.1).filter (λ x=>decide (fr<=x.2.lsn))) (λ z=>m.length-z.1) (0,[],.slice none 0 0,[]) ⟨aZ _,OwnS.nil 10,rfl⟩ ?_
 rintro⟨i,l,v,sp⟩ hI
 try simp only[kB] at hI ⊢
 try dsimp only at hI ⊢
 obtain⟨hi,hown,hl⟩:=hI
 obtain⟨va,vc,rfl,hvc⟩:=hown.slice
 have hll:l.length<=i:=by rw[hl];exact Nat.le_trans (List.length_filter_le _ _) (by rw[List.length_take];omega)
 by_cases hlt:i<m.length
 ·obtain⟨b,off,C,T,frr,e1,hb,hfit,hc⟩:=hmA.get hlt
  have htk:=aG hlt
  have hsn:(m.take (i+1)).filter (λ x=>decide (fr<=x.2.lsn))=l++(if fr<=(m[i]).2.lsn then [m[i]] else []):=by
   rw[htk,List.filter_append,hl]
   congr 1
   by_cases hq:fr<=(m[i]).2.lsn
   ·rw[if_pos hq];simp[hq]
   ·rw[if_neg hq];simp[hq]
  rw[e1]
  generalize m[i]=y at *
  obtain⟨yv,yr⟩:=y
  dsimp only at hsn hc
  by_cases hq:fr<=yr.lsn
  ·rw[if_pos hq] at hsn
   repeat' (first|(refine Zp (css:=[Yu yv yr]) (sz:=10) rfl rfl rfl rfl (by simp) (by simp) rfl (λ bs=>?_);simp only[aF,List.flatten_nil,aN])|(refine ZH (ys:=Yu yv yr) (m:=1) (sz:=10) rfl rfl hown (hR:=by repeat (first|exact Zl|apply Zn)) SrcV.lit rfl rfl (by decide) rfl (by omega) (by omega) rfl (λ v' sp' hown'=>?_);obtain⟨va2,vc2,rfl,hvc2⟩:=hown'.slice)|refine zV ?_|intro _)
   rw[show YD l++Yu yv yr=YD (l++[(yv,yr)]) by rw[flatL_add];simp[YD]] at hown' ⊢
   rw[<-e1]
   refine rnG (i+1,l++[(yv,yr)],.slice va2 (l.length+1) vc2,sp') (⟨hlt,by dsimp only;rw[aL];exact hown',hsn.symm⟩)
  ·rw[if_neg hq,aN] at hsn
   repeat' (first|refine zV ?_|intro _)
   rw[<-e1]
   refine rnG (i+1,l,.slice va l.length vc,sp) (⟨hlt,hown,hsn.symm⟩)
 ·rw[aT (by omega)] at hl
  repeat' (first|refine zV ?_|intro _)
  refine ZB (Zq (.slice va l.length vc) (YD l) sp 47) (λ ρ7 hl7 hz7=>?_)
  obtain⟨ra,rc,e7,hrc,hRA⟩:=hown.aIn (g:=rrV) (l:=l) rfl (λ _ _=>rfl) hz7
  cases e7
  subst hl
  exact qE (L':=[]) ⟨hl7,va,vc,rfl,⟨hRA,hrc,by omega,λ x hx=>(hmr x (hMm x hx)).mono hl7,λ x hx=>hmo x (hMm x hx)⟩,rfl⟩
theorem mtrunc_no (ρ:Hp)(mb ob rb:Nat)(M:LgS)(a:Option Addr)(c nx:Nat)(h:MI ρ M a c nx)(fr ma:Nat)(nx2:Int)(hfr:fr<18446744073709551616)(hma:ma<18446744073709551616)(hfl:M.fl<1099511627777)
  (hbad:fr<M.base\/M.fl+1<fr\/M.fl<ma\/nx2<1\/1073741824<nx2) :
  Spec prog 20 [.pointer (some ⟨mb,0,none⟩),.int .u64 fr,.int .u64 ma,.int .i64 nx2] ρ [mC mb ob rb M nx a c] (λ z ρ' L'=>z=.int .i64 2/\ρ'=ρ/\L'=[mC mb ob rb M nx a c]):=by
 obtain⟨hb1,hb2⟩:=h.base
 refine Zb func20 rfl rfl rfl λ u R=>?_
 simp only[Zc,kA]
 have hcs:fr<M.base\/(M.base<=fr/\M.fl+1<fr)\/(M.base<=fr/\fr<=M.fl+1/\M.fl<ma)\/(M.base<=fr/\fr<=M.fl+1/\ma<=M.fl/\nx2<1)\/(M.base<=fr/\fr<=M.fl+1/\ma<=M.fl/\1<=nx2/\1073741824<nx2):=by omega
 rcases hcs with a1|⟨a1,a2⟩|⟨a1,a2,a3⟩|⟨a1,a2,a3,a4⟩|⟨a1,a2,a3,a4,a5⟩
 all_goals
  repeat' (first|refine zV ?_|intro _)
  exact qE (L':=[mC mb ob rb M nx a c]) ⟨rfl,rfl,rfl⟩
theorem mtrunc_spec (ρ:Hp)(mb ob rb:Nat)(M:LgS)(a:Option Addr)(c nx:Nat)(h:MI ρ M a c nx)(w:RW)(hR:RIn ρ M.R w)(k:DK)(D:DS)(hD:DOk k D)(fr ma nx2:Nat)(h1:M.base<=fr)(h2:fr<=M.fl+1)(h3:ma<=M.fl)(h4:1<=nx2)(h5:nx2<=1073741824)(hfl:M.fl<1099511627777)(hfr:fr<=1099511627777) :
  Spec prog 20 [.pointer (some ⟨mb,0,none⟩),.int .u64 fr,.int .u64 ma,.int .i64 nx2] ρ (mC mb ob rb M nx a c::(ZF rb ob M.R w++Zj ob k D))
   (λ z ρ' L'=>z=.int .i64 (M.trunc fr ma nx2 D).2.2/\ρ.le ρ'/\∃k' w' a' c' nx',DOk k' (M.trunc fr ma nx2 D).2.1/\RIn ρ' (M.trunc fr ma nx2 D).1.R w'/\MI ρ' (M.trunc fr ma nx2 D).1 a' c' nx' /\
    L'=mC mb ob rb (M.trunc fr ma nx2 D).1 nx' a' c'::(ZF rb ob (M.trunc fr ma nx2 D).1.R w'++Zj ob k' (M.trunc fr ma nx2 D).2.1)):=by
 obtain⟨hb1,hb2⟩:=h.base
 have hsub:((fr:Nat):Int)-(M.base:Nat)=((fr-M.base:Nat):Int):=by omega
 have hNo:=λ ρ'=>refnote16_spec ρ' ma nx2 (by omega) h5
 generalize hc:M.R.cut ((fr-M.base:Nat):Int) (Xc [ma,nx2] 2) D=cc
 refine Zb func20 rfl rfl rfl λ u R=>?_
 simp only[Zc,kA]
 repeat' (first|refine zV ?_|intro _)
 refine tpA [0,1,2,3,4,5,6,7,8,9,10,11,12,13] (.e 14 [] (.e 15 [] (.f [16] .o))) ([mC mb ob rb M nx a c]) ?_
 repeat' (refine iT ?_;first|refine rA ?_|(refine rE ?_<;>((first|(refine Za (.func 55) ?_;refine qC rfl rfl (hNo _) ?_;rintro v5 ρ5 L5 hle5 ⟨rfl,sp5,hown5,rfl⟩;try simp only[kA];refine ZL _ (h:=Rem.here) (λ ρ6 hl6 hfz6=>?_);obtain⟨a6,c6,rfl,hc6,hs6⟩:=hown5.sIn hfz6)|(refine Za (.func 53) ?_;simp only[hsub];refine qC rfl rfl (cut_any6 _ rb ob M.R w (hR.mono hl6) k D hD [] a6 12 c6 _ hs6.rd ((fr-M.base:Nat):Int) (by omega)) ?_;rintro v7 ρ7 L7 hle7 ⟨rfl,hl7,k7,w7,hD7,hR7,rfl⟩;try simp only[kA,aN]))<;>(try simp only[kA])<;>refine zN ?_)))
 rw[hc] at hD7 hR7 ⊢
 have hl67:=Hp.le_trans hl6 hl7
 have h7:=h.mono hl67
 by_cases he:cc.2.2=0
 ·have e:M.trunc fr ma nx2 D=(M.cutTo cc.1 fr ma nx2 (ZS M fr),cc.2.1,0):=by unfold LgS.trunc;rw[hc];exact if_pos he
  rw[e,he]
  dsimp only
  have hCu:=refcut16_spec ρ7 M a c nx h7 fr ma nx2
  repeat' (first|(refine Za (.func 56) ?_;refine qC rfl rfl hCu ?_;rintro v8 ρ8 L8 hle8 ⟨hl8,ra,rc,rfl,hml,rfl⟩;try simp only[kA])|refine zV ?_|intro _)
  exact qE (L':=mC mb ob rb (M.cutTo cc.1 fr ma nx2 (ZS M fr)) nx2 ra rc::(ZF rb ob cc.1 w7++Zj ob k7 cc.2.1)) ⟨rfl,Hp.le_trans hl67 hl8,k7,w7,ra,rc,nx2,hD7,hR7.mono hl8,⟨hml,rfl,h5,⟨show 1<=fr by omega,show fr<=_ by omega⟩,show ma<_ by omega,h.fl⟩,rfl⟩
 ·have e:M.trunc fr ma nx2 D=({ M with R:=cc.1 },cc.2.1,cc.2.2):=by unfold LgS.trunc;rw[hc];exact if_neg he
  rw[e]
  dsimp only
  have hef:(cc.2.2 == 0)=false:=by simpa using he
  repeat' (first|refine zV ?_|intro _)
  exact qE (L':=mC mb ob rb M nx a c::(ZF rb ob cc.1 w7++Zj ob k7 cc.2.1)) ⟨rfl,hl67,k7,w7,a,c,nx,hD7,hR7,⟨h7.ml,h7.nxe,h7.nb,h7.base,h7.ma,h7.fl⟩,rfl⟩
theorem flushL_stop {to:Nat}:∀{l:List RR} {R:RgS} {D:DS} {f:Nat},(∀x∈l,to<x.2.lsn)->YV to l R D f=(R,D,f,0)
 | [],_,_,_,_=>rfl
 | x::l,_,_,_,h=>by unfold YV;rw[if_pos (h x (by simp))]
theorem Nmb.up {b:Nat}{l:List RR}(h:Nmb b l){i:Nat}{to:Nat}(hi:to<b+i):∀x∈l.drop i,to<x.2.lsn:=λ x hx=>by
 obtain⟨j,hj,rfl⟩:=List.getElem_of_mem hx
 rw[List.getElem_drop]
 rw[List.length_drop] at hj
 rw[h (i+j) (by omega)];omega
theorem mflush_spec (ρ:Hp)(mb ob rb:Nat)(M:LgS)(a:Option Addr)(c nx:Nat)(h:MI ρ M a c nx)(hn:Nmb M.base M.recs)(hf1:M.base<=M.fl+1)(hf2:M.fl<M.next)(w:RW)(hR:RIn ρ M.R w)(k:DK)(D:DS)(hD:DOk k D)(to:Nat)(hto:to<18446744073709551616) :
  Spec prog 17 [.pointer (some ⟨mb,0,none⟩),.int .u64 to] ρ (mC mb ob rb M nx a c::(ZF rb ob M.R w++Zj ob k D))
   (λ z ρ' L'=>z=.int .i64 (M.flush to D).2.2/\ρ.le ρ'/\∃k' w',DOk k' (M.flush to D).2.1/\RIn ρ' (M.flush to D).1.R w'/\L'=mC mb ob rb (M.flush to D).1 nx a c::(ZF rb ob (M.flush to D).1.R w'++Zj ob k' (M.flush to D).2.1)):=by
 have hln:=h.ml.at'.len
 have hfw:=h.ml.few
 obtain⟨hb1,hb2⟩:=h.base
 have hnx:M.next=M.base+M.recs.length:=rfl
 have hNr:=λ ρ'=>next_ref16 ρ' M.base M.ma M.fl nx a M.recs.length c (by omega)
 by_cases hge:M.next<=to
 ·have e:M.flush to D=(M,D,2):=by unfold LgS.flush;rw[if_pos hge]
  rw[e]
  refine Zb func17 rfl rfl rfl λ u R=>?_
  simp only[Zc,kA]
  repeat' (first|(refine Za (.func 12) ?_;refine qC rfl rfl (hNr _) ?_;rintro v ρ' L' hle ⟨rfl,rfl,rfl⟩<;>(try simp only[kA]))|refine zV ?_|intro _)
  exact qE (L':=mC mb ob rb M nx a c::(ZF rb ob M.R w++Zj ob k D)) ⟨rfl,Hp.le_refl _,k,w,hD,hR,rfl⟩
 generalize hq:YV to (ZS M (M.fl+1)) M.R D M.fl=q
 have e:M.flush to D=(M.at q.1 q.2.2.1,q.2.1,q.2.2.2):=by unfold LgS.flush;rw[if_neg hge,hq]
 rw[e]
 dsimp only
 obtain⟨s,hs⟩:∃s,s=M.fl+1-M.base:=⟨_,rfl⟩
 rw[show ZS M (M.fl+1)=M.recs.drop s by rw[hs];exact Wq M.recs M.base (M.fl+1) hn] at hq
 refine Zb func17 rfl rfl rfl λ u R=>?_
 simp only[Zc,kA]
 repeat' (first|(refine Za (.func 12) ?_;refine qC rfl rfl (hNr _) ?_;rintro v ρ' L' hle ⟨rfl,rfl,rfl⟩<;>(try simp only[kA]))|refine zV ?_|intro _)
 refine lpG (Nat×Hp×RgS×DS×Nat×RW×DK) [0,1,19,20] (λ z=>[(21,.int .i64 z.1),(4,.int .i64 0)]) (λ z=>z.2.1) (λ z=>mdC mb ob rb M.base M.ma z.2.2.2.2.1 nx (.slice a M.recs.length c)::(ZF rb ob z.2.2.1 z.2.2.2.2.2.1++Zj ob z.2.2.2.2.2.2 z.2.2.2.1)) (λ z=>z.1<=M.recs.length/\ρ'.le z.2.1/\YV to (M.recs.drop (max z.1 s)) z.2.2.1 z.2.2.2.1 z.2.2.2.2.1=q/\z.2.2.2.2.1+1<=M.base+max z.1 s/\M.fl<=z.2.2.2.2.1/\DOk z.2.2.2.2.2.2 z.2.2.2.1/\RIn z.2.1 z.2.2.1 z.2.2.2.2.2.1) (λ z=>M.recs.length-z.1) (0,ρ',M.R,D,M.fl,w,k) ⟨aZ _,Hp.le_refl _,by rw[Nat.zero_max];exact hq,by rw[Nat.zero_max];show M.fl+1<=M.base+s;omega,aR _,hD,hR⟩ ?_
 rintro⟨i,ρ1,Ri,Di,fi,wi,ki⟩ hI
 try simp only[kB] at hI ⊢
 try dsimp only at hI ⊢
 obtain⟨hi,hl1,hqi,hfb,hfl,hDi,hRi⟩:=hI
 by_cases hlt:i<M.recs.length
 ·obtain⟨b,off,C,T,frr,e1,hb,hfit,hc⟩:=(h.ml.at'.mono hl1).get hlt
  have hx:=(h.ml.rin _ (aM hlt)).mono hl1
  have hok:=h.ml.ok _ (aM hlt)
  have hls:=hn i hlt
  have hdr:=List.drop_eq_getElem_cons hlt
  rw[e1]
  generalize M.recs[i]=y at *
  obtain⟨yv,yr⟩:=y
  dsimp only at hx hok hls hc
  by_cases hsk:i<s
  ·have hle:yr.lsn<=fi:=by omega
   repeat' (first|refine zV ?_|intro _)
   rename_i b6
   refine tpA [0] (.f [1,2,3,4,5,6,7,8,9,10,11,12,13] .o) ([[(b6,.cells ⟨Yu yv yr⟩ 47 (0,0))],mdC mb ob rb M.base M.ma fi nx (.slice (some ⟨b,off,none⟩) M.recs.length c)]) ?_
   repeat' (refine iT ?_;first|refine rA ?_)
   repeat' (first|refine zV ?_|intro _)
   rw[<-e1]
   refine rnG (i+1,ρ1,Ri,Di,fi,wi,ki) (⟨hlt,hl1,by dsimp only;rw[show max (i+1) s=max i s by omega];exact hqi,by dsimp only;omega,hfl,hDi,hRi⟩)
  have hmx:max i s=i:=by omega
  rw[hmx] at hqi hfb
  have hgt:¬yr.lsn<=fi:=by omega
  by_cases hst:to<yr.lsn
  ·repeat' (first|refine zV ?_|intro _)
   rename_i b6
   refine tpA [0] (.f [1,2,3,4,5,6,7,8,9,10,11,12,13] .o) ([[(b6,.cells ⟨Yu yv yr⟩ 47 (0,0))],mdC mb ob rb M.base M.ma fi nx (.slice (some ⟨b,off,none⟩) M.recs.length c)]) ?_
   repeat' (refine iT ?_;first|refine rA ?_)
   repeat' (first|refine zV ?_|intro _)
   rw[<-e1]
   have hq2:YV to (M.recs.drop (i+1)) Ri Di fi=q:=by
    rw[flushL_stop (Nmb.up hn (by omega)),<-hqi,flushL_stop (Nmb.up hn (by omega))]
   refine rnG (i+1,ρ1,Ri,Di,fi,wi,ki) (⟨hlt,hl1,by dsimp only;rw[show max (i+1) s=i+1 by omega];exact hq2,by dsimp only;omega,hfl,hDi,hRi⟩)
  have hby:=bytes12_spec ρ1 yv yr hx (XZ hok)
  have hle:=recB_le (XZ hok)
  rw[hdr] at hqi
  unfold YV at hqi
  rw[if_neg hst] at hqi
  dsimp only at hqi
  generalize Yv yr=bb at *
  have hap:=λ ρ5 ba bc (hl5:ρ1.le ρ5) (hs:SIn ρ5 Zk ba bb.length bb) (hc:bb.length<=bc)=>append_spec ρ5 rb ob Ri wi (hRi.mono hl5) ki Di hDi [] ba bb.length bc bb hs.rd hc (by omega)
  simp only[aN] at hap
  generalize Ri.append bb Di=cc at *
  repeat' (first|refine zV ?_|intro _)
  rename_i b6
  refine tpA [0] (.f [1,2,3,4,5,6,7,8,9,10,11,12,13] .o) ([[(b6,.cells ⟨Yu yv yr⟩ 47 (0,0))],mdC mb ob rb M.base M.ma fi nx (.slice (some ⟨b,off,none⟩) M.recs.length c)]) ?_
  repeat' (refine iT ?_;first|refine rA ?_)
  repeat' (first|refine zV ?_|intro _)
  refine tpA [0,1,2,3,4] (.e 5 [] (.e 6 [] (.f [7] .o))) ([[(b6,.cells ⟨Yu yv yr⟩ 47 (0,0))],mdC mb ob rb M.base M.ma fi nx (.slice (some ⟨b,off,none⟩) M.recs.length c)]) ?_
  repeat' (refine iT ?_;first|refine rA ?_|(refine rE ?_<;>((first|(refine Za (.func 52) ?_;refine qC rfl rfl hby ?_;rintro v5 ρ5 L5 hle5 ⟨hl5,ba,bc,rfl,hbc,hbS,rfl⟩;try simp only[kA])|(refine Za (.func 51) ?_;refine qC rfl rfl (hap _ ba bc hl5 hbS hbc) ?_;rintro v6 ρ6 L6 hle6 ⟨rfl,hl6,k6,w6,hD6,hR6,rfl⟩;try simp only[kA]))<;>(try simp only[kA])<;>refine zN ?_)))
  have hl16:=Hp.le_trans hl1 (Hp.le_trans hl5 hl6)
  by_cases he:cc.2.2=0
  ·rw[if_pos he] at hqi
   have heb:(cc.2.2 == 0)=true:=by simpa using he
   repeat' (first|refine zV ?_|intro _)
   rw[<-e1]
   refine rnG (i+1,ρ6,cc.1,cc.2.1,yr.lsn,w6,k6) (⟨hlt,hl16,by dsimp only;rw[show max (i+1) s=i+1 by omega];exact hqi,by dsimp only;omega,by dsimp only;omega,hD6,hR6⟩)
  ·rw[if_neg he] at hqi
   subst hqi
   have heb:(cc.2.2 == 0)=false:=by simpa using he
   repeat' (first|refine zV ?_|intro _)
   exact qE (L':=mdC mb ob rb M.base M.ma fi nx (.slice (some ⟨b,off,none⟩) M.recs.length c)::(ZF rb ob cc.1 w6++Zj ob k6 cc.2.1)) ⟨rfl,hl16,k6,w6,hD6,hR6,rfl⟩
 ·have hdn:M.recs.drop (max i s)=[]:=List.drop_of_length_le (by omega)
  rw[hdn] at hqi
  have hqe:q=(Ri,Di,fi,0):=hqi.symm
  subst hqe
  repeat' (first|refine zV ?_|intro _)
  exact qE (L':=mdC mb ob rb M.base M.ma fi nx (.slice a M.recs.length c)::(ZF rb ob Ri wi++Zj ob ki Di)) ⟨rfl,hl1,ki,wi,hDi,hRi,rfl⟩
abbrev mdQ (mb ob:Nat)(q:List Value):List (Nat×Obj):=[(mb,.cells ⟨.pointer (some ⟨ob,0,none⟩)::q⟩ 41 (0,0))]
theorem ok_of_plain {m:List RR}{ents:List Bs}{f:Nat}(hp:plL m=ents.map XD)(he:EntsOk f ents):(∀x∈m,Yk x.2=true)/\Nmb f m:=by
 have hl:m.length=ents.length:=by have:=congrArg List.length hp;rw[plL,List.length_map,List.length_map] at this;exact this
 have hi:∀i (h:i<m.length),(m[i]).2.plain=XD (ents[i]'(by omega)):=λ i h=>by
  have g1:(plL m)[i]?=some (m[i]).2.plain:=by simp[plL,h]
  have g2:(ents.map XD)[i]?=some (XD (ents[i]'(by omega))):=by simp[show i<ents.length by omega]
  rw[hp,g2] at g1
  exact (Option.some.inj g1).symm
 refine⟨λ x hx=>?_,λ i h=>?_⟩
 ·obtain⟨i,h,rfl⟩:=List.getElem_of_mem hx
  rw[<-Vh,hi i h]
  exact (enc_dec (he i (by omega)).1).1
 ·have:=congrArg Rc.lsn (hi i h)
  exact this.trans (he i (by omega)).2
theorem mopen_good (ρ:Hp)(mb ob:Nat)(q1 q2 q3 q4 q5 q6:Value)(k:DK)(D D':DS)(R:RgS)(hop:Spec prog 60 [.pointer (some ⟨ob,0,none⟩)] ρ (Zj ob k D) (λ v ρ' L'=>ρ.le ρ'/\∃rb w k',v=.tuple ⟨[.pointer (some ⟨rb,0,none⟩),.int .i64 0]⟩/\DOk k' D'/\RIn ρ' R w/\L'=ZF rb ob R w++Zj ob k' D'))
  (ma nx:Nat) (hn:noteR R.h.note=some (ma,nx)) (hen:EntsOk R.h.first R.ents) (hma:ma<R.h.first+R.ents.length) :
  Spec prog 25 [.pointer (some ⟨mb,0,none⟩)] ρ (mdQ mb ob [q1,q2,q3,q4,q5,q6]::Zj ob k D) (λ z ρ' L'=>z=.int .i64 0/\ρ.le ρ'/\∃rb2 w2 k2 ra rc m,DOk k2 D'/\RIn ρ' R w2/\MlI ρ' ra R.ents.length rc m/\plL m=R.ents.map XD /\
   L'=mdC mb ob rb2 R.h.first ma (R.h.first+R.ents.length-1) nx (.slice ra R.ents.length rc)::(ZF rb2 ob R w2++Zj ob k2 D')):=by
 refine Zb func25 rfl rfl rfl λ u R'=>?_
 simp only[Zc,kA]
 repeat' (first|(refine Za (.func 60) ?_;refine qC rfl rfl hop ?_;rintro v1 ρ1 L1 hle1 ⟨hl1,rb,w,k1,rfl,hD1,hR1,rfl⟩;try simp only[kB])|(refine Za (.func 61) ?_;refine qR rfl rfl (first_spec _ rb ob R w) ?_;try simp only[kA])|(refine Za (.func 63) ?_;refine qC rfl rfl (note_spec _ rb ob R w hR1) ?_;rintro v2 ρ2 L2 hle2 ⟨hl2,e,rfl,hbe,hel,rfl⟩;try simp only[kA])|(refine Za (.func 66) ?_;refine qC rfl rfl (all_spec _ rb ob R w (hR1.mono hl2)) ?_;rintro v4 ρ4 L4 hle4 ⟨hl4,els,sp4,hown4,hbi,hels,rfl⟩;try simp only[kB];refine ZL (Zq v4 (els.map slv) sp4 107) (λ ρ5 hl5 hfz5=>?_);obtain⟨ea,ec,rfl,hec,hE⟩:=hown4.sIn hfz5)|refine zV ?_|intro _)
 have hen0:els.length=R.ents.length:=by rw[<-hels];simp
 have hfi:=hR1.ok.first
 have hnx:=hR1.ok.next
 have hnr:R.next=R.h.first+R.ents.length:=rfl
 have hlong:=hR1.ok.long
 have hfew:=hR1.ok.fit
 have hsz:=hR1.ok.size
 have hus:=hR1.ok.used
 have hul:=usedL_len R.ents
 have hno:=hR1.ok.note
 have hbl:=hbe.s.len
 rw[<-hel] at hn
 have hEI:ElsI ρ5 ea els.length els:=⟨hE,λ e he=>(hbi e he).mono hl5,λ e he=>hlong _ (by rw[<-hels];exact List.mem_map_of_mem he),by omega⟩
 have hbe5:=((hbe.s.mono hl4).mono hl5)
 have hrd:=read16_note ρ5 R.h.first e.a e.n e.c e.l hbe5 hbe.le ea els.length ec els hEI ⟨hfi,by omega⟩ ma nx hn
 rw[hels,hen0] at hrd
 rw[hen0]
 repeat' (first|(refine Za (.func 67) ?_;refine qC rfl rfl hrd ?_;rintro v6 ρ6 L6 hle6 ⟨hl6,rfl,⟨_,_,ra,rc,m,rfl,hrc,hmA,hmR,hmP⟩|⟨hno2,_⟩⟩;rotate_left;exact absurd (hno2 hen) (by omega);try simp only[kA])|refine zV ?_|intro _)
 rename_i b5
 refine tpA [0,1,2,3,4,5] (.e 6 [7,8] (.e 9 [] .o)) ([[(b5,.cells ⟨mlV R.h.first ma (R.h.first+R.ents.length-1) nx (.slice ra R.ents.length rc)⟩ 38 (0,0))]]) ?_
 repeat' (refine iT ?_;first|refine rA ?_|(refine rE ?_<;>(refine qEf ?_)<;>(try simp only[kA])<;>refine zN ?_))
 repeat' (first|refine zV ?_|intro _)
 have hl56:=Hp.le_trans hl5 hl6
 have hl16:=Hp.le_trans hl2 (Hp.le_trans hl4 hl56)
 exact qE (L':=mdC mb ob rb R.h.first ma (R.h.first+R.ents.length-1) nx (.slice ra R.ents.length rc)::(ZF rb ob R w++Zj ob k1 D')) ⟨rfl,Hp.le_trans hl1 hl16,rb,w,k1,ra,rc,m,hD1,hR1.mono hl16,⟨hmA,hrc,by omega,hmR,(ok_of_plain hmP hen).1⟩,hmP,rfl⟩
theorem mopen_bad (ρ:Hp)(mb ob:Nat)(q1 q2 q3 q4 q5 q6:Value)(k:DK)(D D':DS)(R:RgS)(hop:Spec prog 60 [.pointer (some ⟨ob,0,none⟩)] ρ (Zj ob k D) (λ v ρ' L'=>ρ.le ρ'/\∃rb w k',v=.tuple ⟨[.pointer (some ⟨rb,0,none⟩),.int .i64 0]⟩/\DOk k' D'/\RIn ρ' R w/\L'=ZF rb ob R w++Zj ob k' D'))
  (hbad:∀ma nx,¬LgOk R.h.first R.h.note R.ents ma nx) :
  Spec prog 25 [.pointer (some ⟨mb,0,none⟩)] ρ (mdQ mb ob [q1,q2,q3,q4,q5,q6]::Zj ob k D) (λ z ρ' L'=>z=.int .i64 260/\ρ.le ρ'/\∃k2,DOk k2 D'/\L'=mdQ mb ob [q1,q2,q3,q4,q5,q6]::Zj ob k2 D'):=by
 refine Zb func25 rfl rfl rfl λ u R'=>?_
 simp only[Zc,kA]
 repeat' (first|(refine Za (.func 60) ?_;refine qC rfl rfl hop ?_;rintro v1 ρ1 L1 hle1 ⟨hl1,rb,w,k1,rfl,hD1,hR1,rfl⟩;try simp only[kB])|(refine Za (.func 61) ?_;refine qR rfl rfl (first_spec _ rb ob R w) ?_;try simp only[kA])|(refine Za (.func 63) ?_;refine qC rfl rfl (note_spec _ rb ob R w hR1) ?_;rintro v2 ρ2 L2 hle2 ⟨hl2,e,rfl,hbe,hel,rfl⟩;try simp only[kA])|(refine Za (.func 66) ?_;refine qC rfl rfl (all_spec _ rb ob R w (hR1.mono hl2)) ?_;rintro v4 ρ4 L4 hle4 ⟨hl4,els,sp4,hown4,hbi,hels,rfl⟩;try simp only[kB];refine ZL (Zq v4 (els.map slv) sp4 107) (λ ρ5 hl5 hfz5=>?_);obtain⟨ea,ec,rfl,hec,hE⟩:=hown4.sIn hfz5)|refine zV ?_|intro _)
 have hen0:els.length=R.ents.length:=by rw[<-hels];simp
 have hfi:=hR1.ok.first
 have hnx:=hR1.ok.next
 have hnr:R.next=R.h.first+R.ents.length:=rfl
 have hlong:=hR1.ok.long
 have hfew:=hR1.ok.fit
 have hsz:=hR1.ok.size
 have hus:=hR1.ok.used
 have hul:=usedL_len R.ents
 have hno:=hR1.ok.note
 have hbl:=hbe.s.len
 have hEI:ElsI ρ5 ea els.length els:=⟨hE,λ e he=>(hbi e he).mono hl5,λ e he=>hlong _ (by rw[<-hels];exact List.mem_map_of_mem he),by omega⟩
 have hbe5:=((hbe.s.mono hl4).mono hl5)
 have hl16:=λ {ρ6} (h:ρ5.le ρ6)=>Hp.le_trans hl1 (Hp.le_trans hl2 (Hp.le_trans hl4 (Hp.le_trans hl5 h)))
 cases hn:noteR R.h.note with
 | none=>
  rw[<-hel] at hn
  have hen2:e.n<=1000:=by rw[<-hbl,hel];omega
  have hrd:=read16_bad ρ5 R.h.first e.a e.n e.c e.l hbe5 hbe.le hen2 ea els.length ec ⟨hfi,by omega⟩ hn
  repeat' (first|(refine Za (.func 67) ?_;refine qC rfl rfl hrd ?_;rintro v6 ρ6 L6 hle6 ⟨rfl,rfl,rfl⟩;try simp only[kA])|refine zV ?_|intro _)
  exact qE (L':=mdQ mb ob [q1,q2,q3,q4,q5,q6]::Zj ob k1 D') ⟨rfl,hl16 (Hp.le_refl _),k1,hD1,rfl⟩
 | some p=>
  obtain⟨ma,nx⟩:=p
  have hb:=hbad ma nx
  have hn0:=hn
  rw[<-hel] at hn
  have hrd:=read16_note ρ5 R.h.first e.a e.n e.c e.l hbe5 hbe.le ea els.length ec els hEI ⟨hfi,by omega⟩ ma nx hn
  rw[hels] at hrd
  repeat' (first|(refine Za (.func 67) ?_;refine qC rfl rfl hrd ?_;rintro v6 ρ6 L6 hle6 ⟨hl6,rfl,⟨hq1,hq2,_⟩|⟨_,rfl⟩⟩;exact (hb ⟨hn0,hq1,by omega⟩).elim;try simp only[kA])|refine zV ?_|intro _)
  exact qE (L':=mdQ mb ob [q1,q2,q3,q4,q5,q6]::Zj ob k1 D') ⟨rfl,hl16 hl6,k1,hD1,rfl⟩
structure FilI (ρ:Hp)(R:RgS)(w:RW)(k:DK)(D:DS)(q:Nat):Prop where
 dk:DOk k D
 rg:RIn ρ R w
 good:Good R D
 hd:R.h=Zz 60
 len:R.ents.length<=q
theorem FilI.mono {ρ ρ' R w k D q}(h:FilI ρ R w k D q)(hl:ρ.le ρ'):FilI ρ' R w k D q:=⟨h.dk,h.rg.mono hl,h.good,h.hd,h.len⟩
theorem FilI.up {ρ R w k D q q'}(h:FilI ρ R w k D q)(hl:q<=q'):FilI ρ R w k D q':=⟨h.dk,h.rg,h.good,h.hd,Nat.le_trans h.len hl⟩
theorem lopen_bad (ρ:Hp)(db:Nat)(k:DK)(D D':DS)(R:RgS)(hop:Spec prog 60 [.pointer (some ⟨db,0,none⟩)] ρ (Zj db k D) (λ v ρ' L'=>ρ.le ρ'/\∃rb w k',v=.tuple ⟨[.pointer (some ⟨rb,0,none⟩),.int .i64 0]⟩/\DOk k' D'/\RIn ρ' R w/\L'=ZF rb db R w++Zj db k' D'))
  (hbad:∀ma nx,¬LgOk R.h.first R.h.note R.ents ma nx) (hn:R.ents.length<=1000) :
  Spec prog 24 [.pointer (some ⟨db,0,none⟩)] ρ (Zj db k D) (λ v ρ' L'=>ρ.le ρ'/\∃k',v=.tuple ⟨[.pointer none,.int .i64 260]⟩/\DOk k' D'/\L'=Zj db k' D'):=by
 cases hno:noteR R.h.note with
 | none=>exact lopen_bad1 ρ db k D D' R hop hno hn
 | some p=>
  obtain⟨ma,nx⟩:=p
  refine lopen_bad2 ρ db k D D' R hop ma nx hno (λ he=>?_) hn
  rcases Nat.lt_or_ge ma (R.h.first+R.ents.length) with h|h
  ·exact absurd ⟨hno,he,h⟩ (hbad ma nx)
  ·exact h
theorem openR_none {D D':DS}{e:Int}(h:openR D=(none,D',e)):e≠0:=by
 unfold openR openH at h
 split at h
 ·rename_i h1;cases h;exact h1
 ·split at h
  ·rename_i h1;cases h;exact h1
  ·split at h
   ·cases h;decide
   ·split at h
    ·cases h;decide
    ·split at h
     ·rename_i h1
      simp only[Prod.mk.injEq,true_and] at h
      rw[h] at h1
      exact h1
     ·split at h
      ·cases h;decide
      ·split at h
       ·simp at h
       ·rename_i h1
        simp only[Prod.mk.injEq,true_and] at h
        rw[h] at h1
        exact h1
theorem hop_of (ρ:Hp)(db:Nat)(k:DK)(D:DS)(hD:DOk k D){R:RgS}{D':DS}{e:Int}(h:openR D=(some R,D',e)) :
  Spec prog 60 [.pointer (some ⟨db,0,none⟩)] ρ (Zj db k D) (λ v ρ' L'=>ρ.le ρ'/\∃rb w k',v=.tuple ⟨[.pointer (some ⟨rb,0,none⟩),.int .i64 0]⟩/\DOk k' D'/\RIn ρ' R w/\L'=ZF rb db R w++Zj db k' D'):=by
 refine (open_spec ρ db k D hD).mono ?_
 rintro v ρ' L' _ ⟨hle,k',hk',ha⟩
 unfold openAns at ha
 rw[h] at ha hk'
 obtain⟨rb,w,hv,hin,hL⟩:=ha
 exact⟨hle,rb,w,k',hv,hk',hin,hL⟩
theorem hop_no (ρ:Hp)(db:Nat)(k:DK)(D:DS)(hD:DOk k D){D':DS}{e:Int}(h:openR D=(none,D',e)) :
  Spec prog 60 [.pointer (some ⟨db,0,none⟩)] ρ (Zj db k D) (λ v ρ' L'=>ρ.le ρ'/\∃k',v=.tuple ⟨[.pointer none,.int .i64 e]⟩/\DOk k' D'/\L'=Zj db k' D'):=by
 refine (open_spec ρ db k D hD).mono ?_
 rintro v ρ' L' _ ⟨hle,k',hk',ha⟩
 unfold openAns at ha
 rw[h] at ha hk'
 exact⟨hle,k',ha.1,hk',ha.2⟩
theorem lopen_err (ρ:Hp)(db:Nat)(k:DK)(D:DS)(hD:DOk k D){D':DS}{e:Int}(h:openR D=(none,D',e)) :
  Spec prog 24 [.pointer (some ⟨db,0,none⟩)] ρ (Zj db k D) (λ v ρ' L'=>ρ.le ρ'/\∃k',v=.tuple ⟨[.pointer none,.int .i64 e]⟩/\DOk k' D'/\L'=Zj db k' D'):=by
 have hop:=hop_no ρ db k D hD h
 have he:=openR_none h
 have heb:(e != 0)=true:=by simpa using he
 refine Zb func24 rfl rfl rfl λ u R=>?_
 simp only[Zc,kA]
 repeat' (first|(refine Za (.func 60) ?_;refine qC rfl rfl hop ?_;rintro v1 ρ1 L1 hle1 ⟨hl1,k1,rfl,hD1,rfl⟩;try simp only[kB])|refine zV ?_|intro _)
 exact qE (L':=Zj db k1 D') ⟨hl1,k1,rfl,hD1,rfl⟩
theorem mopen_err (ρ:Hp)(mb ob:Nat)(q1 q2 q3 q4 q5 q6:Value)(k:DK)(D:DS)(hD:DOk k D){D':DS}{e:Int}(h:openR D=(none,D',e)) :
  Spec prog 25 [.pointer (some ⟨mb,0,none⟩)] ρ (mdQ mb ob [q1,q2,q3,q4,q5,q6]::Zj ob k D) (λ z ρ' L'=>z=.int .i64 e/\ρ.le ρ'/\∃k2,DOk k2 D'/\L'=mdQ mb ob [q1,q2,q3,q4,q5,q6]::Zj ob k2 D'):=by
 have hop:=hop_no ρ ob k D hD h
 have he:=openR_none h
 have heb:(e != 0)=true:=by simpa using he
 refine Zb func25 rfl rfl rfl λ u R'=>?_
 simp only[Zc,kA]
 repeat' (first|(refine Za (.func 60) ?_;refine qC rfl rfl hop ?_;rintro v1 ρ1 L1 hle1 ⟨hl1,k1,rfl,hD1,rfl⟩;try simp only[kB])|refine zV ?_|intro _)
 exact qE (L':=mdQ mb ob [q1,q2,q3,q4,q5,q6]::Zj ob k1 D') ⟨rfl,hl1,k1,hD1,rfl⟩
structure OpB (o:Op16):Prop where
 kind:-9223372036854775808<=o.kind/\o.kind<=9223372036854775807
 n:-9223372036854775808<=o.n/\o.n<=9223372036854775807
 res:-9223372036854775808<=o.res/\o.res<=9223372036854775807
 txn:-9223372036854775808<=o.txn/\o.txn<=9223372036854775807
 to:o.to<18446744073709551616
 ma:o.ma<18446744073709551616
def toN (o:Op16)(next:Nat):Nat:=if o.near=true then next-min next ((max o.n 0).toNat % 4+1) else o.to
def fromN (o:Op16)(base:Nat):Nat:=if o.near=true then base+(max o.n 0).toNat % 6 else o.to
theorem toN_lt {o:Op16}(h:OpB o){next:Nat}(hn:next<18446744073709551616):toN o next<18446744073709551616:=by
 unfold toN
 have:=h.to
 split<;>omega
theorem fromN_lt {o:Op16}(h:OpB o){base:Nat}(hn:base<9446744073709551616):fromN o base<18446744073709551616:=by
 unfold fromN
 have:=h.to
 split<;>omega
theorem tmod_max (n:Int)(k:Nat):(max n 0).tmod (k:Int)=(((max n 0).toNat % k:Nat):Int):=by
 obtain⟨m,hm⟩:∃m:Nat,max n 0=(m:Int):=⟨(max n 0).toNat,by omega⟩
 rw[hm,Int.toNat_natCast];exact (Int.ofNat_tmod m k).symm
theorem to16_spec (ρ:Hp)(o:Op16)(h:OpB o)(next:Nat)(hn:next<9223372036854775808) :
  Spec prog 16 [.agg ⟨WD o⟩,.int .u64 next] ρ [] (λ z ρ' L'=>z=.int .u64 (toN o next:Nat)/\ρ'=ρ/\L'=[]):=by
 obtain⟨kind,n,res,txn,to,ma,near,rv,rc,kv⟩:=o
 have htm:(max n 0).tmod 4=(((max n 0).toNat % 4:Nat):Int):=tmod_max n 4
 have hm4:(max n 0).toNat % 4<4:=Nat.mod_lt _ (by omega)
 obtain⟨q,hq⟩:∃q,q=(max n 0).toNat % 4:=⟨_,rfl⟩
 rw[<-hq] at htm hm4
 refine Zb func16 rfl rfl rfl λ u R=>?_
 simp only[Zc,kA,WD]
 cases near
 ·have e:toN ⟨kind,n,res,txn,to,ma,false,rv,rc,kv⟩ next=to:=rfl
  rw[e]
  repeat' (first|refine zV ?_|intro _)
  exact qE (L':=[]) ⟨rfl,rfl,rfl⟩
 ·have e:toN ⟨kind,n,res,txn,to,ma,true,rv,rc,kv⟩ next=next-min next (q+1):=by rw[hq];rfl
  rw[e]
  repeat' (first|refine zV ?_|intro _)
  rw[htm,show ((next:Nat):Int)-min ((next:Nat):Int) ((q:Int)+1)=((next-min next (q+1):Nat):Int) by omega]
  exact qE (L':=[]) ⟨rfl,rfl,rfl⟩
theorem from16x_spec (ρ:Hp)(o:Op16)(h:OpB o)(base:Nat)(hn:base<9223372036854775808) :
  Spec prog 18 [.agg ⟨WD o⟩,.int .u64 base] ρ [] (λ z ρ' L'=>z=.int .u64 (fromN o base:Nat)/\ρ'=ρ/\L'=[]):=by
 obtain⟨kind,n,res,txn,to,ma,near,rv,rc,kv⟩:=o
 have htm:(max n 0).tmod 6=(((max n 0).toNat % 6:Nat):Int):=tmod_max n 6
 have hm4:(max n 0).toNat % 6<6:=Nat.mod_lt _ (by omega)
 obtain⟨q,hq⟩:∃q,q=(max n 0).toNat % 6:=⟨_,rfl⟩
 rw[<-hq] at htm hm4
 refine Zb func18 rfl rfl rfl λ u R=>?_
 simp only[Zc,kA,WD]
 cases near
 ·have e:fromN ⟨kind,n,res,txn,to,ma,false,rv,rc,kv⟩ base=to:=rfl
  rw[e]
  repeat' (first|refine zV ?_|intro _)
  exact qE (L':=[]) ⟨rfl,rfl,rfl⟩
 ·have e:fromN ⟨kind,n,res,txn,to,ma,true,rv,rc,kv⟩ base=base+q:=by rw[hq];rfl
  rw[e]
  repeat' (first|refine zV ?_|intro _)
  rw[htm,show ((base:Nat):Int)+(q:Int)=((base+q:Nat):Int) by omega]
  exact qE (L':=[]) ⟨rfl,rfl,rfl⟩
theorem kind16_spec (ρ:Hp)(o:Op16)(h:OpB o) :
  Spec prog 10 [.agg ⟨WD o⟩] ρ [] (λ z ρ' L'=>(∃k:Nat,k<10/\z=.int .u64 k)/\ρ'=ρ/\L'=[]):=by
 obtain⟨kind,n,res,txn,to,ma,near,rv,rc,kv⟩:=o
 refine Zb func10 rfl rfl rfl λ u R=>?_
 simp only[Zc,kA,WD]
 repeat' (first|refine zV ?_|intro _)
 obtain⟨m,hm⟩:∃m:Nat,IntKind.u64.wrap kind=(m:Int):=⟨(IntKind.u64.wrap kind).toNat,by have:=wrap_nn kind;omega⟩
 rw[hm,show ((m:Nat):Int).tmod 10=((m % 10:Nat):Int) from (Int.ofNat_tmod m 10).symm]
 exact qE (L':=[]) ⟨⟨m % 10,Nat.mod_lt _ (by omega),rfl⟩,rfl,rfl⟩
structure Eqv (S M:LgS):Prop where
 R:M.R=S.R
 base:M.base=S.base
 fl:M.fl=S.fl
 ma:M.ma=S.ma
 nx:M.nx=S.nx
 pl:plL S.recs=plL M.recs
structure Lgw (S:LgS):Prop where
 nb:Nmb S.base S.recs
 b1:1<=S.base
 bf:S.base<=S.fl+1
 fn:S.fl<S.next
 nxt:S.next<=1099511627776
 len:S.recs.length<=1000
 ma:S.ma<=S.fl
theorem Eqv.len {S M:LgS}(h:Eqv S M):S.recs.length=M.recs.length:=by have:=congrArg List.length h.pl;rwa [plL,plL,List.length_map,List.length_map] at this
theorem Eqv.next {S M:LgS}(h:Eqv S M):M.next=S.next:=by unfold LgS.next;rw[h.base,h.len]
theorem Eqv.appE {S M:LgS}(h:Eqv S M)(r:Rc)(res:Int):appE S r res=appE M r res:=by unfold Go.Proofs.E.appE;rw[h.next,usedR_plain h.pl]
theorem Eqv.more {S M:LgS}(h:Eqv S M)(x:RR):Eqv (S.more x) (M.more x):=⟨h.R,h.base,h.fl,h.ma,h.nx,by show plL (S.recs++[x])=plL (M.recs++[x]);unfold plL;rw[List.map_append,List.map_append];exact congrArg (·++_) h.pl⟩
theorem Eqv.nb {S M:LgS}(h:Eqv S M)(hw:Lgw S):Nmb M.base M.recs:=λ i hi=>by
 have e:=plL_at h.pl (k:=i) (by rw[h.len];exact hi) hi
 rw[h.base,<-hw.nb i (by rw[h.len];exact hi)]
 exact (congrArg Rc.lsn e).symm
theorem flushL_plain {to:Nat}:∀{l l':List RR} {R:RgS} {D:DS} {f:Nat},plL l=plL l'->YV to l R D f=YV to l' R D f
 | [],[],_,_,_,_=>rfl
 | [],_::_,_,_,_,h=>by cases h
 | _::_,[],_,_,_,h=>by cases h
 | x::l,y::l',R,D,f,h=>by
  have h1:x.2.plain=y.2.plain:=(List.cons.inj h).1
  have h2:plL l=plL l':=(List.cons.inj h).2
  have hb:Yv x.2=Yv y.2:=by rw[<-recB_plain x.2,h1,recB_plain]
  have hl:x.2.lsn=y.2.lsn:=show x.2.plain.lsn=y.2.plain.lsn from congrArg Rc.lsn h1
  unfold YV
  rw[hb,hl,flushL_plain h2]
theorem flushL_fl {to:Nat}:∀{l:List RR} {R:RgS} {D:DS} {f:Nat},(∀i (h:i<l.length),(l[i]).2.lsn=f+1+i)->f<=(YV to l R D f).2.2.1/\(YV to l R D f).2.2.1<=f+l.length
 | [],_,_,f,_=>⟨aR _,aR _⟩
 | x::l,R,D,f,h=>by
  have h0:=h 0 (by simp)
  simp only[List.getElem_cons_zero] at h0
  unfold YV
  split
  ·exact⟨aR _,by simp⟩
  ·split
   ·obtain⟨g1,g2⟩:=flushL_fl (to:=to) (l:=l) (R:=(R.append (Yv x.2) D).1) (D:=(R.append (Yv x.2) D).2.1) (f:=x.2.lsn) (λ i hi=>by
     have:=h (i+1) (by simp;omega)
     simp only[List.getElem_cons_succ] at this
     omega)
    rw[aC]
    exact⟨by omega,by omega⟩
   ·exact⟨aR _,by simp⟩
theorem Lgw.drop {S:LgS}(h:Lgw S)(fr:Nat):ZS S fr=S.recs.drop (fr-S.base):=Wq _ _ _ h.nb
theorem Eqv.from {S M:LgS}(h:Eqv S M)(hw:Lgw S)(fr:Nat):plL (ZS S fr)=plL (ZS M fr):=by
 rw[hw.drop fr,show ZS M fr=M.recs.drop (fr-M.base) from Wq _ _ _ (h.nb hw),h.base]
 unfold plL
 rw[List.map_drop,List.map_drop]
 exact congrArg _ h.pl
theorem Eqv.flush {S M:LgS}(h:Eqv S M)(hw:Lgw S)(to:Nat)(D:DS):Eqv (S.flush to D).1 (M.flush to D).1/\(M.flush to D).2=(S.flush to D).2/\Lgw (S.flush to D).1:=by
 have e:YV to (ZS S (S.fl+1)) S.R D S.fl=YV to (ZS M (M.fl+1)) M.R D M.fl:=by rw[h.fl,h.R];exact flushL_plain (h.from hw (S.fl+1))
 unfold LgS.flush
 rw[h.next]
 split
 ·exact⟨h,rfl,hw⟩
 ·have hb:=hw.bf
  have hf:=hw.fn
  have hd:=hw.drop (S.fl+1)
  have hnx:S.next=S.base+S.recs.length:=rfl
  obtain⟨g1,g2⟩:=flushL_fl (to:=to) (l:=ZS S (S.fl+1)) (R:=S.R) (D:=D) (f:=S.fl) (λ i hi=>by
   simp only[hd,List.getElem_drop]
   rw[hw.nb _ (by rw[hd,List.length_drop] at hi;omega)];omega)
  have hlen:(ZS S (S.fl+1)).length=S.recs.length-(S.fl+1-S.base):=by rw[hd,List.length_drop]
  rw[<-e]
  generalize YV to (ZS S (S.fl+1)) S.R D S.fl=q at *
  refine⟨⟨rfl,h.base,rfl,h.ma,h.nx,h.pl⟩,rfl,⟨hw.nb,hw.b1, ?_, ?_,hw.nxt,hw.len, ?_⟩⟩
  ·show S.base<=q.2.2.1+1;omega
  ·show q.2.2.1<S.next;omega
  ·show S.ma<=q.2.2.1;have:=hw.ma;omega
theorem Eqv.trunc {S M:LgS}(h:Eqv S M)(hw:Lgw S){fr ma nx:Nat}(D:DS)(h1:S.base<=fr)(h2:fr<=S.fl+1)(h3:ma<=S.fl):Eqv (S.trunc fr ma nx D).1 (M.trunc fr ma nx D).1/\(M.trunc fr ma nx D).2=(S.trunc fr ma nx D).2/\Lgw (S.trunc fr ma nx D).1:=by
 unfold LgS.trunc
 rw[h.R,h.base]
 dsimp only
 have hnx:S.next=S.base+S.recs.length:=rfl
 have hf:=hw.fn
 have hd:=hw.drop fr
 split
 ·refine⟨⟨rfl,rfl,h.fl,rfl,rfl,h.from hw fr⟩,rfl,⟨λ i hi=>?_,show 1<=fr by have:=hw.b1;omega,h2, ?_, ?_, ?_,h3⟩⟩
  ·have hi':i<(ZS S fr).length:=hi
   show ((ZS S fr)[i]).2.lsn=fr+i
   simp only[hd,List.getElem_drop]
   rw[hw.nb _ (by rw[hd,List.length_drop] at hi';omega)];omega
  ·show S.fl<fr+(ZS S fr).length
   rw[hd,List.length_drop];omega
  ·show fr+(ZS S fr).length<=_
   have:=hw.nxt
   rw[hd,List.length_drop];omega
  ·show (ZS S fr).length<=_
   have:=hw.len
   rw[hd,List.length_drop];omega
 ·exact⟨⟨rfl,rfl,h.fl,h.ma,h.nx,h.pl⟩,rfl,⟨hw.nb,hw.b1,hw.bf,hw.fn,hw.nxt,hw.len,hw.ma⟩⟩
theorem Lgw.more {S:LgS}(h:Lgw S)(hok:∀x∈S.recs,Yk x.2=true){x:RR}{res:Int}(ha:appE S x.2 res=0):Lgw (S.more x):=by
 have hnx:S.next=S.base+S.recs.length:=rfl
 have hul:=usedR_len hok
 unfold appE at ha
 split at ha
 ·cases ha
 ·rename_i g0
  split at ha
  ·cases ha
  ·rename_i g1
   split at ha
   ·cases ha
   ·rename_i g2
    have hlen:(S.more x).recs.length=S.recs.length+1:=by show (S.recs++[x]).length=_;simp
    have hn2:(S.more x).next=S.next+1:=by show S.base+(S.more x).recs.length=_;omega
    have hxt:=h.nxt
    have hf:=h.fn
    refine⟨λ i hi=>?_,h.b1,h.bf, ?_, ?_, ?_,h.ma⟩
    ·have hi':i<(S.recs++[x]).length:=hi
     show ((S.recs++[x])[i]).2.lsn=S.base+i
     rw[aL,List.length_singleton] at hi'
     by_cases hlt:i<S.recs.length
     ·rw[List.getElem_append_left hlt];exact h.nb i hlt
     ·rw[List.getElem_append_right (by omega)]
      simp only[show i-S.recs.length=0 by omega,List.getElem_cons_zero]
      omega
    ·show S.fl<_;rw[hn2];omega
    ·rw[hn2];omega
    ·rw[hlen];omega
theorem Lgw.open {R:RgS}{l:List RR}{ma nx:Nat}(hR:R.Ok)(hp:plL l=R.ents.map XD)(he:EntsOk R.h.first R.ents)(hma:ma<R.h.first+R.ents.length)(hlen:R.ents.length<=1000):Lgw ⟨R,R.h.first,R.h.first+R.ents.length-1,ma,nx,l⟩:=by
 have hl:l.length=R.ents.length:=by have:=congrArg List.length hp;rw[plL,List.length_map,List.length_map] at this;exact this
 have hfi:=hR.first
 have hnx:R.h.first+R.ents.length<=1099511627776:=hR.next
 refine⟨(ok_of_plain hp he).2,hfi, ?_, ?_, ?_, ?_, ?_⟩
 ·dsimp only;omega
 ·show R.h.first+R.ents.length-1<R.h.first+l.length;omega
 ·show R.h.first+l.length<=_;omega
 ·dsimp only;omega
 ·dsimp only;omega
theorem wb (n:Int)(h:n<=9223372036854775807):-1<=max n (-1)/\max n (-1)<=9223372036854775807:=by omega
theorem karmW (ρ:Hp)(db:Nat)(k:DK)(D:DS)(hD:DOk k D)(n:Int)(hn:n<=9223372036854775807):Spec prog 21 [.pointer (some ⟨db,0,none⟩),.int .i64 n] ρ (Zj db k D) (λ v ρ' L'=>v=.int .i64 (D.arm n).2/\ρ'=ρ/\DOk k (D.arm n).1/\L'=Zj db k (D.arm n).1):=
 (arm_disk ρ db k.hb k.mb k.es k.ck D n).mono (λ v ρ' L' _ ⟨h1,h2,h3⟩=>⟨h1,h2,⟨by unfold DS.arm;split<;>(first|exact hD.ok|exact⟨hD.ok.secs,(wb n hn).1,(wb n hn).2,hD.ok.f1,hD.ok.f2⟩),hD.map.arm⟩,h3⟩)
theorem kfailW (ρ:Hp)(db:Nat)(k:DK)(D:DS)(hD:DOk k D)(n:Int)(hn:n<=9223372036854775807):Spec prog 22 [.pointer (some ⟨db,0,none⟩),.int .i64 n] ρ (Zj db k D) (λ v ρ' L'=>v=.int .i64 (D.fail n).2/\ρ'=ρ/\DOk k (D.fail n).1/\L'=Zj db k (D.fail n).1):=
 (fail_disk ρ db k.hb k.mb k.es k.ck D n).mono (λ v ρ' L' _ ⟨h1,h2,h3⟩=>⟨h1,h2,⟨by unfold DS.fail;split<;>(first|exact hD.ok|exact⟨hD.ok.secs,hD.ok.a1,hD.ok.a2,(wb n hn).1,(wb n hn).2⟩),hD.map.fail⟩,h3⟩)
theorem kcrashW (ρ:Hp)(db:Nat)(k:DK)(D:DS)(hD:DOk k D)(ka:Option Addr)(kn kp:Nat)(ks:List Bool)(hk:SIn ρ bb ka kn ks)(hn:kn<=40)(hp:kn<=kp) :
  Spec prog 23 [.pointer (some ⟨db,0,none⟩),.slice ka kn kp] ρ (Zj db k D)
   (λ v ρ' L'=>v=.int .i64 0/\ρ.le ρ'/\∃k',DOk k' (D.crash (keepB (ks.take 60)))/\L'=Zj db k' (D.crash (keepB (ks.take 60)))):=
 (crash_in ρ db k.hb k.mb k.es k.ck D hD.ok hD.map ka kn kp kn ks ⟨hp,hk.len,by omega,hk.out⟩ (by omega)).mono (λ v ρ' L' _ ⟨h1,h2,mb',ck',h3⟩=>⟨h1,h2,⟨k.hb,mb',[],ck'⟩,⟨hD.ok.crash,MapOk.empty Xm⟩,h3⟩)
theorem kformatE (ρ:Hp)(db:Nat)(k:DK)(hk:DOk k (DS.new 62)){D':DS}(e:XU 60 (DS.new 62)=(some ⟨Zz 60,[],0,false⟩,D',0)) :
  Spec prog 8 [.pointer (some ⟨db,0,none⟩),.int .i64 60] ρ (Zj db k (DS.new 62)) (λ v ρ' L'=>ρ.le ρ'/\∃rb w k',v=.tuple ⟨[.pointer (some ⟨rb,0,none⟩),.int .i64 0]⟩/\DOk k' D'/\RIn ρ' ⟨Zz 60,[],0,false⟩ w/\L'=ZF rb db ⟨Zz 60,[],0,false⟩ w++Zj db k' D'):=by
 refine (format_spec ρ db k (DS.new 62) hk 60 (by omega)).mono ?_
 rintro v ρ' L' _ ⟨hle,h⟩
 unfold ringAns at h
 rw[e] at h
 obtain⟨k',hk',rb,w,hv,hin,hL⟩:=h
 exact⟨hle,rb,w,k',hv,hk',hin,hL⟩
theorem lformatE (ρ:Hp)(db:Nat)(k:DK)(hk:DOk k (DS.new 62)){D':DS}(e:XU 60 (DS.new 62)=(some ⟨Zz 60,[],0,false⟩,D',0)) :
  Spec prog 7 [.pointer (some ⟨db,0,none⟩),.int .i64 60] ρ (Zj db k (DS.new 62)) (λ v ρ' L'=>ρ.le ρ'/\∃lb rb w k',v=.tuple ⟨[.pointer (some ⟨lb,0,none⟩),.int .i64 0]⟩/\DOk k' D'/\RIn ρ' ⟨Zz 60,[],0,false⟩ w/\L'=ZU lb rb (newLg ⟨Zz 60,[],0,false⟩) (.slice none 0 0)::(ZF rb db ⟨Zz 60,[],0,false⟩ w++Zj db k' D')):=by
 have hf:=kformatE ρ db k hk e
 refine Zb func7 rfl rfl rfl λ u R=>?_
 simp only[Zc,kA]
 repeat' (first|(refine Za (.func 8) ?_;refine qC rfl rfl hf ?_;rintro v1 ρ1 L1 hle1 ⟨hl1,rb,w,k1,rfl,hk1,hr,rfl⟩;try simp only[kB])|refine zV ?_|intro _)
 rename_i lb
 exact qE (L':=ZU lb rb (newLg ⟨Zz 60,[],0,false⟩) (.slice none 0 0)::(ZF rb db ⟨Zz 60,[],0,false⟩ w++Zj db k1 D')) ⟨hl1,lb,rb,w,k1,rfl,hk1,hr,rfl⟩
theorem refnew16_spec (ρ:Hp):Spec prog 9 [] ρ [] (λ v ρ' L'=>v=.agg ⟨[.int .u64 1,.int .u64 0,.int .u64 0,.int .i64 1,.slice none 0 0]⟩/\ρ'=ρ/\L'=[]):=by
 refine Zb func9 rfl rfl rfl λ u R=>?_
 simp only[Zc,kA]
 repeat' (first|refine zV ?_|intro _)
 exact qE (L':=[]) ⟨rfl,rfl,rfl⟩
structure DoS where
 S:LgS
 v:Value
 sp:List Value
 w:RW
 k:DK
 D:DS
 M:LgS
 a:Option Addr
 c:Nat
 nx:Nat
 w2:RW
 k2:DK
structure DoI (ρ:Hp)(X:DoS):Prop where
 lg:LgIn ρ X.S X.v X.sp
 rg:RIn ρ X.S.R X.w
 dk:DOk X.k X.D
 mi:MI ρ X.M X.a X.c X.nx
 rg2:RIn ρ X.M.R X.w2
 dk2:DOk X.k2 X.D
 eq:Eqv X.S X.M
 lw:Lgw X.S
theorem DoI.mono {ρ ρ' X}(h:DoI ρ X)(hl:ρ.le ρ'):DoI ρ' X:=⟨h.lg.mono hl,h.rg.mono hl,h.dk,h.mi.mono hl,h.rg2.mono hl,h.dk2,h.eq,h.lw⟩
theorem says_do (ρ:Hp)(lb rb db mb ob rb2:Nat)(X:DoS)(h:DoI ρ X) :
  Spec prog 26 [.pointer (some ⟨mb,0,none⟩),.pointer (some ⟨lb,0,none⟩)] ρ [mC mb ob rb2 X.M X.nx X.a X.c,ZU lb rb X.S X.v,Xl X.S X.v X.sp,rg1C rb db X.S.R X.w,rg1C rb2 ob X.M.R X.w2]
   (λ z ρ' L'=>z=.bool true/\ρ.le ρ'/\L'=[mC mb ob rb2 X.M X.nx X.a X.c,ZU lb rb X.S X.v,Xl X.S X.v X.sp,rg1C rb db X.S.R X.w,rg1C rb2 ob X.M.R X.w2]):=by
 have hq:=h.eq
 have hw:=h.lw
 have hf:=hw.fn
 have hx:=hw.nxt
 have hm:=hw.ma
 have hbf:=hw.bf
 have hs:=says16_spec ρ lb rb db mb ob rb2 X.S X.v X.sp h.lg X.w X.M.R X.w2 (by rw[hq.R]) X.nx (hq.nx.symm.trans h.mi.nxe) h.mi.nb X.a X.M.recs.length X.c X.M.recs h.mi.ml hq.pl hw.nb hw.b1 (by omega) (by omega) (by omega)
 unfold mC
 rw[hq.base,hq.ma,hq.fl]
 exact hs
end Go.Proofs.E
